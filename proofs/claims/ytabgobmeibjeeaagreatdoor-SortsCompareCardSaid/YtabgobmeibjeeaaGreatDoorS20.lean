/- Proved here: what functions of the program compute, in the abstract machine; no condition. -/
import Derived.Test.YtabgobmeibjeeaaGreatDoorS19
namespace Go.Proofs.YtabgobmeibjeeaaGreatDoor
set_option linter.unusedSimpArgs false
set_option linter.unusedVariables false
set_option maxRecDepth 10000

/-- the results so far -/
def fl (c : Nat → Nat → Int) (t : Nat) : List D := (List.range 9).map fun p => D.int .i64 (if p < t then c (p / 3) (p % 3) else 0)
theorem fl_len (c : Nat → Nat → Int) (t : Nat) : (fl c t).length = 9 := by simp [fl]
theorem fl_put (c : Nat → Nat → Int) (i j : Nat) (hi : i < 3) (hj : j < 3) : overlay (fl c (3 * i + j)) (3 * i + j) [.int .i64 (c i j)] = fl c (3 * i + j + 1) := by
 have e1 : i = 0 ∨ i = 1 ∨ i = 2 := by omega
 have e2 : j = 0 ∨ j = 1 ∨ j = 2 := by omega
 rcases e1 with rfl | rfl | rfl <;> rcases e2 with rfl | rfl | rfl <;> rfl
theorem fl_store {call : CallF} (c : Nat → Nat → Int) (o0 : AObj) (i j : Nat) (hi : i < 3) (hj : j < 3) : exOp call (.store 1) [.ptr 1 0 0 (i * 3 + j), .int .i64 (c i j)] ⟨[o0, ⟨40, 9, [fl c (3 * i + j)], 0, 0, false⟩], 0⟩ = some (.undef, ⟨[o0, ⟨40, 9, [fl c (3 * i + j + 1)], 0, 0, false⟩], 0⟩, true) := by
 have e : i * 3 + j = 3 * i + j := by omega
 rw [e]
 have h : decide (3 * i + j + 1 ≤ (fl c (3 * i + j)).length) = true := decide_eq_true (by rw [fl_len]; omega)
 simp only [exOp, aop, LOp.loud, lop, storeD, rowsOf, if_true, List.getElem?_cons_zero, List.getElem?_cons_succ, val_int, cells_int, List.length_cons, List.length_nil, h, fl_put c i j hi hj, setAt, Nat.zero_min, zn]
 rfl
theorem x3_at (X : Nat → Nat) (i : Nat) (hi : i < 3) : ([D.int .u32 (X 0), .int .u32 (X 1), .int .u32 (X 2)] : List D)[i]? = some (.int .u32 (X i)) := by
 have e1 : i = 0 ∨ i = 1 ∨ i = 2 := by omega
 rcases e1 with rfl | rfl | rfl <;> rfl
theorem fl9 (c : Nat → Nat → Int) : fl c 9 = [.int .i64 (c 0 0), .int .i64 (c 0 1), .int .i64 (c 0 2), .int .i64 (c 1 0), .int .i64 (c 1 1), .int .i64 (c 1 2), .int .i64 (c 2 0), .int .i64 (c 2 1), .int .i64 (c 2 2)] := rfl

theorem livesD {d : Nat} (hd : 30 ≤ d) (S : St) : runF LP NN d 9 [] S = some (.bool true, S, false) := by
 obtain ⟨d, rfl⟩ : ∃ d', d = d' + 30 := ⟨d - 30, by omega⟩
 exact lives_run d S
theorem a03 : (0 : Int) ≤ 0 ∧ (0 : Int) < ((3 : Nat) : Int) := by decide
theorem a13 : (0 : Int) ≤ 1 ∧ (1 : Int) < ((3 : Nat) : Int) := by decide

theorem lawCompare_run {d : Nat} (hd : 32 ≤ d) (S : St) {x : D} {l : List (Nat × Nat × Nat)} (hS : SlD 3 (triRows l) x) (hbd : ∀ t ∈ l, t.1 < 256 ∧ t.2.1 < 256 ∧ t.2.2 < 256) (hll : l.length ≤ 9223372036854775807) (X : Nat → Nat) (hX : ∀ i, X i < 4294967296) : runF LP NN d 4 [x, .agg [.int .u32 (X 0), .int .u32 (X 1), .int .u32 (X 2)]] S = some (.bool true, S, false) := by
 obtain ⟨c, hc⟩ : ∃ c : Nat → Nat → Int, c = fun i j => ordR (keysF l) (digs (X i)) (digs (X j)) := ⟨_, rfl⟩
 refine run_pure (F := F4) rfl (by simp only [LP, fnOf, snapVs, snaps, zs, Bool.false_eq_true, if_false, Option.map_some, List.map_cons, List.map_nil, hS.snapV, hS.freeV] <;> exact rfl) rfl (by simp only [LP, zf, List.all_cons, List.all_nil, Bool.and_true, Bool.true_and, hS.snapV, hS.freeV]; try rfl) (by simp only [F4, zv] <;> exact rfl) (by omega) ?_
 rintro d rfl
 refine cw_seq (cw_region ?_)
 refine ow_op (by simp only [zl, zm, zc] <;> exact rfl) ?_
 refine ow_op (by simp only [zo] <;> exact rfl) ?_
 refine ow_nil ?_
 refine sk_n (by simp only [exports, zn, zg] <;> exact rfl) ?_
 refine cw_seq (cw_region ?_)
 refine ow_op (by simp only [zo] <;> exact rfl) ?_
 refine ow_op (by simp only [zo]; exact kOf_run (by omega) _ hS hbd hll) ?_
 refine ow_op (by simp only [zo] <;> exact rfl) ?_
 refine ow_nil ?_
 refine sk_n (by simp only [exports, zn, zg] <;> exact rfl) ?_
 refine cw_seq (cw_region ?_)
 refine ow_op (by simp only [zl, zm] <;> exact rfl) ?_
 refine ow_nil ?_
 refine sk_n (by simp only [exports, zn, zg] <;> exact rfl) ?_
 refine cw_seq (cw_seq (cw_region ?_))
 refine ow_op (by simp only [zo] <;> exact rfl) ?_
 refine ow_nil ?_
 refine sk_n (by simp only [exports, zn, zg] <;> exact rfl) ?_
 refine cw_block ?_
 refine cw_loop (fun n env S' => ∃ (i : Nat) (u7 u8 u9 u10 u11 u12 u13 : D), i ≤ 3 ∧ n = 3 - i ∧ S' = ⟨[⟨38, 3, [[.int .u32 (X 0), .int .u32 (X 1), .int .u32 (X 2)]], 0, 0, false⟩, ⟨40, 9, [fl c (3 * i)], 0, 0, false⟩], 0⟩ ∧ env = [x, .agg [.int .u32 (X 0), .int .u32 (X 1), .int .u32 (X 2)], .ptr 0 0 0 0, .bool false, .sl 14 (keRows (keysF l)) none, .ptr 1 0 0 0, .int .i64 i, u7, u8, u9, u10, u11, u12, u13]) (3) (by omega) (⟨0, _, _, _, _, _, _, _, by omega, by omega, rfl, rfl⟩) ?_
 rintro n env S' ⟨i, u7, u8, u9, u10, u11, u12, u13, hi, rfl, rfl, rfl⟩
 have h0 : (0 : Int) ≤ (i : Int) := by omega
 refine cw_seq (cw_seq (cw_region ?_))
 refine ow_op (by simp only [zo] <;> exact rfl) ?_
 refine ow_op (by simp only [zo, binD, eq_self, ne_eq, not_false_eq_true, true_and, Int.reduceEq, ite_true, ite_false, not_true_eq_false, Int.reduceToNat, Int.reduceLT, h0] <;> exact rfl) ?_
 refine ow_nil ?_
 refine sk_n (by simp only [exports, zn, zg] <;> exact rfl) ?_
 refine cw_cond (by simp only [opd, zv, h0] <;> exact rfl) (fun hcA => ?_) (fun hcA => ?_)
 ·
  have hlt : i < 3 := by have := of_decide_eq_true hcA; omega
  have hw := wrap_nat i (by omega)
  have hai : (0 : Int) ≤ (i : Int) ∧ (i : Int) < ((3 : Nat) : Int) := by omega
  have hxi := x3_at X i hlt
  refine cw_skip (sk_n rfl (cw_seq (cw_block (cw_seq (cw_region ?_)))))
  refine ow_op (by simp only [zo] <;> exact rfl) ?_
  refine ow_nil ?_
  refine sk_n (by simp only [exports, zn, zg] <;> exact rfl) ?_
  refine cw_block ?_
  refine cw_loop (fun n env S' => ∃ (j : Nat) (v8 v9 v10 v11 v12 v13 : D), j ≤ 3 ∧ n = 3 - j ∧ S' = ⟨[⟨38, 3, [[.int .u32 (X 0), .int .u32 (X 1), .int .u32 (X 2)]], 0, 0, false⟩, ⟨40, 9, [fl c (3 * i + j)], 0, 0, false⟩], 0⟩ ∧ env = [x, .agg [.int .u32 (X 0), .int .u32 (X 1), .int .u32 (X 2)], .ptr 0 0 0 0, .bool false, .sl 14 (keRows (keysF l)) none, .ptr 1 0 0 0, .int .i64 i, .int .i64 j, v8, v9, v10, v11, v12, v13]) (3) (by omega) (⟨0, _, _, _, _, _, _, by omega, by omega, rfl, rfl⟩) ?_
  rintro n env S' ⟨j, v8, v9, v10, v11, v12, v13, hj, rfl, rfl, rfl⟩
  have hj0 : (0 : Int) ≤ (j : Int) := by omega
  refine cw_seq (cw_seq (cw_region ?_))
  refine ow_op (by simp only [zo] <;> exact rfl) ?_
  refine ow_op (by simp only [zo, binD, eq_self, ne_eq, not_false_eq_true, true_and, Int.reduceEq, ite_true, ite_false, not_true_eq_false, Int.reduceToNat, Int.reduceLT, h0, hw, hai, hxi, Int.toNat_natCast, Nat.mul_one, hj0] <;> exact rfl) ?_
  refine ow_nil ?_
  refine sk_n (by simp only [exports, zn, zg] <;> exact rfl) ?_
  refine cw_cond (by simp only [opd, zv, h0, hw, hai, hxi, Int.toNat_natCast, Nat.mul_one, hj0] <;> exact rfl) (fun hcATB => ?_) (fun hcATB => ?_)
  ·
   have hlj : j < 3 := by have := of_decide_eq_true hcATB; omega
   have hwj := wrap_nat j (by omega)
   have haj : (0 : Int) ≤ (j : Int) ∧ (j : Int) < ((3 : Nat) : Int) := by omega
   have hxj := x3_at X j hlj
   have hcij : ordR (keysF l) (digs (X i)) (digs (X j)) = c i j := by rw [hc]
   refine cw_skip (sk_n rfl (cw_seq (cw_block (cw_seq ?_))))
   refine cw_drawn (by simp only [newsVals, List.length_nil, List.length_cons, List.range_succ, List.range_zero, List.nil_append, List.map_nil, List.reverse_nil, List.cons_append, List.map_cons, List.reverse_cons, Nat.zero_add, Nat.add_zero, Nat.reduceAdd] <;> exact rfl) (by simp only [List.map_nil, List.map_cons, newsObj, St.eta, List.append_nil, List.cons_append, List.nil_append, List.length_cons, List.length_nil] <;> exact rfl) ?_
   refine dw_quiet (by simp only [zo] <;> exact rfl) rfl rfl ?_
   refine dw_quiet (by simp only [zo] <;> exact rfl) rfl rfl ?_
   refine dw_quiet (by simp only [zo, aaddrD, zm, h0, hw, hai, hxi, Int.toNat_natCast, Nat.mul_one, hj0, hwj, haj, hxj, bne_self_eq_false] <;> exact rfl) rfl rfl ?_
   refine dw_op (by simp only [zl, zm, loadD_cptr, loadD_ptr, partD, List.take, List.drop, h0, hw, hai, hxi, Int.toNat_natCast, Nat.mul_one, hj0, hwj, haj, hxj, bne_self_eq_false] <;> exact rfl) (by simp only [fpHere, opd, List.map_cons, List.map_nil, List.getD_cons_zero, List.getD_cons_succ, zq, plainV_agg, List.all_cons, List.all_nil, plain1_int, plain1_str, plain1_bool, plain1_nils, Bool.and_true, Bool.and_self, if_true] <;> exact rfl) rfl ?_
   first
    | refine dw_op (by simp only [zo, h0, hw, hai, hxi, Int.toNat_natCast, Nat.mul_one, hj0, hwj, haj, hxj, bne_self_eq_false]; exact rOf_run (by omega) _ (X i) (hX i)) (by simp only [fpHere, opd, List.map_cons, List.map_nil, List.getD_cons_zero, List.getD_cons_succ, zq, plainV_agg, List.all_cons, List.all_nil, plain1_int, plain1_str, plain1_bool, plain1_nils, Bool.and_true, Bool.and_self, if_true] <;> exact rfl) rfl ?_
    | refine dw_op (by simp only [zo, h0, hw, hai, hxi, Int.toNat_natCast, Nat.mul_one, hj0, hwj, haj, hxj, bne_self_eq_false]; exact rOf_run (by omega) _ (X j) (hX j)) (by simp only [fpHere, opd, List.map_cons, List.map_nil, List.getD_cons_zero, List.getD_cons_succ, zq, plainV_agg, List.all_cons, List.all_nil, plain1_int, plain1_str, plain1_bool, plain1_nils, Bool.and_true, Bool.and_self, if_true] <;> exact rfl) rfl ?_
   refine dw_quiet (by simp only [zo] <;> exact rfl) rfl rfl ?_
   refine dw_quiet (by simp only [zo, aaddrD, zm, h0, hw, hai, hxi, Int.toNat_natCast, Nat.mul_one, hj0, hwj, haj, hxj, bne_self_eq_false] <;> exact rfl) rfl rfl ?_
   refine dw_op (by simp only [zl, zm, loadD_cptr, loadD_ptr, partD, List.take, List.drop, h0, hw, hai, hxi, Int.toNat_natCast, Nat.mul_one, hj0, hwj, haj, hxj, bne_self_eq_false] <;> exact rfl) (by simp only [fpHere, opd, List.map_cons, List.map_nil, List.getD_cons_zero, List.getD_cons_succ, zq, plainV_agg, List.all_cons, List.all_nil, plain1_int, plain1_str, plain1_bool, plain1_nils, Bool.and_true, Bool.and_self, if_true] <;> exact rfl) rfl ?_
   first
    | refine dw_op (by simp only [zo, h0, hw, hai, hxi, Int.toNat_natCast, Nat.mul_one, hj0, hwj, haj, hxj, bne_self_eq_false]; exact rOf_run (by omega) _ (X i) (hX i)) (by simp only [fpHere, opd, List.map_cons, List.map_nil, List.getD_cons_zero, List.getD_cons_succ, zq, plainV_agg, List.all_cons, List.all_nil, plain1_int, plain1_str, plain1_bool, plain1_nils, Bool.and_true, Bool.and_self, if_true] <;> exact rfl) rfl ?_
    | refine dw_op (by simp only [zo, h0, hw, hai, hxi, Int.toNat_natCast, Nat.mul_one, hj0, hwj, haj, hxj, bne_self_eq_false]; exact rOf_run (by omega) _ (X j) (hX j)) (by simp only [fpHere, opd, List.map_cons, List.map_nil, List.getD_cons_zero, List.getD_cons_succ, zq, plainV_agg, List.all_cons, List.all_nil, plain1_int, plain1_str, plain1_bool, plain1_nils, Bool.and_true, Bool.and_self, if_true] <;> exact rfl) rfl ?_
   refine dw_op (by simp only [zo, h0, hw, hai, hxi, Int.toNat_natCast, Nat.mul_one, hj0, hwj, haj, hxj, bne_self_eq_false]; exact (CompareR_run (by omega) _ (SlD.of _ _ _) (SlD.of _ _ _) (SlD.of _ _ _) (keysF_len l).1 (by have := (keysF_len l).2; omega) (keysF_gk l) (digs_rec (X i)) (digs_rec (X j))).trans (by rw [hcij] <;> exact rfl)) (by simp only [fpHere, opd, List.map_cons, List.map_nil, List.getD_cons_zero, List.getD_cons_succ, zq, plainV_agg, List.all_cons, List.all_nil, plain1_int, plain1_str, plain1_bool, plain1_nils, Bool.and_true, Bool.and_self, if_true] <;> exact rfl) rfl ?_
   refine dw_quiet (by simp only [zo] <;> exact rfl) rfl rfl ?_
   refine dw_quiet (by simp only [zo, List.getElem?_cons_zero, List.getElem?_cons_succ, h0, hw, hai, hxi, Int.toNat_natCast, Nat.mul_one, hj0, hwj, haj, hxj, bne_self_eq_false] <;> exact rfl) rfl rfl ?_
   refine dw_quiet (by simp only [zo, List.getElem?_cons_zero, List.getElem?_cons_succ, h0, hw, hai, hxi, Int.toNat_natCast, Nat.mul_one, hj0, hwj, haj, hxj, bne_self_eq_false] <;> exact rfl) rfl rfl ?_
   refine dw_quiet (by simp only [zo] <;> exact rfl) rfl rfl ?_
   refine dw_quiet (by simp only [zo] <;> exact rfl) rfl rfl ?_
   refine dw_nil ?_
   refine sk_n (by simp only [exports, zn, zg] <;> exact rfl) ?_
   refine cw_seq (cw_seq ?_)
   refine cw_drawn (by simp only [newsVals, List.length_nil, List.length_cons, List.range_succ, List.range_zero, List.nil_append, List.map_nil, List.reverse_nil, List.cons_append, List.map_cons, List.reverse_cons, Nat.zero_add, Nat.add_zero, Nat.reduceAdd] <;> exact rfl) (by simp only [List.map_nil, List.map_cons, newsObj, St.eta, List.append_nil, List.cons_append, List.nil_append, List.length_cons, List.length_nil] <;> exact rfl) ?_
   refine dw_quiet (by simp only [zo] <;> exact rfl) rfl rfl ?_
   refine dw_quiet (by simp only [zo, binD, eq_self, ne_eq, not_false_eq_true, true_and, Int.reduceEq, ite_true, ite_false, not_true_eq_false, Int.reduceToNat, Int.reduceLT, h0, hw, hai, hxi, Int.toNat_natCast, Nat.mul_one, hj0, hwj, haj, hxj, bne_self_eq_false] <;> exact rfl) rfl rfl ?_
   refine dw_quiet (by simp only [zo] <;> exact rfl) rfl rfl ?_
   refine dw_know 0 (b := false) (by simp only [opd, zv, h0, hw, hai, hxi, Int.toNat_natCast, Nat.mul_one, hj0, hwj, haj, hxj, bne_self_eq_false] <;> rfl) (by simp only [zn] <;> exact rfl) ?_
   refine dw_on (by simp only [opd, zv]) ?_
   refine dw_quiet (by simp only [zo] <;> exact rfl) rfl rfl ?_
   refine dw_on (by simp only [opd, zv]) ?_
   refine dw_quiet (by simp only [zo] <;> exact rfl) rfl rfl ?_
   refine dw_on (by simp only [opd, zv]) ?_
   refine dw_quiet (by simp only [zo] <;> exact rfl) rfl rfl ?_
   refine dw_on (by simp only [opd, zv]) ?_
   refine dw_quiet (by simp only [zo, aaddrD, zm, h0, hw, hai, hxi, Int.toNat_natCast, Nat.mul_one, hj0, hwj, haj, hxj, bne_self_eq_false] <;> exact rfl) rfl rfl ?_
   refine dw_on (by simp only [opd, zv]) ?_
   refine dw_op (by simp only [zl, zm, loadD_cptr, loadD_ptr, partD, List.take, List.drop, h0, hw, hai, hxi, Int.toNat_natCast, Nat.mul_one, hj0, hwj, haj, hxj, bne_self_eq_false] <;> exact rfl) (by simp only [fpHere, opd, List.map_cons, List.map_nil, List.getD_cons_zero, List.getD_cons_succ, zq, plainV_agg, List.all_cons, List.all_nil, plain1_int, plain1_str, plain1_bool, plain1_nils, Bool.and_true, Bool.and_self, if_true] <;> exact rfl) rfl ?_
   refine dw_on (by simp only [opd, zv]) ?_
   first
    | refine dw_op (by simp only [zo, h0, hw, hai, hxi, Int.toNat_natCast, Nat.mul_one, hj0, hwj, haj, hxj, bne_self_eq_false]; exact rOf_run (by omega) _ (X i) (hX i)) (by simp only [fpHere, opd, List.map_cons, List.map_nil, List.getD_cons_zero, List.getD_cons_succ, zq, plainV_agg, List.all_cons, List.all_nil, plain1_int, plain1_str, plain1_bool, plain1_nils, Bool.and_true, Bool.and_self, if_true] <;> exact rfl) rfl ?_
    | refine dw_op (by simp only [zo, h0, hw, hai, hxi, Int.toNat_natCast, Nat.mul_one, hj0, hwj, haj, hxj, bne_self_eq_false]; exact rOf_run (by omega) _ (X j) (hX j)) (by simp only [fpHere, opd, List.map_cons, List.map_nil, List.getD_cons_zero, List.getD_cons_succ, zq, plainV_agg, List.all_cons, List.all_nil, plain1_int, plain1_str, plain1_bool, plain1_nils, Bool.and_true, Bool.and_self, if_true] <;> exact rfl) rfl ?_
   refine dw_on (by simp only [opd, zv]) ?_
   refine dw_quiet (by simp only [zo] <;> exact rfl) rfl rfl ?_
   refine dw_on (by simp only [opd, zv]) ?_
   refine dw_quiet (by simp only [zo, aaddrD, zm, h0, hw, hai, hxi, Int.toNat_natCast, Nat.mul_one, hj0, hwj, haj, hxj, bne_self_eq_false] <;> exact rfl) rfl rfl ?_
   refine dw_on (by simp only [opd, zv]) ?_
   refine dw_op (by simp only [zl, zm, loadD_cptr, loadD_ptr, partD, List.take, List.drop, h0, hw, hai, hxi, Int.toNat_natCast, Nat.mul_one, hj0, hwj, haj, hxj, bne_self_eq_false] <;> exact rfl) (by simp only [fpHere, opd, List.map_cons, List.map_nil, List.getD_cons_zero, List.getD_cons_succ, zq, plainV_agg, List.all_cons, List.all_nil, plain1_int, plain1_str, plain1_bool, plain1_nils, Bool.and_true, Bool.and_self, if_true] <;> exact rfl) rfl ?_
   refine dw_on (by simp only [opd, zv]) ?_
   first
    | refine dw_op (by simp only [zo, h0, hw, hai, hxi, Int.toNat_natCast, Nat.mul_one, hj0, hwj, haj, hxj, bne_self_eq_false]; exact rOf_run (by omega) _ (X i) (hX i)) (by simp only [fpHere, opd, List.map_cons, List.map_nil, List.getD_cons_zero, List.getD_cons_succ, zq, plainV_agg, List.all_cons, List.all_nil, plain1_int, plain1_str, plain1_bool, plain1_nils, Bool.and_true, Bool.and_self, if_true] <;> exact rfl) rfl ?_
    | refine dw_op (by simp only [zo, h0, hw, hai, hxi, Int.toNat_natCast, Nat.mul_one, hj0, hwj, haj, hxj, bne_self_eq_false]; exact rOf_run (by omega) _ (X j) (hX j)) (by simp only [fpHere, opd, List.map_cons, List.map_nil, List.getD_cons_zero, List.getD_cons_succ, zq, plainV_agg, List.all_cons, List.all_nil, plain1_int, plain1_str, plain1_bool, plain1_nils, Bool.and_true, Bool.and_self, if_true] <;> exact rfl) rfl ?_
   refine dw_on (by simp only [opd, zv]) ?_
   refine dw_op (by simp only [zo, h0, hw, hai, hxi, Int.toNat_natCast, Nat.mul_one, hj0, hwj, haj, hxj, bne_self_eq_false]; exact (orderR_run (by omega) _ (SlD.of _ _ _) (SlD.of _ _ _) (SlD.of _ _ _) (by have := (keysF_len l).2; omega) (keysF_gk l) (digs_rec (X i)) (digs_rec (X j))).trans (by rw [hcij] <;> exact rfl)) (by simp only [fpHere, opd, List.map_cons, List.map_nil, List.getD_cons_zero, List.getD_cons_succ, zq, plainV_agg, List.all_cons, List.all_nil, plain1_int, plain1_str, plain1_bool, plain1_nils, Bool.and_true, Bool.and_self, if_true] <;> exact rfl) rfl ?_
   refine dw_on (by simp only [opd, zv]) ?_
   refine dw_quiet (by simp only [zo, binD, eq_self, ne_eq, not_false_eq_true, true_and, Int.reduceEq, ite_true, ite_false, not_true_eq_false, Int.reduceToNat, Int.reduceLT, h0, hw, hai, hxi, Int.toNat_natCast, Nat.mul_one, hj0, hwj, haj, hxj, bne_self_eq_false] <;> exact rfl) rfl rfl ?_
   refine dw_quiet (by simp only [zo, h0, hw, hai, hxi, Int.toNat_natCast, Nat.mul_one, hj0, hwj, haj, hxj, bne_self_eq_false] <;> exact rfl) rfl rfl ?_
   refine dw_nil ?_
   refine sk_n (by simp only [exports, zn, zg] <;> exact rfl) ?_
   skip
   refine cw_false (by simp only [opd, zv, h0, hw, hai, hxi, Int.toNat_natCast, Nat.mul_one, hj0, hwj, haj, hxj, bne_self_eq_false] <;> rfl) ?_
   refine cw_skip (sk_n rfl (cw_region ?_))
   refine ow_op (by simp only [zo] <;> exact rfl) ?_
   refine ow_op (by simp only [zo] <;> exact rfl) ?_
   refine ow_op (by simp only [zo] <;> exact rfl) ?_
   refine ow_op (by simp only [zo, aaddrD, zm, h0, hw, hai, hxi, Int.toNat_natCast, Nat.mul_one, hj0, hwj, haj, hxj, bne_self_eq_false] <;> exact rfl) ?_
   refine ow_op (by simp only [zo, aaddrD, zm, h0, hw, hai, hxi, Int.toNat_natCast, Nat.mul_one, hj0, hwj, haj, hxj, bne_self_eq_false] <;> exact rfl) ?_
   refine ow_op (by simp only [opd, zv]; exact fl_store c _ i j hlt hlj) ?_
   refine ow_nil (bk_n ?_)
   refine sk_n (by simp only [exports, zn, zg] <;> exact rfl) ?_
   refine cw_region ?_
   refine ow_op (by simp only [zo] <;> exact rfl) ?_
   refine ow_op (by simp only [zo, binD, eq_self, ne_eq, not_false_eq_true, true_and, Int.reduceEq, ite_true, ite_false, not_true_eq_false, Int.reduceToNat, Int.reduceLT, h0, hw, hai, hxi, Int.toNat_natCast, Nat.mul_one, hj0, hwj, haj, hxj, bne_self_eq_false] <;> exact rfl) ?_
   refine ow_op (by simp only [zo] <;> exact rfl) ?_
   refine ow_nil ?_
   refine lk_n (by simp only [exports, zn, zg] <;> exact rfl) ?_
   exact ⟨3 - (j + 1), by omega, j + 1, _, _, _, _, _, _, by omega, rfl, rfl, rfl⟩
  ·
   have hjge : 3 ≤ j := by have := of_decide_eq_false hcATB; omega
   refine cw_exit (sk_e (lk_e (bk_e (bk_n (sk_n rfl (cw_region ?_))))))
   refine ow_op (by simp only [zo] <;> exact rfl) ?_
   refine ow_op (by simp only [zo, binD, eq_self, ne_eq, not_false_eq_true, true_and, Int.reduceEq, ite_true, ite_false, not_true_eq_false, Int.reduceToNat, Int.reduceLT, h0, hw, hai, hxi, Int.toNat_natCast, Nat.mul_one, hj0] <;> exact rfl) ?_
   refine ow_op (by simp only [zo] <;> exact rfl) ?_
   refine ow_nil ?_
   refine lk_n (by simp only [exports, zn, zg] <;> exact rfl) ?_
   exact ⟨3 - (i + 1), by omega, i + 1, _, _, _, _, _, _, _, by omega, rfl, by rw [show 3 * (i + 1) = 3 * i + j by omega], rfl⟩
 ·
  obtain rfl : i = 3 := by have := of_decide_eq_false hcA; omega
  have hsw : c 0 1 = 0 - c 1 0 := by rw [hc]; exact lexI_swap _ _ (encs_len _ (by rw [digs_len, digs_len]))
  have hrg : c 1 0 = -1 ∨ c 1 0 = 0 ∨ c 1 0 = 1 := by rw [hc]; exact lexI_range _ _
  have hww : IntKind.i64.wrap (0 - c 1 0) = 0 - c 1 0 := by rcases hrg with h | h | h <;> rw [h] <;> rfl
  have h00 : c 0 0 = 0 := by rw [hc]; exact lexI_self _
  have htr : c 0 1 ≤ 0 → c 1 2 ≤ 0 → c 0 2 ≤ 0 := by rw [hc]; exact lexI_trans _ _ _ (encs_len _ (by rw [digs_len, digs_len])) (encs_len _ (by rw [digs_len, digs_len]))
  refine cw_exit (sk_e (lk_e (bk_e (sk_n rfl (cw_seq (cw_seq (cw_region ?_)))))))
  refine ow_op (by simp only [zo, aaddrD, zm, h0, fl9, a03, a13, Int.toNat_zero, Int.toNat_one, Nat.zero_mul, Nat.one_mul, Nat.reduceMul, Nat.reduceAdd, List.getElem?_cons_succ, List.getElem?_cons_zero] <;> exact rfl) ?_
  refine ow_op (by simp only [zo, aaddrD, zm, h0, fl9, a03, a13, Int.toNat_zero, Int.toNat_one, Nat.zero_mul, Nat.one_mul, Nat.reduceMul, Nat.reduceAdd, List.getElem?_cons_succ, List.getElem?_cons_zero] <;> exact rfl) ?_
  refine ow_op (by simp only [zl, zm, loadD_cptr, loadD_ptr, partD, List.take, List.drop, h0, fl9, a03, a13, Int.toNat_zero, Int.toNat_one, Nat.zero_mul, Nat.one_mul, Nat.reduceMul, Nat.reduceAdd, List.getElem?_cons_succ, List.getElem?_cons_zero] <;> exact rfl) ?_
  refine ow_op (by simp only [zo, aaddrD, zm, h0, fl9, a03, a13, Int.toNat_zero, Int.toNat_one, Nat.zero_mul, Nat.one_mul, Nat.reduceMul, Nat.reduceAdd, List.getElem?_cons_succ, List.getElem?_cons_zero] <;> exact rfl) ?_
  refine ow_op (by simp only [zo, aaddrD, zm, h0, fl9, a03, a13, Int.toNat_zero, Int.toNat_one, Nat.zero_mul, Nat.one_mul, Nat.reduceMul, Nat.reduceAdd, List.getElem?_cons_succ, List.getElem?_cons_zero] <;> exact rfl) ?_
  refine ow_op (by simp only [zl, zm, loadD_cptr, loadD_ptr, partD, List.take, List.drop, h0, fl9, a03, a13, Int.toNat_zero, Int.toNat_one, Nat.zero_mul, Nat.one_mul, Nat.reduceMul, Nat.reduceAdd, List.getElem?_cons_succ, List.getElem?_cons_zero] <;> exact rfl) ?_
  refine ow_op (by simp only [zo, unD, h0, fl9, a03, a13, Int.toNat_zero, Int.toNat_one, Nat.zero_mul, Nat.one_mul, Nat.reduceMul, Nat.reduceAdd, List.getElem?_cons_succ, List.getElem?_cons_zero] <;> exact rfl) ?_
  refine ow_op (by simp only [zo, binD, eq_self, ne_eq, not_false_eq_true, true_and, Int.reduceEq, ite_true, ite_false, not_true_eq_false, Int.reduceToNat, Int.reduceLT, h0, fl9, a03, a13, Int.toNat_zero, Int.toNat_one, Nat.zero_mul, Nat.one_mul, Nat.reduceMul, Nat.reduceAdd, List.getElem?_cons_succ, List.getElem?_cons_zero] <;> exact rfl) ?_
  refine ow_op (by simp only [zo] <;> exact rfl) ?_
  refine ow_split 0 (by simp only [opd, zv] <;> exact rfl) (by simp only [zn] <;> exact rfl) (by simp only [zn] <;> exact rfl) (fun hgAF => ?_) (fun hgAF => ?_)
  ·
   refine ow_off (b' := true) (by simp only [opd, zv]) rfl ?_
   refine ow_off (b' := true) (by simp only [opd, zv]) rfl ?_
   refine ow_off (b' := true) (by simp only [opd, zv]) rfl ?_
   refine ow_off (b' := true) (by simp only [opd, zv]) rfl ?_
   refine ow_op (by simp only [zo, h0, fl9, a03, a13, Int.toNat_zero, Int.toNat_one, Nat.zero_mul, Nat.one_mul, Nat.reduceMul, Nat.reduceAdd, List.getElem?_cons_succ, List.getElem?_cons_zero] <;> exact rfl) ?_
   refine ow_op (by simp only [zo] <;> exact rfl) ?_
   refine ow_off (b' := true) (by simp only [opd, zv]) rfl ?_
   refine ow_off (b' := true) (by simp only [opd, zv]) rfl ?_
   refine ow_off (b' := true) (by simp only [opd, zv]) rfl ?_
   refine ow_off (b' := true) (by simp only [opd, zv]) rfl ?_
   refine ow_off (b' := true) (by simp only [opd, zv]) rfl ?_
   refine ow_gone (by simp only [opd, zv]) ?_
   refine ow_gone (by simp only [opd, zv]) ?_
   refine ow_gone (by simp only [opd, zv]) ?_
   refine ow_gone (by simp only [opd, zv]) ?_
   refine ow_off (b' := true) (by simp only [opd, zv]) rfl ?_
   refine ow_off (b' := true) (by simp only [opd, zv]) rfl ?_
   refine ow_gone (by simp only [opd, zv]) ?_
   refine ow_gone (by simp only [opd, zv]) ?_
   refine ow_gone (by simp only [opd, zv]) ?_
   refine ow_gone (by simp only [opd, zv]) ?_
   refine ow_off (b' := true) (by simp only [opd, zv]) rfl ?_
   refine ow_op (by simp only [zo, h0, fl9, a03, a13, Int.toNat_zero, Int.toNat_one, Nat.zero_mul, Nat.one_mul, Nat.reduceMul, Nat.reduceAdd, List.getElem?_cons_succ, List.getElem?_cons_zero] <;> exact rfl) ?_
   refine ow_nil ?_
   refine sk_n (by simp only [exports, zn, zg] <;> exact rfl) ?_
   refine cw_true (by simp only [opd, zv, h0, fl9, a03, a13, Int.toNat_zero, Int.toNat_one, Nat.zero_mul, Nat.one_mul, Nat.reduceMul, Nat.reduceAdd, List.getElem?_cons_succ, List.getElem?_cons_zero]) ?_
   refine cw_seq (cw_region ?_)
   refine ow_op (by simp only [zo] <;> exact rfl) ?_
   refine ow_nil ?_
   refine sk_n (by simp only [exports, zn, zg] <;> exact rfl) ?_
   refine cw_ret (sk_r ?_)
   refine ⟨_, by simp only [F4, resultD, resDs, resD, List.getD_cons_zero, List.getD_cons_succ, loadD_cptr, loadD_ptr, rowsOf, partD, List.getElem?_cons_zero, List.getElem?_cons_succ, if_true, if_false, Bool.false_eq_true, List.take, List.drop, zm] <;> exact rfl, ?_⟩
   exfalso; rw [hww, hsw, bne_self_eq_false] at hgAF; simp at hgAF
  ·
   refine ow_on (by simp only [opd, zv]) ?_
   refine ow_op (by simp only [zo, aaddrD, zm, h0, fl9, a03, a13, Int.toNat_zero, Int.toNat_one, Nat.zero_mul, Nat.one_mul, Nat.reduceMul, Nat.reduceAdd, List.getElem?_cons_succ, List.getElem?_cons_zero] <;> exact rfl) ?_
   refine ow_on (by simp only [opd, zv]) ?_
   refine ow_op (by simp only [zo, aaddrD, zm, h0, fl9, a03, a13, Int.toNat_zero, Int.toNat_one, Nat.zero_mul, Nat.one_mul, Nat.reduceMul, Nat.reduceAdd, List.getElem?_cons_succ, List.getElem?_cons_zero] <;> exact rfl) ?_
   refine ow_on (by simp only [opd, zv]) ?_
   refine ow_op (by simp only [zl, zm, loadD_cptr, loadD_ptr, partD, List.take, List.drop, h0, fl9, a03, a13, Int.toNat_zero, Int.toNat_one, Nat.zero_mul, Nat.one_mul, Nat.reduceMul, Nat.reduceAdd, List.getElem?_cons_succ, List.getElem?_cons_zero] <;> exact rfl) ?_
   refine ow_on (by simp only [opd, zv]) ?_
   refine ow_op (by simp only [zo, binD, eq_self, ne_eq, not_false_eq_true, true_and, Int.reduceEq, ite_true, ite_false, not_true_eq_false, Int.reduceToNat, Int.reduceLT, h0, fl9, a03, a13, Int.toNat_zero, Int.toNat_one, Nat.zero_mul, Nat.one_mul, Nat.reduceMul, Nat.reduceAdd, List.getElem?_cons_succ, List.getElem?_cons_zero] <;> exact rfl) ?_
   refine ow_op (by simp only [zo, h0, fl9, a03, a13, Int.toNat_zero, Int.toNat_one, Nat.zero_mul, Nat.one_mul, Nat.reduceMul, Nat.reduceAdd, List.getElem?_cons_succ, List.getElem?_cons_zero] <;> exact rfl) ?_
   refine ow_op (by simp only [zo] <;> exact rfl) ?_
   refine ow_split 0 (by simp only [opd, zv] <;> exact rfl) (by simp only [zn] <;> exact rfl) (by simp only [zn] <;> exact rfl) (fun hgAFF => ?_) (fun hgAFF => ?_)
   ·
    refine ow_off (b' := true) (by simp only [opd, zv]) rfl ?_
    refine ow_off (b' := true) (by simp only [opd, zv]) rfl ?_
    refine ow_off (b' := true) (by simp only [opd, zv]) rfl ?_
    refine ow_off (b' := true) (by simp only [opd, zv]) rfl ?_
    refine ow_off (b' := true) (by simp only [opd, zv]) rfl ?_
    refine ow_gone (by simp only [opd, zv]) ?_
    refine ow_gone (by simp only [opd, zv]) ?_
    refine ow_gone (by simp only [opd, zv]) ?_
    refine ow_gone (by simp only [opd, zv]) ?_
    refine ow_off (b' := true) (by simp only [opd, zv]) rfl ?_
    refine ow_off (b' := true) (by simp only [opd, zv]) rfl ?_
    refine ow_gone (by simp only [opd, zv]) ?_
    refine ow_gone (by simp only [opd, zv]) ?_
    refine ow_gone (by simp only [opd, zv]) ?_
    refine ow_gone (by simp only [opd, zv]) ?_
    refine ow_off (b' := true) (by simp only [opd, zv]) rfl ?_
    refine ow_op (by simp only [zo, h0, fl9, a03, a13, Int.toNat_zero, Int.toNat_one, Nat.zero_mul, Nat.one_mul, Nat.reduceMul, Nat.reduceAdd, List.getElem?_cons_succ, List.getElem?_cons_zero] <;> exact rfl) ?_
    refine ow_nil ?_
    refine sk_n (by simp only [exports, zn, zg] <;> exact rfl) ?_
    refine cw_true (by simp only [opd, zv, h0, fl9, a03, a13, Int.toNat_zero, Int.toNat_one, Nat.zero_mul, Nat.one_mul, Nat.reduceMul, Nat.reduceAdd, List.getElem?_cons_succ, List.getElem?_cons_zero]) ?_
    refine cw_seq (cw_region ?_)
    refine ow_op (by simp only [zo] <;> exact rfl) ?_
    refine ow_nil ?_
    refine sk_n (by simp only [exports, zn, zg] <;> exact rfl) ?_
    refine cw_ret (sk_r ?_)
    refine ⟨_, by simp only [F4, resultD, resDs, resD, List.getD_cons_zero, List.getD_cons_succ, loadD_cptr, loadD_ptr, rowsOf, partD, List.getElem?_cons_zero, List.getElem?_cons_succ, if_true, if_false, Bool.false_eq_true, List.take, List.drop, zm] <;> exact rfl, ?_⟩
    exfalso; rw [h00] at hgAFF; simp at hgAFF
   ·
    refine ow_on (by simp only [opd, zv]) ?_
    refine ow_op (by simp only [zo, aaddrD, zm, h0, fl9, a03, a13, Int.toNat_zero, Int.toNat_one, Nat.zero_mul, Nat.one_mul, Nat.reduceMul, Nat.reduceAdd, List.getElem?_cons_succ, List.getElem?_cons_zero] <;> exact rfl) ?_
    refine ow_on (by simp only [opd, zv]) ?_
    refine ow_op (by simp only [zo, aaddrD, zm, h0, fl9, a03, a13, Int.toNat_zero, Int.toNat_one, Nat.zero_mul, Nat.one_mul, Nat.reduceMul, Nat.reduceAdd, List.getElem?_cons_succ, List.getElem?_cons_zero] <;> exact rfl) ?_
    refine ow_on (by simp only [opd, zv]) ?_
    refine ow_op (by simp only [zl, zm, loadD_cptr, loadD_ptr, partD, List.take, List.drop, h0, fl9, a03, a13, Int.toNat_zero, Int.toNat_one, Nat.zero_mul, Nat.one_mul, Nat.reduceMul, Nat.reduceAdd, List.getElem?_cons_succ, List.getElem?_cons_zero] <;> exact rfl) ?_
    refine ow_on (by simp only [opd, zv]) ?_
    refine ow_op (by simp only [zo, binD, eq_self, ne_eq, not_false_eq_true, true_and, Int.reduceEq, ite_true, ite_false, not_true_eq_false, Int.reduceToNat, Int.reduceLT, h0, fl9, a03, a13, Int.toNat_zero, Int.toNat_one, Nat.zero_mul, Nat.one_mul, Nat.reduceMul, Nat.reduceAdd, List.getElem?_cons_succ, List.getElem?_cons_zero] <;> exact rfl) ?_
    refine ow_on (by simp only [opd, zv]) ?_
    refine ow_op (by simp only [zo] <;> exact rfl) ?_
    refine ow_split 0 (by simp only [opd, zv] <;> exact rfl) (by simp only [zn] <;> exact rfl) (by simp only [zn] <;> exact rfl) (fun hgAFFF => ?_) (fun hgAFFF => ?_)
    ·
     refine ow_on (by simp only [opd, zv]) ?_
     refine ow_op (by simp only [zo, aaddrD, zm, h0, fl9, a03, a13, Int.toNat_zero, Int.toNat_one, Nat.zero_mul, Nat.one_mul, Nat.reduceMul, Nat.reduceAdd, List.getElem?_cons_succ, List.getElem?_cons_zero] <;> exact rfl) ?_
     refine ow_on (by simp only [opd, zv]) ?_
     refine ow_op (by simp only [zo, aaddrD, zm, h0, fl9, a03, a13, Int.toNat_zero, Int.toNat_one, Nat.zero_mul, Nat.one_mul, Nat.reduceMul, Nat.reduceAdd, List.getElem?_cons_succ, List.getElem?_cons_zero] <;> exact rfl) ?_
     refine ow_on (by simp only [opd, zv]) ?_
     refine ow_op (by simp only [zl, zm, loadD_cptr, loadD_ptr, partD, List.take, List.drop, h0, fl9, a03, a13, Int.toNat_zero, Int.toNat_one, Nat.zero_mul, Nat.one_mul, Nat.reduceMul, Nat.reduceAdd, List.getElem?_cons_succ, List.getElem?_cons_zero] <;> exact rfl) ?_
     refine ow_on (by simp only [opd, zv]) ?_
     refine ow_op (by simp only [zo, binD, eq_self, ne_eq, not_false_eq_true, true_and, Int.reduceEq, ite_true, ite_false, not_true_eq_false, Int.reduceToNat, Int.reduceLT, h0, fl9, a03, a13, Int.toNat_zero, Int.toNat_one, Nat.zero_mul, Nat.one_mul, Nat.reduceMul, Nat.reduceAdd, List.getElem?_cons_succ, List.getElem?_cons_zero] <;> exact rfl) ?_
     refine ow_on (by simp only [opd, zv]) ?_
     refine ow_op (by simp only [zo, h0, fl9, a03, a13, Int.toNat_zero, Int.toNat_one, Nat.zero_mul, Nat.one_mul, Nat.reduceMul, Nat.reduceAdd, List.getElem?_cons_succ, List.getElem?_cons_zero] <;> exact rfl) ?_
     refine ow_on (by simp only [opd, zv]) ?_
     refine ow_op (by simp only [zo] <;> exact rfl) ?_
     refine ow_split 0 (by simp only [opd, zv] <;> exact rfl) (by simp only [zn] <;> exact rfl) (by simp only [zn] <;> exact rfl) (fun hgAFFFT => ?_) (fun hgAFFFT => ?_)
     ·
      refine ow_on (by simp only [opd, zv]) ?_
      refine ow_op (by simp only [zo, aaddrD, zm, h0, fl9, a03, a13, Int.toNat_zero, Int.toNat_one, Nat.zero_mul, Nat.one_mul, Nat.reduceMul, Nat.reduceAdd, List.getElem?_cons_succ, List.getElem?_cons_zero] <;> exact rfl) ?_
      refine ow_on (by simp only [opd, zv]) ?_
      refine ow_op (by simp only [zo, aaddrD, zm, h0, fl9, a03, a13, Int.toNat_zero, Int.toNat_one, Nat.zero_mul, Nat.one_mul, Nat.reduceMul, Nat.reduceAdd, List.getElem?_cons_succ, List.getElem?_cons_zero] <;> exact rfl) ?_
      refine ow_on (by simp only [opd, zv]) ?_
      refine ow_op (by simp only [zl, zm, loadD_cptr, loadD_ptr, partD, List.take, List.drop, h0, fl9, a03, a13, Int.toNat_zero, Int.toNat_one, Nat.zero_mul, Nat.one_mul, Nat.reduceMul, Nat.reduceAdd, List.getElem?_cons_succ, List.getElem?_cons_zero] <;> exact rfl) ?_
      refine ow_on (by simp only [opd, zv]) ?_
      refine ow_op (by simp only [zo, binD, eq_self, ne_eq, not_false_eq_true, true_and, Int.reduceEq, ite_true, ite_false, not_true_eq_false, Int.reduceToNat, Int.reduceLT, h0, fl9, a03, a13, Int.toNat_zero, Int.toNat_one, Nat.zero_mul, Nat.one_mul, Nat.reduceMul, Nat.reduceAdd, List.getElem?_cons_succ, List.getElem?_cons_zero] <;> exact rfl) ?_
      refine ow_on (by simp only [opd, zv]) ?_
      refine ow_op (by simp only [zo, h0, fl9, a03, a13, Int.toNat_zero, Int.toNat_one, Nat.zero_mul, Nat.one_mul, Nat.reduceMul, Nat.reduceAdd, List.getElem?_cons_succ, List.getElem?_cons_zero] <;> exact rfl) ?_
      refine ow_op (by simp only [zo, h0, fl9, a03, a13, Int.toNat_zero, Int.toNat_one, Nat.zero_mul, Nat.one_mul, Nat.reduceMul, Nat.reduceAdd, List.getElem?_cons_succ, List.getElem?_cons_zero] <;> exact rfl) ?_
      refine ow_nil ?_
      refine sk_n (by simp only [exports, zn, zg] <;> exact rfl) ?_
      refine cw_cond (by simp only [opd, zv, h0, fl9, a03, a13, Int.toNat_zero, Int.toNat_one, Nat.zero_mul, Nat.one_mul, Nat.reduceMul, Nat.reduceAdd, List.getElem?_cons_succ, List.getElem?_cons_zero] <;> exact rfl) (fun hcAFFFTT => ?_) (fun hcAFFFTT => ?_)
      ·
       refine cw_seq (cw_region ?_)
       refine ow_op (by simp only [zo] <;> exact rfl) ?_
       refine ow_nil ?_
       refine sk_n (by simp only [exports, zn, zg] <;> exact rfl) ?_
       refine cw_ret (sk_r ?_)
       refine ⟨_, by simp only [F4, resultD, resDs, resD, List.getD_cons_zero, List.getD_cons_succ, loadD_cptr, loadD_ptr, rowsOf, partD, List.getElem?_cons_zero, List.getElem?_cons_succ, if_true, if_false, Bool.false_eq_true, List.take, List.drop, zm] <;> exact rfl, ?_⟩
       exfalso; have h1 := of_decide_eq_true hgAFFF; have h2 := of_decide_eq_true hgAFFFT; have h3 := of_decide_eq_true hcAFFFTT; have := htr h1 h2; omega
      ·
       refine cw_skip (sk_n rfl (cw_seq (cw_region ?_)))
       refine ow_op (by simp only [zo, h0, fl9, a03, a13, Int.toNat_zero, Int.toNat_one, Nat.zero_mul, Nat.one_mul, Nat.reduceMul, Nat.reduceAdd, List.getElem?_cons_succ, List.getElem?_cons_zero]; exact livesD (by omega) _) ?_
       refine ow_op (by simp only [zo] <;> exact rfl) ?_
       refine ow_nil ?_
       refine sk_n (by simp only [exports, zn, zg] <;> exact rfl) ?_
       refine cw_ret ?_
       refine ⟨_, by simp only [F4, resultD, resDs, resD, List.getD_cons_zero, List.getD_cons_succ, loadD_cptr, loadD_ptr, rowsOf, partD, List.getElem?_cons_zero, List.getElem?_cons_succ, if_true, if_false, Bool.false_eq_true, List.take, List.drop, zm] <;> exact rfl, ?_⟩
       simp only [leaveP, leave, snapVs, snaps, zs, zf, Option.map_some, List.all_cons, List.all_nil, Bool.and_self, Bool.and_true, if_true, if_false, Bool.false_eq_true, List.length_nil, Nat.le_refl, Nat.zero_le]
     ·
      refine ow_off (b' := false) (by simp only [opd, zv]) rfl ?_
      refine ow_off (b' := false) (by simp only [opd, zv]) rfl ?_
      refine ow_off (b' := false) (by simp only [opd, zv]) rfl ?_
      refine ow_off (b' := false) (by simp only [opd, zv]) rfl ?_
      refine ow_on (by simp only [opd, zv]) ?_
      refine ow_op (by simp only [zo, h0, fl9, a03, a13, Int.toNat_zero, Int.toNat_one, Nat.zero_mul, Nat.one_mul, Nat.reduceMul, Nat.reduceAdd, List.getElem?_cons_succ, List.getElem?_cons_zero] <;> exact rfl) ?_
      refine ow_op (by simp only [zo, h0, fl9, a03, a13, Int.toNat_zero, Int.toNat_one, Nat.zero_mul, Nat.one_mul, Nat.reduceMul, Nat.reduceAdd, List.getElem?_cons_succ, List.getElem?_cons_zero] <;> exact rfl) ?_
      refine ow_nil ?_
      refine sk_n (by simp only [exports, zn, zg] <;> exact rfl) ?_
      refine cw_false (by simp only [opd, zv, h0, fl9, a03, a13, Int.toNat_zero, Int.toNat_one, Nat.zero_mul, Nat.one_mul, Nat.reduceMul, Nat.reduceAdd, List.getElem?_cons_succ, List.getElem?_cons_zero]) ?_
      refine cw_skip (sk_n rfl (cw_seq (cw_region ?_)))
      refine ow_op (by simp only [zo, h0, fl9, a03, a13, Int.toNat_zero, Int.toNat_one, Nat.zero_mul, Nat.one_mul, Nat.reduceMul, Nat.reduceAdd, List.getElem?_cons_succ, List.getElem?_cons_zero]; exact livesD (by omega) _) ?_
      refine ow_op (by simp only [zo] <;> exact rfl) ?_
      refine ow_nil ?_
      refine sk_n (by simp only [exports, zn, zg] <;> exact rfl) ?_
      refine cw_ret ?_
      refine ⟨_, by simp only [F4, resultD, resDs, resD, List.getD_cons_zero, List.getD_cons_succ, loadD_cptr, loadD_ptr, rowsOf, partD, List.getElem?_cons_zero, List.getElem?_cons_succ, if_true, if_false, Bool.false_eq_true, List.take, List.drop, zm] <;> exact rfl, ?_⟩
      simp only [leaveP, leave, snapVs, snaps, zs, zf, Option.map_some, List.all_cons, List.all_nil, Bool.and_self, Bool.and_true, if_true, if_false, Bool.false_eq_true, List.length_nil, Nat.le_refl, Nat.zero_le]
    ·
     refine ow_off (b' := false) (by simp only [opd, zv]) rfl ?_
     refine ow_off (b' := false) (by simp only [opd, zv]) rfl ?_
     refine ow_off (b' := false) (by simp only [opd, zv]) rfl ?_
     refine ow_off (b' := false) (by simp only [opd, zv]) rfl ?_
     refine ow_on (by simp only [opd, zv]) ?_
     refine ow_op (by simp only [zo, h0, fl9, a03, a13, Int.toNat_zero, Int.toNat_one, Nat.zero_mul, Nat.one_mul, Nat.reduceMul, Nat.reduceAdd, List.getElem?_cons_succ, List.getElem?_cons_zero] <;> exact rfl) ?_
     refine ow_on (by simp only [opd, zv]) ?_
     refine ow_op (by simp only [zo] <;> exact rfl) ?_
     refine ow_off (b' := false) (by simp only [opd, zv]) rfl ?_
     refine ow_off (b' := false) (by simp only [opd, zv]) rfl ?_
     refine ow_off (b' := false) (by simp only [opd, zv]) rfl ?_
     refine ow_off (b' := false) (by simp only [opd, zv]) rfl ?_
     refine ow_on (by simp only [opd, zv]) ?_
     refine ow_op (by simp only [zo, h0, fl9, a03, a13, Int.toNat_zero, Int.toNat_one, Nat.zero_mul, Nat.one_mul, Nat.reduceMul, Nat.reduceAdd, List.getElem?_cons_succ, List.getElem?_cons_zero] <;> exact rfl) ?_
     refine ow_op (by simp only [zo, h0, fl9, a03, a13, Int.toNat_zero, Int.toNat_one, Nat.zero_mul, Nat.one_mul, Nat.reduceMul, Nat.reduceAdd, List.getElem?_cons_succ, List.getElem?_cons_zero] <;> exact rfl) ?_
     refine ow_nil ?_
     refine sk_n (by simp only [exports, zn, zg] <;> exact rfl) ?_
     refine cw_false (by simp only [opd, zv, h0, fl9, a03, a13, Int.toNat_zero, Int.toNat_one, Nat.zero_mul, Nat.one_mul, Nat.reduceMul, Nat.reduceAdd, List.getElem?_cons_succ, List.getElem?_cons_zero]) ?_
     refine cw_skip (sk_n rfl (cw_seq (cw_region ?_)))
     refine ow_op (by simp only [zo, h0, fl9, a03, a13, Int.toNat_zero, Int.toNat_one, Nat.zero_mul, Nat.one_mul, Nat.reduceMul, Nat.reduceAdd, List.getElem?_cons_succ, List.getElem?_cons_zero]; exact livesD (by omega) _) ?_
     refine ow_op (by simp only [zo] <;> exact rfl) ?_
     refine ow_nil ?_
     refine sk_n (by simp only [exports, zn, zg] <;> exact rfl) ?_
     refine cw_ret ?_
     refine ⟨_, by simp only [F4, resultD, resDs, resD, List.getD_cons_zero, List.getD_cons_succ, loadD_cptr, loadD_ptr, rowsOf, partD, List.getElem?_cons_zero, List.getElem?_cons_succ, if_true, if_false, Bool.false_eq_true, List.take, List.drop, zm] <;> exact rfl, ?_⟩
     simp only [leaveP, leave, snapVs, snaps, zs, zf, Option.map_some, List.all_cons, List.all_nil, Bool.and_self, Bool.and_true, if_true, if_false, Bool.false_eq_true, List.length_nil, Nat.le_refl, Nat.zero_le]

end Go.Proofs.YtabgobmeibjeeaaGreatDoor

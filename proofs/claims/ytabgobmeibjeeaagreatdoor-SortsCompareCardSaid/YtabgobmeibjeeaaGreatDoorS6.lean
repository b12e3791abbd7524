/- Proved here: what functions of the program compute, in the abstract machine; no condition. -/
import Derived.Test.YtabgobmeibjeeaaGreatDoorS5
namespace Go.Proofs.YtabgobmeibjeeaaGreatDoor
set_option linter.unusedSimpArgs false
set_option linter.unusedVariables false
set_option maxRecDepth 10000

/-- a part of a slice -/
def subD (a n : Nat) : D → D
 | .sl s rows cap => .sl s ((rows.drop a).take n) (cap.map (· - a))
 | d => d
theorem SlD.sub {sz : Nat} {rows : List (List D)} {x : D} (h : SlD sz rows x) (a n : Nat) : SlD sz ((rows.drop a).take n) (subD a n x) := by
 rcases h with ⟨rfl, rfl⟩ | ⟨c, rfl⟩
 ·
  exact .inl ⟨rfl, by simp⟩
 ·
  exact .of _ _ _
theorem SlD.slice_mid {sz : Nat} {rows : List (List D)} {x : D} (h : SlD sz rows x) (S : St) {a b : Nat} {i j : Int} (hi : i = a) (hj : j = b) (hab : a ≤ b) (hb : b ≤ rows.length) : sliceD S sz x (some (.int .i64 i)) (some (.int .i64 j)) none = some (subD a (b - a) x) := by
 subst hi hj
 rcases h with ⟨rfl, rfl⟩ | ⟨c, rfl⟩
 ·
  simp at hb; subst hb; have : a = 0 := by omega
  subst this; simp [sliceD, boundsD, natOr, natOf, subD]
 ·
  simp [sliceD, boundsD, natOr, natOf, subD, hab, hb]
/-- the cells of a shape -/
structure Shp where
 cat : Int
 us : Int
 pic : ByteArray
 dg : Int
 sc : Int
 sg : Bool
 le : Bool
 se : Bool
 ju : Bool
 bl : Bool
 sz : Int

theorem sign_run {d : Nat} (hd : 1 ≤ d) (S : St) (cat us : Int) (pic : ByteArray) (dg sc sz : Int) (sg se ju bl : Bool) : runF LP NN d 174 [.agg [.int .u8 cat, .int .u8 us, .str pic, .int .i64 dg, .int .i64 sc, .bool sg, .bool false, .bool se, .bool ju, .bool bl, .int .i64 sz]] S = some (.int .i64 (IntKind.i64.wrap (dg - 1)), S, false) := by
 obtain ⟨d, rfl⟩ : ∃ d', d = d' + 1 := ⟨d - 1, by omega⟩
 kernel_rfl
theorem of0_run {d : Nat} (hd : 2 ≤ d) (S : St) (cat : Int) (pic : ByteArray) (dg sc sz : Int) (sg le ju bl : Bool) : runF LP NN d 120 [.agg [.int .u8 cat, .int .u8 0, .str pic, .int .i64 dg, .int .i64 sc, .bool sg, .bool le, .bool false, .bool ju, .bool bl, .int .i64 sz]] S = some (.agg [.fn 162 [], .fn 163 []], S, false) := by
 obtain ⟨d, rfl⟩ : ∃ d', d = d' + 2 := ⟨d - 2, by omega⟩
 kernel_rfl
theorem of1_run {d : Nat} (hd : 2 ≤ d) (S : St) (cat : Int) (pic : ByteArray) (dg sc sz : Int) (sg le ju bl : Bool) : runF LP NN d 120 [.agg [.int .u8 cat, .int .u8 1, .str pic, .int .i64 dg, .int .i64 sc, .bool sg, .bool le, .bool false, .bool ju, .bool bl, .int .i64 sz]] S = some (.agg [.fn 164 [], .fn 165 []], S, false) := by
 obtain ⟨d, rfl⟩ : ∃ d', d = d' + 2 := ⟨d - 2, by omega⟩
 kernel_rfl
theorem of2_run {d : Nat} (hd : 2 ≤ d) (S : St) (cat : Int) (pic : ByteArray) (dg sc sz : Int) (sg le ju bl : Bool) : runF LP NN d 120 [.agg [.int .u8 cat, .int .u8 2, .str pic, .int .i64 dg, .int .i64 sc, .bool sg, .bool le, .bool false, .bool ju, .bool bl, .int .i64 sz]] S = some (.agg [.fn 166 [], .fn 167 []], S, false) := by
 obtain ⟨d, rfl⟩ : ∃ d', d = d' + 2 := ⟨d - 2, by omega⟩
 kernel_rfl

theorem zonedU_run {d : Nat} (hd : 5 ≤ d) (S : St) (cat us : Int) (pic : ByteArray) (dg sc sz : Int) (se ju bl : Bool) {x : D} {l : List UInt8} (hS : SlD 1 (bR l) x) (hl : l.length ≤ 1000000) : runF LP NN d 162 [.agg [.int .u8 cat, .int .u8 us, .str pic, .int .i64 dg, .int .i64 sc, .bool false, .bool false, .bool se, .bool ju, .bool bl, .int .i64 sz], x] S = some (.tup [.agg [.bool false, .str (mkS l)], .bool (l.all isDig)], S, false) := by
 refine run_pure (F := F162) rfl (by simp only [LP, fnOf, snapVs, snaps, zs, Bool.false_eq_true, if_false, Option.map_some, List.map_cons, List.map_nil, hS.snapV, hS.freeV] <;> exact rfl) rfl (by simp only [LP, zf, List.all_cons, List.all_nil, Bool.and_true, Bool.true_and, hS.snapV, hS.freeV]; try rfl) (by simp only [F162, zv] <;> exact rfl) (by omega) ?_
 rintro d rfl
 refine cw_seq (cw_region ?_)
 refine ow_op (by simp only [zl, zm, zc, mkS_toList, nil_toList, mkS_size, hS.read, bytesOf_bR, Option.map_some] <;> exact rfl) ?_
 refine ow_op (by simp only [zl, zm, mkS_toList, nil_toList, mkS_size, hS.read, bytesOf_bR, Option.map_some] <;> exact rfl) ?_
 refine ow_op (by simp only [zo] <;> exact rfl) ?_
 refine ow_nil ?_
 refine sk_n (by simp only [exports, zn, zg] <;> exact rfl) ?_
 refine cw_seq (cw_region ?_)
 refine ow_op (by simp only [zo] <;> exact rfl) ?_
 refine ow_op (by simp only [zl, zm, readRows_nils, readRows_sl, readRows_msl, mkS_toList, nil_toList, mkS_size, hS.read, bytesOf_bR, Option.map_some] <;> exact rfl) ?_
 refine ow_op (by simp only [zo, fillD, overlay, zc, List.take, List.drop, Nat.reduceAdd, Nat.reduceLeDiff, Nat.reduceBEq, zm, mkS_toList, nil_toList, mkS_size, hS.read, bytesOf_bR, Option.map_some] <;> exact rfl) ?_
 refine ow_op (by simp only [zl, zm, mkS_toList, nil_toList, mkS_size, hS.read, bytesOf_bR, Option.map_some] <;> exact rfl) ?_
 refine ow_op (by simp only [zl, zm, storeD, overlay, snapVs, snaps, zs, zc, zf, List.take, List.drop, mkS_toList, nil_toList, mkS_size, hS.read, bytesOf_bR, Option.map_some] <;> exact rfl) ?_
 refine ow_nil ?_
 refine sk_n (by simp only [exports, zn, zg] <;> exact rfl) ?_
 refine cw_seq (cw_seq (cw_region ?_))
 refine ow_op (by simp only [zl, zm, loadD_cptr, loadD_ptr, partD, List.take, List.drop, mkS_toList, nil_toList, mkS_size, hS.read, bytesOf_bR, Option.map_some] <;> exact rfl) ?_
 refine ow_op (by simp only [zo, mkS_toList, nil_toList, mkS_size, hS.read, bytesOf_bR, Option.map_some]; exact sign_run (by omega) _ _ _ _ _ _ _ _ _ _ _) ?_
 refine ow_op (by simp only [zo] <;> exact rfl) ?_
 refine ow_nil ?_
 refine sk_n (by simp only [exports, zn, zg] <;> exact rfl) ?_
 refine cw_seq (cw_region ?_)
 refine ow_op (by simp only [zo, faddrD_ptr, faddrD_cptr, zm, mkS_toList, nil_toList, mkS_size, hS.read, bytesOf_bR, Option.map_some] <;> exact rfl) ?_
 refine ow_op (by simp only [zl, zm, loadD_cptr, loadD_ptr, partD, List.take, List.drop, mkS_toList, nil_toList, mkS_size, hS.read, bytesOf_bR, Option.map_some] <;> exact rfl) ?_
 refine ow_nil ?_
 refine sk_n (by simp only [exports, zn, zg] <;> exact rfl) ?_
 skip
 refine cw_false (by simp only [opd, zv, mkS_toList, nil_toList, mkS_size, hS.read, bytesOf_bR, Option.map_some] <;> rfl) ?_
 refine cw_skip (sk_n rfl (cw_seq ?_))
 refine cw_drawn (by simp only [newsVals, List.length_nil, List.length_cons, List.range_succ, List.range_zero, List.nil_append, List.map_nil, List.reverse_nil, List.cons_append, List.map_cons, List.reverse_cons, Nat.zero_add, Nat.add_zero, Nat.reduceAdd] <;> exact rfl) (by simp only [List.map_nil, List.map_cons, newsObj, St.eta, List.append_nil, List.cons_append, List.nil_append, List.length_cons, List.length_nil] <;> exact rfl) ?_
 refine dw_op (by simp only [zl, zm, loadD_cptr, loadD_ptr, partD, List.take, List.drop, mkS_toList, nil_toList, mkS_size, hS.read, bytesOf_bR, Option.map_some] <;> exact rfl) (by simp only [fpHere, opd, List.map_cons, List.map_nil, List.getD_cons_zero, List.getD_cons_succ, zq] <;> exact rfl) rfl ?_
 refine dw_quiet (by simp only [zo, faddrD_ptr, faddrD_cptr, zm, mkS_toList, nil_toList, mkS_size, hS.read, bytesOf_bR, Option.map_some] <;> exact rfl) rfl rfl ?_
 refine dw_op (by simp only [zl, zm, loadD_cptr, loadD_ptr, partD, List.take, List.drop, mkS_toList, nil_toList, mkS_size, hS.read, bytesOf_bR, Option.map_some] <;> exact rfl) (by simp only [fpHere, opd, List.map_cons, List.map_nil, List.getD_cons_zero, List.getD_cons_succ, zq] <;> exact rfl) rfl ?_
 refine dw_op (by simp only [zo, mkS_toList, nil_toList, mkS_size, hS.read, bytesOf_bR, Option.map_some]; exact trim_run (by omega) _ l hl) (by simp only [fpHere, opd, List.map_cons, List.map_nil, List.getD_cons_zero, List.getD_cons_succ, zq] <;> exact rfl) rfl ?_
 refine dw_quiet (by simp only [zo, binD, eq_self, ne_eq, not_false_eq_true, true_and, Int.reduceEq, ite_true, ite_false, not_true_eq_false, Int.reduceToNat, Int.reduceLT, mkS_toList, nil_toList, mkS_size, hS.read, bytesOf_bR, Option.map_some] <;> exact rfl) rfl rfl ?_
 refine dw_op (by simp only [zl, zm, storeD, overlay, snapVs, snaps, zs, zc, zf, List.take, List.drop, mkS_toList, nil_toList, mkS_size, hS.read, bytesOf_bR, Option.map_some] <;> exact rfl) (by simp only [fpHere, opd, List.map_cons, List.map_nil, List.getD_cons_zero, List.getD_cons_succ, zq] <;> exact rfl) rfl ?_
 refine dw_quiet (by simp only [zo] <;> exact rfl) rfl rfl ?_
 refine dw_nil ?_
 refine sk_n (by simp only [exports, zn, zg] <;> exact rfl) ?_
 refine cw_ret ?_
 refine ⟨_, by simp only [F162, resultD, resDs, resD, List.getD_cons_zero, List.getD_cons_succ, loadD_cptr, loadD_ptr, rowsOf, partD, List.getElem?_cons_zero, List.getElem?_cons_succ, if_true, if_false, Bool.false_eq_true, List.take, List.drop, zm] <;> exact rfl, ?_⟩
 simp only [leaveP, leave, snapVs, snaps, zs, zf, Option.map_some, List.all_cons, List.all_nil, Bool.and_self, Bool.and_true, if_true, if_false, Bool.false_eq_true, List.length_nil, Nat.le_refl, Nat.zero_le]
 rw [trimD_nil]; rfl

theorem read_true {d : Nat} (hd : 7 ≤ d) (S : St) (us : Int) (pic : ByteArray) (dg sc sz : Int) (sg le se ju bl : Bool) (fr fw : FuncId) (ng : Bool) (l : List UInt8) {x : D} {rows : List (List D)} (hS : SlD 1 rows x) (hz : (rows.length : Int) = sz) (ho : ∀ (d : Nat) (S : St), 2 ≤ d → runF LP NN d 120 [.agg [.int .u8 4, .int .u8 us, .str pic, .int .i64 dg, .int .i64 sc, .bool sg, .bool le, .bool se, .bool ju, .bool bl, .int .i64 sz]] S = some (.agg [.fn fr [], .fn fw []], S, false)) (hr : ∀ (d : Nat) (S : St), 6 ≤ d → runF LP NN d fr [.agg [.int .u8 4, .int .u8 us, .str pic, .int .i64 dg, .int .i64 sc, .bool sg, .bool le, .bool se, .bool ju, .bool bl, .int .i64 sz], x] S = some (.tup [.agg [.bool ng, .str (mkS l)], .bool true], S, false)) : runF LP NN d 81 [.agg [.int .u8 4, .int .u8 us, .str pic, .int .i64 dg, .int .i64 sc, .bool sg, .bool le, .bool se, .bool ju, .bool bl, .int .i64 sz, x]] S = some (.tup [.agg [.bool ng, .str (mkS l)], .int .i64 0], S, false) := by
 refine run_pure (F := F81) rfl (by simp only [LP, fnOf, snapVs, snaps, zs, Bool.false_eq_true, if_false, Option.map_some, List.map_cons, List.map_nil, hS.snap, hS.freeV, hS.free] <;> exact rfl) rfl (by simp only [LP, zf, List.all_cons, List.all_nil, Bool.and_true, Bool.true_and, hS.snap, hS.freeV, hS.free]; try rfl) (by simp only [F81, zv] <;> exact rfl) (by omega) ?_
 rintro d rfl
 refine cw_seq (cw_region ?_)
 refine ow_op (by simp only [zl, zm, zc, mkS_toList, nil_toList, mkS_size, hS.isCell, hS.val, hS.cells, hS.len, hS.plain, hz, bne_self_eq_false] <;> exact rfl) ?_
 refine ow_op (by simp only [zl, zm, mkS_toList, nil_toList, mkS_size, hS.isCell, hS.val, hS.cells, hS.len, hS.plain, hz, bne_self_eq_false] <;> exact rfl) ?_
 refine ow_op (by simp only [zo] <;> exact rfl) ?_
 refine ow_nil ?_
 refine sk_n (by simp only [exports, zn, zg] <;> exact rfl) ?_
 refine cw_seq (cw_seq (cw_region ?_))
 refine ow_op (by simp only [zo, faddrD_ptr, faddrD_cptr, zm, mkS_toList, nil_toList, mkS_size, hS.isCell, hS.val, hS.cells, hS.len, hS.plain, hz, bne_self_eq_false] <;> exact rfl) ?_
 refine ow_op (by simp only [zl, zm, loadD_cptr, loadD_ptr, partD, List.take, List.drop, mkS_toList, nil_toList, mkS_size, hS.isCell, hS.val, hS.cells, hS.len, hS.plain, hz, bne_self_eq_false] <;> exact rfl) ?_
 refine ow_op (by simp only [zo, lenD_str, lenD_nils, lenD_sl, lenD_msl, mkS_toList, nil_toList, mkS_size, hS.isCell, hS.val, hS.cells, hS.len, hS.plain, hz, bne_self_eq_false] <;> exact rfl) ?_
 refine ow_op (by simp only [zo, faddrD_ptr, faddrD_cptr, zm, mkS_toList, nil_toList, mkS_size, hS.isCell, hS.val, hS.cells, hS.len, hS.plain, hz, bne_self_eq_false] <;> exact rfl) ?_
 refine ow_op (by simp only [zo, faddrD_ptr, faddrD_cptr, zm, mkS_toList, nil_toList, mkS_size, hS.isCell, hS.val, hS.cells, hS.len, hS.plain, hz, bne_self_eq_false] <;> exact rfl) ?_
 refine ow_op (by simp only [zl, zm, loadD_cptr, loadD_ptr, partD, List.take, List.drop, mkS_toList, nil_toList, mkS_size, hS.isCell, hS.val, hS.cells, hS.len, hS.plain, hz, bne_self_eq_false] <;> exact rfl) ?_
 refine ow_op (by simp only [zo, binD, eq_self, ne_eq, not_false_eq_true, true_and, Int.reduceEq, ite_true, ite_false, not_true_eq_false, Int.reduceToNat, Int.reduceLT, mkS_toList, nil_toList, mkS_size, hS.isCell, hS.val, hS.cells, hS.len, hS.plain, hz, bne_self_eq_false] <;> exact rfl) ?_
 refine ow_nil ?_
 refine sk_n (by simp only [exports, zn, zg] <;> exact rfl) ?_
 skip
 refine cw_false (by simp only [opd, zv, mkS_toList, nil_toList, mkS_size, hS.isCell, hS.val, hS.cells, hS.len, hS.plain, hz, bne_self_eq_false] <;> rfl) ?_
 refine cw_skip (sk_n rfl (cw_seq (cw_seq (cw_region ?_))))
 refine ow_op (by simp only [zo, faddrD_ptr, faddrD_cptr, zm, mkS_toList, nil_toList, mkS_size, hS.isCell, hS.val, hS.cells, hS.len, hS.plain, hz, bne_self_eq_false] <;> exact rfl) ?_
 refine ow_op (by simp only [zo, faddrD_ptr, faddrD_cptr, zm, mkS_toList, nil_toList, mkS_size, hS.isCell, hS.val, hS.cells, hS.len, hS.plain, hz, bne_self_eq_false] <;> exact rfl) ?_
 refine ow_op (by simp only [zl, zm, loadD_cptr, loadD_ptr, partD, List.take, List.drop, mkS_toList, nil_toList, mkS_size, hS.isCell, hS.val, hS.cells, hS.len, hS.plain, hz, bne_self_eq_false] <;> exact rfl) ?_
 refine ow_op (by simp only [zo, binD, eq_self, ne_eq, not_false_eq_true, true_and, Int.reduceEq, ite_true, ite_false, not_true_eq_false, Int.reduceToNat, Int.reduceLT, mkS_toList, nil_toList, mkS_size, hS.isCell, hS.val, hS.cells, hS.len, hS.plain, hz, bne_self_eq_false] <;> exact rfl) ?_
 refine ow_nil ?_
 refine sk_n (by simp only [exports, zn, zg] <;> exact rfl) ?_
 skip
 refine cw_false (by simp only [opd, zv, mkS_toList, nil_toList, mkS_size, hS.isCell, hS.val, hS.cells, hS.len, hS.plain, hz, bne_self_eq_false] <;> rfl) ?_
 refine cw_skip (sk_n rfl (cw_seq ?_))
 refine cw_drawn (by simp only [newsVals, List.length_nil, List.length_cons, List.range_succ, List.range_zero, List.nil_append, List.map_nil, List.reverse_nil, List.cons_append, List.map_cons, List.reverse_cons, Nat.zero_add, Nat.add_zero, Nat.reduceAdd] <;> exact rfl) (by simp only [List.map_nil, List.map_cons, newsObj, St.eta, List.append_nil, List.cons_append, List.nil_append, List.length_cons, List.length_nil] <;> exact rfl) ?_
 refine dw_quiet (by simp only [zo, faddrD_ptr, faddrD_cptr, zm, mkS_toList, nil_toList, mkS_size, hS.isCell, hS.val, hS.cells, hS.len, hS.plain, hz, bne_self_eq_false] <;> exact rfl) rfl rfl ?_
 refine dw_op (by simp only [zl, zm, loadD_cptr, loadD_ptr, partD, List.take, List.drop, mkS_toList, nil_toList, mkS_size, hS.isCell, hS.val, hS.cells, hS.len, hS.plain, hz, bne_self_eq_false] <;> exact rfl) (by simp only [fpHere, opd, List.map_cons, List.map_nil, List.getD_cons_zero, List.getD_cons_succ, zq] <;> exact rfl) rfl ?_
 refine dw_op (by simp only [zo, mkS_toList, nil_toList, mkS_size, hS.isCell, hS.val, hS.cells, hS.len, hS.plain, hz, bne_self_eq_false]; exact ho _ _ (by omega)) (by simp only [fpHere, opd, List.map_cons, List.map_nil, List.getD_cons_zero, List.getD_cons_succ, zq] <;> exact rfl) rfl ?_
 refine dw_quiet (by simp only [zo, partD, List.take, List.drop, zm, mkS_toList, nil_toList, mkS_size, hS.isCell, hS.val, hS.cells, hS.len, hS.plain, hz, bne_self_eq_false] <;> exact rfl) rfl rfl ?_
 refine dw_quiet (by simp only [zo, faddrD_ptr, faddrD_cptr, zm, mkS_toList, nil_toList, mkS_size, hS.isCell, hS.val, hS.cells, hS.len, hS.plain, hz, bne_self_eq_false] <;> exact rfl) rfl rfl ?_
 refine dw_op (by simp only [zl, zm, loadD_cptr, loadD_ptr, partD, List.take, List.drop, mkS_toList, nil_toList, mkS_size, hS.isCell, hS.val, hS.cells, hS.len, hS.plain, hz, bne_self_eq_false] <;> exact rfl) (by simp only [fpHere, opd, List.map_cons, List.map_nil, List.getD_cons_zero, List.getD_cons_succ, zq] <;> exact rfl) rfl ?_
 refine dw_quiet (by simp only [zo, faddrD_ptr, faddrD_cptr, zm, mkS_toList, nil_toList, mkS_size, hS.isCell, hS.val, hS.cells, hS.len, hS.plain, hz, bne_self_eq_false] <;> exact rfl) rfl rfl ?_
 refine dw_op (by simp only [zl, zm, loadD_cptr, loadD_ptr, partD, List.take, List.drop, mkS_toList, nil_toList, mkS_size, hS.isCell, hS.val, hS.cells, hS.len, hS.plain, hz, bne_self_eq_false] <;> exact rfl) (by simp only [fpHere, opd, List.map_cons, List.map_nil, List.getD_cons_zero, List.getD_cons_succ, zq] <;> exact rfl) rfl ?_
 refine dw_op (by simp only [zo, mkS_toList, nil_toList, mkS_size, hS.isCell, hS.val, hS.cells, hS.len, hS.plain, hz, bne_self_eq_false]; exact hr _ _ (by omega)) (by simp only [fpHere, opd, List.map_cons, List.map_nil, List.getD_cons_zero, List.getD_cons_succ, zq] <;> exact rfl) rfl ?_
 refine dw_quiet (by simp only [zo] <;> exact rfl) rfl rfl ?_
 refine dw_quiet (by simp only [zo, List.getElem?_cons_zero, List.getElem?_cons_succ, mkS_toList, nil_toList, mkS_size, hS.isCell, hS.val, hS.cells, hS.len, hS.plain, hz, bne_self_eq_false] <;> exact rfl) rfl rfl ?_
 refine dw_quiet (by simp only [zo, List.getElem?_cons_zero, List.getElem?_cons_succ, mkS_toList, nil_toList, mkS_size, hS.isCell, hS.val, hS.cells, hS.len, hS.plain, hz, bne_self_eq_false] <;> exact rfl) rfl rfl ?_
 refine dw_op (by simp only [zo] <;> exact rfl) rfl rfl ?_
 refine dw_op (by simp only [zl, zm, storeD, overlay, snapVs, snaps, zs, zc, zf, List.take, List.drop, mkS_toList, nil_toList, mkS_size, hS.isCell, hS.val, hS.cells, hS.len, hS.plain, hz, bne_self_eq_false] <;> exact rfl) (by simp only [fpHere, opd, List.map_cons, List.map_nil, List.getD_cons_zero, List.getD_cons_succ, zq] <;> exact rfl) rfl ?_
 refine dw_quiet (by simp only [zo] <;> exact rfl) rfl rfl ?_
 refine dw_nil ?_
 refine sk_n (by simp only [exports, zn, zg] <;> exact rfl) ?_
 refine cw_seq (cw_seq (cw_region ?_))
 refine ow_op (by simp only [zo] <;> exact rfl) ?_
 refine ow_op (by simp only [zo, unD, mkS_toList, nil_toList, mkS_size, hS.isCell, hS.val, hS.cells, hS.len, hS.plain, hz, bne_self_eq_false] <;> exact rfl) ?_
 refine ow_nil ?_
 refine sk_n (by simp only [exports, zn, zg] <;> exact rfl) ?_
 skip
 refine cw_false (by simp only [opd, zv, mkS_toList, nil_toList, mkS_size, hS.isCell, hS.val, hS.cells, hS.len, hS.plain, hz, bne_self_eq_false] <;> rfl) ?_
 refine cw_skip (sk_n rfl (cw_seq (cw_region ?_)))
 refine ow_op (by simp only [zl, zm, loadD_cptr, loadD_ptr, partD, List.take, List.drop, mkS_toList, nil_toList, mkS_size, hS.isCell, hS.val, hS.cells, hS.len, hS.plain, hz, bne_self_eq_false] <;> exact rfl) ?_
 refine ow_op (by simp only [zl, zm, storeD, overlay, snapVs, snaps, zs, zc, zf, List.take, List.drop, mkS_toList, nil_toList, mkS_size, hS.isCell, hS.val, hS.cells, hS.len, hS.plain, hz, bne_self_eq_false] <;> exact rfl) ?_
 refine ow_op (by simp only [zo] <;> exact rfl) ?_
 refine ow_nil ?_
 refine sk_n (by simp only [exports, zn, zg] <;> exact rfl) ?_
 refine cw_ret ?_
 refine ⟨_, by simp only [F81, resultD, resDs, resD, List.getD_cons_zero, List.getD_cons_succ, loadD_cptr, loadD_ptr, rowsOf, partD, List.getElem?_cons_zero, List.getElem?_cons_succ, if_true, if_false, Bool.false_eq_true, List.take, List.drop, zm] <;> exact rfl, ?_⟩
 simp only [leaveP, leave, snapVs, snaps, zs, zf, Option.map_some, List.all_cons, List.all_nil, Bool.and_self, Bool.and_true, if_true, if_false, Bool.false_eq_true, List.length_nil, Nat.le_refl, Nat.zero_le]

theorem read_false {d : Nat} (hd : 7 ≤ d) (S : St) (us : Int) (pic : ByteArray) (dg sc sz : Int) (sg le se ju bl : Bool) (fr fw : FuncId) (ng : Bool) (l : List UInt8) {x : D} {rows : List (List D)} (hS : SlD 1 rows x) (hz : (rows.length : Int) = sz) (ho : ∀ (d : Nat) (S : St), 2 ≤ d → runF LP NN d 120 [.agg [.int .u8 4, .int .u8 us, .str pic, .int .i64 dg, .int .i64 sc, .bool sg, .bool le, .bool se, .bool ju, .bool bl, .int .i64 sz]] S = some (.agg [.fn fr [], .fn fw []], S, false)) (hr : ∀ (d : Nat) (S : St), 6 ≤ d → runF LP NN d fr [.agg [.int .u8 4, .int .u8 us, .str pic, .int .i64 dg, .int .i64 sc, .bool sg, .bool le, .bool se, .bool ju, .bool bl, .int .i64 sz], x] S = some (.tup [.agg [.bool ng, .str (mkS l)], .bool false], S, false)) : runF LP NN d 81 [.agg [.int .u8 4, .int .u8 us, .str pic, .int .i64 dg, .int .i64 sc, .bool sg, .bool le, .bool se, .bool ju, .bool bl, .int .i64 sz, x]] S = some (.tup [.agg [.bool false, .str ⟨#[]⟩], .int .i64 15], S, false) := by
 refine run_pure (F := F81) rfl (by simp only [LP, fnOf, snapVs, snaps, zs, Bool.false_eq_true, if_false, Option.map_some, List.map_cons, List.map_nil, hS.snap, hS.freeV, hS.free] <;> exact rfl) rfl (by simp only [LP, zf, List.all_cons, List.all_nil, Bool.and_true, Bool.true_and, hS.snap, hS.freeV, hS.free]; try rfl) (by simp only [F81, zv] <;> exact rfl) (by omega) ?_
 rintro d rfl
 refine cw_seq (cw_region ?_)
 refine ow_op (by simp only [zl, zm, zc, mkS_toList, nil_toList, mkS_size, hS.isCell, hS.val, hS.cells, hS.len, hS.plain, hz, bne_self_eq_false] <;> exact rfl) ?_
 refine ow_op (by simp only [zl, zm, mkS_toList, nil_toList, mkS_size, hS.isCell, hS.val, hS.cells, hS.len, hS.plain, hz, bne_self_eq_false] <;> exact rfl) ?_
 refine ow_op (by simp only [zo] <;> exact rfl) ?_
 refine ow_nil ?_
 refine sk_n (by simp only [exports, zn, zg] <;> exact rfl) ?_
 refine cw_seq (cw_seq (cw_region ?_))
 refine ow_op (by simp only [zo, faddrD_ptr, faddrD_cptr, zm, mkS_toList, nil_toList, mkS_size, hS.isCell, hS.val, hS.cells, hS.len, hS.plain, hz, bne_self_eq_false] <;> exact rfl) ?_
 refine ow_op (by simp only [zl, zm, loadD_cptr, loadD_ptr, partD, List.take, List.drop, mkS_toList, nil_toList, mkS_size, hS.isCell, hS.val, hS.cells, hS.len, hS.plain, hz, bne_self_eq_false] <;> exact rfl) ?_
 refine ow_op (by simp only [zo, lenD_str, lenD_nils, lenD_sl, lenD_msl, mkS_toList, nil_toList, mkS_size, hS.isCell, hS.val, hS.cells, hS.len, hS.plain, hz, bne_self_eq_false] <;> exact rfl) ?_
 refine ow_op (by simp only [zo, faddrD_ptr, faddrD_cptr, zm, mkS_toList, nil_toList, mkS_size, hS.isCell, hS.val, hS.cells, hS.len, hS.plain, hz, bne_self_eq_false] <;> exact rfl) ?_
 refine ow_op (by simp only [zo, faddrD_ptr, faddrD_cptr, zm, mkS_toList, nil_toList, mkS_size, hS.isCell, hS.val, hS.cells, hS.len, hS.plain, hz, bne_self_eq_false] <;> exact rfl) ?_
 refine ow_op (by simp only [zl, zm, loadD_cptr, loadD_ptr, partD, List.take, List.drop, mkS_toList, nil_toList, mkS_size, hS.isCell, hS.val, hS.cells, hS.len, hS.plain, hz, bne_self_eq_false] <;> exact rfl) ?_
 refine ow_op (by simp only [zo, binD, eq_self, ne_eq, not_false_eq_true, true_and, Int.reduceEq, ite_true, ite_false, not_true_eq_false, Int.reduceToNat, Int.reduceLT, mkS_toList, nil_toList, mkS_size, hS.isCell, hS.val, hS.cells, hS.len, hS.plain, hz, bne_self_eq_false] <;> exact rfl) ?_
 refine ow_nil ?_
 refine sk_n (by simp only [exports, zn, zg] <;> exact rfl) ?_
 skip
 refine cw_false (by simp only [opd, zv, mkS_toList, nil_toList, mkS_size, hS.isCell, hS.val, hS.cells, hS.len, hS.plain, hz, bne_self_eq_false] <;> rfl) ?_
 refine cw_skip (sk_n rfl (cw_seq (cw_seq (cw_region ?_))))
 refine ow_op (by simp only [zo, faddrD_ptr, faddrD_cptr, zm, mkS_toList, nil_toList, mkS_size, hS.isCell, hS.val, hS.cells, hS.len, hS.plain, hz, bne_self_eq_false] <;> exact rfl) ?_
 refine ow_op (by simp only [zo, faddrD_ptr, faddrD_cptr, zm, mkS_toList, nil_toList, mkS_size, hS.isCell, hS.val, hS.cells, hS.len, hS.plain, hz, bne_self_eq_false] <;> exact rfl) ?_
 refine ow_op (by simp only [zl, zm, loadD_cptr, loadD_ptr, partD, List.take, List.drop, mkS_toList, nil_toList, mkS_size, hS.isCell, hS.val, hS.cells, hS.len, hS.plain, hz, bne_self_eq_false] <;> exact rfl) ?_
 refine ow_op (by simp only [zo, binD, eq_self, ne_eq, not_false_eq_true, true_and, Int.reduceEq, ite_true, ite_false, not_true_eq_false, Int.reduceToNat, Int.reduceLT, mkS_toList, nil_toList, mkS_size, hS.isCell, hS.val, hS.cells, hS.len, hS.plain, hz, bne_self_eq_false] <;> exact rfl) ?_
 refine ow_nil ?_
 refine sk_n (by simp only [exports, zn, zg] <;> exact rfl) ?_
 skip
 refine cw_false (by simp only [opd, zv, mkS_toList, nil_toList, mkS_size, hS.isCell, hS.val, hS.cells, hS.len, hS.plain, hz, bne_self_eq_false] <;> rfl) ?_
 refine cw_skip (sk_n rfl (cw_seq ?_))
 refine cw_drawn (by simp only [newsVals, List.length_nil, List.length_cons, List.range_succ, List.range_zero, List.nil_append, List.map_nil, List.reverse_nil, List.cons_append, List.map_cons, List.reverse_cons, Nat.zero_add, Nat.add_zero, Nat.reduceAdd] <;> exact rfl) (by simp only [List.map_nil, List.map_cons, newsObj, St.eta, List.append_nil, List.cons_append, List.nil_append, List.length_cons, List.length_nil] <;> exact rfl) ?_
 refine dw_quiet (by simp only [zo, faddrD_ptr, faddrD_cptr, zm, mkS_toList, nil_toList, mkS_size, hS.isCell, hS.val, hS.cells, hS.len, hS.plain, hz, bne_self_eq_false] <;> exact rfl) rfl rfl ?_
 refine dw_op (by simp only [zl, zm, loadD_cptr, loadD_ptr, partD, List.take, List.drop, mkS_toList, nil_toList, mkS_size, hS.isCell, hS.val, hS.cells, hS.len, hS.plain, hz, bne_self_eq_false] <;> exact rfl) (by simp only [fpHere, opd, List.map_cons, List.map_nil, List.getD_cons_zero, List.getD_cons_succ, zq] <;> exact rfl) rfl ?_
 refine dw_op (by simp only [zo, mkS_toList, nil_toList, mkS_size, hS.isCell, hS.val, hS.cells, hS.len, hS.plain, hz, bne_self_eq_false]; exact ho _ _ (by omega)) (by simp only [fpHere, opd, List.map_cons, List.map_nil, List.getD_cons_zero, List.getD_cons_succ, zq] <;> exact rfl) rfl ?_
 refine dw_quiet (by simp only [zo, partD, List.take, List.drop, zm, mkS_toList, nil_toList, mkS_size, hS.isCell, hS.val, hS.cells, hS.len, hS.plain, hz, bne_self_eq_false] <;> exact rfl) rfl rfl ?_
 refine dw_quiet (by simp only [zo, faddrD_ptr, faddrD_cptr, zm, mkS_toList, nil_toList, mkS_size, hS.isCell, hS.val, hS.cells, hS.len, hS.plain, hz, bne_self_eq_false] <;> exact rfl) rfl rfl ?_
 refine dw_op (by simp only [zl, zm, loadD_cptr, loadD_ptr, partD, List.take, List.drop, mkS_toList, nil_toList, mkS_size, hS.isCell, hS.val, hS.cells, hS.len, hS.plain, hz, bne_self_eq_false] <;> exact rfl) (by simp only [fpHere, opd, List.map_cons, List.map_nil, List.getD_cons_zero, List.getD_cons_succ, zq] <;> exact rfl) rfl ?_
 refine dw_quiet (by simp only [zo, faddrD_ptr, faddrD_cptr, zm, mkS_toList, nil_toList, mkS_size, hS.isCell, hS.val, hS.cells, hS.len, hS.plain, hz, bne_self_eq_false] <;> exact rfl) rfl rfl ?_
 refine dw_op (by simp only [zl, zm, loadD_cptr, loadD_ptr, partD, List.take, List.drop, mkS_toList, nil_toList, mkS_size, hS.isCell, hS.val, hS.cells, hS.len, hS.plain, hz, bne_self_eq_false] <;> exact rfl) (by simp only [fpHere, opd, List.map_cons, List.map_nil, List.getD_cons_zero, List.getD_cons_succ, zq] <;> exact rfl) rfl ?_
 refine dw_op (by simp only [zo, mkS_toList, nil_toList, mkS_size, hS.isCell, hS.val, hS.cells, hS.len, hS.plain, hz, bne_self_eq_false]; exact hr _ _ (by omega)) (by simp only [fpHere, opd, List.map_cons, List.map_nil, List.getD_cons_zero, List.getD_cons_succ, zq] <;> exact rfl) rfl ?_
 refine dw_quiet (by simp only [zo] <;> exact rfl) rfl rfl ?_
 refine dw_quiet (by simp only [zo, List.getElem?_cons_zero, List.getElem?_cons_succ, mkS_toList, nil_toList, mkS_size, hS.isCell, hS.val, hS.cells, hS.len, hS.plain, hz, bne_self_eq_false] <;> exact rfl) rfl rfl ?_
 refine dw_quiet (by simp only [zo, List.getElem?_cons_zero, List.getElem?_cons_succ, mkS_toList, nil_toList, mkS_size, hS.isCell, hS.val, hS.cells, hS.len, hS.plain, hz, bne_self_eq_false] <;> exact rfl) rfl rfl ?_
 refine dw_op (by simp only [zo] <;> exact rfl) rfl rfl ?_
 refine dw_op (by simp only [zl, zm, storeD, overlay, snapVs, snaps, zs, zc, zf, List.take, List.drop, mkS_toList, nil_toList, mkS_size, hS.isCell, hS.val, hS.cells, hS.len, hS.plain, hz, bne_self_eq_false] <;> exact rfl) (by simp only [fpHere, opd, List.map_cons, List.map_nil, List.getD_cons_zero, List.getD_cons_succ, zq] <;> exact rfl) rfl ?_
 refine dw_quiet (by simp only [zo] <;> exact rfl) rfl rfl ?_
 refine dw_nil ?_
 refine sk_n (by simp only [exports, zn, zg] <;> exact rfl) ?_
 refine cw_seq (cw_seq (cw_region ?_))
 refine ow_op (by simp only [zo] <;> exact rfl) ?_
 refine ow_op (by simp only [zo, unD, mkS_toList, nil_toList, mkS_size, hS.isCell, hS.val, hS.cells, hS.len, hS.plain, hz, bne_self_eq_false] <;> exact rfl) ?_
 refine ow_nil ?_
 refine sk_n (by simp only [exports, zn, zg] <;> exact rfl) ?_
 skip
 refine cw_true (by simp only [opd, zv, mkS_toList, nil_toList, mkS_size, hS.isCell, hS.val, hS.cells, hS.len, hS.plain, hz, bne_self_eq_false] <;> rfl) ?_
 refine cw_seq (cw_region ?_)
 refine ow_op (by simp only [zo, fillD, overlay, zc, List.take, List.drop, Nat.reduceAdd, Nat.reduceLeDiff, Nat.reduceBEq, zm, mkS_toList, nil_toList, mkS_size, hS.isCell, hS.val, hS.cells, hS.len, hS.plain, hz, bne_self_eq_false] <;> exact rfl) ?_
 refine ow_op (by simp only [zl, zm, storeD, overlay, snapVs, snaps, zs, zc, zf, List.take, List.drop, mkS_toList, nil_toList, mkS_size, hS.isCell, hS.val, hS.cells, hS.len, hS.plain, hz, bne_self_eq_false] <;> exact rfl) ?_
 refine ow_op (by simp only [zo] <;> exact rfl) ?_
 refine ow_nil ?_
 refine sk_n (by simp only [exports, zn, zg] <;> exact rfl) ?_
 refine cw_ret (sk_r ?_)
 refine ⟨_, by simp only [F81, resultD, resDs, resD, List.getD_cons_zero, List.getD_cons_succ, loadD_cptr, loadD_ptr, rowsOf, partD, List.getElem?_cons_zero, List.getElem?_cons_succ, if_true, if_false, Bool.false_eq_true, List.take, List.drop, zm] <;> exact rfl, ?_⟩
 simp only [leaveP, leave, snapVs, snaps, zs, zf, Option.map_some, List.all_cons, List.all_nil, Bool.and_self, Bool.and_true, if_true, if_false, Bool.false_eq_true, List.length_nil, Nat.le_refl, Nat.zero_le]

end Go.Proofs.YtabgobmeibjeeaaGreatDoor

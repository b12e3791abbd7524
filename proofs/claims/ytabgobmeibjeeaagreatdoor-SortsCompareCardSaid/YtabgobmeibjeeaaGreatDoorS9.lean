/- Proved here: what functions of the program compute, in the abstract machine; no condition. -/
import Derived.Test.YtabgobmeibjeeaaGreatDoorS8
namespace Go.Proofs.YtabgobmeibjeeaaGreatDoor
set_option linter.unusedSimpArgs false
set_option linter.unusedVariables false
set_option maxRecDepth 10000

theorem plainV_agg (cs : List D) : plainV (.agg cs) = cs.all plain1 := rfl
theorem plain1_int (k : IntKind) (n : Int) : plain1 (.int k n) = true := rfl
theorem plain1_str (s : ByteArray) : plain1 (.str s) = true := rfl
theorem plain1_bool (b : Bool) : plain1 (.bool b) = true := rfl
theorem plain1_nils : plain1 .nils = true := rfl

/-- a key -/
structure Ke extends Shp where
 a : Nat
 n : Nat
 dn : Bool
def Ke.row (k : Ke) : List D := [.int .i64 k.a, .int .i64 k.n, .int .u8 k.cat, .int .u8 k.us, .str k.pic, .int .i64 k.dg, .int .i64 k.sc, .bool k.sg, .bool k.le, .bool k.se, .bool k.ju, .bool k.bl, .int .i64 k.sz, .bool k.dn]
def Ke.fld (k : Ke) (x : D) : List D := [.int .u8 k.cat, .int .u8 k.us, .str k.pic, .int .i64 k.dg, .int .i64 k.sc, .bool k.sg, .bool k.le, .bool k.se, .bool k.ju, .bool k.bl, .int .i64 k.sz, subD k.a k.n x]
def keRows (l : List Ke) : List (List D) := l.map Ke.row
theorem keRows_len (l : List Ke) : (keRows l).length = l.length := by simp [keRows]
theorem keRows_at {l : List Ke} {i : Nat} {k : Ke} (h : l[i]? = some k) : (keRows l)[i]? = some [.int .i64 k.a, .int .i64 k.n, .int .u8 k.cat, .int .u8 k.us, .str k.pic, .int .i64 k.dg, .int .i64 k.sc, .bool k.sg, .bool k.le, .bool k.se, .bool k.ju, .bool k.bl, .int .i64 k.sz, .bool k.dn] := by simp [keRows, h, Ke.row]

theorem field_run {d : Nat} (hd : 1 ≤ d) (S : St) (k : Ke) {x : D} {rows : List (List D)} (hS : SlD 1 rows x) (h : k.a + k.n ≤ rows.length) (hb : rows.length ≤ 1000000) : runF LP NN d 50 [.agg [.int .i64 k.a, .int .i64 k.n, .int .u8 k.cat, .int .u8 k.us, .str k.pic, .int .i64 k.dg, .int .i64 k.sc, .bool k.sg, .bool k.le, .bool k.se, .bool k.ju, .bool k.bl, .int .i64 k.sz, .bool k.dn], x] S = some (.agg [.int .u8 k.cat, .int .u8 k.us, .str k.pic, .int .i64 k.dg, .int .i64 k.sc, .bool k.sg, .bool k.le, .bool k.se, .bool k.ju, .bool k.bl, .int .i64 k.sz, subD k.a k.n x], S, false) := by
 have hw : IntKind.i64.wrap ((k.a : Int) + (k.n : Int)) = ((k.a + k.n : Nat) : Int) := by rw [IntKind.wrap_i64]; omega
 have hsl := fun (S : St) => hS.slice_mid S (a := k.a) (b := k.a + k.n) rfl rfl (by omega) h
 simp only [Nat.add_sub_cancel_left] at hsl
 have hsb := hS.sub k.a k.n
 refine run_pure (F := F50) rfl (by simp only [LP, fnOf, snapVs, snaps, zs, Bool.false_eq_true, if_false, Option.map_some, List.map_cons, List.map_nil, hS.snapV, hS.freeV] <;> exact rfl) rfl (by simp only [LP, zf, List.all_cons, List.all_nil, Bool.and_true, Bool.true_and, hS.snapV, hS.freeV]; try rfl) (by simp only [F50, zv] <;> exact rfl) (by omega) ?_
 rintro d rfl
 refine cw_seq (cw_region ?_)
 refine ow_op (by simp only [zl, zm, zc, mkS_toList, nil_toList, mkS_size, hw, hsb.isCell, hsb.val, hsb.cells, hsb.plain, hS.fps] <;> exact rfl) ?_
 refine ow_op (by simp only [zl, zm, mkS_toList, nil_toList, mkS_size, hw, hsb.isCell, hsb.val, hsb.cells, hsb.plain, hS.fps] <;> exact rfl) ?_
 refine ow_nil ?_
 refine sk_n (by simp only [exports, zn, zg] <;> exact rfl) ?_
 refine cw_seq ?_
 refine cw_drawn (by simp only [newsVals, List.length_nil, List.length_cons, List.range_succ, List.range_zero, List.nil_append, List.map_nil, List.reverse_nil, List.cons_append, List.map_cons, List.reverse_cons, Nat.zero_add, Nat.add_zero, Nat.reduceAdd] <;> exact rfl) (by simp only [List.map_nil, List.map_cons, newsObj, St.eta, List.append_nil, List.cons_append, List.nil_append, List.length_cons, List.length_nil] <;> exact rfl) ?_
 refine dw_quiet (by simp only [zo, faddrD_ptr, faddrD_cptr, zm, mkS_toList, nil_toList, mkS_size, hw, hsb.isCell, hsb.val, hsb.cells, hsb.plain, hS.fps] <;> exact rfl) rfl rfl ?_
 refine dw_op (by simp only [zl, zm, loadD_cptr, loadD_ptr, partD, List.take, List.drop, mkS_toList, nil_toList, mkS_size, hw, hsb.isCell, hsb.val, hsb.cells, hsb.plain, hS.fps] <;> exact rfl) (by simp only [fpHere, opd, List.map_cons, List.map_nil, List.getD_cons_zero, List.getD_cons_succ, zq, hS.fps, hsb.plain, plainV_agg, List.all_cons, List.all_nil, plain1_int, plain1_str, plain1_bool, plain1_nils, Bool.and_true, Bool.and_self, if_true] <;> exact rfl) rfl ?_
 refine dw_quiet (by simp only [zo] <;> exact rfl) rfl rfl ?_
 refine dw_quiet (by simp only [zo, faddrD_ptr, faddrD_cptr, zm, mkS_toList, nil_toList, mkS_size, hw, hsb.isCell, hsb.val, hsb.cells, hsb.plain, hS.fps] <;> exact rfl) rfl rfl ?_
 refine dw_quiet (by simp only [zo, faddrD_ptr, faddrD_cptr, zm, mkS_toList, nil_toList, mkS_size, hw, hsb.isCell, hsb.val, hsb.cells, hsb.plain, hS.fps] <;> exact rfl) rfl rfl ?_
 refine dw_op (by simp only [zl, zm, loadD_cptr, loadD_ptr, partD, List.take, List.drop, mkS_toList, nil_toList, mkS_size, hw, hsb.isCell, hsb.val, hsb.cells, hsb.plain, hS.fps] <;> exact rfl) (by simp only [fpHere, opd, List.map_cons, List.map_nil, List.getD_cons_zero, List.getD_cons_succ, zq, hS.fps, hsb.plain, plainV_agg, List.all_cons, List.all_nil, plain1_int, plain1_str, plain1_bool, plain1_nils, Bool.and_true, Bool.and_self, if_true] <;> exact rfl) rfl ?_
 refine dw_quiet (by simp only [zo, faddrD_ptr, faddrD_cptr, zm, mkS_toList, nil_toList, mkS_size, hw, hsb.isCell, hsb.val, hsb.cells, hsb.plain, hS.fps] <;> exact rfl) rfl rfl ?_
 refine dw_quiet (by simp only [zo, faddrD_ptr, faddrD_cptr, zm, mkS_toList, nil_toList, mkS_size, hw, hsb.isCell, hsb.val, hsb.cells, hsb.plain, hS.fps] <;> exact rfl) rfl rfl ?_
 refine dw_op (by simp only [zl, zm, loadD_cptr, loadD_ptr, partD, List.take, List.drop, mkS_toList, nil_toList, mkS_size, hw, hsb.isCell, hsb.val, hsb.cells, hsb.plain, hS.fps] <;> exact rfl) (by simp only [fpHere, opd, List.map_cons, List.map_nil, List.getD_cons_zero, List.getD_cons_succ, zq, hS.fps, hsb.plain, plainV_agg, List.all_cons, List.all_nil, plain1_int, plain1_str, plain1_bool, plain1_nils, Bool.and_true, Bool.and_self, if_true] <;> exact rfl) rfl ?_
 refine dw_quiet (by simp only [zo, faddrD_ptr, faddrD_cptr, zm, mkS_toList, nil_toList, mkS_size, hw, hsb.isCell, hsb.val, hsb.cells, hsb.plain, hS.fps] <;> exact rfl) rfl rfl ?_
 refine dw_quiet (by simp only [zo, faddrD_ptr, faddrD_cptr, zm, mkS_toList, nil_toList, mkS_size, hw, hsb.isCell, hsb.val, hsb.cells, hsb.plain, hS.fps] <;> exact rfl) rfl rfl ?_
 refine dw_op (by simp only [zl, zm, loadD_cptr, loadD_ptr, partD, List.take, List.drop, mkS_toList, nil_toList, mkS_size, hw, hsb.isCell, hsb.val, hsb.cells, hsb.plain, hS.fps] <;> exact rfl) (by simp only [fpHere, opd, List.map_cons, List.map_nil, List.getD_cons_zero, List.getD_cons_succ, zq, hS.fps, hsb.plain, plainV_agg, List.all_cons, List.all_nil, plain1_int, plain1_str, plain1_bool, plain1_nils, Bool.and_true, Bool.and_self, if_true] <;> exact rfl) rfl ?_
 refine dw_quiet (by simp only [zo, binD, eq_self, ne_eq, not_false_eq_true, true_and, Int.reduceEq, ite_true, ite_false, not_true_eq_false, Int.reduceToNat, Int.reduceLT, mkS_toList, nil_toList, mkS_size, hw, hsb.isCell, hsb.val, hsb.cells, hsb.plain, hS.fps] <;> exact rfl) rfl rfl ?_
 refine dw_op (by simp only [opd, zv, exOp, aop, LOp.loud, lop, sliceArgs, if_true, Option.map_some, mkS_toList, nil_toList, mkS_size, hw, hsb.isCell, hsb.val, hsb.cells, hsb.plain, hS.fps, hsl] <;> exact rfl) (by simp only [fpHere, opd, List.map_cons, List.map_nil, List.getD_cons_zero, List.getD_cons_succ, zq, hS.fps, hsb.plain, plainV_agg, List.all_cons, List.all_nil, plain1_int, plain1_str, plain1_bool, plain1_nils, Bool.and_true, Bool.and_self, if_true] <;> exact rfl) rfl ?_
 refine dw_quiet (by simp only [zo, fillD, overlay, zc, List.take, List.drop, Nat.reduceAdd, Nat.reduceLeDiff, Nat.reduceBEq, zm, mkS_toList, nil_toList, mkS_size, hw, hsb.isCell, hsb.val, hsb.cells, hsb.plain, hS.fps] <;> exact rfl) rfl rfl ?_
 refine dw_op (by simp only [zl, zm, storeD, overlay, snapVs, snaps, zs, zc, zf, List.take, List.drop, mkS_toList, nil_toList, mkS_size, hw, hsb.isCell, hsb.val, hsb.cells, hsb.plain, hS.fps] <;> exact rfl) (by simp only [fpHere, opd, List.map_cons, List.map_nil, List.getD_cons_zero, List.getD_cons_succ, zq, hS.fps, hsb.plain, plainV_agg, List.all_cons, List.all_nil, plain1_int, plain1_str, plain1_bool, plain1_nils, Bool.and_true, Bool.and_self, if_true] <;> exact rfl) rfl ?_
 refine dw_nil ?_
 refine sk_n (by simp only [exports, zn, zg] <;> exact rfl) ?_
 refine cw_ret ?_
 refine ⟨_, by simp only [F50, resultD, resDs, resD, List.getD_cons_zero, List.getD_cons_succ, loadD_cptr, loadD_ptr, rowsOf, partD, List.getElem?_cons_zero, List.getElem?_cons_succ, if_true, if_false, Bool.false_eq_true, List.take, List.drop, zm] <;> exact rfl, ?_⟩
 simp only [leaveP, leave, snapVs, snaps, zs, zf, Option.map_some, List.all_cons, List.all_nil, Bool.and_self, Bool.and_true, if_true, if_false, Bool.false_eq_true, List.length_nil, Nat.le_refl, Nat.zero_le, hsb.snapV, hsb.freeV, hsb.snap, hsb.free, hsb.snapR, hsb.freeR]

end Go.Proofs.YtabgobmeibjeeaaGreatDoor

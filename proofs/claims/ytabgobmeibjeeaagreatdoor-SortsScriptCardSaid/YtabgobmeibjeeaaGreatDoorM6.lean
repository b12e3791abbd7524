/- Proved here: parts of the proof, joined (S53, S54, S55): an abstract machine, its soundness, what functions of the program compute in it; no condition. -/
import Derived.Test.YtabgobmeibjeeaaGreatDoorM5
namespace Go.Proofs.YtabgobmeibjeeaaGreatDoor
set_option linter.unusedSimpArgs false
set_option linter.unusedVariables false
set_option maxRecDepth 10000
set_option maxHeartbeats 4000000

/-- a sorter in object 0 -/
def SO (kx lx : D) (b : Bool) : AObj := ⟨80, 4, [[kx, .int .i64 6, lx, .bool b]], 0, 0, false⟩
/-- records as they are kept -/
def rN (m : List RecT) : List (List D) := m.map fun l => [.sl 1 (bR l.1) none]
theorem rN_len (m : List RecT) : (rN m).length = m.length := by simp [rN]
theorem rN_snoc (m : List RecT) (x : RecT) : rN m ++ [[.sl 1 (bR x.1) none]] = rN (m ++ [x]) := by simp [rN]
theorem RowsOf.rN (m : List RecT) : RowsOf m (rN m) := ⟨rN_len m, fun i l h => ⟨none, by simp [Go.Proofs.YtabgobmeibjeeaaGreatDoor.rN, h]⟩⟩
theorem pos_at {H : List AObj} {o : AObj} (h : H[0]? = some o) : ¬ H.length ≤ 0 := by
 have := (List.getElem?_eq_some_iff.1 h).1; omega

theorem cloneK_run {d : Nat} (hd : 1 ≤ d) (S : St) {ks : List Ke} (c : Option Nat) (hne : 0 < ks.length) (h8 : ks.length ≤ 8) : runF LP NN d 42 [.sl 14 (keRows ks) c] S = some (.sl 14 (keRows ks) none, S, false) := by
 have hnil : (0 : Nat) = 0 := rfl
 have happ : appendD 59 14 80 1 (.sl 14 [] (some 0)) (.sl 14 (keRows ks) c) ⟨[], 0⟩ = some (.msl 0 0 0 (keRows ks).length none, ⟨[⟨59, 14, keRows ks, 0, 1, true⟩], 0⟩, true) := by
  have h1 : (keRows ks).isEmpty = false := by cases ks <;> simp [keRows] at hne ⊢
  have h2 : ((keRows ks).length) * 80 ≤ 140737488355328 := by rw [keRows_len]; omega
  simp [appendD, readRows, appendRows, h1, newAt]
  omega
 refine run_pure (F := F42) rfl (by simp only [LP, fnOf, snapVs, snaps, zs, Bool.false_eq_true, if_false, Option.map_some, List.map_cons, List.map_nil] <;> exact rfl) rfl (by simp only [LP, zf, List.all_cons, List.all_nil, Bool.and_true, Bool.true_and]; try rfl) (by simp only [F42, zv] <;> exact rfl) (by omega) ?_
 rintro d rfl
 refine cw_seq (cw_region ?_)
 refine ow_mc ?_
 refine ow_nil ?_
 refine sk_n (by simp only [ze] <;> exact rfl) ?_
 refine cw_seq (cw_seq (cw_region ?_))
 refine ow_me rfl ?_
 refine ow_op (by simp only [zo, eqnilD, happ] <;> exact rfl) ?_
 refine ow_nil ?_
 refine sk_n (by simp only [ze] <;> exact rfl) ?_
 skip
 refine cw_false (by simp only [opd, zv, happ] <;> rfl) ?_
 refine cw_skip (sk_n rfl (cw_seq (cw_region ?_)))
 refine ow_op (by simp only [zl, zm, fillRows, List.replicate, snapVs, snaps, zs, zc, zf, happ] <;> exact rfl) ?_
 refine ow_me rfl ?_
 refine ow_op (by simp only [opd, zv, exOp, aop, LOp.loud, lop, if_true, happ] <;> exact rfl) ?_
 refine ow_ml rfl ?_
 refine ow_nil ?_
 refine sk_n (by simp only [ze] <;> exact rfl) ?_
 refine cw_ret ?_
 refine ⟨_, by simp only [F42, resultD, resDs, resD, List.getD_cons_zero, List.getD_cons_succ, zd, rowsOf, partD, List.getElem?_cons_zero, List.getElem?_cons_succ, if_true, if_false, Bool.false_eq_true, List.take, List.drop, zm] <;> exact rfl, ?_⟩
 exact leaveP_app (by rfl) rfl

theorem none_run {d : Nat} (hd : 1 ≤ d) {H : List AObj} {kx lx : D} {b : Bool} (hH : H[0]? = some (SO kx lx b)) (lo : Nat) : runF LP NN d 43 [.ptr 0 0 0 0] ⟨H, lo⟩ = some (.bool false, ⟨H, lo⟩, false) := by
 refine run_at (F := F43) rfl (by simp only [LP, fnOf, snapVs, snaps, zs, Bool.false_eq_true, if_false, Option.map_some, List.map_cons, List.map_nil] <;> exact rfl) rfl (by simp only [LP, zf, List.all_cons, List.all_nil, Bool.and_true, Bool.true_and]; try rfl) (by simp only [F43, zv] <;> exact rfl) (by omega) ?_
 rintro d rfl
 refine cw_seq (cw_region ?_)
 refine ow_mc ?_
 refine ow_nil ?_
 refine sk_n (by simp only [ze] <;> exact rfl) ?_
 refine cw_seq (cw_region ?_)
 refine ow_me rfl ?_
 refine ow_op (by simp only [zl, zm, eqpD, hH, SO] <;> exact rfl) ?_
 refine ow_ml rfl ?_
 refine ow_know 0 (b := false) (by simp only [opd, zv, hH, SO] <;> rfl) (by simp only [zn] <;> exact rfl) ?_
 refine ow_on (by simp only [opd, zv]) ?_
 refine ow_me rfl ?_
 refine ow_on (by simp only [opd, zv]) ?_
 refine ow_op (by simp only [zo, hH, SO] <;> exact rfl) ?_
 refine ow_on (by simp only [opd, zv]) ?_
 refine ow_op (by simp only [zo, faddrD_ptr, faddrD_cptr, zm, hH, SO] <;> exact rfl) ?_
 refine ow_on (by simp only [opd, zv]) ?_
 refine ow_op (by simp only [zl, zm, zd, partD, List.take, List.drop, hH, SO] <;> exact rfl) ?_
 refine ow_on (by simp only [opd, zv]) ?_
 refine ow_op (by simp only [zo, binD, zb, Int.reduceEq, Int.reduceToNat, Int.reduceLT, hH, SO] <;> exact rfl) ?_
 refine ow_op (by simp only [zo, hH, SO] <;> exact rfl) ?_
 refine ow_ml rfl ?_
 refine ow_nil ?_
 refine sk_n (by simp only [ze] <;> exact rfl) ?_
 refine cw_ret ?_
 refine ⟨_, by simp only [F43, resultD, resDs, resD, List.getD_cons_zero, List.getD_cons_succ, zd, rowsOf, partD, List.getElem?_cons_zero, List.getElem?_cons_succ, if_true, if_false, Bool.false_eq_true, List.take, List.drop, zm] <;> exact rfl, ?_⟩
 simp [leave, LP, snapR, snapV, snap, D.freeR, D.freeV, D.free]

theorem New_run {d : Nat} (hd : 18 ≤ d) {ks : List Ke} (c : Option Nat) (hne : 0 < ks.length) (h8 : ks.length ≤ 8) (hg : ∀ k ∈ ks, GK k) : runF LP NN d 22 [.sl 14 (keRows ks) c, .int .i64 6] ⟨[], 0⟩ = some (.tup [.ptr 0 0 0 0, .int .i64 0], ⟨[SO (.sl 14 (keRows ks) none) .nils false], 0⟩, true) := by
 refine run_at (F := F22) rfl (by simp only [LP, fnOf, snapVs, snaps, zs, Bool.false_eq_true, if_false, Option.map_some, List.map_cons, List.map_nil] <;> exact rfl) rfl (by simp only [LP, zf, List.all_cons, List.all_nil, Bool.and_true, Bool.true_and]; try rfl) (by simp only [F22, zv] <;> exact rfl) (by omega) ?_
 rintro d rfl
 refine cw_seq (cw_region ?_)
 refine ow_mc ?_
 refine ow_mc ?_
 refine ow_nil ?_
 refine sk_n (by simp only [ze] <;> exact rfl) ?_
 refine cw_seq (cw_seq (cw_region ?_))
 refine ow_me rfl ?_
 refine ow_me rfl ?_
 refine ow_op (by simp only [zo]; exact check_run (by omega) _ (.of _ _ _) hne h8 6 (by omega) (by omega) (fun k hk => gk_ok (hg k hk))) ?_
 refine ow_ml rfl ?_
 refine ow_nil ?_
 refine sk_n (by simp only [ze] <;> exact rfl) ?_
 refine cw_seq (cw_region ?_)
 refine ow_me rfl ?_
 refine ow_op (by simp only [zo, binD, zb, Int.reduceEq, Int.reduceToNat, Int.reduceLT] <;> exact rfl) ?_
 refine ow_nil ?_
 refine sk_n (by simp only [ze] <;> exact rfl) ?_
 skip
 refine cw_false (by simp only [opd, zv] <;> rfl) ?_
 refine cw_skip (sk_n rfl (cw_seq (cw_region ?_)))
 refine ow_me rfl ?_
 refine ow_op (by simp only [zo]; exact cloneK_run (by omega) _ _ hne h8) ?_
 refine ow_me rfl ?_
 refine ow_op (by simp only [zo, fillD, overlay, zc, List.take, List.drop, Nat.reduceAdd, Nat.reduceLeDiff, Nat.reduceBEq, zm] <;> exact rfl) ?_
 refine ow_op (by simp only [zl, zm, zc] <;> exact rfl) ?_
 refine ow_ml rfl ?_
 refine ow_mc ?_
 refine ow_nil ?_
 refine sk_n (by simp only [ze] <;> exact rfl) ?_
 refine cw_ret ?_
 refine ⟨_, by simp only [F22, resultD, resDs, resD, List.getD_cons_zero, List.getD_cons_succ, zd, rowsOf, partD, List.getElem?_cons_zero, List.getElem?_cons_succ, if_true, if_false, Bool.false_eq_true, List.take, List.drop, zm] <;> exact rfl, ?_⟩
 rfl

theorem release_begun {d : Nat} (hd : 2 ≤ d) {H : List AObj} {kx lx : D} (hH : H[0]? = some (SO kx lx true)) (lo : Nat) {y : D} {rows : List (List D)} (hY : SlD 1 rows y) : runF LP NN d 23 [.ptr 0 0 0 0, y] ⟨H, lo⟩ = some (.int .i64 6, ⟨H, lo⟩, false) := by
 refine run_at (F := F23) rfl (by simp only [LP, fnOf, snapVs, snaps, zs, Bool.false_eq_true, if_false, Option.map_some, List.map_cons, List.map_nil, hY.snapV, hY.freeV] <;> exact rfl) rfl (by simp only [LP, zf, List.all_cons, List.all_nil, Bool.and_true, Bool.true_and, hY.snapV, hY.freeV]; try rfl) (by simp only [F23, zv] <;> exact rfl) (by omega) ?_
 rintro d rfl
 refine cw_seq (cw_region ?_)
 refine ow_mc ?_
 refine ow_nil ?_
 refine sk_n (by simp only [ze] <;> exact rfl) ?_
 refine cw_seq (cw_block (cw_seq (cw_region ?_)))
 refine ow_me rfl ?_
 refine ow_op (by simp only [zo, hH, SO]; exact none_run (by omega) hH _) ?_
 refine ow_ml rfl ?_
 refine ow_nil ?_
 refine sk_n (by simp only [ze] <;> exact rfl) ?_
 skip
 refine cw_false (by simp only [opd, zv, hH, SO] <;> rfl) ?_
 refine cw_seq (cw_region ?_)
 refine ow_me rfl ?_
 refine ow_op (by simp only [zo, hH, SO] <;> exact rfl) ?_
 refine ow_op (by simp only [zo, faddrD_ptr, faddrD_cptr, zm, hH, SO] <;> exact rfl) ?_
 refine ow_op (by simp only [zl, zm, zd, partD, List.take, List.drop, hH, SO] <;> exact rfl) ?_
 refine ow_ml rfl ?_
 refine ow_nil ?_
 refine sk_n (by simp only [ze] <;> exact rfl) ?_
 skip
 refine cw_true (by simp only [opd, zv, hH, SO] <;> rfl) ?_
 refine cw_seq (cw_region ?_)
 refine ow_mc ?_
 refine ow_nil ?_
 refine sk_n (by simp only [ze] <;> exact rfl) ?_
 refine cw_ret (bk_r (sk_r ?_))
 refine ⟨_, by simp only [F23, resultD, resDs, resD, List.getD_cons_zero, List.getD_cons_succ, zd, rowsOf, partD, List.getElem?_cons_zero, List.getElem?_cons_succ, if_true, if_false, Bool.false_eq_true, List.take, List.drop, zm] <;> exact rfl, ?_⟩
 simp [leave, LP, snapR, snapV, snap, D.freeR, D.freeV, D.free]

theorem valid_width {d : Nat} (hd : 1 ≤ d) (S : St) {x y : D} {ks : List Ke} {rows : List (List D)} (hS : SlD 14 (keRows ks) x) (hR : SlD 1 rows y) (h6 : rows.length ≠ 6) : runF LP NN d 44 [x, .int .i64 6, y] S = some (.int .i64 5, S, false) := by
 have hwd : (((rows.length : Nat) : Int) != 6) = true := by rw [bne_iff_ne]; omega
 refine run_pure (F := F44) rfl (by simp only [LP, fnOf, snapVs, snaps, zs, Bool.false_eq_true, if_false, Option.map_some, List.map_cons, List.map_nil, hS.snapV, hS.freeV, hR.snapV, hR.freeV] <;> exact rfl) rfl (by simp only [LP, zf, List.all_cons, List.all_nil, Bool.and_true, Bool.true_and, hS.snapV, hS.freeV, hR.snapV, hR.freeV]; try rfl) (by simp only [F44, zv] <;> exact rfl) (by omega) ?_
 rintro d rfl
 refine cw_seq (cw_region ?_)
 refine ow_mc ?_
 refine ow_nil ?_
 refine sk_n (by simp only [ze] <;> exact rfl) ?_
 refine cw_seq (cw_seq (cw_region ?_))
 refine ow_me rfl ?_
 refine ow_op (by simp only [zo, lenD_str, lenD_nils, lenD_sl, lenD_msl, hR.len, hwd, bne_self_eq_false] <;> exact rfl) ?_
 refine ow_me rfl ?_
 refine ow_op (by simp only [zo, binD, zb, Int.reduceEq, Int.reduceToNat, Int.reduceLT, hR.len, hwd, bne_self_eq_false] <;> exact rfl) ?_
 refine ow_nil ?_
 refine sk_n (by simp only [ze] <;> exact rfl) ?_
 skip
 refine cw_true (by simp only [opd, zv, hR.len, hwd, bne_self_eq_false] <;> rfl) ?_
 refine cw_seq (cw_region ?_)
 refine ow_mc ?_
 refine ow_nil ?_
 refine sk_n (by simp only [ze] <;> exact rfl) ?_
 refine cw_ret (sk_r ?_)
 refine ⟨_, by simp only [F44, resultD, resDs, resD, List.getD_cons_zero, List.getD_cons_succ, zd, rowsOf, partD, List.getElem?_cons_zero, List.getElem?_cons_succ, if_true, if_false, Bool.false_eq_true, List.take, List.drop, zm] <;> exact rfl, ?_⟩
 simp only [leaveP, leave, snapVs, snaps, zs, zf, zk]

theorem release_width {d : Nat} (hd : 2 ≤ d) {H : List AObj} {kx lx : D} {ks : List Ke} (hX : SlD 14 (keRows ks) kx) (hH : H[0]? = some (SO kx lx false)) (lo : Nat) {y : D} {rows : List (List D)} (hY : SlD 1 rows y) (h6 : rows.length ≠ 6) : runF LP NN d 23 [.ptr 0 0 0 0, y] ⟨H, lo⟩ = some (.int .i64 5, ⟨H, lo⟩, false) := by
 refine run_at (F := F23) rfl (by simp only [LP, fnOf, snapVs, snaps, zs, Bool.false_eq_true, if_false, Option.map_some, List.map_cons, List.map_nil, hY.snapV, hY.freeV] <;> exact rfl) rfl (by simp only [LP, zf, List.all_cons, List.all_nil, Bool.and_true, Bool.true_and, hY.snapV, hY.freeV]; try rfl) (by simp only [F23, zv] <;> exact rfl) (by omega) ?_
 rintro d rfl
 refine cw_seq (cw_region ?_)
 refine ow_mc ?_
 refine ow_nil ?_
 refine sk_n (by simp only [ze] <;> exact rfl) ?_
 refine cw_seq (cw_block (cw_seq (cw_region ?_)))
 refine ow_me rfl ?_
 refine ow_op (by simp only [zo, hH, SO, hX.isCell, hX.val, hX.cells]; exact none_run (by omega) hH _) ?_
 refine ow_ml rfl ?_
 refine ow_nil ?_
 refine sk_n (by simp only [ze] <;> exact rfl) ?_
 skip
 refine cw_false (by simp only [opd, zv, hH, SO, hX.isCell, hX.val, hX.cells] <;> rfl) ?_
 refine cw_seq (cw_region ?_)
 refine ow_me rfl ?_
 refine ow_op (by simp only [zo, hH, SO, hX.isCell, hX.val, hX.cells] <;> exact rfl) ?_
 refine ow_op (by simp only [zo, faddrD_ptr, faddrD_cptr, zm, hH, SO, hX.isCell, hX.val, hX.cells] <;> exact rfl) ?_
 refine ow_op (by simp only [zl, zm, zd, partD, List.take, List.drop, hH, SO, hX.isCell, hX.val, hX.cells] <;> exact rfl) ?_
 refine ow_ml rfl ?_
 refine ow_nil ?_
 refine sk_n (by simp only [ze] <;> exact rfl) ?_
 skip
 refine cw_false (by simp only [opd, zv, hH, SO, hX.isCell, hX.val, hX.cells] <;> rfl) ?_
 refine cw_skip (bk_n (sk_n rfl (cw_seq (cw_seq ?_))))
 refine cw_drawn (by simp only [newsVals, zw, Nat.reduceAdd] <;> exact rfl) (by simp only [zw, newsObj, St.eta] <;> exact rfl) ?_
 refine dw_me rfl rfl ?_
 refine dw_quiet (by simp only [zo, hH, SO, hX.isCell, hX.val, hX.cells] <;> exact rfl) rfl rfl ?_
 refine dw_quiet (by simp only [zo, faddrD_ptr, faddrD_cptr, zm, hH, SO, hX.isCell, hX.val, hX.cells] <;> exact rfl) rfl rfl ?_
 refine dw_op (by simp only [zl, zm, zd, partD, List.take, List.drop, hH, SO, hX.isCell, hX.val, hX.cells] <;> exact rfl) (by simp only [fpHere, zo, zq, hX.plainV, hY.plainV] <;> exact rfl) rfl ?_
 refine dw_me rfl rfl ?_
 refine dw_quiet (by simp only [zo, hH, SO, hX.isCell, hX.val, hX.cells] <;> exact rfl) rfl rfl ?_
 refine dw_quiet (by simp only [zo, faddrD_ptr, faddrD_cptr, zm, hH, SO, hX.isCell, hX.val, hX.cells] <;> exact rfl) rfl rfl ?_
 refine dw_op (by simp only [zl, zm, zd, partD, List.take, List.drop, hH, SO, hX.isCell, hX.val, hX.cells] <;> exact rfl) (by simp only [fpHere, zo, zq, hX.plainV, hY.plainV] <;> exact rfl) rfl ?_
 refine dw_me rfl rfl ?_
 refine dw_op (by simp only [zo, hH, SO, hX.isCell, hX.val, hX.cells]; exact valid_width (by omega) _ hX hY h6) (by simp only [fpHere, zo, zq, hX.plainV, hY.plainV] <;> exact rfl) rfl ?_
 refine dw_ml rfl rfl ?_
 refine dw_nil ?_
 refine sk_n (by simp only [ze] <;> exact rfl) ?_
 refine cw_seq (cw_region ?_)
 refine ow_me rfl ?_
 refine ow_op (by simp only [zo, binD, zb, Int.reduceEq, Int.reduceToNat, Int.reduceLT, hH, SO, hX.isCell, hX.val, hX.cells] <;> exact rfl) ?_
 refine ow_nil ?_
 refine sk_n (by simp only [ze] <;> exact rfl) ?_
 skip
 refine cw_true (by simp only [opd, zv, hH, SO, hX.isCell, hX.val, hX.cells] <;> rfl) ?_
 refine cw_seq (cw_region ?_)
 refine ow_me rfl ?_
 refine ow_ml rfl ?_
 refine ow_nil ?_
 refine sk_n (by simp only [ze] <;> exact rfl) ?_
 refine cw_ret (sk_r ?_)
 refine ⟨_, by simp only [F23, resultD, resDs, resD, List.getD_cons_zero, List.getD_cons_succ, zd, rowsOf, partD, List.getElem?_cons_zero, List.getElem?_cons_succ, if_true, if_false, Bool.false_eq_true, List.take, List.drop, zm] <;> exact rfl, ?_⟩
 simp [leave, LP, snapR, snapV, snap, D.freeR, D.freeV, D.free]

theorem release_at {d : Nat} (hd : 20 ≤ d) {H H1 : List AObj} {lx : D} {ks : List Ke} {kx : D} (hX : SlD 14 (keRows ks) kx) (h8 : ks.length ≤ 8) (hg : ∀ k ∈ ks, GK k) (hH : H[0]? = some (SO kx lx false)) (hH1 : H1[0]? = some (SO kx lx false)) {n q v n' : Nat} {lo1 : Nat} (hlen : lenD false lx = some (.int .i64 (n : Nat))) (hn : n ≤ 1000) (r : RecT) (hap : ∀ c : CallF, exOp c (.append 43 1 24 1) [lx, .sl 1 [[.sl 1 (bR r.1) none]] (some 1)] ⟨H, H.length⟩ = some (.msl q v 0 n' none, ⟨H1, lo1⟩, true)) : runF LP NN d 23 [.ptr 0 0 0 0, recD r.1] ⟨H, 0⟩ = some (.int .i64 0, ⟨H1.set 0 (SO kx (.msl q v 0 n' none) false), 0⟩, true) := by
 have hpos := pos_at hH
 have hr6 := r.2.1
 have hr0 : r.1 ≠ [] := by intro h; rw [h] at hr6; simp at hr6
 have hge : decide (((n : Nat) : Int) ≥ 65536) = false := decide_eq_false (by omega)
 refine run_at (F := F23) rfl (by simp only [LP, fnOf, snapVs, snaps, zs, Bool.false_eq_true, if_false, Option.map_some, List.map_cons, List.map_nil, snapV_recD, freeV_recD] <;> exact rfl) rfl (by simp only [LP, zf, List.all_cons, List.all_nil, Bool.and_true, Bool.true_and, snapV_recD, freeV_recD]; try rfl) (by simp only [F23, zv] <;> exact rfl) (by omega) ?_
 rintro d rfl
 refine cw_seq (cw_region ?_)
 refine ow_mc ?_
 refine ow_nil ?_
 refine sk_n (by simp only [ze] <;> exact rfl) ?_
 refine cw_seq (cw_block (cw_seq (cw_region ?_)))
 refine ow_me rfl ?_
 refine ow_op (by simp only [zo, hH, hH1, SO, hlen, hge]; exact none_run (by omega) hH _) ?_
 refine ow_ml rfl ?_
 refine ow_nil ?_
 refine sk_n (by simp only [ze] <;> exact rfl) ?_
 skip
 refine cw_false (by simp only [opd, zv, hH, hH1, SO, hlen, hge] <;> rfl) ?_
 refine cw_seq (cw_region ?_)
 refine ow_me rfl ?_
 refine ow_op (by simp only [zo, hH, hH1, SO, hlen, hge] <;> exact rfl) ?_
 refine ow_op (by simp only [zo, faddrD_ptr, faddrD_cptr, zm, hH, hH1, SO, hlen, hge] <;> exact rfl) ?_
 refine ow_op (by simp only [zl, zm, zd, partD, List.take, List.drop, hH, hH1, SO, hlen, hge] <;> exact rfl) ?_
 refine ow_ml rfl ?_
 refine ow_nil ?_
 refine sk_n (by simp only [ze] <;> exact rfl) ?_
 skip
 refine cw_false (by simp only [opd, zv, hH, hH1, SO, hlen, hge] <;> rfl) ?_
 refine cw_skip (bk_n (sk_n rfl (cw_seq (cw_seq ?_))))
 refine cw_drawn (by simp only [newsVals, zw, Nat.reduceAdd] <;> exact rfl) (by simp only [zw, newsObj, St.eta] <;> exact rfl) ?_
 refine dw_me rfl rfl ?_
 refine dw_quiet (by simp only [zo, hH, hH1, SO, hlen, hge] <;> exact rfl) rfl rfl ?_
 refine dw_quiet (by simp only [zo, faddrD_ptr, faddrD_cptr, zm, hH, hH1, SO, hlen, hge] <;> exact rfl) rfl rfl ?_
 refine dw_op (by simp only [zl, zm, zd, partD, List.take, List.drop, hH, hH1, SO, hlen, hge] <;> exact rfl) (by simp only [fpHere, zo, zq] <;> exact rfl) rfl ?_
 refine dw_me rfl rfl ?_
 refine dw_quiet (by simp only [zo, hH, hH1, SO, hlen, hge] <;> exact rfl) rfl rfl ?_
 refine dw_quiet (by simp only [zo, faddrD_ptr, faddrD_cptr, zm, hH, hH1, SO, hlen, hge] <;> exact rfl) rfl rfl ?_
 refine dw_op (by simp only [zl, zm, zd, partD, List.take, List.drop, hH, hH1, SO, hlen, hge] <;> exact rfl) (by simp only [fpHere, zo, zq] <;> exact rfl) rfl ?_
 refine dw_me rfl rfl ?_
 refine dw_op (by simp only [zo, hH, hH1, SO, hlen, hge]; exact validR_run (by omega) _ hX (recD_S _) h8 hg r.2) (by simp only [fpHere, zo, zq] <;> exact rfl) rfl ?_
 refine dw_ml rfl rfl ?_
 refine dw_nil ?_
 refine sk_n (by simp only [ze] <;> exact rfl) ?_
 refine cw_seq (cw_region ?_)
 refine ow_me rfl ?_
 refine ow_op (by simp only [zo, binD, zb, Int.reduceEq, Int.reduceToNat, Int.reduceLT, hH, hH1, SO, hlen, hge] <;> exact rfl) ?_
 refine ow_nil ?_
 refine sk_n (by simp only [ze] <;> exact rfl) ?_
 skip
 refine cw_false (by simp only [opd, zv, hH, hH1, SO, hlen, hge] <;> rfl) ?_
 refine cw_skip (sk_n rfl (cw_seq (cw_seq (cw_region ?_))))
 refine ow_me rfl ?_
 refine ow_op (by simp only [zo, hH, hH1, SO, hlen, hge] <;> exact rfl) ?_
 refine ow_op (by simp only [zo, faddrD_ptr, faddrD_cptr, zm, hH, hH1, SO, hlen, hge] <;> exact rfl) ?_
 refine ow_op (by simp only [zl, zm, zd, partD, List.take, List.drop, hH, hH1, SO, hlen, hge] <;> exact rfl) ?_
 refine ow_op (by simp only [zo, lenD_str, lenD_nils, lenD_sl, lenD_msl, hH, hH1, SO, hlen, hge] <;> exact rfl) ?_
 refine ow_op (by simp only [zo, binD, zb, Int.reduceEq, Int.reduceToNat, Int.reduceLT, hH, hH1, SO, hlen, hge] <;> exact rfl) ?_
 refine ow_nil ?_
 refine sk_n (by simp only [ze] <;> exact rfl) ?_
 skip
 refine cw_false (by simp only [opd, zv, hH, hH1, SO, hlen, hge] <;> rfl) ?_
 refine cw_skip (sk_n rfl (cw_seq ?_))
 refine cw_drawn (by simp only [newsVals, zw, Nat.reduceAdd] <;> exact rfl) (by simp only [zw, newsObj, St.eta] <;> exact rfl) ?_
 refine dw_me rfl rfl ?_
 refine dw_me rfl rfl ?_
 refine dw_quiet (by simp only [zo, hH, hH1, SO, hlen, hge] <;> exact rfl) rfl rfl ?_
 refine dw_quiet (by simp only [zo, faddrD_ptr, faddrD_cptr, zm, hH, hH1, SO, hlen, hge] <;> exact rfl) rfl rfl ?_
 refine dw_op (by simp only [zl, zm, zd, partD, List.take, List.drop, hH, hH1, SO, hlen, hge] <;> exact rfl) (by simp only [fpHere, zo, zq] <;> exact rfl) rfl ?_
 refine dw_me rfl rfl ?_
 refine dw_op (by simp only [zo, hH, hH1, SO, hlen, hge]; exact clone_run (by omega) _ r.1 _ hr0 (by omega)) (by simp only [fpHere, zo, zq] <;> exact rfl) rfl ?_
 refine dw_op (by simp only [zl, zm, fillRows, List.replicate, snapVs, snaps, zs, zc, zf, hH, hH1, SO, hlen, hge] <;> exact rfl) (by simp only [fpHere, zo, zq] <;> exact rfl) rfl ?_
 refine dw_op (by simp only [opd, zv]; exact hap _) (by simp only [fpHere, zo, zq] <;> exact rfl) rfl ?_
 refine dw_quiet (by simp only [zo, hH, hH1, SO, hlen, hge] <;> exact rfl) rfl rfl ?_
 refine dw_quiet (by simp only [zo, faddrD_ptr, faddrD_cptr, zm, hH, hH1, SO, hlen, hge] <;> exact rfl) rfl rfl ?_
 refine dw_op (by simp only [zl, zm, storeD, overlay, snapVs, snaps, zs, zc, zf, List.take, List.drop, hH, hH1, SO, hlen, hge] <;> exact rfl) (by simp only [fpHere, zo, zq] <;> exact rfl) rfl ?_
 refine dw_nil ?_
 refine sk_n (by simp only [ze] <;> exact rfl) ?_
 refine cw_seq (cw_region ?_)
 refine ow_mc ?_
 refine ow_nil ?_
 refine sk_n (by simp only [ze] <;> exact rfl) ?_
 refine cw_ret ?_
 refine ⟨_, by simp only [F23, resultD, resDs, resD, List.getD_cons_zero, List.getD_cons_succ, zd, rowsOf, partD, List.getElem?_cons_zero, List.getElem?_cons_succ, if_true, if_false, Bool.false_eq_true, List.take, List.drop, zm] <;> exact rfl, ?_⟩
 simp [leave, LP, snapR, snapV, snap, D.freeR, D.freeV, D.free, hpos, SO]

theorem begin_begun {d : Nat} (hd : 2 ≤ d) {H : List AObj} {kx lx : D} (hH : H[0]? = some (SO kx lx true)) (lo : Nat) : runF LP NN d 24 [.ptr 0 0 0 0] ⟨H, lo⟩ = some (.int .i64 6, ⟨H, lo⟩, false) := by
 refine run_at (F := F24) rfl (by simp only [LP, fnOf, snapVs, snaps, zs, Bool.false_eq_true, if_false, Option.map_some, List.map_cons, List.map_nil] <;> exact rfl) rfl (by simp only [LP, zf, List.all_cons, List.all_nil, Bool.and_true, Bool.true_and]; try rfl) (by simp only [F24, zv] <;> exact rfl) (by omega) ?_
 rintro d rfl
 refine cw_seq (cw_region ?_)
 refine ow_mc ?_
 refine ow_nil ?_
 refine sk_n (by simp only [ze] <;> exact rfl) ?_
 refine cw_seq (cw_block (cw_seq (cw_region ?_)))
 refine ow_me rfl ?_
 refine ow_op (by simp only [zo, hH, SO]; exact none_run (by omega) hH _) ?_
 refine ow_ml rfl ?_
 refine ow_nil ?_
 refine sk_n (by simp only [ze] <;> exact rfl) ?_
 skip
 refine cw_false (by simp only [opd, zv, hH, SO] <;> rfl) ?_
 refine cw_seq (cw_region ?_)
 refine ow_me rfl ?_
 refine ow_op (by simp only [zo, hH, SO] <;> exact rfl) ?_
 refine ow_op (by simp only [zo, faddrD_ptr, faddrD_cptr, zm, hH, SO] <;> exact rfl) ?_
 refine ow_op (by simp only [zl, zm, zd, partD, List.take, List.drop, hH, SO] <;> exact rfl) ?_
 refine ow_ml rfl ?_
 refine ow_nil ?_
 refine sk_n (by simp only [ze] <;> exact rfl) ?_
 skip
 refine cw_true (by simp only [opd, zv, hH, SO] <;> rfl) ?_
 refine cw_seq (cw_region ?_)
 refine ow_mc ?_
 refine ow_nil ?_
 refine sk_n (by simp only [ze] <;> exact rfl) ?_
 refine cw_ret (bk_r (sk_r ?_))
 refine ⟨_, by simp only [F24, resultD, resDs, resD, List.getD_cons_zero, List.getD_cons_succ, zd, rowsOf, partD, List.getElem?_cons_zero, List.getElem?_cons_succ, if_true, if_false, Bool.false_eq_true, List.take, List.drop, zm] <;> exact rfl, ?_⟩
 simp [leave, LP, snapR, snapV, snap, D.freeR, D.freeV, D.free]

theorem begin_run {d : Nat} {H : List AObj} {lx : D} {m : List RecT} (hd : 22 + m.length ≤ d) {ks : List Ke} {kx : D} (hX : SlD 14 (keRows ks) kx) (h8 : ks.length ≤ 8) (hg : ∀ k ∈ ks, GK k) (hH : H[0]? = some (SO kx lx false)) (hA : AppAt 43 1 (rN m) H lx) (hA2 : AppAt 43 1 (rN m) (H.set 0 (SO kx lx true)) lx) (hn : m.length ≤ 1000) : runF LP NN d 24 [.ptr 0 0 0 0] ⟨H, 0⟩ = some (.int .i64 0, ⟨H.set 0 (SO kx (.sl 1 (rR (srt ks m)) (some m.length)) true), 0⟩, true) := by
 have hpos := pos_at hH
 have hH2 : (H.set 0 ⟨80, 4, [[kx, .int .i64 6, lx, .bool true]], 0, 0, false⟩)[0]? = some (SO kx lx true) := get_set_self hH _
 have hsa := fun (k : Nat) => (show snapVs k (H.set 0 (SO kx lx true)) [kx, lx] = some [kx, appY 1 (rN m)] by simp [snapVs, hX.snapV, hA2.snapV])
 have hsb := fun (k : Nat) => (show snapVs k (H.set 0 (SO kx lx true)) [kx, appY 1 (rN m)] = some [kx, appY 1 (rN m)] by simp [snapVs, hX.snapV, (appY_S 1 (rN m)).snapV])
 refine run_at (F := F24) rfl (by simp only [LP, fnOf, snapVs, snaps, zs, Bool.false_eq_true, if_false, Option.map_some, List.map_cons, List.map_nil] <;> exact rfl) rfl (by simp only [LP, zf, List.all_cons, List.all_nil, Bool.and_true, Bool.true_and]; try rfl) (by simp only [F24, zv] <;> exact rfl) (by omega) ?_
 rintro d rfl
 refine cw_seq (cw_region ?_)
 refine ow_mc ?_
 refine ow_nil ?_
 refine sk_n (by simp only [ze] <;> exact rfl) ?_
 refine cw_seq (cw_block (cw_seq (cw_region ?_)))
 refine ow_me rfl ?_
 refine ow_op (by simp only [zo, hH, hH2, SO]; exact none_run (by omega) hH _) ?_
 refine ow_ml rfl ?_
 refine ow_nil ?_
 refine sk_n (by simp only [ze] <;> exact rfl) ?_
 skip
 refine cw_false (by simp only [opd, zv, hH, hH2, SO] <;> rfl) ?_
 refine cw_seq (cw_region ?_)
 refine ow_me rfl ?_
 refine ow_op (by simp only [zo, hH, hH2, SO] <;> exact rfl) ?_
 refine ow_op (by simp only [zo, faddrD_ptr, faddrD_cptr, zm, hH, hH2, SO] <;> exact rfl) ?_
 refine ow_op (by simp only [zl, zm, zd, partD, List.take, List.drop, hH, hH2, SO] <;> exact rfl) ?_
 refine ow_ml rfl ?_
 refine ow_nil ?_
 refine sk_n (by simp only [ze] <;> exact rfl) ?_
 skip
 refine cw_false (by simp only [opd, zv, hH, hH2, SO] <;> rfl) ?_
 refine cw_skip (bk_n (sk_n rfl (cw_seq (cw_region ?_))))
 refine ow_me rfl ?_
 refine ow_op (by simp only [zo, hH, hH2, SO] <;> exact rfl) ?_
 refine ow_op (by simp only [zo, faddrD_ptr, faddrD_cptr, zm, hH, hH2, SO] <;> exact rfl) ?_
 refine ow_op (by simp only [zl, zm, storeD, overlay, snapVs, snaps, zs, zc, zf, List.take, List.drop, hH, hH2, SO] <;> exact rfl) ?_
 refine ow_nil ?_
 refine sk_n (by simp only [ze] <;> exact rfl) ?_
 refine cw_seq ?_
 refine cw_drawn (by simp only [newsVals, zw, Nat.reduceAdd] <;> exact rfl) (by simp only [zw, newsObj, St.eta] <;> exact rfl) ?_
 refine dw_me rfl rfl ?_
 refine dw_me rfl rfl ?_
 refine dw_quiet (by simp only [zo, hH, hH2, SO] <;> exact rfl) rfl rfl ?_
 refine dw_quiet (by simp only [zo, faddrD_ptr, faddrD_cptr, zm, hH, hH2, SO] <;> exact rfl) rfl rfl ?_
 refine dw_op (by simp only [zl, zm, zd, partD, List.take, List.drop, hH, hH2, SO] <;> exact rfl) (by simp only [fpHere, zo, zq] <;> exact rfl) rfl ?_
 refine dw_me rfl rfl ?_
 refine dw_quiet (by simp only [zo, hH, hH2, SO] <;> exact rfl) rfl rfl ?_
 refine dw_quiet (by simp only [zo, faddrD_ptr, faddrD_cptr, zm, hH, hH2, SO] <;> exact rfl) rfl rfl ?_
 refine dw_op (by simp only [zl, zm, zd, partD, List.take, List.drop, hH, hH2, SO] <;> exact rfl) (by simp only [fpHere, zo, zq] <;> exact rfl) rfl ?_
 refine dw_op (by simp only [zo, hH, hH2, SO]; exact (run_snap rfl (hsa _) (hsb _)).trans (sortedF_run _ m (by omega) hX (appY_S _ _) (.rN m) h8 hg (by omega))) (by simp only [fpHere, zo, zq] <;> exact rfl) rfl ?_
 refine dw_quiet (by simp only [zo, hH, hH2, SO] <;> exact rfl) rfl rfl ?_
 refine dw_quiet (by simp only [zo, faddrD_ptr, faddrD_cptr, zm, hH, hH2, SO] <;> exact rfl) rfl rfl ?_
 refine dw_op (by simp only [zl, zm, storeD, overlay, snapVs, snaps, zs, zc, zf, List.take, List.drop, hH, hH2, SO] <;> exact rfl) (by simp only [fpHere, zo, zq] <;> exact rfl) rfl ?_
 refine dw_nil ?_
 refine sk_n (by simp only [ze] <;> exact rfl) ?_
 refine cw_seq (cw_region ?_)
 refine ow_mc ?_
 refine ow_nil ?_
 refine sk_n (by simp only [ze] <;> exact rfl) ?_
 refine cw_ret ?_
 refine ⟨_, by simp only [F24, resultD, resDs, resD, List.getD_cons_zero, List.getD_cons_succ, zd, rowsOf, partD, List.getElem?_cons_zero, List.getElem?_cons_succ, if_true, if_false, Bool.false_eq_true, List.take, List.drop, zm] <;> exact rfl, ?_⟩
 simp [leave, LP, snapR, snapV, snap, D.freeR, D.freeV, D.free, hpos, SO]

theorem return_wait {d : Nat} (hd : 2 ≤ d) {H : List AObj} {kx lx : D} (hH : H[0]? = some (SO kx lx false)) (lo : Nat) : runF LP NN d 25 [.ptr 0 0 0 0] ⟨H, lo⟩ = some (.tup [.nils, .bool false, .int .i64 6], ⟨H, lo⟩, false) := by
 refine run_at (F := F25) rfl (by simp only [LP, fnOf, snapVs, snaps, zs, Bool.false_eq_true, if_false, Option.map_some, List.map_cons, List.map_nil] <;> exact rfl) rfl (by simp only [LP, zf, List.all_cons, List.all_nil, Bool.and_true, Bool.true_and]; try rfl) (by simp only [F25, zv] <;> exact rfl) (by omega) ?_
 rintro d rfl
 refine cw_seq (cw_region ?_)
 refine ow_mc ?_
 refine ow_mc ?_
 refine ow_mc ?_
 refine ow_nil ?_
 refine sk_n (by simp only [ze] <;> exact rfl) ?_
 refine cw_seq (cw_block (cw_seq (cw_region ?_)))
 refine ow_me rfl ?_
 refine ow_op (by simp only [zo, hH, SO]; exact none_run (by omega) hH _) ?_
 refine ow_ml rfl ?_
 refine ow_nil ?_
 refine sk_n (by simp only [ze] <;> exact rfl) ?_
 skip
 refine cw_false (by simp only [opd, zv, hH, SO] <;> rfl) ?_
 refine cw_seq (cw_region ?_)
 refine ow_me rfl ?_
 refine ow_op (by simp only [zo, hH, SO] <;> exact rfl) ?_
 refine ow_op (by simp only [zo, faddrD_ptr, faddrD_cptr, zm, hH, SO] <;> exact rfl) ?_
 refine ow_op (by simp only [zl, zm, zd, partD, List.take, List.drop, hH, SO] <;> exact rfl) ?_
 refine ow_op (by simp only [zo, unD, hH, SO] <;> exact rfl) ?_
 refine ow_ml rfl ?_
 refine ow_nil ?_
 refine sk_n (by simp only [ze] <;> exact rfl) ?_
 skip
 refine cw_true (by simp only [opd, zv, hH, SO] <;> rfl) ?_
 refine cw_seq (cw_region ?_)
 refine ow_mc ?_
 refine ow_mc ?_
 refine ow_mc ?_
 refine ow_nil ?_
 refine sk_n (by simp only [ze] <;> exact rfl) ?_
 refine cw_ret (bk_r (sk_r ?_))
 refine ⟨_, by simp only [F25, resultD, resDs, resD, List.getD_cons_zero, List.getD_cons_succ, zd, rowsOf, partD, List.getElem?_cons_zero, List.getElem?_cons_succ, if_true, if_false, Bool.false_eq_true, List.take, List.drop, zm] <;> exact rfl, ?_⟩
 simp [leave, LP, snapR, snapV, snap, D.freeR, D.freeV, D.free, snapVs]

theorem return_none {d : Nat} (hd : 2 ≤ d) {H : List AObj} {kx lx : D} (hH : H[0]? = some (SO kx lx true)) (lo : Nat) (hL : SlD 1 [] lx) : runF LP NN d 25 [.ptr 0 0 0 0] ⟨H, lo⟩ = some (.tup [.nils, .bool false, .int .i64 0], ⟨H, lo⟩, false) := by
 have e0 : ((([] : List (List D)).length : Nat) : Int) == 0 := by simp
 refine run_at (F := F25) rfl (by simp only [LP, fnOf, snapVs, snaps, zs, Bool.false_eq_true, if_false, Option.map_some, List.map_cons, List.map_nil] <;> exact rfl) rfl (by simp only [LP, zf, List.all_cons, List.all_nil, Bool.and_true, Bool.true_and]; try rfl) (by simp only [F25, zv] <;> exact rfl) (by omega) ?_
 rintro d rfl
 refine cw_seq (cw_region ?_)
 refine ow_mc ?_
 refine ow_mc ?_
 refine ow_mc ?_
 refine ow_nil ?_
 refine sk_n (by simp only [ze] <;> exact rfl) ?_
 refine cw_seq (cw_block (cw_seq (cw_region ?_)))
 refine ow_me rfl ?_
 refine ow_op (by simp only [zo, hH, SO, hL.len, e0]; exact none_run (by omega) hH _) ?_
 refine ow_ml rfl ?_
 refine ow_nil ?_
 refine sk_n (by simp only [ze] <;> exact rfl) ?_
 skip
 refine cw_false (by simp only [opd, zv, hH, SO, hL.len, e0] <;> rfl) ?_
 refine cw_seq (cw_region ?_)
 refine ow_me rfl ?_
 refine ow_op (by simp only [zo, hH, SO, hL.len, e0] <;> exact rfl) ?_
 refine ow_op (by simp only [zo, faddrD_ptr, faddrD_cptr, zm, hH, SO, hL.len, e0] <;> exact rfl) ?_
 refine ow_op (by simp only [zl, zm, zd, partD, List.take, List.drop, hH, SO, hL.len, e0] <;> exact rfl) ?_
 refine ow_op (by simp only [zo, unD, hH, SO, hL.len, e0] <;> exact rfl) ?_
 refine ow_ml rfl ?_
 refine ow_nil ?_
 refine sk_n (by simp only [ze] <;> exact rfl) ?_
 skip
 refine cw_false (by simp only [opd, zv, hH, SO, hL.len, e0] <;> rfl) ?_
 refine cw_seq (cw_region ?_)
 refine ow_me rfl ?_
 refine ow_op (by simp only [zo, hH, SO, hL.len, e0] <;> exact rfl) ?_
 refine ow_op (by simp only [zo, faddrD_ptr, faddrD_cptr, zm, hH, SO, hL.len, e0] <;> exact rfl) ?_
 refine ow_op (by simp only [zl, zm, zd, partD, List.take, List.drop, hH, SO, hL.len, e0] <;> exact rfl) ?_
 refine ow_op (by simp only [zo, lenD_str, lenD_nils, lenD_sl, lenD_msl, hH, SO, hL.len, e0] <;> exact rfl) ?_
 refine ow_op (by simp only [zo, binD, zb, Int.reduceEq, Int.reduceToNat, Int.reduceLT, hH, SO, hL.len, e0] <;> exact rfl) ?_
 refine ow_ml rfl ?_
 refine ow_nil ?_
 refine sk_n (by simp only [ze] <;> exact rfl) ?_
 skip
 refine cw_true (by simp only [opd, zv, hH, SO, hL.len, e0] <;> rfl) ?_
 refine cw_seq (cw_region ?_)
 refine ow_mc ?_
 refine ow_mc ?_
 refine ow_mc ?_
 refine ow_nil ?_
 refine sk_n (by simp only [ze] <;> exact rfl) ?_
 refine cw_ret (bk_r (sk_r ?_))
 refine ⟨_, by simp only [F25, resultD, resDs, resD, List.getD_cons_zero, List.getD_cons_succ, zd, rowsOf, partD, List.getElem?_cons_zero, List.getElem?_cons_succ, if_true, if_false, Bool.false_eq_true, List.take, List.drop, zm] <;> exact rfl, ?_⟩
 simp [leave, LP, snapR, snapV, snap, D.freeR, D.freeV, D.free, snapVs]

theorem return_one {d : Nat} (hd : 2 ≤ d) {H : List AObj} {kx lx : D} (hH : H[0]? = some (SO kx lx true)) {x : RecT} {m : List RecT} (hL : SlD 1 (rR (x :: m)) lx) : runF LP NN d 25 [.ptr 0 0 0 0] ⟨H, 0⟩ = some (.tup [recD x.1, .bool true, .int .i64 0], ⟨H.set 0 (SO kx (dropD 1 lx) true), 0⟩, true) := by
 have hpos := pos_at hH
 have hne : ((((rR (x :: m)).length : Nat) : Int) == 0) = false := by rw [beq_eq_false_iff_ne]; simp [rR]; omega
 have hia := fun (S : St) => hL.iaddr S .i64 (i := 0) (r := [recD x.1]) (by omega) rfl
 have hsl := fun (S : St) => hL.slice_1 S (by simp [rR])
 have hD := hL.drop 1
 refine run_at (F := F25) rfl (by simp only [LP, fnOf, snapVs, snaps, zs, Bool.false_eq_true, if_false, Option.map_some, List.map_cons, List.map_nil] <;> exact rfl) rfl (by simp only [LP, zf, List.all_cons, List.all_nil, Bool.and_true, Bool.true_and]; try rfl) (by simp only [F25, zv] <;> exact rfl) (by omega) ?_
 rintro d rfl
 refine cw_seq (cw_region ?_)
 refine ow_mc ?_
 refine ow_mc ?_
 refine ow_mc ?_
 refine ow_nil ?_
 refine sk_n (by simp only [ze] <;> exact rfl) ?_
 refine cw_seq (cw_block (cw_seq (cw_region ?_)))
 refine ow_me rfl ?_
 refine ow_op (by simp only [zo, hH, SO, hL.len, hne, hia, hsl, hD.isCell, hD.val, hD.cells]; exact none_run (by omega) hH _) ?_
 refine ow_ml rfl ?_
 refine ow_nil ?_
 refine sk_n (by simp only [ze] <;> exact rfl) ?_
 skip
 refine cw_false (by simp only [opd, zv, hH, SO, hL.len, hne, hia, hsl, hD.isCell, hD.val, hD.cells] <;> rfl) ?_
 refine cw_seq (cw_region ?_)
 refine ow_me rfl ?_
 refine ow_op (by simp only [zo, hH, SO, hL.len, hne, hia, hsl, hD.isCell, hD.val, hD.cells] <;> exact rfl) ?_
 refine ow_op (by simp only [zo, faddrD_ptr, faddrD_cptr, zm, hH, SO, hL.len, hne, hia, hsl, hD.isCell, hD.val, hD.cells] <;> exact rfl) ?_
 refine ow_op (by simp only [zl, zm, zd, partD, List.take, List.drop, hH, SO, hL.len, hne, hia, hsl, hD.isCell, hD.val, hD.cells] <;> exact rfl) ?_
 refine ow_op (by simp only [zo, unD, hH, SO, hL.len, hne, hia, hsl, hD.isCell, hD.val, hD.cells] <;> exact rfl) ?_
 refine ow_ml rfl ?_
 refine ow_nil ?_
 refine sk_n (by simp only [ze] <;> exact rfl) ?_
 skip
 refine cw_false (by simp only [opd, zv, hH, SO, hL.len, hne, hia, hsl, hD.isCell, hD.val, hD.cells] <;> rfl) ?_
 refine cw_seq (cw_region ?_)
 refine ow_me rfl ?_
 refine ow_op (by simp only [zo, hH, SO, hL.len, hne, hia, hsl, hD.isCell, hD.val, hD.cells] <;> exact rfl) ?_
 refine ow_op (by simp only [zo, faddrD_ptr, faddrD_cptr, zm, hH, SO, hL.len, hne, hia, hsl, hD.isCell, hD.val, hD.cells] <;> exact rfl) ?_
 refine ow_op (by simp only [zl, zm, zd, partD, List.take, List.drop, hH, SO, hL.len, hne, hia, hsl, hD.isCell, hD.val, hD.cells] <;> exact rfl) ?_
 refine ow_op (by simp only [zo, lenD_str, lenD_nils, lenD_sl, lenD_msl, hH, SO, hL.len, hne, hia, hsl, hD.isCell, hD.val, hD.cells] <;> exact rfl) ?_
 refine ow_op (by simp only [zo, binD, zb, Int.reduceEq, Int.reduceToNat, Int.reduceLT, hH, SO, hL.len, hne, hia, hsl, hD.isCell, hD.val, hD.cells] <;> exact rfl) ?_
 refine ow_ml rfl ?_
 refine ow_nil ?_
 refine sk_n (by simp only [ze] <;> exact rfl) ?_
 skip
 refine cw_false (by simp only [opd, zv, hH, SO, hL.len, hne, hia, hsl, hD.isCell, hD.val, hD.cells] <;> rfl) ?_
 refine cw_skip (bk_n (sk_n rfl (cw_seq (cw_region ?_))))
 refine ow_me rfl ?_
 refine ow_op (by simp only [zo, hH, SO, hL.len, hne, hia, hsl, hD.isCell, hD.val, hD.cells] <;> exact rfl) ?_
 refine ow_op (by simp only [zo, faddrD_ptr, faddrD_cptr, zm, hH, SO, hL.len, hne, hia, hsl, hD.isCell, hD.val, hD.cells] <;> exact rfl) ?_
 refine ow_op (by simp only [zl, zm, zd, partD, List.take, List.drop, hH, SO, hL.len, hne, hia, hsl, hD.isCell, hD.val, hD.cells] <;> exact rfl) ?_
 refine ow_op (by simp only [zl, zm, iaddrD_sl, iaddrD_msl, Int.toNat_natCast, Int.toNat_zero, List.getElem?_map, Option.map_some, Int.le_refl, hH, SO, hL.len, hne, hia, hsl, hD.isCell, hD.val, hD.cells] <;> exact rfl) ?_
 refine ow_op (by simp only [zl, zm, zd, partD, List.take, List.drop, hH, SO, hL.len, hne, hia, hsl, hD.isCell, hD.val, hD.cells] <;> exact rfl) ?_
 refine ow_ml rfl ?_
 refine ow_nil ?_
 refine sk_n (by simp only [ze] <;> exact rfl) ?_
 refine cw_seq (cw_region ?_)
 refine ow_me rfl ?_
 refine ow_me rfl ?_
 refine ow_op (by simp only [zo, hH, SO, hL.len, hne, hia, hsl, hD.isCell, hD.val, hD.cells] <;> exact rfl) ?_
 refine ow_op (by simp only [zo, faddrD_ptr, faddrD_cptr, zm, hH, SO, hL.len, hne, hia, hsl, hD.isCell, hD.val, hD.cells] <;> exact rfl) ?_
 refine ow_op (by simp only [zl, zm, zd, partD, List.take, List.drop, hH, SO, hL.len, hne, hia, hsl, hD.isCell, hD.val, hD.cells] <;> exact rfl) ?_
 refine ow_op (by simp only [opd, zv, exOp, aop, LOp.loud, lop, if_true, sliceArgs, Option.map_some, hH, SO, hL.len, hne, hia, hsl, hD.isCell, hD.val, hD.cells] <;> exact rfl) ?_
 refine ow_op (by simp only [zo, hH, SO, hL.len, hne, hia, hsl, hD.isCell, hD.val, hD.cells] <;> exact rfl) ?_
 refine ow_op (by simp only [zo, faddrD_ptr, faddrD_cptr, zm, hH, SO, hL.len, hne, hia, hsl, hD.isCell, hD.val, hD.cells] <;> exact rfl) ?_
 refine ow_op (by simp only [zl, zm, storeD, overlay, snapVs, snaps, zs, zc, zf, List.take, List.drop, hH, SO, hL.len, hne, hia, hsl, hD.isCell, hD.val, hD.cells] <;> exact rfl) ?_
 refine ow_nil ?_
 refine sk_n (by simp only [ze] <;> exact rfl) ?_
 refine cw_seq (cw_region ?_)
 refine ow_me rfl ?_
 refine ow_ml rfl ?_
 refine ow_mc ?_
 refine ow_mc ?_
 refine ow_nil ?_
 refine sk_n (by simp only [ze] <;> exact rfl) ?_
 refine cw_ret ?_
 refine ⟨_, by simp only [F25, resultD, resDs, resD, List.getD_cons_zero, List.getD_cons_succ, zd, rowsOf, partD, List.getElem?_cons_zero, List.getElem?_cons_succ, if_true, if_false, Bool.false_eq_true, List.take, List.drop, zm] <;> exact rfl, ?_⟩
 simp [leave, LP, snapR, snapV, snap, D.freeR, D.freeV, D.free, hpos, SO, snapVs, recD]

theorem left_run {d : Nat} (hd : 2 ≤ d) {H : List AObj} {kx lx : D} {b : Bool} (hH : H[0]? = some (SO kx lx b)) (lo : Nat) {n : Nat} (hlen : lenD false lx = some (.int .i64 (n : Nat))) : runF LP NN d 26 [.ptr 0 0 0 0] ⟨H, lo⟩ = some (.int .i64 (n : Nat), ⟨H, lo⟩, false) := by
 refine run_at (F := F26) rfl (by simp only [LP, fnOf, snapVs, snaps, zs, Bool.false_eq_true, if_false, Option.map_some, List.map_cons, List.map_nil] <;> exact rfl) rfl (by simp only [LP, zf, List.all_cons, List.all_nil, Bool.and_true, Bool.true_and]; try rfl) (by simp only [F26, zv] <;> exact rfl) (by omega) ?_
 rintro d rfl
 refine cw_seq (cw_region ?_)
 refine ow_mc ?_
 refine ow_nil ?_
 refine sk_n (by simp only [ze] <;> exact rfl) ?_
 refine cw_seq (cw_seq (cw_region ?_))
 refine ow_me rfl ?_
 refine ow_op (by simp only [zo, hH, SO, hlen]; exact none_run (by omega) hH _) ?_
 refine ow_nil ?_
 refine sk_n (by simp only [ze] <;> exact rfl) ?_
 skip
 refine cw_false (by simp only [opd, zv, hH, SO, hlen] <;> rfl) ?_
 refine cw_skip (sk_n rfl (cw_seq (cw_region ?_)))
 refine ow_me rfl ?_
 refine ow_op (by simp only [zo, hH, SO, hlen] <;> exact rfl) ?_
 refine ow_op (by simp only [zo, faddrD_ptr, faddrD_cptr, zm, hH, SO, hlen] <;> exact rfl) ?_
 refine ow_op (by simp only [zl, zm, zd, partD, List.take, List.drop, hH, SO, hlen] <;> exact rfl) ?_
 refine ow_op (by simp only [zo, lenD_str, lenD_nils, lenD_sl, lenD_msl, hH, SO, hlen] <;> exact rfl) ?_
 refine ow_ml rfl ?_
 refine ow_nil ?_
 refine sk_n (by simp only [ze] <;> exact rfl) ?_
 refine cw_ret ?_
 refine ⟨_, by simp only [F26, resultD, resDs, resD, List.getD_cons_zero, List.getD_cons_succ, zd, rowsOf, partD, List.getElem?_cons_zero, List.getElem?_cons_succ, if_true, if_false, Bool.false_eq_true, List.take, List.drop, zm] <;> exact rfl, ?_⟩
 simp [leave, LP, snapR, snapV, snap, D.freeR, D.freeV, D.free]

end Go.Proofs.YtabgobmeibjeeaaGreatDoor

namespace Go.Proofs.YtabgobmeibjeeaaGreatDoor
set_option linter.unusedSimpArgs false
set_option linter.unusedVariables false
set_option maxRecDepth 10000
set_option maxHeartbeats 8000000

/-- the sorter's records and the law's, side by side -/
def Open (m : List RecT) (H : List AObj) (lx hx : D) : Prop := ∃ gl gh : Option Nat, AppG 43 1 (rN m) H lx gl ∧ AppG 43 1 (rR m) H hx gh ∧ gl ≠ some 0 ∧ gh ≠ some 0 ∧ ∀ q, gl = some q → gh ≠ some q
theorem AppG.form {e : TypeId} {sz : Nat} {rows : List (List D)} {H : List AObj} {x : D} {g : Option Nat} (h : AppG e sz rows H x g) (hr : rows ≠ []) : ∃ q v n, x = .msl q v 0 n none := by
 rcases h with ⟨h0, _⟩ | ⟨_, q, v, _, rfl, _⟩
 ·
  exact (hr h0).elim
 ·
  exact ⟨q, v, _, rfl⟩
theorem AppG.here {e : TypeId} {sz : Nat} {rows : List (List D)} {H : List AObj} {x : D} {q : Nat} (h : AppG e sz rows H x (some q)) : q < H.length := by
 rcases h with ⟨_, _, h⟩ | ⟨_, q', v, h1, _, h2⟩
 ·
  cases h
 ·
  cases h1; exact (List.getElem?_eq_some_iff.1 h2).1
theorem Open.nil (H : List AObj) : Open [] H .nils .nils := ⟨none, none, .inl ⟨rfl, rfl, rfl⟩, .inl ⟨rfl, rfl, rfl⟩, by simp, by simp, by simp⟩
theorem Open.push {m : List RecT} {H : List AObj} {lx hx : D} (h : Open m H lx hx) (l : List AObj) : Open m (H ++ l) lx hx := by
 obtain ⟨gl, gh, h1, h2, h3⟩ := h
 exact ⟨gl, gh, h1.keep fun q o _ ho => get_app ho l, h2.keep fun q o _ ho => get_app ho l, h3⟩
/-- a record is released -/
theorem release_step {d : Nat} (hd : 20 ≤ d) {H : List AObj} {lx hx : D} {m : List RecT} {ks : List Ke} {kx : D} (hX : SlD 14 (keRows ks) kx) (h8 : ks.length ≤ 8) (hg : ∀ k ∈ ks, GK k) (hH : H[0]? = some (SO kx lx false)) (ho : Open m H lx hx) (hn : m.length ≤ 900) (r : RecT) :
  ∃ H2 lx' H3 hx', runF LP NN d 23 [.ptr 0 0 0 0, recD r.1] ⟨H, 0⟩ = some (.int .i64 0, ⟨H2, 0⟩, true) ∧ (∀ c : CallF, exOp c (.append 43 1 24 1) [hx, .sl 1 [[recD r.1]] (some 1)] ⟨H2, 0⟩ = some (hx', ⟨H3, 0⟩, true)) ∧ H3[0]? = some (SO kx lx' false) ∧ Open (m ++ [r]) H3 lx' hx' := by
 obtain ⟨gl, gh, hA, hG, hl0, hh0, hlh⟩ := ho
 have hpos := pos_at hH
 obtain ⟨x', H1, g1, hap1, hA1, hg1, hlen1, hk1⟩ := hA.app 24 (new := [[.sl 1 (bR r.1) none]]) (y := .sl 1 [[.sl 1 (bR r.1) none]] (some 1)) (.of _ _ _) (by simp) (by rw [rN_len]; simp; omega) H.length
 rw [rN_snoc] at hA1
 have hg10 : g1 ≠ 0 := by
  rcases hg1 with h | ⟨_, h⟩
  ·
   intro h'; exact hl0 (by rw [h, h'])
  ·
   omega
 obtain ⟨q, v, n', rfl⟩ := hA1.form (by simp [rN])
 have hH1 := hk1 0 _ hH (Ne.symm hg10)
 have hrel := release_at (d := d) hd hX h8 hg hH hH1 (n := m.length) (by rw [hA.at.len, rN_len]) (by omega) r hap1
 have hA2 : AppG 43 1 (rN (m ++ [r])) (H1.set 0 (SO kx (.msl q v 0 n' none) false)) (.msl q v 0 n' none) (some g1) := hA1.keep fun p o hp ho => get_set_ne ho (by cases hp; exact Ne.symm hg10) _
 have hg1h : ∀ p, gh = some p → p ≠ g1 := by
  intro p hp
  rcases hg1 with h | ⟨_, h⟩
  ·
   intro h'; subst h'; exact hlh _ h hp
  ·
   subst hp; have := hG.here; omega
 have hG2 : AppG 43 1 (rR m) (H1.set 0 (SO kx (.msl q v 0 n' none) false)) hx gh := hG.keep fun p o hp ho => get_set_ne (hk1 p o ho (hg1h p hp)) (by intro h; subst h; exact hh0 hp) _
 obtain ⟨hx', H3, g3, hap2, hG3, hg3, hlen3, hk3⟩ := hG2.app 24 (new := [[recD r.1]]) (y := .sl 1 [[recD r.1]] (some 1)) (.of _ _ _) (by simp) (by rw [rR_len]; simp; omega) 0
 rw [rR_snoc] at hG3
 have e0 : (if gh = some g3 then min 0 g3 else 0) = 0 := by split <;> simp
 rw [e0] at hap2
 have hl2 : (H1.set 0 (SO kx (.msl q v 0 n' none) false)).length = H1.length := List.length_set
 have hg30 : g3 ≠ 0 := by
  rcases hg3 with h | ⟨_, h⟩
  ·
   intro h'; exact hh0 (by rw [h, h'])
  ·
   omega
 have hg13 : g1 ≠ g3 := by
  rcases hg3 with h | ⟨_, h⟩
  ·
   exact fun h' => hg1h g3 h h'.symm
  ·
   have := hA2.here; omega
 exact ⟨_, _, H3, hx', hrel, hap2, hk3 0 _ (get_set_self hH1 _) (Ne.symm hg30), some g1, some g3, hA2.keep fun p o hp ho => hk3 p o ho (by cases hp; exact hg13), hG3, by simpa using hg10, by simpa using hg30, by intro p hp hp'; cases hp; cases hp'; exact hg13 rfl⟩
/-- the records are sorted -/
theorem begin_step {d : Nat} {H : List AObj} {lx hx : D} {m : List RecT} (hd : 22 + m.length ≤ d) {ks : List Ke} {kx : D} (hX : SlD 14 (keRows ks) kx) (h8 : ks.length ≤ 8) (hg : ∀ k ∈ ks, GK k) (hH : H[0]? = some (SO kx lx false)) (ho : Open m H lx hx) (hn : m.length ≤ 900) :
  ∃ H2, runF LP NN d 24 [.ptr 0 0 0 0] ⟨H, 0⟩ = some (.int .i64 0, ⟨H2, 0⟩, true) ∧ H2[0]? = some (SO kx (.sl 1 (rR (srt ks m)) (some m.length)) true) ∧ ∀ (KS : D), SlD 14 (keRows ks) KS → runF LP NN d 14 [KS, hx] ⟨H2, 0⟩ = some (appY 1 (rR (srt ks m)), ⟨H2, 0⟩, false) := by
 obtain ⟨gl, gh, hA, hG, hl0, hh0, hlh⟩ := ho
 have hA2 : AppG 43 1 (rN m) (H.set 0 (SO kx lx true)) lx gl := hA.keep fun p o hp ho => get_set_ne ho (by intro h; subst h; exact hl0 hp) _
 have hG2 : AppG 43 1 (rR m) (H.set 0 (SO kx (.sl 1 (rR (srt ks m)) (some m.length)) true)) hx gh := hG.keep fun p o hp ho => get_set_ne ho (by intro h; subst h; exact hh0 hp) _
 refine ⟨_, begin_run hd hX h8 hg hH hA.at hA2.at (by omega), get_set_self hH _, fun KS hK => ?_⟩
 refine (run_snap rfl (args' := [KS, appY 1 (rR m)]) ?_ ?_).trans (inserted_run (by omega) _ hK h8 hg (appY_S _ _) (by omega))
 ·
  simp [snapVs, hK.snapV, hG2.at.snapV]
 ·
  simp [snapVs, hK.snapV, (appY_S 1 (rR m)).snapV]
/-- where the records lie -/
def Hold (b : Bool) (m : List RecT) (H : List AObj) (lx hx : D) : Prop := (b = false ∧ Open m H lx hx) ∨ (b = true ∧ SlD 1 (rR m) lx ∧ SlD 1 (rR m) hx)
theorem Hold.len {b : Bool} {m : List RecT} {H : List AObj} {lx hx : D} (h : Hold b m H lx hx) : lenD false lx = some (.int .i64 (m.length : Nat)) ∧ lenD false hx = some (.int .i64 (m.length : Nat)) := by
 rcases h with ⟨_, gl, gh, hA, hG, _⟩ | ⟨_, hL, hQ⟩
 ·
  exact ⟨by rw [hA.at.len, rN_len], by rw [hG.at.len, rR_len]⟩
 ·
  exact ⟨by rw [hL.len, rR_len], by rw [hQ.len, rR_len]⟩
theorem srt_len (l : List (Nat × Nat × Nat)) (m : List RecT) (h : m.length ≤ 1000000) : (srt (keysF l) m).length = m.length := (srt_ok l m h).1.1
theorem wrap_u32 (n : Nat) (h : n < 4294967296) : IntKind.u32.wrap (n : Int) = n := by
 have := IntKind.wrap_u32 (n : Int)
 rw [this]; omega

theorem lawScript_run {d : Nat} (hd : 200 ≤ d) (S : St) {x y z : D} {k : List (Nat × Nat × Nat)} (hS : SlD 3 (triRows k) x) (hbd : ∀ t ∈ k, t.1 < 256 ∧ t.2.1 < 256 ∧ t.2.2 < 256) (hll : k.length ≤ 9223372036854775807) {nums : List Nat} (hY : SlD 1 (numRows nums) y) (hmb : ∀ n ∈ nums, n < 4294967296) (hml0 : nums.length ≤ 9223372036854775807) {cs : List UInt8} (hZ : SlD 1 (bR cs) z) (hcl0 : cs.length ≤ 9223372036854775807) : runF LP NN d 7 [x, y, z] S = some (.bool true, S, false) := by
 refine run_pure (F := F7) rfl (by simp only [LP, fnOf, snapVs, snaps, zs, Bool.false_eq_true, if_false, Option.map_some, List.map_cons, List.map_nil, hS.snapV, hS.freeV, hY.snapV, hY.freeV, hZ.snapV, hZ.freeV] <;> exact rfl) rfl (by simp only [LP, zf, List.all_cons, List.all_nil, Bool.and_true, Bool.true_and, hS.snapV, hS.freeV, hY.snapV, hY.freeV, hZ.snapV, hZ.freeV]; try rfl) (by simp only [F7, zv] <;> exact rfl) (by omega) ?_
 rintro d rfl
 refine cw_seq (cw_region ?_)
 refine ow_mc ?_
 refine ow_nil ?_
 refine sk_n (by simp only [ze] <;> exact rfl) ?_
 refine cw_seq (cw_seq (cw_region ?_))
 refine ow_me rfl ?_
 refine ow_op (by simp only [zo, lenD_str, lenD_nils, lenD_sl, lenD_msl, hY.len, numRows_len, hZ.len, bR_len, bne_self_eq_false] <;> exact rfl) ?_
 refine ow_op (by simp only [zo, binD, zb, Int.reduceEq, Int.reduceToNat, Int.reduceLT, hY.len, numRows_len, hZ.len, bR_len, bne_self_eq_false] <;> exact rfl) ?_
 refine ow_ml rfl ?_
 refine ow_split 0 (by simp only [opd, zv] <;> exact rfl) (by simp only [zn] <;> exact rfl) (by simp only [zn] <;> exact rfl) (fun hg => ?_) (fun hg => ?_)
 ·
  refine ow_off (b' := true) (by simp only [opd, zv]) rfl ?_
  refine ow_off (b' := true) (by simp only [opd, zv]) rfl ?_
  refine ow_off (b' := true) (by simp only [opd, zv]) rfl ?_
  refine ow_op (by simp only [zo, hY.len, numRows_len, hZ.len, bR_len, bne_self_eq_false] <;> exact rfl) ?_
  refine ow_nil ?_
  refine sk_n (by simp only [ze] <;> exact rfl) ?_
  refine cw_true (by simp only [opd, zv, hY.len, numRows_len, hZ.len, bR_len, bne_self_eq_false]) ?_
  refine cw_seq (cw_region ?_)
  refine ow_op (by simp only [zo, hY.len, numRows_len, hZ.len, bR_len, bne_self_eq_false]; exact livesD (by omega) _) ?_
  refine ow_ml rfl ?_
  refine ow_nil ?_
  refine sk_n (by simp only [ze] <;> exact rfl) ?_
  refine cw_ret (sk_r ?_)
  refine ⟨_, by simp only [F7, resultD, resDs, resD, List.getD_cons_zero, List.getD_cons_succ, zd, rowsOf, partD, List.getElem?_cons_zero, List.getElem?_cons_succ, if_true, if_false, Bool.false_eq_true, List.take, List.drop, zm] <;> exact rfl, ?_⟩
  simp only [leaveP, leave, snapVs, snaps, zs, zf, zk]
 ·
  have hl60 : nums.length ≤ 60 := by have := of_decide_eq_false hg; omega
  refine ow_on (by simp only [opd, zv]) ?_
  refine ow_me rfl ?_
  refine ow_on (by simp only [opd, zv]) ?_
  refine ow_op (by simp only [zo, lenD_str, lenD_nils, lenD_sl, lenD_msl, hY.len, numRows_len, hZ.len, bR_len, bne_self_eq_false] <;> exact rfl) ?_
  refine ow_on (by simp only [opd, zv]) ?_
  refine ow_op (by simp only [zo, binD, zb, Int.reduceEq, Int.reduceToNat, Int.reduceLT, hY.len, numRows_len, hZ.len, bR_len, bne_self_eq_false] <;> exact rfl) ?_
  refine ow_op (by simp only [zo, hY.len, numRows_len, hZ.len, bR_len, bne_self_eq_false] <;> exact rfl) ?_
  refine ow_nil ?_
  refine sk_n (by simp only [ze] <;> exact rfl) ?_
  refine cw_cond (by simp only [opd, zv, hY.len, numRows_len, hZ.len, bR_len, bne_self_eq_false] <;> exact rfl) (fun hcF => ?_) (fun hcF => ?_)
  ·
   refine cw_seq (cw_region ?_)
   refine ow_op (by simp only [zo, hY.len, numRows_len, hZ.len, bR_len, bne_self_eq_false]; exact livesD (by omega) _) ?_
   refine ow_ml rfl ?_
   refine ow_nil ?_
   refine sk_n (by simp only [ze] <;> exact rfl) ?_
   refine cw_ret (sk_r ?_)
   refine ⟨_, by simp only [F7, resultD, resDs, resD, List.getD_cons_zero, List.getD_cons_succ, zd, rowsOf, partD, List.getElem?_cons_zero, List.getElem?_cons_succ, if_true, if_false, Bool.false_eq_true, List.take, List.drop, zm] <;> exact rfl, ?_⟩
   simp only [leaveP, leave, snapVs, snaps, zs, zf, zk]
  ·
   have hc60 : cs.length ≤ 60 := by have := of_decide_eq_false hcF; omega
   refine cw_skip (sk_n rfl (cw_seq (cw_region ?_)))
   refine ow_me rfl ?_
   refine ow_op (by simp only [zo, hY.len, numRows_len, hZ.len, bR_len, bne_self_eq_false]; exact kOf_run (by omega) _ hS hbd hll) ?_
   refine ow_ml rfl ?_
   refine ow_nil ?_
   refine sk_n (by simp only [ze] <;> exact rfl) ?_
   refine cw_seq (cw_region ?_)
   refine ow_me rfl ?_
   refine ow_op (by simp only [zo, hY.len, numRows_len, hZ.len, bR_len, bne_self_eq_false]; exact New_run (by omega) none (keysF_len k).1 (by have := (keysF_len k).2; omega) (keysF_gk k)) ?_
   refine ow_ml rfl ?_
   refine ow_op (by simp only [zo, List.getElem?_cons_zero, List.getElem?_cons_succ, hY.len, numRows_len, hZ.len, bR_len, bne_self_eq_false] <;> exact rfl) ?_
   refine ow_op (by simp only [zo, List.getElem?_cons_zero, List.getElem?_cons_succ, hY.len, numRows_len, hZ.len, bR_len, bne_self_eq_false] <;> exact rfl) ?_
   refine ow_ml rfl ?_
   refine ow_ml rfl ?_
   refine ow_nil ?_
   refine sk_n (by simp only [ze] <;> exact rfl) ?_
   refine cw_seq (cw_region ?_)
   refine ow_mc ?_
   refine ow_nil ?_
   refine sk_n (by simp only [ze] <;> exact rfl) ?_
   refine cw_seq (cw_region ?_)
   refine ow_mc ?_
   refine ow_nil ?_
   refine sk_n (by simp only [ze] <;> exact rfl) ?_
   refine cw_seq (cw_seq (cw_region ?_))
   refine ow_me rfl ?_
   refine ow_op (by simp only [zo, binD, zb, Int.reduceEq, Int.reduceToNat, Int.reduceLT, hY.len, numRows_len, hZ.len, bR_len, bne_self_eq_false] <;> exact rfl) ?_
   refine ow_nil ?_
   refine sk_n (by simp only [ze] <;> exact rfl) ?_
   skip
   refine cw_false (by simp only [opd, zv, hY.len, numRows_len, hZ.len, bR_len, bne_self_eq_false] <;> rfl) ?_
   refine cw_skip (sk_n rfl (cw_seq (cw_region ?_)))
   refine ow_mc ?_
   refine ow_nil ?_
   refine sk_n (by simp only [ze] <;> exact rfl) ?_
   refine cw_seq (cw_seq (cw_region ?_))
   refine ow_mc ?_
   refine ow_nil ?_
   refine sk_n (by simp only [ze] <;> exact rfl) ?_
   refine cw_block ?_
   refine cw_loop (fun rr env S' => ∃ (i at0 : Nat) (b : Bool) (m : List RecT) (H : List AObj) (lx hx u11 u12 u13 u14 u15 u16 u17 u18 u19 u20 u21 u22 u23 u24 u25 u26 u27 u28 u29 u30 u31 u32 u33 u34 : D), i ≤ cs.length ∧ rr = cs.length - i ∧ m.length ≤ i ∧ at0 ≤ nums.length ∧ H[0]? = some (SO (.sl 14 (keRows (keysF k)) none) lx b) ∧ Hold b m H lx hx ∧ S' = ⟨H, 0⟩ ∧ env = [x, y, z, .bool false, .sl 14 (keRows (keysF k)) none, .ptr 0 0 0 0, .int .i64 0, hx, .bool b, .int .i64 (at0 : Nat), .int .i64 (i : Nat), u11, u12, u13, u14, u15, u16, u17, u18, u19, u20, u21, u22, u23, u24, u25, u26, u27, u28, u29, u30, u31, u32, u33, u34]) (cs.length) (by omega) (⟨0, 0, false, [], _, _, _, _, _, _, _, _, _, _, _, _, _, _, _, _, _, _, _, _, _, _, _, _, _, _, _, by omega, by omega, by simp, by omega, rfl, .inl ⟨rfl, Open.nil _⟩, rfl, rfl⟩) ?_
   rintro rr env S' ⟨i, at0, b, m, H, lx, hx, u11, u12, u13, u14, u15, u16, u17, u18, u19, u20, u21, u22, u23, u24, u25, u26, u27, u28, u29, u30, u31, u32, u33, u34, hi, rfl, hmi, hat, hH, hHold, rfl, rfl⟩
   rcases hHold with ⟨rfl, hO⟩ | ⟨rfl, hL, hQ⟩
   ·
    have hlx := (Hold.len (.inl ⟨rfl, hO⟩)).1
    have hhx := (Hold.len (.inl ⟨rfl, hO⟩)).2
    refine cw_seq (cw_seq (cw_region ?_))
    refine ow_me rfl ?_
    refine ow_me rfl ?_
    refine ow_op (by simp only [zo, lenD_str, lenD_nils, lenD_sl, lenD_msl, hY.len, numRows_len, hZ.len, bR_len, bne_self_eq_false, hlx, hhx] <;> exact rfl) ?_
    refine ow_op (by simp only [zo, binD, zb, Int.reduceEq, Int.reduceToNat, Int.reduceLT, hY.len, numRows_len, hZ.len, bR_len, bne_self_eq_false, hlx, hhx] <;> exact rfl) ?_
    refine ow_nil ?_
    refine sk_n (by simp only [ze] <;> exact rfl) ?_
    refine cw_cond (by simp only [opd, zv, hY.len, numRows_len, hZ.len, bR_len, bne_self_eq_false, hlx, hhx] <;> exact rfl) (fun hcFFAf => ?_) (fun hcFFAf => ?_)
    ·
     have hlt : i < cs.length := by have := of_decide_eq_true hcFFAf; omega
     have wi := wrap_nat i (by omega)
     have w32 := wrap_u32 i (by omega)
     obtain ⟨c, hcx⟩ : ∃ c, cs[i]? = some c := ⟨_, List.getElem?_eq_getElem hlt⟩
     have hia := fun (S : St) => hZ.iaddrN S .i64 (bR_at hcx)
     have hHp := fun (o : AObj) => get_app hH [o]
     refine cw_skip (sk_n rfl (cw_seq (cw_block (cw_seq (cw_seq (cw_region ?_))))))
     refine ow_me rfl ?_
     refine ow_me rfl ?_
     refine ow_op (by simp only [zl, zm, iaddrD_sl, iaddrD_msl, Int.toNat_natCast, Int.toNat_zero, List.getElem?_map, Option.map_some, Int.le_refl, hY.len, numRows_len, hZ.len, bR_len, bne_self_eq_false, hlx, hhx, wi, w32, hia] <;> exact rfl) ?_
     refine ow_op (by simp only [zl, zm, zd, partD, List.take, List.drop, hY.len, numRows_len, hZ.len, bR_len, bne_self_eq_false, hlx, hhx, wi, w32, hia] <;> exact rfl) ?_
     refine ow_op (by simp only [zo, binD, zb, Int.reduceEq, Int.reduceToNat, Int.reduceLT, hY.len, numRows_len, hZ.len, bR_len, bne_self_eq_false, hlx, hhx, wi, w32, hia] <;> exact rfl) ?_
     refine ow_nil ?_
     refine sk_n (by simp only [ze] <;> exact rfl) ?_
     refine cw_block ?_
     refine cw_cut (fun env S' => ∃ (t : Bool) (w : Int) (v19 : D), S' = ⟨H, 0⟩ ∧ env = [x, y, z, .bool false, .sl 14 (keRows (keysF k)) none, .ptr 0 0 0 0, .int .i64 0, hx, .bool false, .int .i64 (at0 : Nat), .int .i64 (i : Nat), u11, u12, u13, u14, u15, u16, u17, u18, v19, .int .u8 w, u21, u22, u23, u24, .bool t, u26, u27, u28, u29, u30, u31, u32, u33, u34]) ?_ ?_
     ·
      refine cw_seq (cw_region ?_)
      refine ow_op (by simp only [zo, binD, zb, Int.reduceEq, Int.reduceToNat, Int.reduceLT, hY.len, numRows_len, hZ.len, bR_len, bne_self_eq_false, hlx, hhx, wi, w32, hia] <;> exact rfl) ?_
      refine ow_ml rfl ?_
      refine ow_nil ?_
      refine sk_n (by simp only [ze] <;> exact rfl) ?_
      refine cw_cond (by simp only [opd, zv, hY.len, numRows_len, hZ.len, bR_len, bne_self_eq_false, hlx, hhx, wi, w32, hia] <;> exact rfl) (fun hcFFAfT => ?_) (fun hcFFAfT => ?_)
      ·
       refine cw_skip ?_
       refine ck_n rfl ?_
       exact ⟨_, _, _, rfl, rfl⟩
      ·
       refine cw_seq (cw_region ?_)
       refine ow_op (by simp only [zo, binD, zb, Int.reduceEq, Int.reduceToNat, Int.reduceLT, hY.len, numRows_len, hZ.len, bR_len, bne_self_eq_false, hlx, hhx, wi, w32, hia] <;> exact rfl) ?_
       refine ow_ml rfl ?_
       refine ow_nil ?_
       refine sk_n (by simp only [ze] <;> exact rfl) ?_
       refine cw_cond (by simp only [opd, zv, hY.len, numRows_len, hZ.len, bR_len, bne_self_eq_false, hlx, hhx, wi, w32, hia] <;> exact rfl) (fun hcFFAfTF => ?_) (fun hcFFAfTF => ?_)
       ·
        refine cw_skip ?_
        refine ck_n rfl ?_
        exact ⟨_, _, _, rfl, rfl⟩
       ·
        refine cw_seq (cw_region ?_)
        refine ow_op (by simp only [zo, binD, zb, Int.reduceEq, Int.reduceToNat, Int.reduceLT, hY.len, numRows_len, hZ.len, bR_len, bne_self_eq_false, hlx, hhx, wi, w32, hia] <;> exact rfl) ?_
        refine ow_ml rfl ?_
        refine ow_nil ?_
        refine sk_n (by simp only [ze] <;> exact rfl) ?_
        refine cw_cond (by simp only [opd, zv, hY.len, numRows_len, hZ.len, bR_len, bne_self_eq_false, hlx, hhx, wi, w32, hia] <;> exact rfl) (fun hcFFAfTFF => ?_) (fun hcFFAfTFF => ?_)
        ·
         refine cw_skip ?_
         refine ck_n rfl ?_
         exact ⟨_, _, _, rfl, rfl⟩
        ·
         refine cw_region ?_
         refine ow_op (by simp only [zo, binD, zb, Int.reduceEq, Int.reduceToNat, Int.reduceLT, hY.len, numRows_len, hZ.len, bR_len, bne_self_eq_false, hlx, hhx, wi, w32, hia] <;> exact rfl) ?_
         refine ow_ml rfl ?_
         refine ow_nil ?_
         refine ck_n (by simp only [ze] <;> exact rfl) ?_
         exact ⟨_, _, _, rfl, rfl⟩
     rintro env S' ⟨t, w, v19, rfl, rfl⟩
     refine cw_cond (by simp only [opd, zv, hY.len, numRows_len, hZ.len, bR_len, bne_self_eq_false, hlx, hhx, wi, w32, hia] <;> exact rfl) (fun hcFFAfTc => ?_) (fun hcFFAfTc => ?_)
     ·
      refine cw_seq (cw_region ?_)
      refine ow_me rfl ?_
      refine ow_op (by simp only [zo, hY.len, numRows_len, hZ.len, bR_len, bne_self_eq_false, hlx, hhx, wi, w32, hia] <;> exact rfl) ?_
      refine ow_ml rfl ?_
      refine ow_nil ?_
      refine sk_n (by simp only [ze] <;> exact rfl) ?_
      refine cw_cut (fun env S' => ∃ (rv2 at2 : Nat) (v26 : D), rv2 < 4294967296 ∧ at2 ≤ nums.length ∧ S' = ⟨H, 0⟩ ∧ env = [x, y, z, .bool false, .sl 14 (keRows (keysF k)) none, .ptr 0 0 0 0, .int .i64 0, hx, .bool false, .int .i64 (at2 : Nat), .int .i64 (i : Nat), .int .u32 (rv2 : Nat), u12, u13, u14, u15, u16, u17, u18, v19, .int .u8 w, u21, u22, u23, u24, .bool t, v26, u27, u28, u29, u30, u31, u32, u33, u34]) ?_ ?_
      ·
       refine cw_seq (cw_region ?_)
       refine ow_me rfl ?_
       refine ow_me rfl ?_
       refine ow_op (by simp only [zo, lenD_str, lenD_nils, lenD_sl, lenD_msl, hY.len, numRows_len, hZ.len, bR_len, bne_self_eq_false, hlx, hhx, wi, w32, hia] <;> exact rfl) ?_
       refine ow_op (by simp only [zo, binD, zb, Int.reduceEq, Int.reduceToNat, Int.reduceLT, hY.len, numRows_len, hZ.len, bR_len, bne_self_eq_false, hlx, hhx, wi, w32, hia] <;> exact rfl) ?_
       refine ow_nil ?_
       refine sk_n (by simp only [ze] <;> exact rfl) ?_
       refine cw_cond (by simp only [opd, zv, hY.len, numRows_len, hZ.len, bR_len, bne_self_eq_false, hlx, hhx, wi, w32, hia] <;> exact rfl) (fun hcFFAfTcT => ?_) (fun hcFFAfTcT => ?_)
       ·
        have hlt2 : at0 < nums.length := by have := of_decide_eq_true hcFFAfTcT; omega
        obtain ⟨rv, hrv⟩ : ∃ r, nums[at0]? = some r := ⟨_, List.getElem?_eq_getElem hlt2⟩
        have hib := fun (S : St) => hY.iaddrN S .i64 (numRows_at hrv)
        have wa := wrap_nat at0 (by omega)
        refine cw_seq (cw_region ?_)
        refine ow_me rfl ?_
        refine ow_me rfl ?_
        refine ow_op (by simp only [zl, zm, iaddrD_sl, iaddrD_msl, Int.toNat_natCast, Int.toNat_zero, List.getElem?_map, Option.map_some, Int.le_refl, hY.len, numRows_len, hZ.len, bR_len, bne_self_eq_false, hlx, hhx, wi, w32, hia, hib, wa] <;> exact rfl) ?_
        refine ow_op (by simp only [zl, zm, zd, partD, List.take, List.drop, hY.len, numRows_len, hZ.len, bR_len, bne_self_eq_false, hlx, hhx, wi, w32, hia, hib, wa] <;> exact rfl) ?_
        refine ow_ml rfl ?_
        refine ow_nil ?_
        refine sk_n (by simp only [ze] <;> exact rfl) ?_
        refine cw_region ?_
        refine ow_me rfl ?_
        refine ow_op (by simp only [zo, binD, zb, Int.reduceEq, Int.reduceToNat, Int.reduceLT, hY.len, numRows_len, hZ.len, bR_len, bne_self_eq_false, hlx, hhx, wi, w32, hia, hib, wa] <;> exact rfl) ?_
        refine ow_ml rfl ?_
        refine ow_nil ?_
        refine ck_n (by simp only [ze] <;> exact rfl) ?_
        exact ⟨_, _, _, hmb _ (List.mem_of_getElem? hrv), by omega, rfl, rfl⟩
       ·
        refine cw_skip ?_
        refine ck_n rfl ?_
        exact ⟨_, _, _, by omega, hat, rfl, rfl⟩
      rintro env S' ⟨rv2, at2, v26, hrv2, hat2, rfl, rfl⟩
      obtain ⟨H2, lx', H3, hx', hrel, hap, hH3, hO3⟩ := release_step (d := d) (by omega) (.of _ _ _) (by have := (keysF_len k).2; omega) (keysF_gk k) hH hO (by omega) (recOf rv2)
      have hlx3 := (Hold.len (.inl ⟨rfl, hO3⟩)).1
      have hhx3 := (Hold.len (.inl ⟨rfl, hO3⟩)).2
      refine cw_seq (cw_region ?_)
      refine ow_me rfl ?_
      refine ow_me rfl ?_
      refine ow_op (by simp only [zo, hY.len, numRows_len, hZ.len, bR_len, bne_self_eq_false, hlx, hhx, wi, w32, hia, hlx3, hhx3]; exact (rOf_run (by omega) _ rv2 hrv2).trans (by rfl : _ = some (recD (recOf rv2).1, _, false))) ?_
      refine ow_op (by simp only [zo, hY.len, numRows_len, hZ.len, bR_len, bne_self_eq_false, hlx, hhx, wi, w32, hia, hlx3, hhx3]; exact hrel) ?_
      refine ow_ml rfl ?_
      refine ow_nil ?_
      refine sk_n (by simp only [ze] <;> exact rfl) ?_
      refine cw_seq (cw_seq (cw_region ?_))
      refine ow_me rfl ?_
      refine ow_me rfl ?_
      refine ow_op (by simp only [zo, binD, zb, Int.reduceEq, Int.reduceToNat, Int.reduceLT, hY.len, numRows_len, hZ.len, bR_len, bne_self_eq_false, hlx, hhx, wi, w32, hia, hlx3, hhx3] <;> exact rfl) ?_
      refine ow_op (by simp only [zo, hY.len, numRows_len, hZ.len, bR_len, bne_self_eq_false, hlx, hhx, wi, w32, hia, hlx3, hhx3] <;> exact rfl) ?_
      refine ow_ml rfl ?_
      refine ow_know 0 (b := false) (by simp only [opd, zv, hY.len, numRows_len, hZ.len, bR_len, bne_self_eq_false, hlx, hhx, wi, w32, hia, hlx3, hhx3] <;> rfl) (by simp only [zn] <;> exact rfl) ?_
      refine ow_on (by simp only [opd, zv]) ?_
      refine ow_me rfl ?_
      refine ow_on (by simp only [opd, zv]) ?_
      refine ow_op (by simp only [zo, unD, hY.len, numRows_len, hZ.len, bR_len, bne_self_eq_false, hlx, hhx, wi, w32, hia, hlx3, hhx3] <;> exact rfl) ?_
      refine ow_on (by simp only [opd, zv]) ?_
      refine ow_ml rfl ?_
      refine ow_know 0 (b := true) (by simp only [opd, zv, hY.len, numRows_len, hZ.len, bR_len, bne_self_eq_false, hlx, hhx, wi, w32, hia, hlx3, hhx3] <;> rfl) (by simp only [zn] <;> exact rfl) ?_
      refine ow_on (by simp only [opd, zv]) ?_
      refine ow_me rfl ?_
      refine ow_on (by simp only [opd, zv]) ?_
      refine ow_op (by simp only [zo, binD, zb, Int.reduceEq, Int.reduceToNat, Int.reduceLT, hY.len, numRows_len, hZ.len, bR_len, bne_self_eq_false, hlx, hhx, wi, w32, hia, hlx3, hhx3] <;> exact rfl) ?_
      refine ow_on (by simp only [opd, zv]) ?_
      refine ow_op (by simp only [zo, hY.len, numRows_len, hZ.len, bR_len, bne_self_eq_false, hlx, hhx, wi, w32, hia, hlx3, hhx3] <;> exact rfl) ?_
      refine ow_op (by simp only [zo, hY.len, numRows_len, hZ.len, bR_len, bne_self_eq_false, hlx, hhx, wi, w32, hia, hlx3, hhx3] <;> exact rfl) ?_
      refine ow_nil ?_
      refine sk_n (by simp only [ze] <;> exact rfl) ?_
      skip
      refine cw_false (by simp only [opd, zv, hY.len, numRows_len, hZ.len, bR_len, bne_self_eq_false, hlx, hhx, wi, w32, hia, hlx3, hhx3] <;> rfl) ?_
      refine cw_skip (sk_n rfl (cw_seq (cw_region ?_)))
      refine ow_me rfl ?_
      refine ow_op (by simp only [zo, unD, hY.len, numRows_len, hZ.len, bR_len, bne_self_eq_false, hlx, hhx, wi, w32, hia, hlx3, hhx3] <;> exact rfl) ?_
      refine ow_nil ?_
      refine sk_n (by simp only [ze] <;> exact rfl) ?_
      skip
      refine cw_true (by simp only [opd, zv, hY.len, numRows_len, hZ.len, bR_len, bne_self_eq_false, hlx, hhx, wi, w32, hia, hlx3, hhx3] <;> rfl) ?_
      refine cw_region ?_
      refine ow_me rfl ?_
      refine ow_me rfl ?_
      refine ow_op (by simp only [zo, hY.len, numRows_len, hZ.len, bR_len, bne_self_eq_false, hlx, hhx, wi, w32, hia, hlx3, hhx3]; exact (rOf_run (by omega) _ rv2 hrv2).trans (by rfl : _ = some (recD (recOf rv2).1, _, false))) ?_
      refine ow_op (by simp only [zl, zm, fillRows, List.replicate, snapVs, snaps, zs, zc, zf, hY.len, numRows_len, hZ.len, bR_len, bne_self_eq_false, hlx, hhx, wi, w32, hia, hlx3, hhx3] <;> exact rfl) ?_
      refine ow_op (by simp only [opd, zv]; exact hap _) ?_
      refine ow_ml rfl ?_
      refine ow_nil (bk_n ?_)
      refine sk_n (by simp only [ze] <;> exact rfl) ?_
      refine cw_seq (cw_region ?_)
      refine ow_me rfl ?_
      refine ow_op (by simp only [zo, hY.len, numRows_len, hZ.len, bR_len, bne_self_eq_false, hlx, hhx, wi, w32, hia, hlx3, hhx3]; exact left_run (by omega) hH3 0 hlx3) ?_
      refine ow_me rfl ?_
      refine ow_op (by simp only [zo, lenD_str, lenD_nils, lenD_sl, lenD_msl, hY.len, numRows_len, hZ.len, bR_len, bne_self_eq_false, hlx, hhx, wi, w32, hia, hlx3, hhx3] <;> exact rfl) ?_
      refine ow_op (by simp only [zo, binD, zb, Int.reduceEq, Int.reduceToNat, Int.reduceLT, hY.len, numRows_len, hZ.len, bR_len, bne_self_eq_false, hlx, hhx, wi, w32, hia, hlx3, hhx3] <;> exact rfl) ?_
      refine ow_nil ?_
      refine sk_n (by simp only [ze] <;> exact rfl) ?_
      skip
      refine cw_false (by simp only [opd, zv, hY.len, numRows_len, hZ.len, bR_len, bne_self_eq_false, hlx, hhx, wi, w32, hia, hlx3, hhx3] <;> rfl) ?_
      refine cw_skip (bk_n (sk_n rfl (cw_region ?_)))
      refine ow_me rfl ?_
      refine ow_op (by simp only [zo, binD, zb, Int.reduceEq, Int.reduceToNat, Int.reduceLT, hY.len, numRows_len, hZ.len, bR_len, bne_self_eq_false, hlx, hhx, wi, w32, hia, hlx3, hhx3] <;> exact rfl) ?_
      refine ow_ml rfl ?_
      refine ow_nil ?_
      refine lk_n (by simp only [ze] <;> exact rfl) ?_
      exact ⟨cs.length - (i + 1), by omega, i + 1, _, false, _, _, _, _, _, _, _, _, _, _, _, _, _, _, _, _, _, _, _, _, _, _, _, _, _, _, _, _, by omega, rfl, by simp; omega, hat2, hH3, .inl ⟨rfl, hO3⟩, rfl, rfl⟩
     ·
      refine cw_seq (cw_region ?_)
      refine ow_op (by simp only [zo, binD, zb, Int.reduceEq, Int.reduceToNat, Int.reduceLT, hY.len, numRows_len, hZ.len, bR_len, bne_self_eq_false, hlx, hhx, wi, w32, hia] <;> exact rfl) ?_
      refine ow_ml rfl ?_
      refine ow_nil ?_
      refine sk_n (by simp only [ze] <;> exact rfl) ?_
      refine cw_cond (by simp only [opd, zv, hY.len, numRows_len, hZ.len, bR_len, bne_self_eq_false, hlx, hhx, wi, w32, hia] <;> exact rfl) (fun hcFFAfTcF => ?_) (fun hcFFAfTcF => ?_)
      ·
       obtain ⟨H2, hbeg, hH2, hins⟩ := begin_step (d := d) (by omega) (.of _ _ _) (by have := (keysF_len k).2; omega) (keysF_gk k) hH hO (by omega)
       have hlx2 := (Hold.len (b := true) (H := H2) (.inr ⟨rfl, .of 1 (rR (srt (keysF k) m)) (some m.length), appY_S 1 _⟩)).1
       have hhx2 := (Hold.len (b := true) (H := H2) (.inr ⟨rfl, .of 1 (rR (srt (keysF k) m)) (some m.length), appY_S 1 _⟩)).2
       refine cw_seq (cw_region ?_)
       refine ow_me rfl ?_
       refine ow_op (by simp only [zo, hY.len, numRows_len, hZ.len, bR_len, bne_self_eq_false, hlx, hhx, wi, w32, hia, hlx2, hhx2]; exact hbeg) ?_
       refine ow_ml rfl ?_
       refine ow_nil ?_
       refine sk_n (by simp only [ze] <;> exact rfl) ?_
       refine cw_seq (cw_seq (cw_region ?_))
       refine ow_me rfl ?_
       refine ow_me rfl ?_
       refine ow_op (by simp only [zo, binD, zb, Int.reduceEq, Int.reduceToNat, Int.reduceLT, hY.len, numRows_len, hZ.len, bR_len, bne_self_eq_false, hlx, hhx, wi, w32, hia, hlx2, hhx2] <;> exact rfl) ?_
       refine ow_op (by simp only [zo, hY.len, numRows_len, hZ.len, bR_len, bne_self_eq_false, hlx, hhx, wi, w32, hia, hlx2, hhx2] <;> exact rfl) ?_
       refine ow_ml rfl ?_
       refine ow_know 0 (b := false) (by simp only [opd, zv, hY.len, numRows_len, hZ.len, bR_len, bne_self_eq_false, hlx, hhx, wi, w32, hia, hlx2, hhx2] <;> rfl) (by simp only [zn] <;> exact rfl) ?_
       refine ow_on (by simp only [opd, zv]) ?_
       refine ow_me rfl ?_
       refine ow_on (by simp only [opd, zv]) ?_
       refine ow_op (by simp only [zo, unD, hY.len, numRows_len, hZ.len, bR_len, bne_self_eq_false, hlx, hhx, wi, w32, hia, hlx2, hhx2] <;> exact rfl) ?_
       refine ow_on (by simp only [opd, zv]) ?_
       refine ow_ml rfl ?_
       refine ow_know 0 (b := true) (by simp only [opd, zv, hY.len, numRows_len, hZ.len, bR_len, bne_self_eq_false, hlx, hhx, wi, w32, hia, hlx2, hhx2] <;> rfl) (by simp only [zn] <;> exact rfl) ?_
       refine ow_on (by simp only [opd, zv]) ?_
       refine ow_me rfl ?_
       refine ow_on (by simp only [opd, zv]) ?_
       refine ow_op (by simp only [zo, binD, zb, Int.reduceEq, Int.reduceToNat, Int.reduceLT, hY.len, numRows_len, hZ.len, bR_len, bne_self_eq_false, hlx, hhx, wi, w32, hia, hlx2, hhx2] <;> exact rfl) ?_
       refine ow_on (by simp only [opd, zv]) ?_
       refine ow_op (by simp only [zo, hY.len, numRows_len, hZ.len, bR_len, bne_self_eq_false, hlx, hhx, wi, w32, hia, hlx2, hhx2] <;> exact rfl) ?_
       refine ow_op (by simp only [zo, hY.len, numRows_len, hZ.len, bR_len, bne_self_eq_false, hlx, hhx, wi, w32, hia, hlx2, hhx2] <;> exact rfl) ?_
       refine ow_nil ?_
       refine sk_n (by simp only [ze] <;> exact rfl) ?_
       skip
       refine cw_false (by simp only [opd, zv, hY.len, numRows_len, hZ.len, bR_len, bne_self_eq_false, hlx, hhx, wi, w32, hia, hlx2, hhx2] <;> rfl) ?_
       refine cw_skip (sk_n rfl (cw_seq (cw_seq (cw_region ?_))))
       refine ow_me rfl ?_
       refine ow_op (by simp only [zo, unD, hY.len, numRows_len, hZ.len, bR_len, bne_self_eq_false, hlx, hhx, wi, w32, hia, hlx2, hhx2] <;> exact rfl) ?_
       refine ow_nil ?_
       refine sk_n (by simp only [ze] <;> exact rfl) ?_
       skip
       refine cw_true (by simp only [opd, zv, hY.len, numRows_len, hZ.len, bR_len, bne_self_eq_false, hlx, hhx, wi, w32, hia, hlx2, hhx2] <;> rfl) ?_
       refine cw_region ?_
       refine ow_me rfl ?_
       refine ow_me rfl ?_
       refine ow_op (by simp only [zo, hY.len, numRows_len, hZ.len, bR_len, bne_self_eq_false, hlx, hhx, wi, w32, hia, hlx2, hhx2]; exact hins _ (.of _ _ _)) ?_
       refine ow_ml rfl ?_
       refine ow_nil ?_
       refine sk_n (by simp only [ze] <;> exact rfl) ?_
       refine cw_region ?_
       refine ow_mc ?_
       refine ow_nil (bk_n ?_)
       refine sk_n (by simp only [ze] <;> exact rfl) ?_
       refine cw_seq (cw_region ?_)
       refine ow_me rfl ?_
       refine ow_op (by simp only [zo, hY.len, numRows_len, hZ.len, bR_len, bne_self_eq_false, hlx, hhx, wi, w32, hia, hlx2, hhx2]; exact left_run (by omega) hH2 0 hlx2) ?_
       refine ow_me rfl ?_
       refine ow_op (by simp only [zo, lenD_str, lenD_nils, lenD_sl, lenD_msl, hY.len, numRows_len, hZ.len, bR_len, bne_self_eq_false, hlx, hhx, wi, w32, hia, hlx2, hhx2] <;> exact rfl) ?_
       refine ow_op (by simp only [zo, binD, zb, Int.reduceEq, Int.reduceToNat, Int.reduceLT, hY.len, numRows_len, hZ.len, bR_len, bne_self_eq_false, hlx, hhx, wi, w32, hia, hlx2, hhx2] <;> exact rfl) ?_
       refine ow_nil ?_
       refine sk_n (by simp only [ze] <;> exact rfl) ?_
       skip
       refine cw_false (by simp only [opd, zv, hY.len, numRows_len, hZ.len, bR_len, bne_self_eq_false, hlx, hhx, wi, w32, hia, hlx2, hhx2] <;> rfl) ?_
       refine cw_skip (bk_n (sk_n rfl (cw_region ?_)))
       refine ow_me rfl ?_
       refine ow_op (by simp only [zo, binD, zb, Int.reduceEq, Int.reduceToNat, Int.reduceLT, hY.len, numRows_len, hZ.len, bR_len, bne_self_eq_false, hlx, hhx, wi, w32, hia, hlx2, hhx2] <;> exact rfl) ?_
       refine ow_ml rfl ?_
       refine ow_nil ?_
       refine lk_n (by simp only [ze] <;> exact rfl) ?_
       exact ⟨cs.length - (i + 1), by omega, i + 1, _, true, _, _, _, _, _, _, _, _, _, _, _, _, _, _, _, _, _, _, _, _, _, _, _, _, _, _, _, _, by omega, rfl, by rw [srt_len k m (by omega)]; omega, hat, hH2, .inr ⟨rfl, .of _ _ _, appY_S _ _⟩, rfl, rfl⟩
      ·
       refine cw_seq (cw_region ?_)
       refine ow_op (by simp only [zo, binD, zb, Int.reduceEq, Int.reduceToNat, Int.reduceLT, hY.len, numRows_len, hZ.len, bR_len, bne_self_eq_false, hlx, hhx, wi, w32, hia] <;> exact rfl) ?_
       refine ow_ml rfl ?_
       refine ow_nil ?_
       refine sk_n (by simp only [ze] <;> exact rfl) ?_
       refine cw_cond (by simp only [opd, zv, hY.len, numRows_len, hZ.len, bR_len, bne_self_eq_false, hlx, hhx, wi, w32, hia] <;> exact rfl) (fun hcFFAfTcFF => ?_) (fun hcFFAfTcFF => ?_)
       ·
        refine cw_seq (cw_region ?_)
        refine ow_me rfl ?_
        refine ow_op (by simp only [zl, zm, fillRows, List.replicate, snapVs, snaps, zs, zc, zf, hY.len, numRows_len, hZ.len, bR_len, bne_self_eq_false, hlx, hhx, wi, w32, hia] <;> exact rfl) ?_
        refine ow_op (by simp only [zl, zm, strshD, hY.len, numRows_len, hZ.len, bR_len, bne_self_eq_false, hlx, hhx, wi, w32, hia] <;> exact rfl) ?_
        refine ow_op (by simp only [zo, hY.len, numRows_len, hZ.len, bR_len, bne_self_eq_false, hlx, hhx, wi, w32, hia]; exact release_width (by omega) (.of _ _ _) (hHp _) 0 (.of _ _ _) (by simp)) ?_
        refine ow_op (by simp only [zo, binD, zb, Int.reduceEq, Int.reduceToNat, Int.reduceLT, hY.len, numRows_len, hZ.len, bR_len, bne_self_eq_false, hlx, hhx, wi, w32, hia] <;> exact rfl) ?_
        refine ow_ml rfl ?_
        refine ow_know 0 (b := false) (by simp only [opd, zv, hY.len, numRows_len, hZ.len, bR_len, bne_self_eq_false, hlx, hhx, wi, w32, hia] <;> rfl) (by simp only [zn] <;> exact rfl) ?_
        refine ow_off (b' := false) (by simp only [opd, zv]) rfl ?_
        refine ow_off (b' := false) (by simp only [opd, zv]) rfl ?_
        refine ow_op (by simp only [zo, hY.len, numRows_len, hZ.len, bR_len, bne_self_eq_false, hlx, hhx, wi, w32, hia] <;> exact rfl) ?_
        refine ow_nil ?_
        refine sk_n (by simp only [ze] <;> exact rfl) ?_
        refine cw_false (by simp only [opd, zv, hY.len, numRows_len, hZ.len, bR_len, bne_self_eq_false, hlx, hhx, wi, w32, hia]) ?_
        refine cw_skip (bk_n (sk_n rfl (cw_seq (cw_region ?_))))
        refine ow_me rfl ?_
        refine ow_op (by simp only [zo, hY.len, numRows_len, hZ.len, bR_len, bne_self_eq_false, hlx, hhx, wi, w32, hia]; exact left_run (by omega) (hHp _) 0 hlx) ?_
        refine ow_me rfl ?_
        refine ow_op (by simp only [zo, lenD_str, lenD_nils, lenD_sl, lenD_msl, hY.len, numRows_len, hZ.len, bR_len, bne_self_eq_false, hlx, hhx, wi, w32, hia] <;> exact rfl) ?_
        refine ow_op (by simp only [zo, binD, zb, Int.reduceEq, Int.reduceToNat, Int.reduceLT, hY.len, numRows_len, hZ.len, bR_len, bne_self_eq_false, hlx, hhx, wi, w32, hia] <;> exact rfl) ?_
        refine ow_nil ?_
        refine sk_n (by simp only [ze] <;> exact rfl) ?_
        skip
        refine cw_false (by simp only [opd, zv, hY.len, numRows_len, hZ.len, bR_len, bne_self_eq_false, hlx, hhx, wi, w32, hia] <;> rfl) ?_
        refine cw_skip (bk_n (sk_n rfl (cw_region ?_)))
        refine ow_me rfl ?_
        refine ow_op (by simp only [zo, binD, zb, Int.reduceEq, Int.reduceToNat, Int.reduceLT, hY.len, numRows_len, hZ.len, bR_len, bne_self_eq_false, hlx, hhx, wi, w32, hia] <;> exact rfl) ?_
        refine ow_ml rfl ?_
        refine ow_nil ?_
        refine lk_n (by simp only [ze] <;> exact rfl) ?_
        exact ⟨cs.length - (i + 1), by omega, i + 1, _, false, m, _, _, _, _, _, _, _, _, _, _, _, _, _, _, _, _, _, _, _, _, _, _, _, _, _, _, _, by omega, rfl, by omega, hat, hHp _, .inl ⟨rfl, hO.push _⟩, rfl, rfl⟩
       ·
        refine cw_seq (cw_region ?_)
        refine ow_me rfl ?_
        refine ow_op (by simp only [zo, hY.len, numRows_len, hZ.len, bR_len, bne_self_eq_false, hlx, hhx, wi, w32, hia]; exact return_wait (by omega) hH 0) ?_
        refine ow_ml rfl ?_
        refine ow_op (by simp only [zo, List.getElem?_cons_zero, List.getElem?_cons_succ, hY.len, numRows_len, hZ.len, bR_len, bne_self_eq_false, hlx, hhx, wi, w32, hia] <;> exact rfl) ?_
        refine ow_op (by simp only [zo, List.getElem?_cons_zero, List.getElem?_cons_succ, hY.len, numRows_len, hZ.len, bR_len, bne_self_eq_false, hlx, hhx, wi, w32, hia] <;> exact rfl) ?_
        refine ow_op (by simp only [zo, List.getElem?_cons_zero, List.getElem?_cons_succ, hY.len, numRows_len, hZ.len, bR_len, bne_self_eq_false, hlx, hhx, wi, w32, hia] <;> exact rfl) ?_
        refine ow_ml rfl ?_
        refine ow_ml rfl ?_
        refine ow_ml rfl ?_
        refine ow_nil ?_
        refine sk_n (by simp only [ze] <;> exact rfl) ?_
        refine cw_seq (cw_seq (cw_region ?_))
        refine ow_me rfl ?_
        refine ow_op (by simp only [zo, unD, hY.len, numRows_len, hZ.len, bR_len, bne_self_eq_false, hlx, hhx, wi, w32, hia] <;> exact rfl) ?_
        refine ow_nil ?_
        refine sk_n (by simp only [ze] <;> exact rfl) ?_
        skip
        refine cw_true (by simp only [opd, zv, hY.len, numRows_len, hZ.len, bR_len, bne_self_eq_false, hlx, hhx, wi, w32, hia] <;> rfl) ?_
        refine cw_seq (cw_seq (cw_region ?_))
        refine ow_me rfl ?_
        refine ow_op (by simp only [zo, binD, zb, Int.reduceEq, Int.reduceToNat, Int.reduceLT, hY.len, numRows_len, hZ.len, bR_len, bne_self_eq_false, hlx, hhx, wi, w32, hia] <;> exact rfl) ?_
        refine ow_ml rfl ?_
        refine ow_know 0 (b := false) (by simp only [opd, zv, hY.len, numRows_len, hZ.len, bR_len, bne_self_eq_false, hlx, hhx, wi, w32, hia] <;> rfl) (by simp only [zn] <;> exact rfl) ?_
        refine ow_on (by simp only [opd, zv]) ?_
        refine ow_me rfl ?_
        refine ow_op (by simp only [zo, hY.len, numRows_len, hZ.len, bR_len, bne_self_eq_false, hlx, hhx, wi, w32, hia] <;> exact rfl) ?_
        refine ow_nil ?_
        refine sk_n (by simp only [ze] <;> exact rfl) ?_
        skip
        refine cw_false (by simp only [opd, zv, hY.len, numRows_len, hZ.len, bR_len, bne_self_eq_false, hlx, hhx, wi, w32, hia] <;> rfl) ?_
        refine cw_skip (sk_n rfl (cw_exit (sk_e (bk_o rfl (sk_e (bk_e (sk_n rfl (cw_region ?_))))))))
        refine ow_me rfl ?_
        refine ow_op (by simp only [zo, binD, zb, Int.reduceEq, Int.reduceToNat, Int.reduceLT, hY.len, numRows_len, hZ.len, bR_len, bne_self_eq_false, hlx, hhx, wi, w32, hia] <;> exact rfl) ?_
        refine ow_ml rfl ?_
        refine ow_nil ?_
        refine lk_n (by simp only [ze] <;> exact rfl) ?_
        exact ⟨cs.length - (i + 1), by omega, i + 1, _, false, m, _, _, _, _, _, _, _, _, _, _, _, _, _, _, _, _, _, _, _, _, _, _, _, _, _, _, _, by omega, rfl, by omega, hat, hH, .inl ⟨rfl, hO⟩, rfl, rfl⟩
    ·
     refine cw_exit (sk_e (lk_e (bk_e (sk_n rfl (cw_seq (cw_region ?_))))))
     refine ow_op (by simp only [zo, hY.len, numRows_len, hZ.len, bR_len, bne_self_eq_false, hlx, hhx]; exact livesD (by omega) _) ?_
     refine ow_ml rfl ?_
     refine ow_nil ?_
     refine sk_n (by simp only [ze] <;> exact rfl) ?_
     refine cw_ret ?_
     refine ⟨_, by simp only [F7, resultD, resDs, resD, List.getD_cons_zero, List.getD_cons_succ, zd, rowsOf, partD, List.getElem?_cons_zero, List.getElem?_cons_succ, if_true, if_false, Bool.false_eq_true, List.take, List.drop, zm] <;> exact rfl, ?_⟩
     simp only [leaveP, leave, snapVs, snaps, zs, zf, zk]
   ·
    have hlx := (Hold.len (H := H) (.inr ⟨rfl, hL, hQ⟩)).1
    have hhx := (Hold.len (H := H) (.inr ⟨rfl, hL, hQ⟩)).2
    refine cw_seq (cw_seq (cw_region ?_))
    refine ow_me rfl ?_
    refine ow_me rfl ?_
    refine ow_op (by simp only [zo, lenD_str, lenD_nils, lenD_sl, lenD_msl, hY.len, numRows_len, hZ.len, bR_len, bne_self_eq_false, hlx, hhx] <;> exact rfl) ?_
    refine ow_op (by simp only [zo, binD, zb, Int.reduceEq, Int.reduceToNat, Int.reduceLT, hY.len, numRows_len, hZ.len, bR_len, bne_self_eq_false, hlx, hhx] <;> exact rfl) ?_
    refine ow_nil ?_
    refine sk_n (by simp only [ze] <;> exact rfl) ?_
    refine cw_cond (by simp only [opd, zv, hY.len, numRows_len, hZ.len, bR_len, bne_self_eq_false, hlx, hhx] <;> exact rfl) (fun hcFFAt => ?_) (fun hcFFAt => ?_)
    ·
     have hlt : i < cs.length := by have := of_decide_eq_true hcFFAt; omega
     have wi := wrap_nat i (by omega)
     have w32 := wrap_u32 i (by omega)
     obtain ⟨c, hcx⟩ : ∃ c, cs[i]? = some c := ⟨_, List.getElem?_eq_getElem hlt⟩
     have hia := fun (S : St) => hZ.iaddrN S .i64 (bR_at hcx)
     have hHp := fun (o : AObj) => get_app hH [o]
     refine cw_skip (sk_n rfl (cw_seq (cw_block (cw_seq (cw_seq (cw_region ?_))))))
     refine ow_me rfl ?_
     refine ow_me rfl ?_
     refine ow_op (by simp only [zl, zm, iaddrD_sl, iaddrD_msl, Int.toNat_natCast, Int.toNat_zero, List.getElem?_map, Option.map_some, Int.le_refl, hY.len, numRows_len, hZ.len, bR_len, bne_self_eq_false, hlx, hhx, wi, w32, hia] <;> exact rfl) ?_
     refine ow_op (by simp only [zl, zm, zd, partD, List.take, List.drop, hY.len, numRows_len, hZ.len, bR_len, bne_self_eq_false, hlx, hhx, wi, w32, hia] <;> exact rfl) ?_
     refine ow_op (by simp only [zo, binD, zb, Int.reduceEq, Int.reduceToNat, Int.reduceLT, hY.len, numRows_len, hZ.len, bR_len, bne_self_eq_false, hlx, hhx, wi, w32, hia] <;> exact rfl) ?_
     refine ow_nil ?_
     refine sk_n (by simp only [ze] <;> exact rfl) ?_
     refine cw_block ?_
     refine cw_cut (fun env S' => ∃ (t : Bool) (w : Int) (v19 : D), S' = ⟨H, 0⟩ ∧ env = [x, y, z, .bool false, .sl 14 (keRows (keysF k)) none, .ptr 0 0 0 0, .int .i64 0, hx, .bool true, .int .i64 (at0 : Nat), .int .i64 (i : Nat), u11, u12, u13, u14, u15, u16, u17, u18, v19, .int .u8 w, u21, u22, u23, u24, .bool t, u26, u27, u28, u29, u30, u31, u32, u33, u34]) ?_ ?_
     ·
      refine cw_seq (cw_region ?_)
      refine ow_op (by simp only [zo, binD, zb, Int.reduceEq, Int.reduceToNat, Int.reduceLT, hY.len, numRows_len, hZ.len, bR_len, bne_self_eq_false, hlx, hhx, wi, w32, hia] <;> exact rfl) ?_
      refine ow_ml rfl ?_
      refine ow_nil ?_
      refine sk_n (by simp only [ze] <;> exact rfl) ?_
      refine cw_cond (by simp only [opd, zv, hY.len, numRows_len, hZ.len, bR_len, bne_self_eq_false, hlx, hhx, wi, w32, hia] <;> exact rfl) (fun hcFFAtT => ?_) (fun hcFFAtT => ?_)
      ·
       refine cw_skip ?_
       refine ck_n rfl ?_
       exact ⟨_, _, _, rfl, rfl⟩
      ·
       refine cw_seq (cw_region ?_)
       refine ow_op (by simp only [zo, binD, zb, Int.reduceEq, Int.reduceToNat, Int.reduceLT, hY.len, numRows_len, hZ.len, bR_len, bne_self_eq_false, hlx, hhx, wi, w32, hia] <;> exact rfl) ?_
       refine ow_ml rfl ?_
       refine ow_nil ?_
       refine sk_n (by simp only [ze] <;> exact rfl) ?_
       refine cw_cond (by simp only [opd, zv, hY.len, numRows_len, hZ.len, bR_len, bne_self_eq_false, hlx, hhx, wi, w32, hia] <;> exact rfl) (fun hcFFAtTF => ?_) (fun hcFFAtTF => ?_)
       ·
        refine cw_skip ?_
        refine ck_n rfl ?_
        exact ⟨_, _, _, rfl, rfl⟩
       ·
        refine cw_seq (cw_region ?_)
        refine ow_op (by simp only [zo, binD, zb, Int.reduceEq, Int.reduceToNat, Int.reduceLT, hY.len, numRows_len, hZ.len, bR_len, bne_self_eq_false, hlx, hhx, wi, w32, hia] <;> exact rfl) ?_
        refine ow_ml rfl ?_
        refine ow_nil ?_
        refine sk_n (by simp only [ze] <;> exact rfl) ?_
        refine cw_cond (by simp only [opd, zv, hY.len, numRows_len, hZ.len, bR_len, bne_self_eq_false, hlx, hhx, wi, w32, hia] <;> exact rfl) (fun hcFFAtTFF => ?_) (fun hcFFAtTFF => ?_)
        ·
         refine cw_skip ?_
         refine ck_n rfl ?_
         exact ⟨_, _, _, rfl, rfl⟩
        ·
         refine cw_region ?_
         refine ow_op (by simp only [zo, binD, zb, Int.reduceEq, Int.reduceToNat, Int.reduceLT, hY.len, numRows_len, hZ.len, bR_len, bne_self_eq_false, hlx, hhx, wi, w32, hia] <;> exact rfl) ?_
         refine ow_ml rfl ?_
         refine ow_nil ?_
         refine ck_n (by simp only [ze] <;> exact rfl) ?_
         exact ⟨_, _, _, rfl, rfl⟩
     rintro env S' ⟨t, w, v19, rfl, rfl⟩
     refine cw_cond (by simp only [opd, zv, hY.len, numRows_len, hZ.len, bR_len, bne_self_eq_false, hlx, hhx, wi, w32, hia] <;> exact rfl) (fun hcFFAtTc => ?_) (fun hcFFAtTc => ?_)
     ·
      refine cw_seq (cw_region ?_)
      refine ow_me rfl ?_
      refine ow_op (by simp only [zo, hY.len, numRows_len, hZ.len, bR_len, bne_self_eq_false, hlx, hhx, wi, w32, hia] <;> exact rfl) ?_
      refine ow_ml rfl ?_
      refine ow_nil ?_
      refine sk_n (by simp only [ze] <;> exact rfl) ?_
      refine cw_cut (fun env S' => ∃ (rv2 at2 : Nat) (v26 : D), rv2 < 4294967296 ∧ at2 ≤ nums.length ∧ S' = ⟨H, 0⟩ ∧ env = [x, y, z, .bool false, .sl 14 (keRows (keysF k)) none, .ptr 0 0 0 0, .int .i64 0, hx, .bool true, .int .i64 (at2 : Nat), .int .i64 (i : Nat), .int .u32 (rv2 : Nat), u12, u13, u14, u15, u16, u17, u18, v19, .int .u8 w, u21, u22, u23, u24, .bool t, v26, u27, u28, u29, u30, u31, u32, u33, u34]) ?_ ?_
      ·
       refine cw_seq (cw_region ?_)
       refine ow_me rfl ?_
       refine ow_me rfl ?_
       refine ow_op (by simp only [zo, lenD_str, lenD_nils, lenD_sl, lenD_msl, hY.len, numRows_len, hZ.len, bR_len, bne_self_eq_false, hlx, hhx, wi, w32, hia] <;> exact rfl) ?_
       refine ow_op (by simp only [zo, binD, zb, Int.reduceEq, Int.reduceToNat, Int.reduceLT, hY.len, numRows_len, hZ.len, bR_len, bne_self_eq_false, hlx, hhx, wi, w32, hia] <;> exact rfl) ?_
       refine ow_nil ?_
       refine sk_n (by simp only [ze] <;> exact rfl) ?_
       refine cw_cond (by simp only [opd, zv, hY.len, numRows_len, hZ.len, bR_len, bne_self_eq_false, hlx, hhx, wi, w32, hia] <;> exact rfl) (fun hcFFAtTcT => ?_) (fun hcFFAtTcT => ?_)
       ·
        have hlt2 : at0 < nums.length := by have := of_decide_eq_true hcFFAtTcT; omega
        obtain ⟨rv, hrv⟩ : ∃ r, nums[at0]? = some r := ⟨_, List.getElem?_eq_getElem hlt2⟩
        have hib := fun (S : St) => hY.iaddrN S .i64 (numRows_at hrv)
        have wa := wrap_nat at0 (by omega)
        refine cw_seq (cw_region ?_)
        refine ow_me rfl ?_
        refine ow_me rfl ?_
        refine ow_op (by simp only [zl, zm, iaddrD_sl, iaddrD_msl, Int.toNat_natCast, Int.toNat_zero, List.getElem?_map, Option.map_some, Int.le_refl, hY.len, numRows_len, hZ.len, bR_len, bne_self_eq_false, hlx, hhx, wi, w32, hia, hib, wa] <;> exact rfl) ?_
        refine ow_op (by simp only [zl, zm, zd, partD, List.take, List.drop, hY.len, numRows_len, hZ.len, bR_len, bne_self_eq_false, hlx, hhx, wi, w32, hia, hib, wa] <;> exact rfl) ?_
        refine ow_ml rfl ?_
        refine ow_nil ?_
        refine sk_n (by simp only [ze] <;> exact rfl) ?_
        refine cw_region ?_
        refine ow_me rfl ?_
        refine ow_op (by simp only [zo, binD, zb, Int.reduceEq, Int.reduceToNat, Int.reduceLT, hY.len, numRows_len, hZ.len, bR_len, bne_self_eq_false, hlx, hhx, wi, w32, hia, hib, wa] <;> exact rfl) ?_
        refine ow_ml rfl ?_
        refine ow_nil ?_
        refine ck_n (by simp only [ze] <;> exact rfl) ?_
        exact ⟨_, _, _, hmb _ (List.mem_of_getElem? hrv), by omega, rfl, rfl⟩
       ·
        refine cw_skip ?_
        refine ck_n rfl ?_
        exact ⟨_, _, _, by omega, hat, rfl, rfl⟩
      rintro env S' ⟨rv2, at2, v26, hrv2, hat2, rfl, rfl⟩
      refine cw_seq (cw_region ?_)
      refine ow_me rfl ?_
      refine ow_me rfl ?_
      refine ow_op (by simp only [zo, hY.len, numRows_len, hZ.len, bR_len, bne_self_eq_false, hlx, hhx, wi, w32, hia]; exact (rOf_run (by omega) _ rv2 hrv2).trans (by rfl : _ = some (recD (recOf rv2).1, _, false))) ?_
      refine ow_op (by simp only [zo, hY.len, numRows_len, hZ.len, bR_len, bne_self_eq_false, hlx, hhx, wi, w32, hia]; exact release_begun (by omega) hH 0 (.of _ _ _)) ?_
      refine ow_ml rfl ?_
      refine ow_nil ?_
      refine sk_n (by simp only [ze] <;> exact rfl) ?_
      refine cw_seq (cw_seq (cw_region ?_))
      refine ow_me rfl ?_
      refine ow_me rfl ?_
      refine ow_op (by simp only [zo, binD, zb, Int.reduceEq, Int.reduceToNat, Int.reduceLT, hY.len, numRows_len, hZ.len, bR_len, bne_self_eq_false, hlx, hhx, wi, w32, hia] <;> exact rfl) ?_
      refine ow_op (by simp only [zo, hY.len, numRows_len, hZ.len, bR_len, bne_self_eq_false, hlx, hhx, wi, w32, hia] <;> exact rfl) ?_
      refine ow_ml rfl ?_
      refine ow_know 0 (b := false) (by simp only [opd, zv, hY.len, numRows_len, hZ.len, bR_len, bne_self_eq_false, hlx, hhx, wi, w32, hia] <;> rfl) (by simp only [zn] <;> exact rfl) ?_
      refine ow_on (by simp only [opd, zv]) ?_
      refine ow_me rfl ?_
      refine ow_on (by simp only [opd, zv]) ?_
      refine ow_op (by simp only [zo, unD, hY.len, numRows_len, hZ.len, bR_len, bne_self_eq_false, hlx, hhx, wi, w32, hia] <;> exact rfl) ?_
      refine ow_on (by simp only [opd, zv]) ?_
      refine ow_ml rfl ?_
      refine ow_know 0 (b := false) (by simp only [opd, zv, hY.len, numRows_len, hZ.len, bR_len, bne_self_eq_false, hlx, hhx, wi, w32, hia] <;> rfl) (by simp only [zn] <;> exact rfl) ?_
      refine ow_off (b' := false) (by simp only [opd, zv]) rfl ?_
      refine ow_off (b' := false) (by simp only [opd, zv]) rfl ?_
      refine ow_on (by simp only [opd, zv]) ?_
      refine ow_op (by simp only [zo, hY.len, numRows_len, hZ.len, bR_len, bne_self_eq_false, hlx, hhx, wi, w32, hia] <;> exact rfl) ?_
      refine ow_op (by simp only [zo, hY.len, numRows_len, hZ.len, bR_len, bne_self_eq_false, hlx, hhx, wi, w32, hia] <;> exact rfl) ?_
      refine ow_nil ?_
      refine sk_n (by simp only [ze] <;> exact rfl) ?_
      refine cw_false (by simp only [opd, zv, hY.len, numRows_len, hZ.len, bR_len, bne_self_eq_false, hlx, hhx, wi, w32, hia]) ?_
      refine cw_skip (sk_n rfl (cw_seq (cw_region ?_)))
      refine ow_me rfl ?_
      refine ow_op (by simp only [zo, unD, hY.len, numRows_len, hZ.len, bR_len, bne_self_eq_false, hlx, hhx, wi, w32, hia] <;> exact rfl) ?_
      refine ow_nil ?_
      refine sk_n (by simp only [ze] <;> exact rfl) ?_
      skip
      refine cw_false (by simp only [opd, zv, hY.len, numRows_len, hZ.len, bR_len, bne_self_eq_false, hlx, hhx, wi, w32, hia] <;> rfl) ?_
      refine cw_skip (bk_n (sk_n rfl (cw_seq (cw_region ?_))))
      refine ow_me rfl ?_
      refine ow_op (by simp only [zo, hY.len, numRows_len, hZ.len, bR_len, bne_self_eq_false, hlx, hhx, wi, w32, hia]; exact left_run (by omega) hH 0 hlx) ?_
      refine ow_me rfl ?_
      refine ow_op (by simp only [zo, lenD_str, lenD_nils, lenD_sl, lenD_msl, hY.len, numRows_len, hZ.len, bR_len, bne_self_eq_false, hlx, hhx, wi, w32, hia] <;> exact rfl) ?_
      refine ow_op (by simp only [zo, binD, zb, Int.reduceEq, Int.reduceToNat, Int.reduceLT, hY.len, numRows_len, hZ.len, bR_len, bne_self_eq_false, hlx, hhx, wi, w32, hia] <;> exact rfl) ?_
      refine ow_nil ?_
      refine sk_n (by simp only [ze] <;> exact rfl) ?_
      skip
      refine cw_false (by simp only [opd, zv, hY.len, numRows_len, hZ.len, bR_len, bne_self_eq_false, hlx, hhx, wi, w32, hia] <;> rfl) ?_
      refine cw_skip (bk_n (sk_n rfl (cw_region ?_)))
      refine ow_me rfl ?_
      refine ow_op (by simp only [zo, binD, zb, Int.reduceEq, Int.reduceToNat, Int.reduceLT, hY.len, numRows_len, hZ.len, bR_len, bne_self_eq_false, hlx, hhx, wi, w32, hia] <;> exact rfl) ?_
      refine ow_ml rfl ?_
      refine ow_nil ?_
      refine lk_n (by simp only [ze] <;> exact rfl) ?_
      exact ⟨cs.length - (i + 1), by omega, i + 1, _, true, m, _, _, _, _, _, _, _, _, _, _, _, _, _, _, _, _, _, _, _, _, _, _, _, _, _, _, _, by omega, rfl, by omega, hat2, hH, .inr ⟨rfl, hL, hQ⟩, rfl, rfl⟩
     ·
      refine cw_seq (cw_region ?_)
      refine ow_op (by simp only [zo, binD, zb, Int.reduceEq, Int.reduceToNat, Int.reduceLT, hY.len, numRows_len, hZ.len, bR_len, bne_self_eq_false, hlx, hhx, wi, w32, hia] <;> exact rfl) ?_
      refine ow_ml rfl ?_
      refine ow_nil ?_
      refine sk_n (by simp only [ze] <;> exact rfl) ?_
      refine cw_cond (by simp only [opd, zv, hY.len, numRows_len, hZ.len, bR_len, bne_self_eq_false, hlx, hhx, wi, w32, hia] <;> exact rfl) (fun hcFFAtTcF => ?_) (fun hcFFAtTcF => ?_)
      ·
       refine cw_seq (cw_region ?_)
       refine ow_me rfl ?_
       refine ow_op (by simp only [zo, hY.len, numRows_len, hZ.len, bR_len, bne_self_eq_false, hlx, hhx, wi, w32, hia]; exact begin_begun (by omega) hH 0) ?_
       refine ow_ml rfl ?_
       refine ow_nil ?_
       refine sk_n (by simp only [ze] <;> exact rfl) ?_
       refine cw_seq (cw_seq (cw_region ?_))
       refine ow_me rfl ?_
       refine ow_me rfl ?_
       refine ow_op (by simp only [zo, binD, zb, Int.reduceEq, Int.reduceToNat, Int.reduceLT, hY.len, numRows_len, hZ.len, bR_len, bne_self_eq_false, hlx, hhx, wi, w32, hia] <;> exact rfl) ?_
       refine ow_op (by simp only [zo, hY.len, numRows_len, hZ.len, bR_len, bne_self_eq_false, hlx, hhx, wi, w32, hia] <;> exact rfl) ?_
       refine ow_ml rfl ?_
       refine ow_know 0 (b := false) (by simp only [opd, zv, hY.len, numRows_len, hZ.len, bR_len, bne_self_eq_false, hlx, hhx, wi, w32, hia] <;> rfl) (by simp only [zn] <;> exact rfl) ?_
       refine ow_on (by simp only [opd, zv]) ?_
       refine ow_me rfl ?_
       refine ow_on (by simp only [opd, zv]) ?_
       refine ow_op (by simp only [zo, unD, hY.len, numRows_len, hZ.len, bR_len, bne_self_eq_false, hlx, hhx, wi, w32, hia] <;> exact rfl) ?_
       refine ow_on (by simp only [opd, zv]) ?_
       refine ow_ml rfl ?_
       refine ow_know 0 (b := false) (by simp only [opd, zv, hY.len, numRows_len, hZ.len, bR_len, bne_self_eq_false, hlx, hhx, wi, w32, hia] <;> rfl) (by simp only [zn] <;> exact rfl) ?_
       refine ow_off (b' := false) (by simp only [opd, zv]) rfl ?_
       refine ow_off (b' := false) (by simp only [opd, zv]) rfl ?_
       refine ow_on (by simp only [opd, zv]) ?_
       refine ow_op (by simp only [zo, hY.len, numRows_len, hZ.len, bR_len, bne_self_eq_false, hlx, hhx, wi, w32, hia] <;> exact rfl) ?_
       refine ow_op (by simp only [zo, hY.len, numRows_len, hZ.len, bR_len, bne_self_eq_false, hlx, hhx, wi, w32, hia] <;> exact rfl) ?_
       refine ow_nil ?_
       refine sk_n (by simp only [ze] <;> exact rfl) ?_
       refine cw_false (by simp only [opd, zv, hY.len, numRows_len, hZ.len, bR_len, bne_self_eq_false, hlx, hhx, wi, w32, hia]) ?_
       refine cw_skip (sk_n rfl (cw_seq (cw_seq (cw_region ?_))))
       refine ow_me rfl ?_
       refine ow_op (by simp only [zo, unD, hY.len, numRows_len, hZ.len, bR_len, bne_self_eq_false, hlx, hhx, wi, w32, hia] <;> exact rfl) ?_
       refine ow_nil ?_
       refine sk_n (by simp only [ze] <;> exact rfl) ?_
       skip
       refine cw_false (by simp only [opd, zv, hY.len, numRows_len, hZ.len, bR_len, bne_self_eq_false, hlx, hhx, wi, w32, hia] <;> rfl) ?_
       refine cw_skip (sk_n rfl (cw_region ?_))
       refine ow_mc ?_
       refine ow_nil (bk_n ?_)
       refine sk_n (by simp only [ze] <;> exact rfl) ?_
       refine cw_seq (cw_region ?_)
       refine ow_me rfl ?_
       refine ow_op (by simp only [zo, hY.len, numRows_len, hZ.len, bR_len, bne_self_eq_false, hlx, hhx, wi, w32, hia]; exact left_run (by omega) hH 0 hlx) ?_
       refine ow_me rfl ?_
       refine ow_op (by simp only [zo, lenD_str, lenD_nils, lenD_sl, lenD_msl, hY.len, numRows_len, hZ.len, bR_len, bne_self_eq_false, hlx, hhx, wi, w32, hia] <;> exact rfl) ?_
       refine ow_op (by simp only [zo, binD, zb, Int.reduceEq, Int.reduceToNat, Int.reduceLT, hY.len, numRows_len, hZ.len, bR_len, bne_self_eq_false, hlx, hhx, wi, w32, hia] <;> exact rfl) ?_
       refine ow_nil ?_
       refine sk_n (by simp only [ze] <;> exact rfl) ?_
       skip
       refine cw_false (by simp only [opd, zv, hY.len, numRows_len, hZ.len, bR_len, bne_self_eq_false, hlx, hhx, wi, w32, hia] <;> rfl) ?_
       refine cw_skip (bk_n (sk_n rfl (cw_region ?_)))
       refine ow_me rfl ?_
       refine ow_op (by simp only [zo, binD, zb, Int.reduceEq, Int.reduceToNat, Int.reduceLT, hY.len, numRows_len, hZ.len, bR_len, bne_self_eq_false, hlx, hhx, wi, w32, hia] <;> exact rfl) ?_
       refine ow_ml rfl ?_
       refine ow_nil ?_
       refine lk_n (by simp only [ze] <;> exact rfl) ?_
       exact ⟨cs.length - (i + 1), by omega, i + 1, _, true, m, _, _, _, _, _, _, _, _, _, _, _, _, _, _, _, _, _, _, _, _, _, _, _, _, _, _, _, by omega, rfl, by omega, hat, hH, .inr ⟨rfl, hL, hQ⟩, rfl, rfl⟩
      ·
       refine cw_seq (cw_region ?_)
       refine ow_op (by simp only [zo, binD, zb, Int.reduceEq, Int.reduceToNat, Int.reduceLT, hY.len, numRows_len, hZ.len, bR_len, bne_self_eq_false, hlx, hhx, wi, w32, hia] <;> exact rfl) ?_
       refine ow_ml rfl ?_
       refine ow_nil ?_
       refine sk_n (by simp only [ze] <;> exact rfl) ?_
       refine cw_cond (by simp only [opd, zv, hY.len, numRows_len, hZ.len, bR_len, bne_self_eq_false, hlx, hhx, wi, w32, hia] <;> exact rfl) (fun hcFFAtTcFF => ?_) (fun hcFFAtTcFF => ?_)
       ·
        refine cw_seq (cw_region ?_)
        refine ow_me rfl ?_
        refine ow_op (by simp only [zl, zm, fillRows, List.replicate, snapVs, snaps, zs, zc, zf, hY.len, numRows_len, hZ.len, bR_len, bne_self_eq_false, hlx, hhx, wi, w32, hia] <;> exact rfl) ?_
        refine ow_op (by simp only [zl, zm, strshD, hY.len, numRows_len, hZ.len, bR_len, bne_self_eq_false, hlx, hhx, wi, w32, hia] <;> exact rfl) ?_
        refine ow_op (by simp only [zo, hY.len, numRows_len, hZ.len, bR_len, bne_self_eq_false, hlx, hhx, wi, w32, hia]; exact release_begun (by omega) (hHp _) 0 (.of _ _ _)) ?_
        refine ow_op (by simp only [zo, binD, zb, Int.reduceEq, Int.reduceToNat, Int.reduceLT, hY.len, numRows_len, hZ.len, bR_len, bne_self_eq_false, hlx, hhx, wi, w32, hia] <;> exact rfl) ?_
        refine ow_ml rfl ?_
        refine ow_know 0 (b := true) (by simp only [opd, zv, hY.len, numRows_len, hZ.len, bR_len, bne_self_eq_false, hlx, hhx, wi, w32, hia] <;> rfl) (by simp only [zn] <;> exact rfl) ?_
        refine ow_on (by simp only [opd, zv]) ?_
        refine ow_me rfl ?_
        refine ow_on (by simp only [opd, zv]) ?_
        refine ow_op (by simp only [zo, unD, hY.len, numRows_len, hZ.len, bR_len, bne_self_eq_false, hlx, hhx, wi, w32, hia] <;> exact rfl) ?_
        refine ow_op (by simp only [zo, hY.len, numRows_len, hZ.len, bR_len, bne_self_eq_false, hlx, hhx, wi, w32, hia] <;> exact rfl) ?_
        refine ow_nil ?_
        refine sk_n (by simp only [ze] <;> exact rfl) ?_
        skip
        refine cw_false (by simp only [opd, zv, hY.len, numRows_len, hZ.len, bR_len, bne_self_eq_false, hlx, hhx, wi, w32, hia] <;> rfl) ?_
        refine cw_skip (bk_n (sk_n rfl (cw_seq (cw_region ?_))))
        refine ow_me rfl ?_
        refine ow_op (by simp only [zo, hY.len, numRows_len, hZ.len, bR_len, bne_self_eq_false, hlx, hhx, wi, w32, hia]; exact left_run (by omega) (hHp _) 0 hlx) ?_
        refine ow_me rfl ?_
        refine ow_op (by simp only [zo, lenD_str, lenD_nils, lenD_sl, lenD_msl, hY.len, numRows_len, hZ.len, bR_len, bne_self_eq_false, hlx, hhx, wi, w32, hia] <;> exact rfl) ?_
        refine ow_op (by simp only [zo, binD, zb, Int.reduceEq, Int.reduceToNat, Int.reduceLT, hY.len, numRows_len, hZ.len, bR_len, bne_self_eq_false, hlx, hhx, wi, w32, hia] <;> exact rfl) ?_
        refine ow_nil ?_
        refine sk_n (by simp only [ze] <;> exact rfl) ?_
        skip
        refine cw_false (by simp only [opd, zv, hY.len, numRows_len, hZ.len, bR_len, bne_self_eq_false, hlx, hhx, wi, w32, hia] <;> rfl) ?_
        refine cw_skip (bk_n (sk_n rfl (cw_region ?_)))
        refine ow_me rfl ?_
        refine ow_op (by simp only [zo, binD, zb, Int.reduceEq, Int.reduceToNat, Int.reduceLT, hY.len, numRows_len, hZ.len, bR_len, bne_self_eq_false, hlx, hhx, wi, w32, hia] <;> exact rfl) ?_
        refine ow_ml rfl ?_
        refine ow_nil ?_
        refine lk_n (by simp only [ze] <;> exact rfl) ?_
        exact ⟨cs.length - (i + 1), by omega, i + 1, _, true, m, _, _, _, _, _, _, _, _, _, _, _, _, _, _, _, _, _, _, _, _, _, _, _, _, _, _, _, by omega, rfl, by omega, hat, hHp _, .inr ⟨rfl, hL, hQ⟩, rfl, rfl⟩
       ·
        rcases m with _ | ⟨x0, m'⟩
        ·
         refine cw_seq (cw_region ?_)
         refine ow_me rfl ?_
         refine ow_op (by simp only [zo, hY.len, numRows_len, hZ.len, bR_len, bne_self_eq_false, hlx, hhx, wi, w32, hia]; exact return_none (by omega) hH 0 hL) ?_
         refine ow_ml rfl ?_
         refine ow_op (by simp only [zo, List.getElem?_cons_zero, List.getElem?_cons_succ, hY.len, numRows_len, hZ.len, bR_len, bne_self_eq_false, hlx, hhx, wi, w32, hia] <;> exact rfl) ?_
         refine ow_op (by simp only [zo, List.getElem?_cons_zero, List.getElem?_cons_succ, hY.len, numRows_len, hZ.len, bR_len, bne_self_eq_false, hlx, hhx, wi, w32, hia] <;> exact rfl) ?_
         refine ow_op (by simp only [zo, List.getElem?_cons_zero, List.getElem?_cons_succ, hY.len, numRows_len, hZ.len, bR_len, bne_self_eq_false, hlx, hhx, wi, w32, hia] <;> exact rfl) ?_
         refine ow_ml rfl ?_
         refine ow_ml rfl ?_
         refine ow_ml rfl ?_
         refine ow_nil ?_
         refine sk_n (by simp only [ze] <;> exact rfl) ?_
         refine cw_seq (cw_seq (cw_region ?_))
         refine ow_me rfl ?_
         refine ow_op (by simp only [zo, unD, hY.len, numRows_len, hZ.len, bR_len, bne_self_eq_false, hlx, hhx, wi, w32, hia] <;> exact rfl) ?_
         refine ow_nil ?_
         refine sk_n (by simp only [ze] <;> exact rfl) ?_
         skip
         refine cw_false (by simp only [opd, zv, hY.len, numRows_len, hZ.len, bR_len, bne_self_eq_false, hlx, hhx, wi, w32, hia] <;> rfl) ?_
         refine cw_skip (sk_n rfl (cw_seq (cw_seq ?_)))
         refine cw_drawn (by simp only [newsVals, zw, Nat.reduceAdd] <;> exact rfl) (by simp only [zw, newsObj, St.eta] <;> exact rfl) ?_
         refine dw_me rfl rfl ?_
         refine dw_quiet (by simp only [zo, binD, zb, Int.reduceEq, Int.reduceToNat, Int.reduceLT, hY.len, numRows_len, hZ.len, bR_len, bne_self_eq_false, hlx, hhx, wi, w32, hia] <;> exact rfl) rfl rfl ?_
         refine dw_ml rfl rfl ?_
         refine dw_know 0 (b := false) (by simp only [opd, zv, hY.len, numRows_len, hZ.len, bR_len, bne_self_eq_false, hlx, hhx, wi, w32, hia] <;> rfl) (by simp only [zn] <;> exact rfl) ?_
         refine dw_on (by simp only [opd, zv]) ?_
         refine dw_me rfl rfl ?_
         refine dw_on (by simp only [opd, zv]) ?_
         refine dw_me rfl rfl ?_
         refine dw_on (by simp only [opd, zv]) ?_
         refine dw_quiet (by simp only [zo, lenD_str, lenD_nils, lenD_sl, lenD_msl, hY.len, numRows_len, hZ.len, bR_len, bne_self_eq_false, hlx, hhx, wi, w32, hia] <;> exact rfl) rfl rfl ?_
         refine dw_on (by simp only [opd, zv]) ?_
         refine dw_quiet (by simp only [zo, binD, zb, Int.reduceEq, Int.reduceToNat, Int.reduceLT, hY.len, numRows_len, hZ.len, bR_len, bne_self_eq_false, hlx, hhx, wi, w32, hia] <;> exact rfl) rfl rfl ?_
         refine dw_on (by simp only [opd, zv]) ?_
         refine dw_quiet (by simp only [zo, hY.len, numRows_len, hZ.len, bR_len, bne_self_eq_false, hlx, hhx, wi, w32, hia] <;> exact rfl) rfl rfl ?_
         refine dw_quiet (by simp only [zo, hY.len, numRows_len, hZ.len, bR_len, bne_self_eq_false, hlx, hhx, wi, w32, hia] <;> exact rfl) rfl rfl ?_
         refine dw_ml rfl rfl ?_
         refine dw_know 0 (b := false) (by simp only [opd, zv, hY.len, numRows_len, hZ.len, bR_len, bne_self_eq_false, hlx, hhx, wi, w32, hia] <;> rfl) (by simp only [zn] <;> exact rfl) ?_
         refine dw_on (by simp only [opd, zv]) ?_
         refine dw_me rfl rfl ?_
         refine dw_on (by simp only [opd, zv]) ?_
         refine dw_ml rfl rfl ?_
         refine dw_know 0 (b := false) (by simp only [opd, zv, hY.len, numRows_len, hZ.len, bR_len, bne_self_eq_false, hlx, hhx, wi, w32, hia] <;> rfl) (by simp only [zn] <;> exact rfl) ?_
         refine dw_off (b' := false) (by simp only [opd, zv]) rfl ?_
         refine dw_off (b' := false) (by simp only [opd, zv]) rfl ?_
         refine dw_off (b' := false) (by simp only [opd, zv]) rfl ?_
         refine dw_off (b' := false) (by simp only [opd, zv]) rfl ?_
         refine dw_off (b' := false) (by simp only [opd, zv]) rfl ?_
         refine dw_off (b' := false) (by simp only [opd, zv]) rfl ?_
         refine dw_off (b' := false) (by simp only [opd, zv]) rfl ?_
         refine dw_on (by simp only [opd, zv]) ?_
         refine dw_quiet (by simp only [zo, hY.len, numRows_len, hZ.len, bR_len, bne_self_eq_false, hlx, hhx, wi, w32, hia] <;> exact rfl) rfl rfl ?_
         refine dw_quiet (by simp only [zo, hY.len, numRows_len, hZ.len, bR_len, bne_self_eq_false, hlx, hhx, wi, w32, hia] <;> exact rfl) rfl rfl ?_
         refine dw_ml rfl rfl ?_
         refine dw_on (by simp only [opd, zv]) ?_
         refine dw_me rfl rfl ?_
         refine dw_on (by simp only [opd, zv]) ?_
         refine dw_quiet (by simp only [zo, unD, hY.len, numRows_len, hZ.len, bR_len, bne_self_eq_false, hlx, hhx, wi, w32, hia] <;> exact rfl) rfl rfl ?_
         refine dw_on (by simp only [opd, zv]) ?_
         refine dw_ml rfl rfl ?_
         refine dw_know 0 (b := true) (by simp only [opd, zv, hY.len, numRows_len, hZ.len, bR_len, bne_self_eq_false, hlx, hhx, wi, w32, hia] <;> rfl) (by simp only [zn] <;> exact rfl) ?_
         refine dw_on (by simp only [opd, zv]) ?_
         refine dw_me rfl rfl ?_
         refine dw_on (by simp only [opd, zv]) ?_
         refine dw_quiet (by simp only [zo, lenD_str, lenD_nils, lenD_sl, lenD_msl, hY.len, numRows_len, hZ.len, bR_len, bne_self_eq_false, hlx, hhx, wi, w32, hia] <;> exact rfl) rfl rfl ?_
         refine dw_on (by simp only [opd, zv]) ?_
         refine dw_quiet (by simp only [zo, binD, zb, Int.reduceEq, Int.reduceToNat, Int.reduceLT, hY.len, numRows_len, hZ.len, bR_len, bne_self_eq_false, hlx, hhx, wi, w32, hia] <;> exact rfl) rfl rfl ?_
         refine dw_on (by simp only [opd, zv]) ?_
         refine dw_quiet (by simp only [zo, hY.len, numRows_len, hZ.len, bR_len, bne_self_eq_false, hlx, hhx, wi, w32, hia] <;> exact rfl) rfl rfl ?_
         refine dw_quiet (by simp only [zo, hY.len, numRows_len, hZ.len, bR_len, bne_self_eq_false, hlx, hhx, wi, w32, hia] <;> exact rfl) rfl rfl ?_
         refine dw_nil ?_
         refine sk_n (by simp only [ze] <;> exact rfl) ?_
         skip
         refine cw_false (by simp only [opd, zv, hY.len, numRows_len, hZ.len, bR_len, bne_self_eq_false, hlx, hhx, wi, w32, hia] <;> rfl) ?_
         refine cw_skip (sk_n rfl (cw_seq (cw_region ?_)))
         refine ow_me rfl ?_
         refine ow_nil ?_
         refine sk_n (by simp only [ze] <;> exact rfl) ?_
         skip
         refine cw_false (by simp only [opd, zv, hY.len, numRows_len, hZ.len, bR_len, bne_self_eq_false, hlx, hhx, wi, w32, hia] <;> rfl) ?_
         refine cw_skip (bk_n (sk_n rfl (cw_seq (cw_region ?_))))
         refine ow_me rfl ?_
         refine ow_op (by simp only [zo, hY.len, numRows_len, hZ.len, bR_len, bne_self_eq_false, hlx, hhx, wi, w32, hia]; exact left_run (by omega) hH 0 hlx) ?_
         refine ow_me rfl ?_
         refine ow_op (by simp only [zo, lenD_str, lenD_nils, lenD_sl, lenD_msl, hY.len, numRows_len, hZ.len, bR_len, bne_self_eq_false, hlx, hhx, wi, w32, hia] <;> exact rfl) ?_
         refine ow_op (by simp only [zo, binD, zb, Int.reduceEq, Int.reduceToNat, Int.reduceLT, hY.len, numRows_len, hZ.len, bR_len, bne_self_eq_false, hlx, hhx, wi, w32, hia] <;> exact rfl) ?_
         refine ow_nil ?_
         refine sk_n (by simp only [ze] <;> exact rfl) ?_
         skip
         refine cw_false (by simp only [opd, zv, hY.len, numRows_len, hZ.len, bR_len, bne_self_eq_false, hlx, hhx, wi, w32, hia] <;> rfl) ?_
         refine cw_skip (bk_n (sk_n rfl (cw_region ?_)))
         refine ow_me rfl ?_
         refine ow_op (by simp only [zo, binD, zb, Int.reduceEq, Int.reduceToNat, Int.reduceLT, hY.len, numRows_len, hZ.len, bR_len, bne_self_eq_false, hlx, hhx, wi, w32, hia] <;> exact rfl) ?_
         refine ow_ml rfl ?_
         refine ow_nil ?_
         refine lk_n (by simp only [ze] <;> exact rfl) ?_
         exact ⟨cs.length - (i + 1), by omega, i + 1, _, true, [], _, _, _, _, _, _, _, _, _, _, _, _, _, _, _, _, _, _, _, _, _, _, _, _, _, _, _, by omega, rfl, by simp, hat, hH, .inr ⟨rfl, hL, hQ⟩, rfl, rfl⟩
        ·
         have hqi := fun (S : St) => hQ.iaddr S .i64 (i := 0) (r := [recD x0.1]) (by omega) rfl
         have hqs := fun (S : St) => hQ.slice_1 S (by simp [rR])
         have hlx' := (Hold.len (b := true) (H := H) (.inr ⟨rfl, hL.drop 1, hQ.drop 1⟩ : Hold true m' _ _ _)).1
         have hhx' := (Hold.len (b := true) (H := H) (.inr ⟨rfl, hL.drop 1, hQ.drop 1⟩ : Hold true m' _ _ _)).2
         have hgt : decide ((((x0 :: m').length : Nat) : Int) > 0) = true := decide_eq_true (by simp)
         refine cw_seq (cw_region ?_)
         refine ow_me rfl ?_
         refine ow_op (by simp only [zo, hY.len, numRows_len, hZ.len, bR_len, bne_self_eq_false, hlx, hhx, wi, w32, hia, hqi, hqs, hlx', hhx', hgt, mkS_def, bytesOf_bR, recD, beq_self_eq_true, Bool.not_true]; exact return_one (by omega) hH hL) ?_
         refine ow_ml rfl ?_
         refine ow_op (by simp only [zo, List.getElem?_cons_zero, List.getElem?_cons_succ, hY.len, numRows_len, hZ.len, bR_len, bne_self_eq_false, hlx, hhx, wi, w32, hia, hqi, hqs, hlx', hhx', hgt, mkS_def, bytesOf_bR, recD, beq_self_eq_true, Bool.not_true] <;> exact rfl) ?_
         refine ow_op (by simp only [zo, List.getElem?_cons_zero, List.getElem?_cons_succ, hY.len, numRows_len, hZ.len, bR_len, bne_self_eq_false, hlx, hhx, wi, w32, hia, hqi, hqs, hlx', hhx', hgt, mkS_def, bytesOf_bR, recD, beq_self_eq_true, Bool.not_true] <;> exact rfl) ?_
         refine ow_op (by simp only [zo, List.getElem?_cons_zero, List.getElem?_cons_succ, hY.len, numRows_len, hZ.len, bR_len, bne_self_eq_false, hlx, hhx, wi, w32, hia, hqi, hqs, hlx', hhx', hgt, mkS_def, bytesOf_bR, recD, beq_self_eq_true, Bool.not_true] <;> exact rfl) ?_
         refine ow_ml rfl ?_
         refine ow_ml rfl ?_
         refine ow_ml rfl ?_
         refine ow_nil ?_
         refine sk_n (by simp only [ze] <;> exact rfl) ?_
         refine cw_seq (cw_seq (cw_region ?_))
         refine ow_me rfl ?_
         refine ow_op (by simp only [zo, unD, hY.len, numRows_len, hZ.len, bR_len, bne_self_eq_false, hlx, hhx, wi, w32, hia, hqi, hqs, hlx', hhx', hgt, mkS_def, bytesOf_bR, recD, beq_self_eq_true, Bool.not_true] <;> exact rfl) ?_
         refine ow_nil ?_
         refine sk_n (by simp only [ze] <;> exact rfl) ?_
         skip
         refine cw_false (by simp only [opd, zv, hY.len, numRows_len, hZ.len, bR_len, bne_self_eq_false, hlx, hhx, wi, w32, hia, hqi, hqs, hlx', hhx', hgt, mkS_def, bytesOf_bR, recD, beq_self_eq_true, Bool.not_true] <;> rfl) ?_
         refine cw_skip (sk_n rfl (cw_seq (cw_seq ?_)))
         refine cw_drawn (by simp only [newsVals, zw, Nat.reduceAdd] <;> exact rfl) (by simp only [zw, newsObj, St.eta] <;> exact rfl) ?_
         refine dw_me rfl rfl ?_
         refine dw_quiet (by simp only [zo, binD, zb, Int.reduceEq, Int.reduceToNat, Int.reduceLT, hY.len, numRows_len, hZ.len, bR_len, bne_self_eq_false, hlx, hhx, wi, w32, hia, hqi, hqs, hlx', hhx', hgt, mkS_def, bytesOf_bR, recD, beq_self_eq_true, Bool.not_true] <;> exact rfl) rfl rfl ?_
         refine dw_ml rfl rfl ?_
         refine dw_know 0 (b := false) (by simp only [opd, zv, hY.len, numRows_len, hZ.len, bR_len, bne_self_eq_false, hlx, hhx, wi, w32, hia, hqi, hqs, hlx', hhx', hgt, mkS_def, bytesOf_bR, recD, beq_self_eq_true, Bool.not_true] <;> rfl) (by simp only [zn] <;> exact rfl) ?_
         refine dw_on (by simp only [opd, zv]) ?_
         refine dw_me rfl rfl ?_
         refine dw_on (by simp only [opd, zv]) ?_
         refine dw_me rfl rfl ?_
         refine dw_on (by simp only [opd, zv]) ?_
         refine dw_quiet (by simp only [zo, lenD_str, lenD_nils, lenD_sl, lenD_msl, hY.len, numRows_len, hZ.len, bR_len, bne_self_eq_false, hlx, hhx, wi, w32, hia, hqi, hqs, hlx', hhx', hgt, mkS_def, bytesOf_bR, recD, beq_self_eq_true, Bool.not_true] <;> exact rfl) rfl rfl ?_
         refine dw_on (by simp only [opd, zv]) ?_
         refine dw_quiet (by simp only [zo, binD, zb, Int.reduceEq, Int.reduceToNat, Int.reduceLT, hY.len, numRows_len, hZ.len, bR_len, bne_self_eq_false, hlx, hhx, wi, w32, hia, hqi, hqs, hlx', hhx', hgt, mkS_def, bytesOf_bR, recD, beq_self_eq_true, Bool.not_true] <;> exact rfl) rfl rfl ?_
         refine dw_on (by simp only [opd, zv]) ?_
         refine dw_quiet (by simp only [zo, hY.len, numRows_len, hZ.len, bR_len, bne_self_eq_false, hlx, hhx, wi, w32, hia, hqi, hqs, hlx', hhx', hgt, mkS_def, bytesOf_bR, recD, beq_self_eq_true, Bool.not_true] <;> exact rfl) rfl rfl ?_
         refine dw_quiet (by simp only [zo, hY.len, numRows_len, hZ.len, bR_len, bne_self_eq_false, hlx, hhx, wi, w32, hia, hqi, hqs, hlx', hhx', hgt, mkS_def, bytesOf_bR, recD, beq_self_eq_true, Bool.not_true] <;> exact rfl) rfl rfl ?_
         refine dw_ml rfl rfl ?_
         refine dw_know 0 (b := false) (by simp only [opd, zv, hY.len, numRows_len, hZ.len, bR_len, bne_self_eq_false, hlx, hhx, wi, w32, hia, hqi, hqs, hlx', hhx', hgt, mkS_def, bytesOf_bR, recD, beq_self_eq_true, Bool.not_true] <;> rfl) (by simp only [zn] <;> exact rfl) ?_
         refine dw_on (by simp only [opd, zv]) ?_
         refine dw_me rfl rfl ?_
         refine dw_on (by simp only [opd, zv]) ?_
         refine dw_ml rfl rfl ?_
         refine dw_know 0 (b := true) (by simp only [opd, zv, hY.len, numRows_len, hZ.len, bR_len, bne_self_eq_false, hlx, hhx, wi, w32, hia, hqi, hqs, hlx', hhx', hgt, mkS_def, bytesOf_bR, recD, beq_self_eq_true, Bool.not_true] <;> rfl) (by simp only [zn] <;> exact rfl) ?_
         refine dw_on (by simp only [opd, zv]) ?_
         refine dw_me rfl rfl ?_
         refine dw_on (by simp only [opd, zv]) ?_
         refine dw_op (by simp only [zl, zm, readRows_sl, mkS_def, hY.len, numRows_len, hZ.len, bR_len, bne_self_eq_false, hlx, hhx, wi, w32, hia, hqi, hqs, hlx', hhx', hgt, mkS_def, bytesOf_bR, recD, beq_self_eq_true, Bool.not_true] <;> exact rfl) (by simp only [fpHere, zo, zq, hQ.fpi, hQ.fps] <;> exact rfl) rfl ?_
         refine dw_on (by simp only [opd, zv]) ?_
         refine dw_me rfl rfl ?_
         refine dw_on (by simp only [opd, zv]) ?_
         refine dw_op (by simp only [zl, zm, iaddrD_sl, iaddrD_msl, Int.toNat_natCast, Int.toNat_zero, List.getElem?_map, Option.map_some, Int.le_refl, hY.len, numRows_len, hZ.len, bR_len, bne_self_eq_false, hlx, hhx, wi, w32, hia, hqi, hqs, hlx', hhx', hgt, mkS_def, bytesOf_bR, recD, beq_self_eq_true, Bool.not_true] <;> exact rfl) (by simp only [fpHere, zo, zq, hQ.fpi, hQ.fps] <;> exact rfl) rfl ?_
         refine dw_on (by simp only [opd, zv]) ?_
         refine dw_op (by simp only [zl, zm, zd, partD, List.take, List.drop, hY.len, numRows_len, hZ.len, bR_len, bne_self_eq_false, hlx, hhx, wi, w32, hia, hqi, hqs, hlx', hhx', hgt, mkS_def, bytesOf_bR, recD, beq_self_eq_true, Bool.not_true] <;> exact rfl) (by simp only [fpHere, zo, zq, hQ.fpi, hQ.fps] <;> exact rfl) rfl ?_
         refine dw_on (by simp only [opd, zv]) ?_
         refine dw_op (by simp only [zl, zm, readRows_sl, mkS_def, hY.len, numRows_len, hZ.len, bR_len, bne_self_eq_false, hlx, hhx, wi, w32, hia, hqi, hqs, hlx', hhx', hgt, mkS_def, bytesOf_bR, recD, beq_self_eq_true, Bool.not_true] <;> exact rfl) (by simp only [fpHere, zo, zq, hQ.fpi, hQ.fps] <;> exact rfl) rfl ?_
         refine dw_on (by simp only [opd, zv]) ?_
         refine dw_quiet (by simp only [zo, binD, zb, Int.reduceEq, Int.reduceToNat, Int.reduceLT, hY.len, numRows_len, hZ.len, bR_len, bne_self_eq_false, hlx, hhx, wi, w32, hia, hqi, hqs, hlx', hhx', hgt, mkS_def, bytesOf_bR, recD, beq_self_eq_true, Bool.not_true] <;> exact rfl) rfl rfl ?_
         refine dw_on (by simp only [opd, zv]) ?_
         refine dw_quiet (by simp only [zo, hY.len, numRows_len, hZ.len, bR_len, bne_self_eq_false, hlx, hhx, wi, w32, hia, hqi, hqs, hlx', hhx', hgt, mkS_def, bytesOf_bR, recD, beq_self_eq_true, Bool.not_true] <;> exact rfl) rfl rfl ?_
         refine dw_quiet (by simp only [zo, hY.len, numRows_len, hZ.len, bR_len, bne_self_eq_false, hlx, hhx, wi, w32, hia, hqi, hqs, hlx', hhx', hgt, mkS_def, bytesOf_bR, recD, beq_self_eq_true, Bool.not_true] <;> exact rfl) rfl rfl ?_
         refine dw_ml rfl rfl ?_
         refine dw_know 0 (b := false) (by simp only [opd, zv, hY.len, numRows_len, hZ.len, bR_len, bne_self_eq_false, hlx, hhx, wi, w32, hia, hqi, hqs, hlx', hhx', hgt, mkS_def, bytesOf_bR, recD, beq_self_eq_true, Bool.not_true] <;> rfl) (by simp only [zn] <;> exact rfl) ?_
         refine dw_on (by simp only [opd, zv]) ?_
         refine dw_me rfl rfl ?_
         refine dw_on (by simp only [opd, zv]) ?_
         refine dw_quiet (by simp only [zo, unD, hY.len, numRows_len, hZ.len, bR_len, bne_self_eq_false, hlx, hhx, wi, w32, hia, hqi, hqs, hlx', hhx', hgt, mkS_def, bytesOf_bR, recD, beq_self_eq_true, Bool.not_true] <;> exact rfl) rfl rfl ?_
         refine dw_on (by simp only [opd, zv]) ?_
         refine dw_ml rfl rfl ?_
         refine dw_know 0 (b := false) (by simp only [opd, zv, hY.len, numRows_len, hZ.len, bR_len, bne_self_eq_false, hlx, hhx, wi, w32, hia, hqi, hqs, hlx', hhx', hgt, mkS_def, bytesOf_bR, recD, beq_self_eq_true, Bool.not_true] <;> rfl) (by simp only [zn] <;> exact rfl) ?_
         refine dw_off (b' := false) (by simp only [opd, zv]) rfl ?_
         refine dw_off (b' := false) (by simp only [opd, zv]) rfl ?_
         refine dw_off (b' := false) (by simp only [opd, zv]) rfl ?_
         refine dw_on (by simp only [opd, zv]) ?_
         refine dw_quiet (by simp only [zo, hY.len, numRows_len, hZ.len, bR_len, bne_self_eq_false, hlx, hhx, wi, w32, hia, hqi, hqs, hlx', hhx', hgt, mkS_def, bytesOf_bR, recD, beq_self_eq_true, Bool.not_true] <;> exact rfl) rfl rfl ?_
         refine dw_quiet (by simp only [zo, hY.len, numRows_len, hZ.len, bR_len, bne_self_eq_false, hlx, hhx, wi, w32, hia, hqi, hqs, hlx', hhx', hgt, mkS_def, bytesOf_bR, recD, beq_self_eq_true, Bool.not_true] <;> exact rfl) rfl rfl ?_
         refine dw_nil ?_
         refine sk_n (by simp only [ze] <;> exact rfl) ?_
         refine cw_false (by simp only [opd, zv, hY.len, numRows_len, hZ.len, bR_len, bne_self_eq_false, hlx, hhx, wi, w32, hia, hqi, hqs, hlx', hhx', hgt, mkS_def, bytesOf_bR, recD, beq_self_eq_true, Bool.not_true]) ?_
         refine cw_skip (sk_n rfl (cw_seq (cw_region ?_)))
         refine ow_me rfl ?_
         refine ow_nil ?_
         refine sk_n (by simp only [ze] <;> exact rfl) ?_
         skip
         refine cw_true (by simp only [opd, zv, hY.len, numRows_len, hZ.len, bR_len, bne_self_eq_false, hlx, hhx, wi, w32, hia, hqi, hqs, hlx', hhx', hgt, mkS_def, bytesOf_bR, recD, beq_self_eq_true, Bool.not_true] <;> rfl) ?_
         refine cw_region ?_
         refine ow_me rfl ?_
         refine ow_op (by simp only [opd, zv, exOp, aop, LOp.loud, lop, if_true, sliceArgs, Option.map_some, hY.len, numRows_len, hZ.len, bR_len, bne_self_eq_false, hlx, hhx, wi, w32, hia, hqi, hqs, hlx', hhx', hgt, mkS_def, bytesOf_bR, recD, beq_self_eq_true, Bool.not_true] <;> exact rfl) ?_
         refine ow_ml rfl ?_
         refine ow_nil (bk_n ?_)
         refine sk_n (by simp only [ze] <;> exact rfl) ?_
         refine cw_seq (cw_region ?_)
         refine ow_me rfl ?_
         refine ow_op (by simp only [zo, hY.len, numRows_len, hZ.len, bR_len, bne_self_eq_false, hlx, hhx, wi, w32, hia, hqi, hqs, hlx', hhx', hgt, mkS_def, bytesOf_bR, recD, beq_self_eq_true, Bool.not_true]; exact left_run (by omega) (get_set_self hH _) 0 hlx') ?_
         refine ow_me rfl ?_
         refine ow_op (by simp only [zo, lenD_str, lenD_nils, lenD_sl, lenD_msl, hY.len, numRows_len, hZ.len, bR_len, bne_self_eq_false, hlx, hhx, wi, w32, hia, hqi, hqs, hlx', hhx', hgt, mkS_def, bytesOf_bR, recD, beq_self_eq_true, Bool.not_true] <;> exact rfl) ?_
         refine ow_op (by simp only [zo, binD, zb, Int.reduceEq, Int.reduceToNat, Int.reduceLT, hY.len, numRows_len, hZ.len, bR_len, bne_self_eq_false, hlx, hhx, wi, w32, hia, hqi, hqs, hlx', hhx', hgt, mkS_def, bytesOf_bR, recD, beq_self_eq_true, Bool.not_true] <;> exact rfl) ?_
         refine ow_nil ?_
         refine sk_n (by simp only [ze] <;> exact rfl) ?_
         skip
         refine cw_false (by simp only [opd, zv, hY.len, numRows_len, hZ.len, bR_len, bne_self_eq_false, hlx, hhx, wi, w32, hia, hqi, hqs, hlx', hhx', hgt, mkS_def, bytesOf_bR, recD, beq_self_eq_true, Bool.not_true] <;> rfl) ?_
         refine cw_skip (bk_n (sk_n rfl (cw_region ?_)))
         refine ow_me rfl ?_
         refine ow_op (by simp only [zo, binD, zb, Int.reduceEq, Int.reduceToNat, Int.reduceLT, hY.len, numRows_len, hZ.len, bR_len, bne_self_eq_false, hlx, hhx, wi, w32, hia, hqi, hqs, hlx', hhx', hgt, mkS_def, bytesOf_bR, recD, beq_self_eq_true, Bool.not_true] <;> exact rfl) ?_
         refine ow_ml rfl ?_
         refine ow_nil ?_
         refine lk_n (by simp only [ze] <;> exact rfl) ?_
         exact ⟨cs.length - (i + 1), by omega, i + 1, _, true, m', _, _, _, _, _, _, _, _, _, _, _, _, _, _, _, _, _, _, _, _, _, _, _, _, _, _, _, by omega, rfl, by simp at hmi; omega, hat, get_set_self hH _, .inr ⟨rfl, hL.drop 1, hQ.drop 1⟩, rfl, rfl⟩
    ·
     refine cw_exit (sk_e (lk_e (bk_e (sk_n rfl (cw_seq (cw_region ?_))))))
     refine ow_op (by simp only [zo, hY.len, numRows_len, hZ.len, bR_len, bne_self_eq_false, hlx, hhx]; exact livesD (by omega) _) ?_
     refine ow_ml rfl ?_
     refine ow_nil ?_
     refine sk_n (by simp only [ze] <;> exact rfl) ?_
     refine cw_ret ?_
     refine ⟨_, by simp only [F7, resultD, resDs, resD, List.getD_cons_zero, List.getD_cons_succ, zd, rowsOf, partD, List.getElem?_cons_zero, List.getElem?_cons_succ, if_true, if_false, Bool.false_eq_true, List.take, List.drop, zm] <;> exact rfl, ?_⟩
     simp only [leaveP, leave, snapVs, snaps, zs, zf, zk]

end Go.Proofs.YtabgobmeibjeeaaGreatDoor

namespace Go.Proofs.YtabgobmeibjeeaaGreatDoor
set_option linter.unusedVariables false
set_option linter.unusedSimpArgs false
set_option maxRecDepth 100000

theorem bR_of {rows : List (List D)} (hr : ∀ r ∈ rows, Sh Tryz.prog 2 5 r) : ∃ l : List UInt8, rows = bR l := by
  obtain ⟨l, rfl⟩ := rows_of (f := fun a : UInt8 => [D.int .u8 (a.toNat : Int)]) (rows := rows) (fun r h => by
    obtain ⟨n0, rfl, w0⟩ := Sh.int ty5 (hr r h)
    obtain ⟨m0, rfl, b0⟩ := u8_nat w0
    exact ⟨UInt8.ofNat m0, by simp [UInt8.toNat_ofNat, Nat.mod_eq_of_lt b0]⟩)
  exact ⟨l, rfl⟩
theorem bytesArg {ds : List D} (h : Sh Tryz.prog 3 43 ds) : ∃ (x : D) (l : List UInt8), ds = [x] ∧ SlD 1 (bR l) x ∧ l.length ≤ 9223372036854775807 := by
  have e1 : Tryz.prog.cellsOf 5 = 1 := by kernel_rfl
  obtain ⟨x, rows, rfl, hS, hm, hr⟩ := Sh.slice (e := 5) (by kernel_rfl) h
  rw [e1] at hS
  obtain ⟨l, rfl⟩ := bR_of hr
  refine ⟨x, l, rfl, hS, ?_⟩
  have : maxLen ≤ 9223372036854775807 := by decide
  simp only [bR, List.length_map] at hm
  omega
end Go.Proofs.YtabgobmeibjeeaaGreatDoor

/- Proved here: parts of the proof, joined (S58, S59, S60, S61, S62): an abstract machine, its soundness, what functions of the program compute in it; no condition. -/
import Derived.Test.YtabgobmeibjeeaaGreatDoorM5
namespace Go.Proofs.YtabgobmeibjeeaaGreatDoor
set_option linter.unusedSimpArgs false
set_option linter.unusedVariables false
set_option maxRecDepth 10000
set_option maxHeartbeats 4000000

theorem validE_w {d : Nat} (hd : 1 ≤ d) (S : St) {x y : D} {kr rows : List (List D)} (hS : SlD 14 kr x) (hR : SlD 1 rows y) (size : Int) (hw : (rows.length : Int) ≠ size) : runF LP NN d 44 [x, .int .i64 size, y] S = some (.int .i64 5, S, false) := by
 have hwd : (((rows.length : Nat) : Int) != size) = true := by rw [bne_iff_ne]; exact hw
 refine run_pure (F := F44) rfl (by simp only [LP, fnOf, snapVs, snaps, zs, zm, zv, hS.snapV, hS.freeV, hR.snapV, hR.freeV] <;> exact rfl) rfl (by simp only [LP, zf, zm, hS.snapV, hS.freeV, hR.snapV, hR.freeV]; try rfl) (by simp only [F44, zv] <;> exact rfl) (by omega) ?_
 rintro d rfl
 refine cw_seq (cw_region ?_)
 refine ow_mc ?_
 refine ow_nil ?_
 refine sk_n (by simp only [ze] <;> exact rfl) ?_
 refine cw_seq (cw_seq (cw_region ?_))
 refine ow_me rfl ?_
 refine ow_op (by simp only [zo, lenD_str, lenD_nils, lenD_sl, lenD_msl, hR.len, hwd] <;> exact rfl) ?_
 refine ow_me rfl ?_
 refine ow_op (by simp only [zo, binD, zb, Int.reduceEq, Int.reduceToNat, Int.reduceLT, hR.len, hwd] <;> exact rfl) ?_
 refine ow_nil ?_
 refine sk_n (by simp only [ze] <;> exact rfl) ?_
 skip
 refine cw_true (by simp only [opd, zv, hR.len, hwd] <;> rfl) ?_
 refine cw_seq (cw_region ?_)
 refine ow_mc ?_
 refine ow_nil ?_
 refine sk_n (by simp only [ze] <;> exact rfl) ?_
 refine cw_ret (sk_r ?_)
 refine ⟨_, by simp only [F44, resultD, resDs, resD, zg, zd, rowsOf, partD, List.take, List.drop, zm] <;> exact rfl, ?_⟩
 simp only [leaveP, leave, snapVs, snaps, zs, zf, zk]

theorem validE_bad {d : Nat} (hd : 15 ≤ d) (S : St) {x y : D} {ks : List Ke} {k : Ke} {l : List UInt8} (hS : SlD 14 (keRows ks) x) (hR : SlD 1 (bR l) y) (hk : ks[0]? = some k) (h4 : k.cat = 4) (hfit : k.a + k.n ≤ l.length) (hb : l.length ≤ 1000000) (hv : ∀ (d : Nat) (S : St), 14 ≤ d → runF LP NN d 78 [.agg [.int .u8 k.cat, .int .u8 k.us, .str k.pic, .int .i64 k.dg, .int .i64 k.sc, .bool k.sg, .bool k.le, .bool k.se, .bool k.ju, .bool k.bl, .int .i64 k.sz, subD k.a k.n y]] S = some (.int .i64 15, S, false)) : runF LP NN d 44 [x, .int .i64 (l.length : Nat), y] S = some (.int .i64 15, S, false) := by
 have hlt : 0 < ks.length := (List.getElem?_eq_some_iff.1 hk).1
 have h0 : decide ((0 : Int) < (ks.length : Int)) = true := decide_eq_true (by omega)
 have hia := fun (S : St) => hS.iaddr S .i64 (i := 0) (by omega) (keRows_at hk)
 have hc4 : (k.cat == 4) = true := by rw [h4]; rfl
 refine run_pure (F := F44) rfl (by simp only [LP, fnOf, snapVs, snaps, zs, zm, zv, hS.snapV, hS.freeV, hR.snapV, hR.freeV] <;> exact rfl) rfl (by simp only [LP, zf, zm, hS.snapV, hS.freeV, hR.snapV, hR.freeV]; try rfl) (by simp only [F44, zv] <;> exact rfl) (by omega) ?_
 rintro d rfl
 refine cw_seq (cw_region ?_)
 refine ow_mc ?_
 refine ow_nil ?_
 refine sk_n (by simp only [ze] <;> exact rfl) ?_
 refine cw_seq (cw_seq (cw_region ?_))
 refine ow_me rfl ?_
 refine ow_op (by simp only [zo, lenD_str, lenD_nils, lenD_sl, lenD_msl, hS.len, hR.len, bR_len, keRows_len, hia, hR.isCell, hc4] <;> exact rfl) ?_
 refine ow_me rfl ?_
 refine ow_op (by simp only [zo, binD, zb, Int.reduceEq, Int.reduceToNat, Int.reduceLT, hS.len, hR.len, bR_len, keRows_len, hia, hR.isCell, hc4] <;> exact rfl) ?_
 refine ow_nil ?_
 refine sk_n (by simp only [ze] <;> exact rfl) ?_
 skip
 refine cw_false (by simp only [opd, zv, hS.len, hR.len, bR_len, keRows_len, hia, hR.isCell, hc4] <;> (rw [bne_self_eq_false])) ?_
 refine cw_skip (sk_n rfl (cw_seq (cw_seq (cw_region ?_))))
 refine ow_me rfl ?_
 refine ow_op (by simp only [zo, lenD_str, lenD_nils, lenD_sl, lenD_msl, hS.len, hR.len, bR_len, keRows_len, hia, hR.isCell, hc4] <;> exact rfl) ?_
 refine ow_mc ?_
 refine ow_nil ?_
 refine sk_n (by simp only [ze] <;> exact rfl) ?_
 refine cw_block ?_
 refine cw_loop (fun n env S' => ∃ (u4 u5 u9 u10 : D), n = 1 ∧ S' = ⟨[], 0⟩ ∧ env = [x, .int .i64 (l.length : Nat), y, .int .i64 0, u4, u5, x, .int .i64 ks.length, .int .i64 0, u9, u10]) (1) (by omega) (⟨_, _, _, _, rfl, rfl, rfl⟩) ?_
 rintro n env S' ⟨u4, u5, u9, u10, rfl, rfl, rfl⟩
 refine cw_seq (cw_region ?_)
 refine ow_op (by simp only [zo, binD, zb, Int.reduceEq, Int.reduceToNat, Int.reduceLT, hS.len, hR.len, bR_len, keRows_len, hia, hR.isCell, hc4] <;> exact rfl) ?_
 refine ow_nil ?_
 refine sk_n (by simp only [ze] <;> exact rfl) ?_
 refine cw_seq ?_
 skip
 refine cw_true (by simp only [opd, zv, hS.len, hR.len, bR_len, keRows_len, hia, hR.isCell, hc4] <;> rw [h0]) ?_
 refine cw_skip (sk_n rfl (cw_seq (cw_block (cw_seq (cw_region ?_)))))
 refine ow_op (by simp only [zl, zm, iaddrD_sl, iaddrD_msl, Int.toNat_natCast, Int.toNat_zero, List.getElem?_map, Option.map_some, Int.le_refl, hS.len, hR.len, bR_len, keRows_len, hia, hR.isCell, hc4] <;> exact rfl) ?_
 refine ow_op (by simp only [zl, zm, zd, partD, List.take, List.drop, hS.len, hR.len, bR_len, keRows_len, hia, hR.isCell, hc4] <;> exact rfl) ?_
 refine ow_op (by simp only [zl, zm, hS.len, hR.len, bR_len, keRows_len, hia, hR.isCell, hc4] <;> exact rfl) ?_
 refine ow_op (by simp only [zl, zm, storeD, overlay, snapVs, snaps, zs, zc, zf, List.take, List.drop, hS.len, hR.len, bR_len, keRows_len, hia, hR.isCell, hc4] <;> exact rfl) ?_
 refine ow_nil ?_
 refine sk_n (by simp only [ze] <;> exact rfl) ?_
 refine cw_seq (cw_region ?_)
 refine ow_op (by simp only [zo, zr, zm, hS.len, hR.len, bR_len, keRows_len, hia, hR.isCell, hc4] <;> exact rfl) ?_
 refine ow_op (by simp only [zo, zr, zm, hS.len, hR.len, bR_len, keRows_len, hia, hR.isCell, hc4] <;> exact rfl) ?_
 refine ow_op (by simp only [zl, zm, zd, partD, List.take, List.drop, hS.len, hR.len, bR_len, keRows_len, hia, hR.isCell, hc4] <;> exact rfl) ?_
 refine ow_op (by simp only [zo, binD, zb, Int.reduceEq, Int.reduceToNat, Int.reduceLT, hS.len, hR.len, bR_len, keRows_len, hia, hR.isCell, hc4] <;> exact rfl) ?_
 refine ow_ml rfl ?_
 refine ow_know 0 (b := true) (by simp only [opd, zv, hS.len, hR.len, bR_len, keRows_len, hia, hR.isCell, hc4] <;> rfl) (by simp only [zn] <;> exact rfl) ?_
 refine ow_on rfl ?_
 refine ow_op (by simp only [zl, zm, zd, partD, List.take, List.drop, hS.len, hR.len, bR_len, keRows_len, hia, hR.isCell, hc4] <;> exact rfl) ?_
 refine ow_on rfl ?_
 refine ow_me rfl ?_
 refine ow_on rfl ?_
 refine ow_op (by simp only [zo, hS.len, hR.len, bR_len, keRows_len, hia, hR.isCell, hc4]; exact field_run (by omega) _ k hR (by rw [bR_len]; exact hfit) (by rw [bR_len]; exact hb)) ?_
 refine ow_on rfl ?_
 refine ow_op (by simp only [zo, hS.len, hR.len, bR_len, keRows_len, hia, hR.isCell, hc4]; exact hv _ _ (by omega)) ?_
 refine ow_on rfl ?_
 refine ow_op (by simp only [zo, binD, zb, Int.reduceEq, Int.reduceToNat, Int.reduceLT, hS.len, hR.len, bR_len, keRows_len, hia, hR.isCell, hc4] <;> exact rfl) ?_
 refine ow_op (by simp only [zo, hS.len, hR.len, bR_len, keRows_len, hia, hR.isCell, hc4] <;> exact rfl) ?_
 refine ow_nil ?_
 refine sk_n (by simp only [ze] <;> exact rfl) ?_
 skip
 refine cw_true (by simp only [opd, zv, hS.len, hR.len, bR_len, keRows_len, hia, hR.isCell, hc4] <;> rfl) ?_
 refine cw_seq (cw_region ?_)
 refine ow_mc ?_
 refine ow_nil ?_
 refine sk_n (by simp only [ze] <;> exact rfl) ?_
 refine cw_ret (bk_r (sk_r (lk_r (bk_r (sk_r ?_)))))
 refine ⟨_, by simp only [F44, resultD, resDs, resD, zg, zd, rowsOf, partD, List.take, List.drop, zm] <;> exact rfl, ?_⟩
 simp only [leaveP, leave, snapVs, snaps, zs, zf, zk]

def wantR (s : Nat) (k : Ke) (l : List UInt8) : Int := if l.length ≠ s then 5 else if fitE k l then 0 else 15
theorem validE_run {d : Nat} (hd : 16 ≤ d) (S : St) {x y : D} {k : Ke} {n s : Nat} {l : List UInt8} (hS : SlD 14 (keRows (List.replicate n k)) x) (hR : SlD 1 (bR l) y) (hn : 1 ≤ n) (hn8 : n ≤ 8) (hg : GE s k) (hs : s ≤ 4096) : runF LP NN d 44 [x, .int .i64 (s : Nat), y] S = some (.int .i64 (wantR s k l), S, false) := by
 unfold wantR
 by_cases hw : l.length = s
 ·
  rw [if_neg (by simpa using hw)]
  subst hw
  by_cases hf : fitE k l = true
  ·
   rw [if_pos hf]
   have h := valid_run (d := d) (by omega) S hS hR (by simp; omega) (by rw [bR_len]; omega) (by rw [bR_len]; exact fun q hq => by rw [List.eq_of_mem_replicate hq]; exact ge_ok hg) (fun q hq hc d S hd => by
    have := List.eq_of_mem_replicate hq
    subst this
    exact (ge_uck hg hR rfl hc hd S).trans (by rw [if_pos hf]))
   rw [bR_len] at h
   exact h
  ·
   rw [if_neg hf]
   have h4 : k.cat = 4 := by
    by_cases h : k.cat = 4
    ·
     exact h
    ·
     exact absurd (by simp [fitE, h]) hf
   exact validE_bad (by omega) S hS hR (by rw [List.getElem?_replicate, if_pos (by omega)]) h4 hg.fit (by omega) (fun d S hd => (ge_uck hg hR rfl h4 hd S).trans (by rw [if_neg hf]))
 ·
  rw [if_pos hw]
  exact validE_w (by omega) S hS hR s (by rw [bR_len]; omega)

theorem ValidE_c {d : Nat} (hd : 18 ≤ d) (S : St) {x y : D} {kr rows : List (List D)} (hS : SlD 14 kr x) (hR : SlD 1 rows y) (size c : Int) (hC : ∀ (d : Nat) (S : St), 17 ≤ d → runF LP NN d 29 [x, .int .i64 size] S = some (.int .i64 c, S, false)) (hc : c ≠ 0) : runF LP NN d 30 [x, .int .i64 size, y] S = some (.int .i64 c, S, false) := by
 have hc0 : (c != 0) = true := by rw [bne_iff_ne]; exact hc
 refine run_pure (F := F30) rfl (by simp only [LP, fnOf, snapVs, snaps, zs, zm, zv, hS.snapV, hS.freeV, hR.snapV, hR.freeV] <;> exact rfl) rfl (by simp only [LP, zf, zm, hS.snapV, hS.freeV, hR.snapV, hR.freeV]; try rfl) (by simp only [F30, zv] <;> exact rfl) (by omega) ?_
 rintro d rfl
 refine cw_seq (cw_region ?_)
 refine ow_mc ?_
 refine ow_nil ?_
 refine sk_n (by simp only [ze] <;> exact rfl) ?_
 refine cw_seq (cw_seq (cw_region ?_))
 refine ow_me rfl ?_
 refine ow_me rfl ?_
 refine ow_op (by simp only [zo, hc0]; exact hC _ _ (by omega)) ?_
 refine ow_ml rfl ?_
 refine ow_nil ?_
 refine sk_n (by simp only [ze] <;> exact rfl) ?_
 refine cw_seq (cw_region ?_)
 refine ow_me rfl ?_
 refine ow_op (by simp only [zo, binD, zb, Int.reduceEq, Int.reduceToNat, Int.reduceLT, hc0] <;> exact rfl) ?_
 refine ow_nil ?_
 refine sk_n (by simp only [ze] <;> exact rfl) ?_
 skip
 refine cw_true (by simp only [opd, zv, hc0] <;> rfl) ?_
 refine cw_seq (cw_region ?_)
 refine ow_me rfl ?_
 refine ow_ml rfl ?_
 refine ow_nil ?_
 refine sk_n (by simp only [ze] <;> exact rfl) ?_
 refine cw_ret (sk_r ?_)
 refine ⟨_, by simp only [F30, resultD, resDs, resD, zg, zd, rowsOf, partD, List.take, List.drop, zm] <;> exact rfl, ?_⟩
 simp only [leaveP, leave, snapVs, snaps, zs, zf, zk]

theorem ValidE_v {d : Nat} (hd : 18 ≤ d) (S : St) {x y : D} {kr rows : List (List D)} (hS : SlD 14 kr x) (hR : SlD 1 rows y) (size v : Int) (hC : ∀ (d : Nat) (S : St), 17 ≤ d → runF LP NN d 29 [x, .int .i64 size] S = some (.int .i64 0, S, false)) (hV : ∀ (d : Nat) (S : St), 16 ≤ d → runF LP NN d 44 [x, .int .i64 size, y] S = some (.int .i64 v, S, false)) : runF LP NN d 30 [x, .int .i64 size, y] S = some (.int .i64 v, S, false) := by
 refine run_pure (F := F30) rfl (by simp only [LP, fnOf, snapVs, snaps, zs, zm, zv, hS.snapV, hS.freeV, hR.snapV, hR.freeV] <;> exact rfl) rfl (by simp only [LP, zf, zm, hS.snapV, hS.freeV, hR.snapV, hR.freeV]; try rfl) (by simp only [F30, zv] <;> exact rfl) (by omega) ?_
 rintro d rfl
 refine cw_seq (cw_region ?_)
 refine ow_mc ?_
 refine ow_nil ?_
 refine sk_n (by simp only [ze] <;> exact rfl) ?_
 refine cw_seq (cw_seq (cw_region ?_))
 refine ow_me rfl ?_
 refine ow_me rfl ?_
 refine ow_op (by simp only [zo]; exact hC _ _ (by omega)) ?_
 refine ow_ml rfl ?_
 refine ow_nil ?_
 refine sk_n (by simp only [ze] <;> exact rfl) ?_
 refine cw_seq (cw_region ?_)
 refine ow_me rfl ?_
 refine ow_op (by simp only [zo, binD, zb, Int.reduceEq, Int.reduceToNat, Int.reduceLT] <;> exact rfl) ?_
 refine ow_nil ?_
 refine sk_n (by simp only [ze] <;> exact rfl) ?_
 skip
 refine cw_false (by simp only [opd, zv] <;> rfl) ?_
 refine cw_skip (sk_n rfl (cw_seq (cw_region ?_)))
 refine ow_me rfl ?_
 refine ow_me rfl ?_
 refine ow_me rfl ?_
 refine ow_op (by simp only [zo]; exact hV _ _ (by omega)) ?_
 refine ow_ml rfl ?_
 refine ow_nil ?_
 refine sk_n (by simp only [ze] <;> exact rfl) ?_
 refine cw_ret ?_
 refine ⟨_, by simp only [F30, resultD, resDs, resD, zg, zd, rowsOf, partD, List.take, List.drop, zm] <;> exact rfl, ?_⟩
 simp only [leaveP, leave, snapVs, snaps, zs, zf, zk]

theorem CompareE_bad {d : Nat} (hd : 19 ≤ d) (S : St) {x y : D} {kr rows : List (List D)} (hS : SlD 14 kr x) (hR : SlD 1 rows y) (size c : Int) (hv : ∀ (d : Nat) (S : St), 18 ≤ d → runF LP NN d 30 [x, .int .i64 size, y] S = some (.int .i64 c, S, false)) (hc : c ≠ 0) : runF LP NN d 15 [x, .int .i64 size, y, y] S = some (.tup [.int .i64 0, .int .i64 c], S, false) := by
 have hc0 : (c != 0) = true := by rw [bne_iff_ne]; exact hc
 have hia := fun (S : St) => (SlD.of 1 [[y], [y]] (some 2)).iaddr S .i64 (i := 0) (r := [y]) (by omega) rfl
 refine run_pure (F := F15) rfl (by simp only [LP, fnOf, snapVs, snaps, zs, zm, zv, hS.snapV, hS.freeV, hR.snapV, hR.freeV] <;> exact rfl) rfl (by simp only [LP, zf, zm, hS.snapV, hS.freeV, hR.snapV, hR.freeV]; try rfl) (by simp only [F15, zv] <;> exact rfl) (by omega) ?_
 rintro d rfl
 refine cw_seq (cw_region ?_)
 refine ow_mc ?_
 refine ow_mc ?_
 refine ow_nil ?_
 refine sk_n (by simp only [ze] <;> exact rfl) ?_
 refine cw_seq (cw_seq (cw_region ?_))
 refine ow_me rfl ?_
 refine ow_me rfl ?_
 refine ow_op (by simp only [zl, zm, fillRows, List.replicate, snapVs, snaps, zs, zc, zf, hc0, hR.snapV, hR.isCell, hR.val, hR.cells, hR.free, zn, hia] <;> exact rfl) ?_
 refine ow_op (by simp only [zo, lenD_str, lenD_nils, lenD_sl, lenD_msl, hc0, hR.snapV, hR.isCell, hR.val, hR.cells, hR.free, zn, hia] <;> exact rfl) ?_
 refine ow_mc ?_
 refine ow_nil ?_
 refine sk_n (by simp only [ze] <;> exact rfl) ?_
 refine cw_block ?_
 refine cw_loop (fun n env S' => ∃ (u6 u7 u11 u12 : D), n = 1 ∧ S' = ⟨[], 0⟩ ∧ env = [x, .int .i64 size, y, y, .int .i64 0, .int .i64 0, u6, u7, .sl 1 [[y], [y]] (some 2), .int .i64 2, .int .i64 0, u11, u12]) (1) (by omega) (⟨_, _, _, _, rfl, rfl, rfl⟩) ?_
 rintro n env S' ⟨u6, u7, u11, u12, rfl, rfl, rfl⟩
 refine cw_seq (cw_region ?_)
 refine ow_op (by simp only [zo, binD, zb, Int.reduceEq, Int.reduceToNat, Int.reduceLT, hc0, hR.snapV, hR.isCell, hR.val, hR.cells, hR.free, zn, hia] <;> exact rfl) ?_
 refine ow_nil ?_
 refine sk_n (by simp only [ze] <;> exact rfl) ?_
 refine cw_seq ?_
 skip
 refine cw_true (by simp only [opd, zv, hc0, hR.snapV, hR.isCell, hR.val, hR.cells, hR.free, zn, hia] <;> rfl) ?_
 refine cw_skip (sk_n rfl (cw_seq (cw_block (cw_seq (cw_region ?_)))))
 refine ow_op (by simp only [opd, zv, exOp, aop, LOp.loud, lop, if_true, Option.map_some, hc0, hR.snapV, hR.isCell, hR.val, hR.cells, hR.free, zn, hia] <;> exact rfl) ?_
 refine ow_op (by simp only [zl, zm, zd, partD, List.take, List.drop, hc0, hR.snapV, hR.isCell, hR.val, hR.cells, hR.free, zn, hia] <;> exact rfl) ?_
 refine ow_ml rfl ?_
 refine ow_nil ?_
 refine sk_n (by simp only [ze] <;> exact rfl) ?_
 refine cw_seq (cw_region ?_)
 refine ow_me rfl ?_
 refine ow_me rfl ?_
 refine ow_me rfl ?_
 refine ow_op (by simp only [zo, hc0, hR.snapV, hR.isCell, hR.val, hR.cells, hR.free, zn, hia]; exact hv _ _ (by omega)) ?_
 refine ow_ml rfl ?_
 refine ow_nil ?_
 refine sk_n (by simp only [ze] <;> exact rfl) ?_
 refine cw_seq (cw_region ?_)
 refine ow_me rfl ?_
 refine ow_op (by simp only [zo, binD, zb, Int.reduceEq, Int.reduceToNat, Int.reduceLT, hc0, hR.snapV, hR.isCell, hR.val, hR.cells, hR.free, zn, hia] <;> exact rfl) ?_
 refine ow_nil ?_
 refine sk_n (by simp only [ze] <;> exact rfl) ?_
 skip
 refine cw_true (by simp only [opd, zv, hc0, hR.snapV, hR.isCell, hR.val, hR.cells, hR.free, zn, hia] <;> rfl) ?_
 refine cw_seq (cw_region ?_)
 refine ow_me rfl ?_
 refine ow_mc ?_
 refine ow_ml rfl ?_
 refine ow_nil ?_
 refine sk_n (by simp only [ze] <;> exact rfl) ?_
 refine cw_ret (bk_r (sk_r (lk_r (bk_r (sk_r ?_)))))
 refine ⟨_, by simp only [F15, resultD, resDs, resD, zg, zd, rowsOf, partD, List.take, List.drop, zm] <;> exact rfl, ?_⟩
 simp only [leaveP, leave, snapVs, snaps, zs, zf, zk]

theorem allE_c {d : Nat} (hd : 18 ≤ d) (S : St) {x y : D} {kr rows : List (List D)} (hS : SlD 14 kr x) (hR : SlD 1 rows y) (size c : Int) (hC : ∀ (d : Nat) (S : St), 17 ≤ d → runF LP NN d 29 [x, .int .i64 size] S = some (.int .i64 c, S, false)) (hc : c ≠ 0) : runF LP NN d 31 [x, .int .i64 size, .sl 1 [[.sl 1 [[y]] (some 1)]] (some 1)] S = some (.int .i64 c, S, false) := by
 have hc0 : (c != 0) = true := by rw [bne_iff_ne]; exact hc
 refine run_pure (F := F31) rfl (by simp only [LP, fnOf, snapVs, snaps, zs, zm, zv, hS.snapV, hS.freeV, hR.snapV, hR.freeV] <;> exact rfl) rfl (by simp only [LP, zf, zm, hS.snapV, hS.freeV, hR.snapV, hR.freeV]; try rfl) (by simp only [F31, zv] <;> exact rfl) (by omega) ?_
 rintro d rfl
 refine cw_seq (cw_region ?_)
 refine ow_mc ?_
 refine ow_nil ?_
 refine sk_n (by simp only [ze] <;> exact rfl) ?_
 refine cw_seq (cw_seq (cw_region ?_))
 refine ow_me rfl ?_
 refine ow_me rfl ?_
 refine ow_op (by simp only [zo, hc0]; exact hC _ _ (by omega)) ?_
 refine ow_ml rfl ?_
 refine ow_nil ?_
 refine sk_n (by simp only [ze] <;> exact rfl) ?_
 refine cw_seq (cw_region ?_)
 refine ow_me rfl ?_
 refine ow_op (by simp only [zo, binD, zb, Int.reduceEq, Int.reduceToNat, Int.reduceLT, hc0] <;> exact rfl) ?_
 refine ow_nil ?_
 refine sk_n (by simp only [ze] <;> exact rfl) ?_
 skip
 refine cw_true (by simp only [opd, zv, hc0] <;> rfl) ?_
 refine cw_seq (cw_region ?_)
 refine ow_me rfl ?_
 refine ow_ml rfl ?_
 refine ow_nil ?_
 refine sk_n (by simp only [ze] <;> exact rfl) ?_
 refine cw_ret (sk_r ?_)
 refine ⟨_, by simp only [F31, resultD, resDs, resD, zg, zd, rowsOf, partD, List.take, List.drop, zm] <;> exact rfl, ?_⟩
 simp only [leaveP, leave, snapVs, snaps, zs, zf, zk]

theorem allE_bad {d : Nat} (hd : 18 ≤ d) (S : St) {x y : D} {kr rows : List (List D)} (hS : SlD 14 kr x) (hR : SlD 1 rows y) (size v : Int) (hC : ∀ (d : Nat) (S : St), 17 ≤ d → runF LP NN d 29 [x, .int .i64 size] S = some (.int .i64 0, S, false)) (hV : ∀ (d : Nat) (S : St), 16 ≤ d → runF LP NN d 44 [x, .int .i64 size, y] S = some (.int .i64 v, S, false)) (hc : v ≠ 0) : runF LP NN d 31 [x, .int .i64 size, .sl 1 [[.sl 1 [[y]] (some 1)]] (some 1)] S = some (.int .i64 v, S, false) := by
 have hia := fun (S : St) => (SlD.of 1 [[.sl 1 [[y]] (some 1)]] (some 1)).iaddr S .i64 (i := 0) (r := [.sl 1 [[y]] (some 1)]) (by omega) rfl
 have hib := fun (S : St) => (SlD.of 1 [[y]] (some 1)).iaddr S .i64 (i := 0) (r := [y]) (by omega) rfl
 have w1 : IntKind.i64.wrap (0 + 1) = 1 := by decide
 have hc0 : (v != 0) = true := by rw [bne_iff_ne]; exact hc
 refine run_pure (F := F31) rfl (by simp only [LP, fnOf, snapVs, snaps, zs, zm, zv, hS.snapV, hS.freeV, hR.snapV, hR.freeV] <;> exact rfl) rfl (by simp only [LP, zf, zm, hS.snapV, hS.freeV, hR.snapV, hR.freeV]; try rfl) (by simp only [F31, zv] <;> exact rfl) (by omega) ?_
 rintro d rfl
 refine cw_seq (cw_region ?_)
 refine ow_mc ?_
 refine ow_nil ?_
 refine sk_n (by simp only [ze] <;> exact rfl) ?_
 refine cw_seq (cw_seq (cw_region ?_))
 refine ow_me rfl ?_
 refine ow_me rfl ?_
 refine ow_op (by simp only [zo, hia, hib, w1]; exact hC _ _ (by omega)) ?_
 refine ow_ml rfl ?_
 refine ow_nil ?_
 refine sk_n (by simp only [ze] <;> exact rfl) ?_
 refine cw_seq (cw_region ?_)
 refine ow_me rfl ?_
 refine ow_op (by simp only [zo, binD, zb, Int.reduceEq, Int.reduceToNat, Int.reduceLT, hia, hib, w1] <;> exact rfl) ?_
 refine ow_nil ?_
 refine sk_n (by simp only [ze] <;> exact rfl) ?_
 skip
 refine cw_false (by simp only [opd, zv, hia, hib, w1] <;> rfl) ?_
 refine cw_skip (sk_n rfl (cw_seq (cw_region ?_)))
 refine ow_mc ?_
 refine ow_nil ?_
 refine sk_n (by simp only [ze] <;> exact rfl) ?_
 refine cw_seq (cw_seq (cw_region ?_))
 refine ow_me rfl ?_
 refine ow_op (by simp only [zo, lenD_str, lenD_nils, lenD_sl, lenD_msl, hia, hib, w1] <;> exact rfl) ?_
 refine ow_mc ?_
 refine ow_nil ?_
 refine sk_n (by simp only [ze] <;> exact rfl) ?_
 refine cw_block (cw_unroll ?_)
 refine cl_step ?_
 refine cw_seq (cw_region ?_)
 refine ow_op (by simp only [zo, binD, zb, Int.reduceEq, Int.reduceToNat, Int.reduceLT, hia, hib, w1] <;> exact rfl) ?_
 refine ow_nil ?_
 refine sk_n (by simp only [ze] <;> exact rfl) ?_
 refine cw_seq ?_
 skip
 refine cw_true (by simp only [opd, zv, hia, hib, w1] <;> rfl) ?_
 refine cw_skip (sk_n rfl (cw_seq (cw_block (cw_seq (cw_region ?_)))))
 refine ow_op (by simp only [opd, zv, exOp, aop, LOp.loud, lop, if_true, Option.map_some, hia, hib, w1] <;> exact rfl) ?_
 refine ow_op (by simp only [zl, zm, zd, partD, List.take, List.drop, hia, hib, w1] <;> exact rfl) ?_
 refine ow_ml rfl ?_
 refine ow_nil ?_
 refine sk_n (by simp only [ze] <;> exact rfl) ?_
 refine cw_region ?_
 refine ow_me rfl ?_
 refine ow_me rfl ?_
 refine ow_op (by simp only [zo, lenD_str, lenD_nils, lenD_sl, lenD_msl, hia, hib, w1] <;> exact rfl) ?_
 refine ow_op (by simp only [zo, binD, zb, Int.reduceEq, Int.reduceToNat, Int.reduceLT, hia, hib, w1] <;> exact rfl) ?_
 refine ow_ml rfl ?_
 refine ow_nil (bk_n ?_)
 refine sk_n (by simp only [ze] <;> exact rfl) ?_
 refine cw_region ?_
 refine ow_op (by simp only [zo, binD, zb, Int.reduceEq, Int.reduceToNat, Int.reduceLT, hia, hib, w1] <;> exact rfl) ?_
 refine ow_ml rfl ?_
 refine ow_nil ?_
 refine lu_n (by simp only [ze] <;> exact rfl) ?_
 refine cl_step ?_
 refine cw_seq (cw_region ?_)
 refine ow_op (by simp only [zo, binD, zb, Int.reduceEq, Int.reduceToNat, Int.reduceLT, hia, hib, w1] <;> exact rfl) ?_
 refine ow_nil ?_
 refine sk_n (by simp only [ze] <;> exact rfl) ?_
 refine cw_seq ?_
 skip
 refine cw_false (by simp only [opd, zv, hia, hib, w1] <;> rfl) ?_
 refine cw_exit (sk_e (lu_e (bk_e (sk_n rfl (cw_seq (cw_seq (cw_region ?_)))))))
 refine ow_me rfl ?_
 refine ow_op (by simp only [zo, binD, zb, Int.reduceEq, Int.reduceToNat, Int.reduceLT, hia, hib, w1] <;> exact rfl) ?_
 refine ow_nil ?_
 refine sk_n (by simp only [ze] <;> exact rfl) ?_
 skip
 refine cw_false (by simp only [opd, zv, hia, hib, w1] <;> rfl) ?_
 refine cw_skip (sk_n rfl (cw_seq (cw_seq (cw_region ?_))))
 refine ow_me rfl ?_
 refine ow_op (by simp only [zo, lenD_str, lenD_nils, lenD_sl, lenD_msl, hia, hib, w1] <;> exact rfl) ?_
 refine ow_mc ?_
 refine ow_nil ?_
 refine sk_n (by simp only [ze] <;> exact rfl) ?_
 refine cw_block (cw_unroll ?_)
 refine cl_step ?_
 refine cw_seq (cw_region ?_)
 refine ow_op (by simp only [zo, binD, zb, Int.reduceEq, Int.reduceToNat, Int.reduceLT, hia, hib, w1] <;> exact rfl) ?_
 refine ow_nil ?_
 refine sk_n (by simp only [ze] <;> exact rfl) ?_
 refine cw_seq ?_
 skip
 refine cw_true (by simp only [opd, zv, hia, hib, w1] <;> rfl) ?_
 refine cw_skip (sk_n rfl (cw_seq (cw_block (cw_seq (cw_region ?_)))))
 refine ow_op (by simp only [opd, zv, exOp, aop, LOp.loud, lop, if_true, Option.map_some, hia, hib, w1] <;> exact rfl) ?_
 refine ow_op (by simp only [zl, zm, zd, partD, List.take, List.drop, hia, hib, w1] <;> exact rfl) ?_
 refine ow_ml rfl ?_
 refine ow_nil ?_
 refine sk_n (by simp only [ze] <;> exact rfl) ?_
 refine cw_seq (cw_region ?_)
 refine ow_me rfl ?_
 refine ow_op (by simp only [zo, lenD_str, lenD_nils, lenD_sl, lenD_msl, hia, hib, w1] <;> exact rfl) ?_
 refine ow_mc ?_
 refine ow_nil ?_
 refine sk_n (by simp only [ze] <;> exact rfl) ?_
 refine cw_block (cw_unroll ?_)
 refine cl_step ?_
 refine cw_seq (cw_region ?_)
 refine ow_op (by simp only [zo, binD, zb, Int.reduceEq, Int.reduceToNat, Int.reduceLT, hia, hib, w1] <;> exact rfl) ?_
 refine ow_nil ?_
 refine sk_n (by simp only [ze] <;> exact rfl) ?_
 refine cw_seq ?_
 skip
 refine cw_true (by simp only [opd, zv, hia, hib, w1] <;> rfl) ?_
 refine cw_skip (sk_n rfl (cw_seq (cw_block (cw_seq (cw_region ?_)))))
 refine ow_op (by simp only [opd, zv, exOp, aop, LOp.loud, lop, if_true, Option.map_some, hia, hib, w1] <;> exact rfl) ?_
 refine ow_op (by simp only [zl, zm, zd, partD, List.take, List.drop, hia, hib, w1] <;> exact rfl) ?_
 refine ow_ml rfl ?_
 refine ow_nil ?_
 refine sk_n (by simp only [ze] <;> exact rfl) ?_
 refine cw_seq (cw_region ?_)
 refine ow_me rfl ?_
 refine ow_me rfl ?_
 refine ow_me rfl ?_
 refine ow_op (by simp only [zo, hia, hib, w1]; exact hV _ _ (by omega)) ?_
 refine ow_ml rfl ?_
 refine ow_nil ?_
 refine sk_n (by simp only [ze] <;> exact rfl) ?_
 refine cw_seq (cw_region ?_)
 refine ow_me rfl ?_
 refine ow_op (by simp only [zo, binD, zb, Int.reduceEq, Int.reduceToNat, Int.reduceLT, hia, hib, w1] <;> exact rfl) ?_
 refine ow_nil ?_
 refine sk_n (by simp only [ze] <;> exact rfl) ?_
 skip
 refine cw_true (by simp only [opd, zv, hia, hib, w1] <;> rw [hc0]) ?_
 refine cw_seq (cw_region ?_)
 refine ow_me rfl ?_
 refine ow_ml rfl ?_
 refine ow_nil ?_
 refine sk_n (by simp only [ze] <;> exact rfl) ?_
 refine cw_ret (bk_r (sk_r (lu_r (bk_r (bk_r (sk_r (lu_r (bk_r (sk_r ?_)))))))))
 refine ⟨_, by simp only [F31, resultD, resDs, resD, zg, zd, rowsOf, partD, List.take, List.drop, zm] <;> exact rfl, ?_⟩
 simp only [leaveP, leave, snapVs, snaps, zs, zf, zk]

theorem allE_ok {d : Nat} (hd : 18 ≤ d) (S : St) {x y : D} {kr rows : List (List D)} (hS : SlD 14 kr x) (hR : SlD 1 rows y) (size v : Int) (hC : ∀ (d : Nat) (S : St), 17 ≤ d → runF LP NN d 29 [x, .int .i64 size] S = some (.int .i64 0, S, false)) (hV : ∀ (d : Nat) (S : St), 16 ≤ d → runF LP NN d 44 [x, .int .i64 size, y] S = some (.int .i64 0, S, false))  : runF LP NN d 31 [x, .int .i64 size, .sl 1 [[.sl 1 [[y]] (some 1)]] (some 1)] S = some (.int .i64 0, S, false) := by
 have hia := fun (S : St) => (SlD.of 1 [[.sl 1 [[y]] (some 1)]] (some 1)).iaddr S .i64 (i := 0) (r := [.sl 1 [[y]] (some 1)]) (by omega) rfl
 have hib := fun (S : St) => (SlD.of 1 [[y]] (some 1)).iaddr S .i64 (i := 0) (r := [y]) (by omega) rfl
 have w1 : IntKind.i64.wrap (0 + 1) = 1 := by decide
 refine run_pure (F := F31) rfl (by simp only [LP, fnOf, snapVs, snaps, zs, zm, zv, hS.snapV, hS.freeV, hR.snapV, hR.freeV] <;> exact rfl) rfl (by simp only [LP, zf, zm, hS.snapV, hS.freeV, hR.snapV, hR.freeV]; try rfl) (by simp only [F31, zv] <;> exact rfl) (by omega) ?_
 rintro d rfl
 refine cw_seq (cw_region ?_)
 refine ow_mc ?_
 refine ow_nil ?_
 refine sk_n (by simp only [ze] <;> exact rfl) ?_
 refine cw_seq (cw_seq (cw_region ?_))
 refine ow_me rfl ?_
 refine ow_me rfl ?_
 refine ow_op (by simp only [zo, hia, hib, w1]; exact hC _ _ (by omega)) ?_
 refine ow_ml rfl ?_
 refine ow_nil ?_
 refine sk_n (by simp only [ze] <;> exact rfl) ?_
 refine cw_seq (cw_region ?_)
 refine ow_me rfl ?_
 refine ow_op (by simp only [zo, binD, zb, Int.reduceEq, Int.reduceToNat, Int.reduceLT, hia, hib, w1] <;> exact rfl) ?_
 refine ow_nil ?_
 refine sk_n (by simp only [ze] <;> exact rfl) ?_
 skip
 refine cw_false (by simp only [opd, zv, hia, hib, w1] <;> rfl) ?_
 refine cw_skip (sk_n rfl (cw_seq (cw_region ?_)))
 refine ow_mc ?_
 refine ow_nil ?_
 refine sk_n (by simp only [ze] <;> exact rfl) ?_
 refine cw_seq (cw_seq (cw_region ?_))
 refine ow_me rfl ?_
 refine ow_op (by simp only [zo, lenD_str, lenD_nils, lenD_sl, lenD_msl, hia, hib, w1] <;> exact rfl) ?_
 refine ow_mc ?_
 refine ow_nil ?_
 refine sk_n (by simp only [ze] <;> exact rfl) ?_
 refine cw_block (cw_unroll ?_)
 refine cl_step ?_
 refine cw_seq (cw_region ?_)
 refine ow_op (by simp only [zo, binD, zb, Int.reduceEq, Int.reduceToNat, Int.reduceLT, hia, hib, w1] <;> exact rfl) ?_
 refine ow_nil ?_
 refine sk_n (by simp only [ze] <;> exact rfl) ?_
 refine cw_seq ?_
 skip
 refine cw_true (by simp only [opd, zv, hia, hib, w1] <;> rfl) ?_
 refine cw_skip (sk_n rfl (cw_seq (cw_block (cw_seq (cw_region ?_)))))
 refine ow_op (by simp only [opd, zv, exOp, aop, LOp.loud, lop, if_true, Option.map_some, hia, hib, w1] <;> exact rfl) ?_
 refine ow_op (by simp only [zl, zm, zd, partD, List.take, List.drop, hia, hib, w1] <;> exact rfl) ?_
 refine ow_ml rfl ?_
 refine ow_nil ?_
 refine sk_n (by simp only [ze] <;> exact rfl) ?_
 refine cw_region ?_
 refine ow_me rfl ?_
 refine ow_me rfl ?_
 refine ow_op (by simp only [zo, lenD_str, lenD_nils, lenD_sl, lenD_msl, hia, hib, w1] <;> exact rfl) ?_
 refine ow_op (by simp only [zo, binD, zb, Int.reduceEq, Int.reduceToNat, Int.reduceLT, hia, hib, w1] <;> exact rfl) ?_
 refine ow_ml rfl ?_
 refine ow_nil (bk_n ?_)
 refine sk_n (by simp only [ze] <;> exact rfl) ?_
 refine cw_region ?_
 refine ow_op (by simp only [zo, binD, zb, Int.reduceEq, Int.reduceToNat, Int.reduceLT, hia, hib, w1] <;> exact rfl) ?_
 refine ow_ml rfl ?_
 refine ow_nil ?_
 refine lu_n (by simp only [ze] <;> exact rfl) ?_
 refine cl_step ?_
 refine cw_seq (cw_region ?_)
 refine ow_op (by simp only [zo, binD, zb, Int.reduceEq, Int.reduceToNat, Int.reduceLT, hia, hib, w1] <;> exact rfl) ?_
 refine ow_nil ?_
 refine sk_n (by simp only [ze] <;> exact rfl) ?_
 refine cw_seq ?_
 skip
 refine cw_false (by simp only [opd, zv, hia, hib, w1] <;> rfl) ?_
 refine cw_exit (sk_e (lu_e (bk_e (sk_n rfl (cw_seq (cw_seq (cw_region ?_)))))))
 refine ow_me rfl ?_
 refine ow_op (by simp only [zo, binD, zb, Int.reduceEq, Int.reduceToNat, Int.reduceLT, hia, hib, w1] <;> exact rfl) ?_
 refine ow_nil ?_
 refine sk_n (by simp only [ze] <;> exact rfl) ?_
 skip
 refine cw_false (by simp only [opd, zv, hia, hib, w1] <;> rfl) ?_
 refine cw_skip (sk_n rfl (cw_seq (cw_seq (cw_region ?_))))
 refine ow_me rfl ?_
 refine ow_op (by simp only [zo, lenD_str, lenD_nils, lenD_sl, lenD_msl, hia, hib, w1] <;> exact rfl) ?_
 refine ow_mc ?_
 refine ow_nil ?_
 refine sk_n (by simp only [ze] <;> exact rfl) ?_
 refine cw_block (cw_unroll ?_)
 refine cl_step ?_
 refine cw_seq (cw_region ?_)
 refine ow_op (by simp only [zo, binD, zb, Int.reduceEq, Int.reduceToNat, Int.reduceLT, hia, hib, w1] <;> exact rfl) ?_
 refine ow_nil ?_
 refine sk_n (by simp only [ze] <;> exact rfl) ?_
 refine cw_seq ?_
 skip
 refine cw_true (by simp only [opd, zv, hia, hib, w1] <;> rfl) ?_
 refine cw_skip (sk_n rfl (cw_seq (cw_block (cw_seq (cw_region ?_)))))
 refine ow_op (by simp only [opd, zv, exOp, aop, LOp.loud, lop, if_true, Option.map_some, hia, hib, w1] <;> exact rfl) ?_
 refine ow_op (by simp only [zl, zm, zd, partD, List.take, List.drop, hia, hib, w1] <;> exact rfl) ?_
 refine ow_ml rfl ?_
 refine ow_nil ?_
 refine sk_n (by simp only [ze] <;> exact rfl) ?_
 refine cw_seq (cw_region ?_)
 refine ow_me rfl ?_
 refine ow_op (by simp only [zo, lenD_str, lenD_nils, lenD_sl, lenD_msl, hia, hib, w1] <;> exact rfl) ?_
 refine ow_mc ?_
 refine ow_nil ?_
 refine sk_n (by simp only [ze] <;> exact rfl) ?_
 refine cw_block (cw_unroll ?_)
 refine cl_step ?_
 refine cw_seq (cw_region ?_)
 refine ow_op (by simp only [zo, binD, zb, Int.reduceEq, Int.reduceToNat, Int.reduceLT, hia, hib, w1] <;> exact rfl) ?_
 refine ow_nil ?_
 refine sk_n (by simp only [ze] <;> exact rfl) ?_
 refine cw_seq ?_
 skip
 refine cw_true (by simp only [opd, zv, hia, hib, w1] <;> rfl) ?_
 refine cw_skip (sk_n rfl (cw_seq (cw_block (cw_seq (cw_region ?_)))))
 refine ow_op (by simp only [opd, zv, exOp, aop, LOp.loud, lop, if_true, Option.map_some, hia, hib, w1] <;> exact rfl) ?_
 refine ow_op (by simp only [zl, zm, zd, partD, List.take, List.drop, hia, hib, w1] <;> exact rfl) ?_
 refine ow_ml rfl ?_
 refine ow_nil ?_
 refine sk_n (by simp only [ze] <;> exact rfl) ?_
 refine cw_seq (cw_region ?_)
 refine ow_me rfl ?_
 refine ow_me rfl ?_
 refine ow_me rfl ?_
 refine ow_op (by simp only [zo, hia, hib, w1]; exact hV _ _ (by omega)) ?_
 refine ow_ml rfl ?_
 refine ow_nil ?_
 refine sk_n (by simp only [ze] <;> exact rfl) ?_
 refine cw_seq (cw_region ?_)
 refine ow_me rfl ?_
 refine ow_op (by simp only [zo, binD, zb, Int.reduceEq, Int.reduceToNat, Int.reduceLT, hia, hib, w1] <;> exact rfl) ?_
 refine ow_nil ?_
 refine sk_n (by simp only [ze] <;> exact rfl) ?_
 skip
 refine cw_false (by simp only [opd, zv, hia, hib, w1] <;> rfl) ?_
 refine cw_skip (bk_n (sk_n rfl (cw_region ?_)))
 refine ow_op (by simp only [zo, binD, zb, Int.reduceEq, Int.reduceToNat, Int.reduceLT, hia, hib, w1] <;> exact rfl) ?_
 refine ow_ml rfl ?_
 refine ow_nil ?_
 refine lu_n (by simp only [ze] <;> exact rfl) ?_
 refine cl_step ?_
 refine cw_seq (cw_region ?_)
 refine ow_op (by simp only [zo, binD, zb, Int.reduceEq, Int.reduceToNat, Int.reduceLT, hia, hib, w1] <;> exact rfl) ?_
 refine ow_nil ?_
 refine sk_n (by simp only [ze] <;> exact rfl) ?_
 refine cw_seq ?_
 skip
 refine cw_false (by simp only [opd, zv, hia, hib, w1] <;> rfl) ?_
 refine cw_exit (sk_e (lu_e (bk_e (bk_n (sk_n rfl (cw_region ?_))))))
 refine ow_op (by simp only [zo, binD, zb, Int.reduceEq, Int.reduceToNat, Int.reduceLT, hia, hib, w1] <;> exact rfl) ?_
 refine ow_ml rfl ?_
 refine ow_nil ?_
 refine lu_n (by simp only [ze] <;> exact rfl) ?_
 refine cl_step ?_
 refine cw_seq (cw_region ?_)
 refine ow_op (by simp only [zo, binD, zb, Int.reduceEq, Int.reduceToNat, Int.reduceLT, hia, hib, w1] <;> exact rfl) ?_
 refine ow_nil ?_
 refine sk_n (by simp only [ze] <;> exact rfl) ?_
 refine cw_seq ?_
 skip
 refine cw_false (by simp only [opd, zv, hia, hib, w1] <;> rfl) ?_
 refine cw_exit (sk_e (lu_e (bk_e (sk_n rfl (cw_seq (cw_region ?_))))))
 refine ow_mc ?_
 refine ow_nil ?_
 refine sk_n (by simp only [ze] <;> exact rfl) ?_
 refine cw_ret ?_
 refine ⟨_, by simp only [F31, resultD, resDs, resD, zg, zd, rowsOf, partD, List.take, List.drop, zm] <;> exact rfl, ?_⟩
 simp only [leaveP, leave, snapVs, snaps, zs, zf, zk]

end Go.Proofs.YtabgobmeibjeeaaGreatDoor

namespace Go.Proofs.YtabgobmeibjeeaaGreatDoor
set_option linter.unusedSimpArgs false
set_option linter.unusedVariables false
set_option maxRecDepth 10000
set_option maxHeartbeats 4000000

theorem sort1 (d : Nat) (x : D) (l : List UInt8) : runF LP NN (d + 12) 48 [.msl 1 0 0 1 none, .fn 49 [.ptr 0 0 0 0]] ⟨[⟨26, 1, [[x]], 0, 0, false⟩, ⟨43, 1, [[.sl 1 (bR l) (some l.length)]], 0, 2, false⟩], 0⟩ = some (.tup [], ⟨[⟨26, 1, [[x]], 0, 0, false⟩, ⟨43, 1, [[.sl 1 (bR l) (some l.length)]], 0, 2, false⟩], 0⟩, true) := by kernel_rfl
theorem isSort1 (d : Nat) (x : D) (l : List UInt8) (c e : Option Nat) : runF LP NN (d + 12) 39 [.sl 1 [[.sl 1 (bR l) c]] e, .fn 40 [.ptr 0 0 0 0]] ⟨[⟨26, 1, [[x]], 0, 0, false⟩], 0⟩ = some (.bool true, ⟨[⟨26, 1, [[x]], 0, 0, false⟩], 0⟩, false) := by kernel_rfl
theorem conc1 (d : Nat) (S : St) (l : List UInt8) (c : Option Nat) : runF LP NN (d + 12) 41 [.sl 1 [[.sl 1 [[.sl 1 (bR l) c]] (some 1)]] (some 1)] S = some (.sl 1 [[.sl 1 (bR l) c]] none, S, false) := by kernel_rfl

theorem sorted1_run {d : Nat} (hd : 14 ≤ d) (S : St) {x : D} {kr : List (List D)} (hX : SlD 14 kr x) (l : List UInt8) (c e : Option Nat) (h0 : l ≠ []) (hl : l.length ≤ 1000000) : runF LP NN d 32 [x, .sl 1 [[.sl 1 (bR l) c]] e] S = some (.sl 1 [[.sl 1 (bR l) (some l.length)]] (some 1), S, false) := by
 have hia := fun (S : St) => (SlD.of 1 [[.sl 1 (bR l) c]] e).iaddr S .i64 (i := 0) (r := [.sl 1 (bR l) c]) (by omega) rfl
 have w1 : IntKind.i64.wrap (0 + 1) = 1 := by decide
 have hs : ∀ d', 12 ≤ d' → runF LP NN d' 48 [.msl 1 0 0 1 none, .fn 49 [.ptr 0 0 0 0]] ⟨[⟨26, 1, [[x]], 0, 0, false⟩, ⟨43, 1, [[.sl 1 (bR l) (some l.length)]], 0, 2, false⟩], 0⟩ = some (.tup [], ⟨[⟨26, 1, [[x]], 0, 0, false⟩, ⟨43, 1, [[.sl 1 (bR l) (some l.length)]], 0, 2, false⟩], 0⟩, true) := fun d' h => by
  obtain ⟨d, rfl⟩ : ∃ d, d' = d + 12 := ⟨d' - 12, by omega⟩
  exact sort1 d x l
 refine run_pure (F := F32) rfl (by simp only [LP, fnOf, snapVs, snaps, zs, zm, zv, hX.snapV, hX.freeV] <;> exact rfl) rfl (by simp only [LP, zf, zm, hX.snapV, hX.freeV]; try rfl) (by simp only [F32, zv] <;> exact rfl) (by omega) ?_
 rintro d rfl
 refine cw_seq (cw_region ?_)
 refine ow_op (by simp only [zl, zm, zc, hX.val, hX.cells, hX.isCell, hia, w1, sort1] <;> exact rfl) ?_
 refine ow_mc ?_
 refine ow_nil ?_
 refine sk_n (by simp only [ze] <;> exact rfl) ?_
 refine cw_seq (cw_region ?_)
 refine ow_me rfl ?_
 refine ow_op (by simp only [zo, lenD_str, lenD_nils, lenD_sl, lenD_msl, hX.val, hX.cells, hX.isCell, hia, w1, sort1] <;> exact rfl) ?_
 refine ow_op (show _ = some (D.msl 1 0 0 1 none, (⟨[⟨26, 1, [[x]], 0, 0, false⟩, ⟨43, 1, [[.nils]], 0, 2, false⟩], 0⟩ : St), true) by simp only [opd, zv]; exact rfl) ?_
 refine ow_ml rfl ?_
 refine ow_nil ?_
 refine sk_n (by simp only [ze] <;> exact rfl) ?_
 refine cw_seq (cw_seq (cw_region ?_))
 refine ow_me rfl ?_
 refine ow_op (by simp only [zo, lenD_str, lenD_nils, lenD_sl, lenD_msl, hX.val, hX.cells, hX.isCell, hia, w1, sort1] <;> exact rfl) ?_
 refine ow_mc ?_
 refine ow_nil ?_
 refine sk_n (by simp only [ze] <;> exact rfl) ?_
 refine cw_block (cw_unroll ?_)
 refine cl_step ?_
 refine cw_seq (cw_region ?_)
 refine ow_op (by simp only [zo, binD, zb, Int.reduceEq, Int.reduceToNat, Int.reduceLT, hX.val, hX.cells, hX.isCell, hia, w1, sort1] <;> exact rfl) ?_
 refine ow_nil ?_
 refine sk_n (by simp only [ze] <;> exact rfl) ?_
 refine cw_seq ?_
 skip
 refine cw_true (by simp only [opd, zv, hX.val, hX.cells, hX.isCell, hia, w1, sort1] <;> rfl) ?_
 refine cw_skip (sk_n rfl (cw_seq (cw_block (cw_seq (cw_region ?_)))))
 refine ow_me rfl ?_
 refine ow_op (by simp only [opd, zv, exOp, aop, LOp.loud, lop, if_true, Option.map_some, rowsOf, iaddrD, List.getElem?_cons_zero, List.getElem?_cons_succ, hX.val, hX.cells, hX.isCell, hia, w1, sort1] <;> exact rfl) ?_
 refine ow_op (by simp only [zl, zm, zd, partD, List.take, List.drop, hX.val, hX.cells, hX.isCell, hia, w1, sort1] <;> exact rfl) ?_
 refine ow_ml rfl ?_
 refine ow_ml rfl ?_
 refine ow_nil ?_
 refine sk_n (by simp only [ze] <;> exact rfl) ?_
 refine cw_region ?_
 refine ow_me rfl ?_
 refine ow_me rfl ?_
 refine ow_me rfl ?_
 refine ow_op (by simp only [zo, hX.val, hX.cells, hX.isCell, hia, w1, sort1]; exact clone_run (by omega) _ l c h0 hl) ?_
 refine ow_op (by simp only [zo, hX.val, hX.cells, hX.isCell, hia, w1, sort1]; exact clip_run (by omega) _ l none) ?_
 refine ow_op (by simp only [opd, zv]; exact rfl) ?_
 refine ow_op (by simp only [opd, zv]; exact rfl) ?_
 refine ow_nil (bk_n ?_)
 refine sk_n (by simp only [ze] <;> exact rfl) ?_
 refine cw_region ?_
 refine ow_op (by simp only [zo, binD, zb, Int.reduceEq, Int.reduceToNat, Int.reduceLT, hX.val, hX.cells, hX.isCell, hia, w1, sort1] <;> exact rfl) ?_
 refine ow_ml rfl ?_
 refine ow_nil ?_
 refine lu_n (by simp only [ze] <;> exact rfl) ?_
 refine cl_step ?_
 refine cw_seq (cw_region ?_)
 refine ow_op (by simp only [zo, binD, zb, Int.reduceEq, Int.reduceToNat, Int.reduceLT, hX.val, hX.cells, hX.isCell, hia, w1, sort1] <;> exact rfl) ?_
 refine ow_nil ?_
 refine sk_n (by simp only [ze] <;> exact rfl) ?_
 refine cw_seq ?_
 skip
 refine cw_false (by simp only [opd, zv, hX.val, hX.cells, hX.isCell, hia, w1, sort1] <;> rfl) ?_
 refine cw_exit (sk_e (lu_e (bk_e (sk_n rfl (cw_seq (cw_region ?_))))))
 refine ow_me rfl ?_
 refine ow_op (by simp only [zo, hX.val, hX.cells, hX.isCell, hia, w1, sort1] <;> exact rfl) ?_
 refine ow_op (by simp only [zo, hX.val, hX.cells, hX.isCell, hia, w1, sort1]; exact hs _ (by omega)) ?_
 refine ow_nil ?_
 refine sk_n (by simp only [ze] <;> exact rfl) ?_
 refine cw_seq (cw_region ?_)
 refine ow_me rfl ?_
 refine ow_ml rfl ?_
 refine ow_nil ?_
 refine sk_n (by simp only [ze] <;> exact rfl) ?_
 refine cw_ret ?_
 refine ⟨_, by simp only [F32, resultD, resDs, resD, zg, zd, rowsOf, partD, List.take, List.drop, zm] <;> exact rfl, ?_⟩
 rfl

theorem SortE_c {d : Nat} (hd : 19 ≤ d) (S : St) {x y : D} {kr rows : List (List D)} (hS : SlD 14 kr x) (hR : SlD 1 rows y) (size c : Int) (hA : ∀ (d : Nat) (S : St), 18 ≤ d → runF LP NN d 31 [x, .int .i64 size, .sl 1 [[.sl 1 [[y]] (some 1)]] (some 1)] S = some (.int .i64 c, S, false)) (hc : c ≠ 0) : runF LP NN d 12 [x, .int .i64 size, .sl 1 [[y]] (some 1)] S = some (.tup [.nils, .int .i64 c], S, false) := by
 have hc0 : (c != 0) = true := by rw [bne_iff_ne]; exact hc
 refine run_pure (F := F12) rfl (by simp only [LP, fnOf, snapVs, snaps, zs, zm, zv, hS.snapV, hS.freeV, hR.snapV, hR.freeV] <;> exact rfl) rfl (by simp only [LP, zf, zm, hS.snapV, hS.freeV, hR.snapV, hR.freeV]; try rfl) (by simp only [F12, zv] <;> exact rfl) (by omega) ?_
 rintro d rfl
 refine cw_seq (cw_region ?_)
 refine ow_mc ?_
 refine ow_mc ?_
 refine ow_nil ?_
 refine sk_n (by simp only [ze] <;> exact rfl) ?_
 refine cw_seq (cw_seq (cw_region ?_))
 refine ow_me rfl ?_
 refine ow_me rfl ?_
 refine ow_me rfl ?_
 refine ow_op (by simp only [zl, zm, fillRows, List.replicate, snapVs, snaps, zs, zc, zf, hc0, hR.snapV, hR.isCell, hR.val, hR.cells, hR.free] <;> exact rfl) ?_
 refine ow_op (by simp only [zo, hc0, hR.snapV, hR.isCell, hR.val, hR.cells, hR.free]; exact hA _ _ (by omega)) ?_
 refine ow_ml rfl ?_
 refine ow_nil ?_
 refine sk_n (by simp only [ze] <;> exact rfl) ?_
 refine cw_seq (cw_region ?_)
 refine ow_me rfl ?_
 refine ow_op (by simp only [zo, binD, zb, Int.reduceEq, Int.reduceToNat, Int.reduceLT, hc0, hR.snapV, hR.isCell, hR.val, hR.cells, hR.free] <;> exact rfl) ?_
 refine ow_nil ?_
 refine sk_n (by simp only [ze] <;> exact rfl) ?_
 skip
 refine cw_true (by simp only [opd, zv, hc0, hR.snapV, hR.isCell, hR.val, hR.cells, hR.free] <;> rfl) ?_
 refine cw_seq (cw_region ?_)
 refine ow_me rfl ?_
 refine ow_mc ?_
 refine ow_ml rfl ?_
 refine ow_nil ?_
 refine sk_n (by simp only [ze] <;> exact rfl) ?_
 refine cw_ret (sk_r ?_)
 refine ⟨_, by simp only [F12, resultD, resDs, resD, zg, zd, rowsOf, partD, List.take, List.drop, zm] <;> exact rfl, ?_⟩
 simp only [leaveP, leave, snapVs, snaps, zs, zf, zk]

theorem SortE_ok {d : Nat} (hd : 19 ≤ d) (S : St) {x : D} {kr : List (List D)} (hS : SlD 14 kr x) (size : Int) (l : List UInt8) (cp : Option Nat) (h0 : l ≠ []) (hl : l.length ≤ 1000000) (hA : ∀ (d : Nat) (S : St), 18 ≤ d → runF LP NN d 31 [x, .int .i64 size, .sl 1 [[.sl 1 [[.sl 1 (bR l) cp]] (some 1)]] (some 1)] S = some (.int .i64 0, S, false)) : runF LP NN d 12 [x, .int .i64 size, .sl 1 [[.sl 1 (bR l) cp]] (some 1)] S = some (.tup [.sl 1 [[.sl 1 (bR l) (some l.length)]] (some 1), .int .i64 0], S, false) := by
 refine run_pure (F := F12) rfl (by simp only [LP, fnOf, snapVs, snaps, zs, zm, zv, hS.snapV, hS.freeV] <;> exact rfl) rfl (by simp only [LP, zf, zm, hS.snapV, hS.freeV]; try rfl) (by simp only [F12, zv] <;> exact rfl) (by omega) ?_
 rintro d rfl
 refine cw_seq (cw_region ?_)
 refine ow_mc ?_
 refine ow_mc ?_
 refine ow_nil ?_
 refine sk_n (by simp only [ze] <;> exact rfl) ?_
 refine cw_seq (cw_seq (cw_region ?_))
 refine ow_me rfl ?_
 refine ow_me rfl ?_
 refine ow_me rfl ?_
 refine ow_op (by simp only [zl, zm, fillRows, List.replicate, snapVs, snaps, zs, zc, zf] <;> exact rfl) ?_
 refine ow_op (by simp only [zo]; exact hA _ _ (by omega)) ?_
 refine ow_ml rfl ?_
 refine ow_nil ?_
 refine sk_n (by simp only [ze] <;> exact rfl) ?_
 refine cw_seq (cw_region ?_)
 refine ow_me rfl ?_
 refine ow_op (by simp only [zo, binD, zb, Int.reduceEq, Int.reduceToNat, Int.reduceLT] <;> exact rfl) ?_
 refine ow_nil ?_
 refine sk_n (by simp only [ze] <;> exact rfl) ?_
 skip
 refine cw_false (by simp only [opd, zv] <;> rfl) ?_
 refine cw_skip (sk_n rfl (cw_seq (cw_region ?_)))
 refine ow_me rfl ?_
 refine ow_me rfl ?_
 refine ow_op (by simp only [zo]; exact sorted1_run (by omega) _ hS l cp (some 1) h0 hl) ?_
 refine ow_ml rfl ?_
 refine ow_mc ?_
 refine ow_nil ?_
 refine sk_n (by simp only [ze] <;> exact rfl) ?_
 refine cw_ret ?_
 refine ⟨_, by simp only [F12, resultD, resDs, resD, zg, zd, rowsOf, partD, List.take, List.drop, zm] <;> exact rfl, ?_⟩
 simp only [leaveP, leave, snapVs, snaps, zs, zf, zk]

theorem MergeE_c {d : Nat} (hd : 19 ≤ d) (S : St) {x y : D} {kr rows : List (List D)} (hS : SlD 14 kr x) (hR : SlD 1 rows y) (size c : Int) (hA : ∀ (d : Nat) (S : St), 18 ≤ d → runF LP NN d 31 [x, .int .i64 size, .sl 1 [[.sl 1 [[y]] (some 1)]] (some 1)] S = some (.int .i64 c, S, false)) (hc : c ≠ 0) : runF LP NN d 21 [x, .int .i64 size, .sl 1 [[.sl 1 [[y]] (some 1)]] (some 1)] S = some (.tup [.nils, .int .i64 c], S, false) := by
 have hc0 : (c != 0) = true := by rw [bne_iff_ne]; exact hc
 refine run_pure (F := F21) rfl (by simp only [LP, fnOf, snapVs, snaps, zs, zm, zv, hS.snapV, hS.freeV, hR.snapV, hR.freeV] <;> exact rfl) rfl (by simp only [LP, zf, zm, hS.snapV, hS.freeV, hR.snapV, hR.freeV]; try rfl) (by simp only [F21, zv] <;> exact rfl) (by omega) ?_
 rintro d rfl
 refine cw_seq (cw_region ?_)
 refine ow_op (by simp only [zl, zm, zc, hc0, hS.isCell, hS.val, hS.cells] <;> exact rfl) ?_
 refine ow_mc ?_
 refine ow_mc ?_
 refine ow_nil ?_
 refine sk_n (by simp only [ze] <;> exact rfl) ?_
 refine cw_seq (cw_seq (cw_region ?_))
 refine ow_op (by simp only [zl, zm, zd, partD, List.take, List.drop, hc0, hS.isCell, hS.val, hS.cells] <;> exact rfl) ?_
 refine ow_me rfl ?_
 refine ow_me rfl ?_
 refine ow_op (by simp only [zo, hc0, hS.isCell, hS.val, hS.cells]; exact hA _ _ (by omega)) ?_
 refine ow_ml rfl ?_
 refine ow_nil ?_
 refine sk_n (by simp only [ze] <;> exact rfl) ?_
 refine cw_seq (cw_region ?_)
 refine ow_me rfl ?_
 refine ow_op (by simp only [zo, binD, zb, Int.reduceEq, Int.reduceToNat, Int.reduceLT, hc0, hS.isCell, hS.val, hS.cells] <;> exact rfl) ?_
 refine ow_nil ?_
 refine sk_n (by simp only [ze] <;> exact rfl) ?_
 skip
 refine cw_true (by simp only [opd, zv, hc0, hS.isCell, hS.val, hS.cells] <;> rfl) ?_
 refine cw_seq (cw_region ?_)
 refine ow_me rfl ?_
 refine ow_mc ?_
 refine ow_ml rfl ?_
 refine ow_nil ?_
 refine sk_n (by simp only [ze] <;> exact rfl) ?_
 refine cw_ret (sk_r ?_)
 refine ⟨_, by simp only [F21, resultD, resDs, resD, zg, zd, rowsOf, partD, List.take, List.drop, zm] <;> exact rfl, ?_⟩
 simp only [leaveP, leave, snapVs, snaps, zs, zf, zk]

theorem MergeE_ok {d : Nat} (hd : 19 ≤ d) (S : St) {x : D} {kr : List (List D)} (hS : SlD 14 kr x) (size : Int) (l : List UInt8) (cp : Option Nat) (h0 : l ≠ []) (hl : l.length ≤ 1000000) (hA : ∀ (d : Nat) (S : St), 18 ≤ d → runF LP NN d 31 [x, .int .i64 size, .sl 1 [[.sl 1 [[.sl 1 (bR l) cp]] (some 1)]] (some 1)] S = some (.int .i64 0, S, false)) : runF LP NN d 21 [x, .int .i64 size, .sl 1 [[.sl 1 [[.sl 1 (bR l) cp]] (some 1)]] (some 1)] S = some (.tup [.sl 1 [[.sl 1 (bR l) (some l.length)]] (some 1), .int .i64 0], S, false) := by
 have hia := fun (S : St) => (SlD.of 1 [[.sl 1 [[.sl 1 (bR l) cp]] (some 1)]] (some 1)).iaddr S .i64 (i := 0) (r := [.sl 1 [[.sl 1 (bR l) cp]] (some 1)]) (by omega) rfl
 have w1 : IntKind.i64.wrap (0 + 1) = 1 := by decide
 have hq : ∀ d', 12 ≤ d' → runF LP NN d' 39 [.sl 1 [[.sl 1 (bR l) cp]] (some 1), .fn 40 [.ptr 0 0 0 0]] ⟨[⟨26, 1, [[x]], 0, 0, false⟩], 0⟩ = some (.bool true, ⟨[⟨26, 1, [[x]], 0, 0, false⟩], 0⟩, false) := fun d' h => by
  obtain ⟨d, rfl⟩ : ∃ d, d' = d + 12 := ⟨d' - 12, by omega⟩
  exact isSort1 d x l cp (some 1)
 have hcc : ∀ d' (S : St), 12 ≤ d' → runF LP NN d' 41 [.sl 1 [[.sl 1 [[.sl 1 (bR l) cp]] (some 1)]] (some 1)] S = some (.sl 1 [[.sl 1 (bR l) cp]] none, S, false) := fun d' S h => by
  obtain ⟨d, rfl⟩ : ∃ d, d' = d + 12 := ⟨d' - 12, by omega⟩
  exact conc1 d S l cp
 refine run_pure (F := F21) rfl (by simp only [LP, fnOf, snapVs, snaps, zs, zm, zv, hS.snapV, hS.freeV] <;> exact rfl) rfl (by simp only [LP, zf, zm, hS.snapV, hS.freeV]; try rfl) (by simp only [F21, zv] <;> exact rfl) (by omega) ?_
 rintro d rfl
 refine cw_seq (cw_region ?_)
 refine ow_op (by simp only [zl, zm, zc, hia, w1, hS.isCell, hS.val, hS.cells] <;> exact rfl) ?_
 refine ow_mc ?_
 refine ow_mc ?_
 refine ow_nil ?_
 refine sk_n (by simp only [ze] <;> exact rfl) ?_
 refine cw_seq (cw_seq (cw_region ?_))
 refine ow_op (by simp only [zl, zm, zd, partD, List.take, List.drop, hia, w1, hS.isCell, hS.val, hS.cells] <;> exact rfl) ?_
 refine ow_me rfl ?_
 refine ow_me rfl ?_
 refine ow_op (by simp only [zo, hia, w1, hS.isCell, hS.val, hS.cells]; exact hA _ _ (by omega)) ?_
 refine ow_ml rfl ?_
 refine ow_nil ?_
 refine sk_n (by simp only [ze] <;> exact rfl) ?_
 refine cw_seq (cw_region ?_)
 refine ow_me rfl ?_
 refine ow_op (by simp only [zo, binD, zb, Int.reduceEq, Int.reduceToNat, Int.reduceLT, hia, w1, hS.isCell, hS.val, hS.cells] <;> exact rfl) ?_
 refine ow_nil ?_
 refine sk_n (by simp only [ze] <;> exact rfl) ?_
 skip
 refine cw_false (by simp only [opd, zv, hia, w1, hS.isCell, hS.val, hS.cells] <;> rfl) ?_
 refine cw_skip (sk_n rfl (cw_seq (cw_seq (cw_region ?_))))
 refine ow_me rfl ?_
 refine ow_op (by simp only [zo, lenD_str, lenD_nils, lenD_sl, lenD_msl, hia, w1, hS.isCell, hS.val, hS.cells] <;> exact rfl) ?_
 refine ow_mc ?_
 refine ow_nil ?_
 refine sk_n (by simp only [ze] <;> exact rfl) ?_
 refine cw_block (cw_unroll ?_)
 refine cl_step ?_
 refine cw_seq (cw_region ?_)
 refine ow_op (by simp only [zo, binD, zb, Int.reduceEq, Int.reduceToNat, Int.reduceLT, hia, w1, hS.isCell, hS.val, hS.cells] <;> exact rfl) ?_
 refine ow_nil ?_
 refine sk_n (by simp only [ze] <;> exact rfl) ?_
 refine cw_seq ?_
 skip
 refine cw_true (by simp only [opd, zv, hia, w1, hS.isCell, hS.val, hS.cells] <;> rfl) ?_
 refine cw_skip (sk_n rfl (cw_seq (cw_block (cw_seq (cw_region ?_)))))
 refine ow_op (by simp only [opd, zv, exOp, aop, LOp.loud, lop, if_true, Option.map_some, hia, w1, hS.isCell, hS.val, hS.cells] <;> exact rfl) ?_
 refine ow_op (by simp only [zl, zm, zd, partD, List.take, List.drop, hia, w1, hS.isCell, hS.val, hS.cells] <;> exact rfl) ?_
 refine ow_ml rfl ?_
 refine ow_nil ?_
 refine sk_n (by simp only [ze] <;> exact rfl) ?_
 refine cw_seq (cw_region ?_)
 refine ow_me rfl ?_
 refine ow_op (by simp only [zo, hia, w1, hS.isCell, hS.val, hS.cells] <;> exact rfl) ?_
 refine ow_op (by simp only [zo, hia, w1, hS.isCell, hS.val, hS.cells]; exact hq _ (by omega)) ?_
 refine ow_op (by simp only [zo, unD, hia, w1, hS.isCell, hS.val, hS.cells] <;> exact rfl) ?_
 refine ow_nil ?_
 refine sk_n (by simp only [ze] <;> exact rfl) ?_
 skip
 refine cw_false (by simp only [opd, zv, hia, w1, hS.isCell, hS.val, hS.cells] <;> rfl) ?_
 refine cw_skip (bk_n (sk_n rfl (cw_region ?_)))
 refine ow_op (by simp only [zo, binD, zb, Int.reduceEq, Int.reduceToNat, Int.reduceLT, hia, w1, hS.isCell, hS.val, hS.cells] <;> exact rfl) ?_
 refine ow_ml rfl ?_
 refine ow_nil ?_
 refine lu_n (by simp only [ze] <;> exact rfl) ?_
 refine cl_step ?_
 refine cw_seq (cw_region ?_)
 refine ow_op (by simp only [zo, binD, zb, Int.reduceEq, Int.reduceToNat, Int.reduceLT, hia, w1, hS.isCell, hS.val, hS.cells] <;> exact rfl) ?_
 refine ow_nil ?_
 refine sk_n (by simp only [ze] <;> exact rfl) ?_
 refine cw_seq ?_
 skip
 refine cw_false (by simp only [opd, zv, hia, w1, hS.isCell, hS.val, hS.cells] <;> rfl) ?_
 refine cw_exit (sk_e (lu_e (bk_e (sk_n rfl (cw_seq ?_)))))
 refine cw_drawn (by simp only [newsVals, zw, Nat.reduceAdd] <;> exact rfl) (by simp only [zw, newsObj, St.eta] <;> exact rfl) ?_
 refine dw_op (by simp only [zl, zm, zd, partD, List.take, List.drop, hia, w1, hS.isCell, hS.val, hS.cells] <;> exact rfl) (by simp only [fpHere, zo, zq, hS.plainV] <;> exact rfl) rfl ?_
 refine dw_me rfl rfl ?_
 refine dw_op (by simp only [zo, hia, w1, hS.isCell, hS.val, hS.cells]; exact hcc _ _ (by omega)) (by simp only [fpHere, zo, zq, hS.plainV] <;> exact rfl) rfl ?_
 refine dw_op (by simp only [zo, hia, w1, hS.isCell, hS.val, hS.cells]; exact sorted1_run (by omega) _ hS l cp none h0 hl) (by simp only [fpHere, zo, zq, hS.plainV] <;> exact rfl) rfl ?_
 refine dw_ml rfl rfl ?_
 refine dw_mc rfl ?_
 refine dw_nil ?_
 refine sk_n (by simp only [ze] <;> exact rfl) ?_
 refine cw_ret ?_
 refine ⟨_, by simp only [F21, resultD, resDs, resD, zg, zd, rowsOf, partD, List.take, List.drop, zm] <;> exact rfl, ?_⟩
 simp only [leaveP, leave, snapVs, snaps, zs, zf, zk]

theorem NewE_c {d : Nat} (hd : 18 ≤ d) (S : St) {x : D} {kr : List (List D)} (hS : SlD 14 kr x) (size c : Int) (hC : ∀ (d : Nat) (S : St), 17 ≤ d → runF LP NN d 29 [x, .int .i64 size] S = some (.int .i64 c, S, false)) (hc : c ≠ 0) : runF LP NN d 22 [x, .int .i64 size] S = some (.tup [.nilp, .int .i64 c], S, false) := by
 have hc0 : (c != 0) = true := by rw [bne_iff_ne]; exact hc
 refine run_at (F := F22) rfl (by simp only [LP, fnOf, snapVs, snaps, zs, zm, zv, hS.snapV, hS.freeV] <;> exact rfl) rfl (by simp only [LP, zf, zm, hS.snapV, hS.freeV]; try rfl) (by simp only [F22, zv] <;> exact rfl) (by omega) ?_
 rintro d rfl
 refine cw_seq (cw_region ?_)
 refine ow_mc ?_
 refine ow_mc ?_
 refine ow_nil ?_
 refine sk_n (by simp only [ze] <;> exact rfl) ?_
 refine cw_seq (cw_seq (cw_region ?_))
 refine ow_me rfl ?_
 refine ow_me rfl ?_
 refine ow_op (by simp only [zo, hc0]; exact hC _ _ (by omega)) ?_
 refine ow_ml rfl ?_
 refine ow_nil ?_
 refine sk_n (by simp only [ze] <;> exact rfl) ?_
 refine cw_seq (cw_region ?_)
 refine ow_me rfl ?_
 refine ow_op (by simp only [zo, binD, zb, Int.reduceEq, Int.reduceToNat, Int.reduceLT, hc0] <;> exact rfl) ?_
 refine ow_nil ?_
 refine sk_n (by simp only [ze] <;> exact rfl) ?_
 skip
 refine cw_true (by simp only [opd, zv, hc0] <;> rfl) ?_
 refine cw_seq (cw_region ?_)
 refine ow_me rfl ?_
 refine ow_mc ?_
 refine ow_ml rfl ?_
 refine ow_nil ?_
 refine sk_n (by simp only [ze] <;> exact rfl) ?_
 refine cw_ret (sk_r ?_)
 refine ⟨_, by simp only [F22, resultD, resDs, resD, zg, zd, rowsOf, partD, List.take, List.drop, zm] <;> exact rfl, ?_⟩
 simp [leave, LP, snapR, snapV, snap, D.freeR, D.freeV, D.free, D.free0, snapVs]

theorem cloneE_run {d : Nat} (hd : 1 ≤ d) (S : St) {kr : List (List D)} (c : Option Nat) (hne : 0 < kr.length) (h8 : kr.length ≤ 8) : runF LP NN d 42 [.sl 14 kr c] S = some (.sl 14 kr none, S, false) := by
 have happ : appendD 59 14 80 1 (.sl 14 [] (some 0)) (.sl 14 kr c) ⟨[], 0⟩ = some (.msl 0 0 0 kr.length none, ⟨[⟨59, 14, kr, 0, 1, true⟩], 0⟩, true) := by
  have h1 : kr.isEmpty = false := by cases kr <;> simp at hne ⊢
  have h2 : (kr.length) * 80 ≤ 140737488355328 := by omega
  simp [appendD, readRows, appendRows, h1, newAt]
  omega
 refine run_pure (F := F42) rfl (by simp only [LP, fnOf, snapVs, snaps, zs, zm, zv] <;> exact rfl) rfl (by simp only [LP, zf, zm]; try rfl) (by simp only [F42, zv] <;> exact rfl) (by omega) ?_
 rintro d rfl
 refine cw_seq (cw_region ?_)
 refine ow_mc ?_
 refine ow_nil ?_
 refine sk_n (by simp only [ze] <;> exact rfl) ?_
 refine cw_seq (cw_seq (cw_region ?_))
 refine ow_me rfl ?_
 refine ow_op (by simp only [zo, eqnilD, happ] <;> exact rfl) ?_
 refine ow_nil ?_
 refine sk_n (by simp only [ze] <;> exact rfl) ?_
 skip
 refine cw_false (by simp only [opd, zv, happ] <;> rfl) ?_
 refine cw_skip (sk_n rfl (cw_seq (cw_region ?_)))
 refine ow_op (by simp only [zl, zm, fillRows, List.replicate, snapVs, snaps, zs, zc, zf, happ] <;> exact rfl) ?_
 refine ow_me rfl ?_
 refine ow_op (by simp only [opd, zv, exOp, aop, LOp.loud, lop, if_true, happ] <;> exact rfl) ?_
 refine ow_ml rfl ?_
 refine ow_nil ?_
 refine sk_n (by simp only [ze] <;> exact rfl) ?_
 refine cw_ret ?_
 refine ⟨_, by simp only [F42, resultD, resDs, resD, zg, zd, rowsOf, partD, List.take, List.drop, zm] <;> exact rfl, ?_⟩
 exact leaveP_app (by rfl) rfl

theorem NewE_ok {d : Nat} (hd : 18 ≤ d) (H : List AObj) (lo : Nat) {kr : List (List D)} {cp : Option Nat} (size : Int) (hC : ∀ (d : Nat) (S : St), 17 ≤ d → runF LP NN d 29 [.sl 14 kr cp, .int .i64 size] S = some (.int .i64 0, S, false)) (hne : 0 < kr.length) (h8 : kr.length ≤ 8) : runF LP NN d 22 [.sl 14 kr cp, .int .i64 size] ⟨H, lo⟩ = some (.tup [.ptr H.length 0 0 0, .int .i64 0], ⟨H ++ [⟨80, 4, [[.sl 14 kr none, .int .i64 size, .nils, .bool false]], 0, 0, false⟩], min lo H.length⟩, true) := by
 refine run_at (F := F22) rfl (by simp only [LP, fnOf, snapVs, snaps, zs, zm, zv] <;> exact rfl) rfl (by simp only [LP, zf, zm]; try rfl) (by simp only [F22, zv] <;> exact rfl) (by omega) ?_
 rintro d rfl
 refine cw_seq (cw_region ?_)
 refine ow_mc ?_
 refine ow_mc ?_
 refine ow_nil ?_
 refine sk_n (by simp only [ze] <;> exact rfl) ?_
 refine cw_seq (cw_seq (cw_region ?_))
 refine ow_me rfl ?_
 refine ow_me rfl ?_
 refine ow_op (by simp only [zo]; exact hC _ _ (by omega)) ?_
 refine ow_ml rfl ?_
 refine ow_nil ?_
 refine sk_n (by simp only [ze] <;> exact rfl) ?_
 refine cw_seq (cw_region ?_)
 refine ow_me rfl ?_
 refine ow_op (by simp only [zo, binD, zb, Int.reduceEq, Int.reduceToNat, Int.reduceLT] <;> exact rfl) ?_
 refine ow_nil ?_
 refine sk_n (by simp only [ze] <;> exact rfl) ?_
 skip
 refine cw_false (by simp only [opd, zv] <;> rfl) ?_
 refine cw_skip (sk_n rfl (cw_seq (cw_region ?_)))
 refine ow_me rfl ?_
 refine ow_op (by simp only [zo]; exact cloneE_run (by omega) _ _ hne h8) ?_
 refine ow_me rfl ?_
 refine ow_op (by simp only [zo, fillD, overlay, zc, List.take, List.drop, Nat.reduceAdd, Nat.reduceLeDiff, Nat.reduceBEq, zm] <;> exact rfl) ?_
 refine ow_op (by simp only [zl, zm, zc] <;> exact rfl) ?_
 refine ow_ml rfl ?_
 refine ow_mc ?_
 refine ow_nil ?_
 refine sk_n (by simp only [ze] <;> exact rfl) ?_
 refine cw_ret ?_
 refine ⟨_, by simp only [F22, resultD, resDs, resD, zg, zd, rowsOf, partD, List.take, List.drop, zm] <;> exact rfl, ?_⟩
 simp [leave, LP, snapR, snapV, snap, D.freeR, D.freeV, D.free, D.free0, snapVs]

theorem nil25 (d : Nat) (S : St) : runF LP NN (d + 4) 25 [.nilp] S = some (.tup [.nils, .bool false, .int .i64 2], S, false) := by kernel_rfl
theorem nil24 (d : Nat) (S : St) : runF LP NN (d + 4) 24 [.nilp] S = some (.int .i64 2, S, false) := by kernel_rfl
theorem nil26 (d : Nat) (S : St) : runF LP NN (d + 4) 26 [.nilp] S = some (.int .i64 0, S, false) := by kernel_rfl
theorem nil23 (d : Nat) (S : St) (rows : List (List D)) (c : Option Nat) : runF LP NN (d + 4) 23 [.nilp, .sl 1 rows c] S = some (.int .i64 2, S, false) := by kernel_rfl
theorem nil23n (d : Nat) (S : St) : runF LP NN (d + 4) 23 [.nilp, .nils] S = some (.int .i64 2, S, false) := by kernel_rfl

theorem zero43 {d : Nat} (hd : 1 ≤ d) (S : St) {g : Nat} (hz : S.heap[g]? = some ⟨80, 4, [[.nils, .int .i64 0, .nils, .bool false]], 0, 0, false⟩) : runF LP NN d 43 [.ptr g 0 0 0] S = some (.bool true, S, false) := by
 refine run_at (F := F43) rfl (by simp only [LP, fnOf, snapVs, snaps, zs, zm, zv] <;> exact rfl) rfl (by simp only [LP, zf, zm]; try rfl) (by simp only [F43, zv] <;> exact rfl) (by omega) ?_
 rintro d rfl
 refine cw_seq (cw_region ?_)
 refine ow_mc ?_
 refine ow_nil ?_
 refine sk_n (by simp only [ze] <;> exact rfl) ?_
 refine cw_seq (cw_region ?_)
 refine ow_me rfl ?_
 refine ow_op (by simp only [zl, zm, eqpD, hz] <;> exact rfl) ?_
 refine ow_ml rfl ?_
 refine ow_know 0 (b := false) (by simp only [opd, zv, hz] <;> rfl) (by simp only [zn] <;> exact rfl) ?_
 refine ow_on rfl ?_
 refine ow_me rfl ?_
 refine ow_on rfl ?_
 refine ow_op (by simp only [zo, hz] <;> exact rfl) ?_
 refine ow_on rfl ?_
 refine ow_op (by simp only [zo, zr, zm, hz] <;> exact rfl) ?_
 refine ow_on rfl ?_
 refine ow_op (by simp only [zl, zm, zd, partD, List.take, List.drop, hz] <;> exact rfl) ?_
 refine ow_on rfl ?_
 refine ow_op (by simp only [zo, binD, zb, Int.reduceEq, Int.reduceToNat, Int.reduceLT, hz] <;> exact rfl) ?_
 refine ow_op (by simp only [zo, hz] <;> exact rfl) ?_
 refine ow_ml rfl ?_
 refine ow_nil ?_
 refine sk_n (by simp only [ze] <;> exact rfl) ?_
 refine cw_ret ?_
 refine ⟨_, by simp only [F43, resultD, resDs, resD, zg, zd, rowsOf, partD, List.take, List.drop, zm] <;> exact rfl, ?_⟩
 simp [leave, LP, snapR, snapV, snap, D.freeR, D.freeV, D.free, D.free0]

theorem zero25 {d : Nat} (hd : 2 ≤ d) (S : St) {g : Nat} (hz : S.heap[g]? = some ⟨80, 4, [[.nils, .int .i64 0, .nils, .bool false]], 0, 0, false⟩) : runF LP NN d 25 [.ptr g 0 0 0] S = some (.tup [.nils, .bool false, .int .i64 2], S, false) := by
 refine run_at (F := F25) rfl (by simp only [LP, fnOf, snapVs, snaps, zs, zm, zv] <;> exact rfl) rfl (by simp only [LP, zf, zm]; try rfl) (by simp only [F25, zv] <;> exact rfl) (by omega) ?_
 rintro d rfl
 refine cw_seq (cw_region ?_)
 refine ow_mc ?_
 refine ow_mc ?_
 refine ow_mc ?_
 refine ow_nil ?_
 refine sk_n (by simp only [ze] <;> exact rfl) ?_
 refine cw_seq (cw_block (cw_seq (cw_region ?_)))
 refine ow_me rfl ?_
 refine ow_op (by simp only [zo]; exact zero43 (by omega) ⟨S.heap, S.heap.length⟩ hz) ?_
 refine ow_ml rfl ?_
 refine ow_nil ?_
 refine sk_n (by simp only [ze] <;> exact rfl) ?_
 skip
 refine cw_true (by simp only [opd, zv] <;> rfl) ?_
 refine cw_seq (cw_region ?_)
 refine ow_mc ?_
 refine ow_mc ?_
 refine ow_mc ?_
 refine ow_nil ?_
 refine sk_n (by simp only [ze] <;> exact rfl) ?_
 refine cw_ret (bk_r (sk_r ?_))
 refine ⟨_, by simp only [F25, resultD, resDs, resD, zg, zd, rowsOf, partD, List.take, List.drop, zm] <;> exact rfl, ?_⟩
 simp [leave, LP, snapR, snapV, snap, D.freeR, D.freeV, D.free, D.free0, snapVs]

theorem zero24 {d : Nat} (hd : 2 ≤ d) (S : St) {g : Nat} (hz : S.heap[g]? = some ⟨80, 4, [[.nils, .int .i64 0, .nils, .bool false]], 0, 0, false⟩) : runF LP NN d 24 [.ptr g 0 0 0] S = some (.int .i64 2, S, false) := by
 refine run_at (F := F24) rfl (by simp only [LP, fnOf, snapVs, snaps, zs, zm, zv] <;> exact rfl) rfl (by simp only [LP, zf, zm]; try rfl) (by simp only [F24, zv] <;> exact rfl) (by omega) ?_
 rintro d rfl
 refine cw_seq (cw_region ?_)
 refine ow_mc ?_
 refine ow_nil ?_
 refine sk_n (by simp only [ze] <;> exact rfl) ?_
 refine cw_seq (cw_block (cw_seq (cw_region ?_)))
 refine ow_me rfl ?_
 refine ow_op (by simp only [zo]; exact zero43 (by omega) ⟨S.heap, S.heap.length⟩ hz) ?_
 refine ow_ml rfl ?_
 refine ow_nil ?_
 refine sk_n (by simp only [ze] <;> exact rfl) ?_
 skip
 refine cw_true (by simp only [opd, zv] <;> rfl) ?_
 refine cw_seq (cw_region ?_)
 refine ow_mc ?_
 refine ow_nil ?_
 refine sk_n (by simp only [ze] <;> exact rfl) ?_
 refine cw_ret (bk_r (sk_r ?_))
 refine ⟨_, by simp only [F24, resultD, resDs, resD, zg, zd, rowsOf, partD, List.take, List.drop, zm] <;> exact rfl, ?_⟩
 simp [leave, LP, snapR, snapV, snap, D.freeR, D.freeV, D.free, D.free0, snapVs]

theorem zero26 {d : Nat} (hd : 2 ≤ d) (S : St) {g : Nat} (hz : S.heap[g]? = some ⟨80, 4, [[.nils, .int .i64 0, .nils, .bool false]], 0, 0, false⟩) : runF LP NN d 26 [.ptr g 0 0 0] S = some (.int .i64 0, S, false) := by
 refine run_at (F := F26) rfl (by simp only [LP, fnOf, snapVs, snaps, zs, zm, zv] <;> exact rfl) rfl (by simp only [LP, zf, zm]; try rfl) (by simp only [F26, zv] <;> exact rfl) (by omega) ?_
 rintro d rfl
 refine cw_seq (cw_region ?_)
 refine ow_mc ?_
 refine ow_nil ?_
 refine sk_n (by simp only [ze] <;> exact rfl) ?_
 refine cw_seq (cw_seq (cw_region ?_))
 refine ow_me rfl ?_
 refine ow_op (by simp only [zo]; exact zero43 (by omega) ⟨S.heap, S.heap.length⟩ hz) ?_
 refine ow_nil ?_
 refine sk_n (by simp only [ze] <;> exact rfl) ?_
 skip
 refine cw_true (by simp only [opd, zv] <;> rfl) ?_
 refine cw_seq (cw_region ?_)
 refine ow_mc ?_
 refine ow_nil ?_
 refine sk_n (by simp only [ze] <;> exact rfl) ?_
 refine cw_ret (sk_r ?_)
 refine ⟨_, by simp only [F26, resultD, resDs, resD, zg, zd, rowsOf, partD, List.take, List.drop, zm] <;> exact rfl, ?_⟩
 simp [leave, LP, snapR, snapV, snap, D.freeR, D.freeV, D.free, D.free0, snapVs]

theorem zero23 {d : Nat} (hd : 2 ≤ d) (S : St) {g : Nat} (hz : S.heap[g]? = some ⟨80, 4, [[.nils, .int .i64 0, .nils, .bool false]], 0, 0, false⟩) {y : D} {rows : List (List D)} (hY : SlD 1 rows y) : runF LP NN d 23 [.ptr g 0 0 0, y] S = some (.int .i64 2, S, false) := by
 refine run_at (F := F23) rfl (by simp only [LP, fnOf, snapVs, snaps, zs, zm, zv, hY.snapV, hY.freeV] <;> exact rfl) rfl (by simp only [LP, zf, zm, hY.snapV, hY.freeV]; try rfl) (by simp only [F23, zv] <;> exact rfl) (by omega) ?_
 rintro d rfl
 refine cw_seq (cw_region ?_)
 refine ow_mc ?_
 refine ow_nil ?_
 refine sk_n (by simp only [ze] <;> exact rfl) ?_
 refine cw_seq (cw_block (cw_seq (cw_region ?_)))
 refine ow_me rfl ?_
 refine ow_op (by simp only [zo]; exact zero43 (by omega) ⟨S.heap, S.heap.length⟩ hz) ?_
 refine ow_ml rfl ?_
 refine ow_nil ?_
 refine sk_n (by simp only [ze] <;> exact rfl) ?_
 skip
 refine cw_true (by simp only [opd, zv] <;> rfl) ?_
 refine cw_seq (cw_region ?_)
 refine ow_mc ?_
 refine ow_nil ?_
 refine sk_n (by simp only [ze] <;> exact rfl) ?_
 refine cw_ret (bk_r (sk_r ?_))
 refine ⟨_, by simp only [F23, resultD, resDs, resD, zg, zd, rowsOf, partD, List.take, List.drop, zm] <;> exact rfl, ?_⟩
 simp [leave, LP, snapR, snapV, snap, D.freeR, D.freeV, D.free, D.free0]

end Go.Proofs.YtabgobmeibjeeaaGreatDoor

namespace Go.Proofs.YtabgobmeibjeeaaGreatDoor
set_option linter.unusedVariables false
set_option linter.unusedSimpArgs false
set_option maxRecDepth 10000

def wantE (size pa pl : Int) (num ed : Bool) (zs n : Nat) (l : List UInt8) : Int :=
 if wantK size pa pl (shpE num ed zs) n ≠ 0 then wantK size pa pl (shpE num ed zs) n
 else if (l.length : Int) ≠ size then 5
 else if num = true ∧ ((l.drop pa.toNat).take pl.toNat).all isDig = false then 15 else 0
theorem wantK_0 {size pa pl : Int} {h : Shp} {n : Nat} (hw : wantK size pa pl h n = 0) : n ≤ 8 ∧ 1 ≤ n ∧ size ≤ 4096 ∧ okE size pa pl h := by
 unfold wantK at hw
 split at hw
 ·
  simp at hw
 ·
  next h1 =>
  split at hw
  ·
   simp at hw
  ·
   next h2 =>
   simp only [not_or] at h1 h2
   refine ⟨by omega, by omega, by omega, ?_⟩
   by_cases ho : okE size pa pl h
   ·
    exact ho
   ·
    exact absurd ho h2.2.2
structure RecE (d : Nat) (S : St) (x y : D) (size w : Int) : Prop where
 valid : runF LP NN d 30 [x, .int .i64 size, y] S = some (.int .i64 w, S, false)
 cmp : ∃ r : Int, runF LP NN d 15 [x, .int .i64 size, y, y] S = some (.tup [.int .i64 r, .int .i64 w], S, false)
 sort : ∃ g : D, runF LP NN d 12 [x, .int .i64 size, .sl 1 [[y]] (some 1)] S = some (.tup [g, .int .i64 w], S, false)
 merge : ∃ g : D, runF LP NN d 21 [x, .int .i64 size, .sl 1 [[.sl 1 [[y]] (some 1)]] (some 1)] S = some (.tup [g, .int .i64 w], S, false)
theorem recE {d : Nat} (hd : 20 ≤ d) (S : St) {x y : D} {n zs : Nat} {size pa pl : Int} {num ed : Bool} {l : List UInt8} (hS : SlD 14 (List.replicate n (rowE pa pl (shpE num ed zs))) x) (hR : SlD 1 (bR l) y) (hn : n ≤ 1000) (hpa : pa ≤ 9223372036854775807) (hl : l.length ≤ 1000000) : RecE d S x y size (wantE size pa pl num ed zs n l) := by
  have hC := fun (d : Nat) (S : St) (h : 17 ≤ d) => checkE_run (d := d) h S (size := size) hS hn hpa
  unfold wantE
  by_cases hw : wantK size pa pl (shpE num ed zs) n = 0
  · rw [if_neg (by simpa using hw)]
    rw [hw] at hC
    obtain ⟨hn8, hn1, h4, ho⟩ := wantK_0 hw
    obtain ⟨a, m, s, rfl, rfl, rfl, hs1, hs2, rfl, hg, hmz⟩ := okE_key ho h4 hpa
    have e : List.replicate n (rowE a m (shpE num false zs)) = keRows (List.replicate n ⟨shpE num false zs, a, m, false⟩) := by simp [keRows, Ke.row, rowE]
    rw [e] at hS
    have hV := fun (d : Nat) (S : St) (h : 16 ≤ d) => validE_run (d := d) h S hS hR hn1 hn8 hg hs2
    have ew : (if (l.length : Int) ≠ (s : Int) then (5 : Int) else if num = true ∧ ((l.drop (a : Int).toNat).take (m : Int).toNat).all isDig = false then 15 else 0) = wantR s ⟨shpE num false zs, a, m, false⟩ l := by
      unfold wantR
      by_cases h1 : l.length = s
      · rw [if_neg (show ¬ ((l.length : Int) ≠ (s : Int)) by simp [h1]), if_neg (show ¬ (l.length ≠ s) by simp [h1])]
        simp only [Int.toNat_natCast]
        cases num with
        | false =>
          have : fitE ⟨shpE false false zs, a, m, false⟩ l = true := by
            have : (shpE false false zs).cat ≠ 4 := by simp only [shpE, Bool.false_eq_true, if_false]; split <;> decide
            simp [fitE, this]
          rw [this]; simp
        | true =>
          have : fitE ⟨shpE true false zs, a, m, false⟩ l = ((l.drop a).take m).all isDig := by simp [fitE, shpE]
          rw [this]
          by_cases h : ((l.drop a).take m).all isDig = true
          · rw [if_neg (by rw [h]; simp), if_pos h]
          · rw [if_pos ⟨rfl, by simpa using h⟩, if_neg h]
      · rw [if_pos (by omega), if_pos h1]
    rw [ew]
    by_cases hr : wantR s ⟨shpE num false zs, a, m, false⟩ l = 0
    · rw [hr] at hV ⊢
      have hls : l.length = s := by
        unfold wantR at hr
        split at hr
        · simp at hr
        · next h => simpa using h
      have hfit : fitE ⟨shpE num false zs, a, m, false⟩ l = true := by
        unfold wantR at hr
        rw [if_neg (by simpa using hls)] at hr
        split at hr
        · next h => exact h
        · simp at hr
      have hA : ∀ (d : Nat) (S : St), 18 ≤ d → runF LP NN d 31 [x, .int .i64 (s : Nat), .sl 1 [[.sl 1 [[y]] (some 1)]] (some 1)] S = some (.int .i64 0, S, false) := fun d S h => allE_ok h S hS hR s 0 hC hV
      have l0 : l ≠ [] := by intro h; subst h; simp at hls; omega
      have hv := fun (d : Nat) (S : St) (h : 18 ≤ d) => ValidE_v (d := d) h S hS hR s 0 hC hV
      have mem : ∀ q ∈ List.replicate n (⟨shpE num false zs, a, m, false⟩ : Ke), q = ⟨shpE num false zs, a, m, false⟩ := fun q hq => List.eq_of_mem_replicate hq
      have cmp : ∃ r : Int, runF LP NN d 15 [x, .int .i64 (s : Nat), y, y] S = some (.tup [.int .i64 r, .int .i64 0], S, false) := by
        by_cases h4 : (⟨shpE num false zs, a, m, false⟩ : Ke).cat = 4
        · obtain ⟨na, nb, sa, sb, r, g1, g2, g3⟩ := ge_num hg hR hR hls h4 hfit
          exact ⟨_, Compare_run (by omega) S s hS hR hR (by simp; omega) (by rw [bR_len]; omega) (by rw [bR_len]; omega) (fun q hq => by rw [mem q hq, bR_len, hls]; exact hg.fit) (fun q hq => by rw [mem q hq, bR_len, hls]; exact hg.fit) (fun _ => r)
            (fun q hq hc => absurd (by rw [mem q hq]; exact h4) hc) (fun q hq _ => by rw [mem q hq]; exact ⟨na, nb, sa, sb, g1, g2, g3⟩) hv hv⟩
        · exact ⟨_, Compare_run (by omega) S s hS hR hR (by simp; omega) (by rw [bR_len]; omega) (by rw [bR_len]; omega) (fun q hq => by rw [mem q hq, bR_len, hls]; exact hg.fit) (fun q hq => by rw [mem q hq, bR_len, hls]; exact hg.fit) (fun _ => cmpT ((l.drop a).take m) ((l.drop a).take m))
            (fun q hq hc d S hd => by rw [mem q hq]; exact ge_text hg hR hR hls hs2 h4 hd S) (fun q hq hc => absurd (by rw [mem q hq] at hc; exact hc) h4) hv hv⟩
      rcases hR with ⟨rfl, hb⟩ | ⟨c, rfl⟩
      · exact absurd (by simpa [bR] using hb) l0
      · exact ⟨hv d S (by omega), cmp, ⟨_, SortE_ok (by omega) S hS s l c l0 hl hA⟩, ⟨_, MergeE_ok (by omega) S hS s l c l0 hl hA⟩⟩
    · have hv := fun (d : Nat) (S : St) (h : 18 ≤ d) => ValidE_v (d := d) h S hS hR s _ hC hV
      have hA : ∀ (d : Nat) (S : St), 18 ≤ d → runF LP NN d 31 [x, .int .i64 (s : Nat), .sl 1 [[.sl 1 [[y]] (some 1)]] (some 1)] S = some (.int .i64 (wantR s ⟨shpE num false zs, a, m, false⟩ l), S, false) := fun d S h => allE_bad h S hS hR s _ hC hV hr
      exact ⟨hv d S (by omega), ⟨_, CompareE_bad (by omega) S hS hR s _ hv hr⟩, ⟨_, SortE_c (by omega) S hS hR s _ hA hr⟩, ⟨_, MergeE_c (by omega) S hS hR s _ hA hr⟩⟩
  · rw [if_pos (by simpa using hw)]
    have hv := fun (d : Nat) (S : St) (h : 18 ≤ d) => ValidE_c (d := d) h S hS hR size _ hC hw
    have hA : ∀ (d : Nat) (S : St), 18 ≤ d → runF LP NN d 31 [x, .int .i64 size, .sl 1 [[.sl 1 [[y]] (some 1)]] (some 1)] S = some (.int .i64 (wantK size pa pl (shpE num ed zs) n), S, false) := fun d S h => allE_c h S hS hR size _ hC hw
    exact ⟨hv d S (by omega), ⟨_, CompareE_bad (by omega) S hS hR size _ hv hw⟩, ⟨_, SortE_c (by omega) S hS hR size _ hA hw⟩, ⟨_, MergeE_c (by omega) S hS hR size _ hA hw⟩⟩
end Go.Proofs.YtabgobmeibjeeaaGreatDoor

namespace Go.Proofs.YtabgobmeibjeeaaGreatDoor
set_option linter.unusedSimpArgs false
set_option linter.unusedVariables false
set_option maxRecDepth 10000
set_option maxHeartbeats 8000000

theorem textE_run {d : Nat} (hd : 12 ≤ d) (S : St) (qz : Nat) : runF LP NN d 27 [.int .i64 ((qz % 40 : Nat) : Int)] S = some (.agg [.int .u8 (shpE false false qz).cat, .int .u8 (shpE false false qz).us, .str (shpE false false qz).pic, .int .i64 (shpE false false qz).dg, .int .i64 (shpE false false qz).sc, .bool (shpE false false qz).sg, .bool (shpE false false qz).le, .bool (shpE false false qz).se, .bool (shpE false false qz).ju, .bool (shpE false false qz).bl, .int .i64 (shpE false false qz).sz], S, false) := by
 refine (textX_run hd S (qz % 40) (by omega)).trans ?_
 simp [shX, shpE, szE]
theorem numE_run {d : Nat} (hd : 12 ≤ d) (S : St) (qz : Nat) : runF LP NN d 28 [.int .i64 ((1 + qz % 18 : Nat) : Int)] S = some (.agg [.int .u8 (shpE true false qz).cat, .int .u8 (shpE true false qz).us, .str (shpE true false qz).pic, .int .i64 (shpE true false qz).dg, .int .i64 (shpE true false qz).sc, .bool (shpE true false qz).sg, .bool (shpE true false qz).le, .bool (shpE true false qz).se, .bool (shpE true false qz).ju, .bool (shpE true false qz).bl, .int .i64 (shpE true false qz).sz], S, false) := by
 refine (numX_run hd S (1 + qz % 18) (by omega) (by omega)).trans ?_
 simp [shN, shpE, szE]
def KA (row : List D) (i : Nat) (T : List AObj) (kx : D) : Prop := (i = 0 ∧ T = [] ∧ kx = .nils) ∨ (i ≠ 0 ∧ ∃ v, T = [⟨59, 14, List.replicate i row, v, 1, true⟩] ∧ kx = .msl 3 v 0 i none)
theorem KA.app {row : List D} {i : Nat} {T : List AObj} {kx : D} (h : KA row i T kx) (hi : i ≤ 1000) (o0 o1 o2 : AObj) : ∃ T' kx', KA row (i + 1) T' kx' ∧ ∀ c : CallF, exOp c (.append 59 14 80 1) [kx, .sl 14 [row] (some 1)] ⟨o0 :: o1 :: o2 :: T, 0⟩ = some (kx', ⟨o0 :: o1 :: o2 :: T', 0⟩, true) := by
 rcases h with ⟨rfl, rfl, rfl⟩ | ⟨h0, v, rfl, rfl⟩
 ·
  exact ⟨_, _, .inr ⟨by omega, 0, rfl, rfl⟩, fun c => by simp [exOp, aop, LOp.loud, lop, appendD, readRows, appendRows, newAt]⟩
 ·
  refine ⟨_, _, .inr ⟨by omega, v + 1, rfl, rfl⟩, fun c => ?_⟩
  have hb : (i + 1) * 80 ≤ 140737488355328 := by omega
  have e : List.replicate i row ++ [row] = List.replicate (i + 1) row := (List.replicate_succ' ..).symm
  simp [exOp, aop, LOp.loud, lop, appendD, readRows, appendRows, rowsOf, setAt, hb, e]
theorem KA.snapV {row : List D} {i : Nat} {T : List AObj} {kx : D} (h : KA row i T kx) (o0 o1 o2 : AObj) (m : Nat) (R : List AObj) : snapV m (o0 :: o1 :: o2 :: (T ++ R)) kx = some (appY 14 (List.replicate i row)) := by
 rcases h with ⟨rfl, rfl, rfl⟩ | ⟨h0, v, rfl, rfl⟩
 ·
  rfl
 ·
  obtain ⟨k, rfl⟩ : ∃ k, i = k + 1 := ⟨i - 1, by omega⟩
  simp [snapV_msl, snap_msl, appY, List.replicate_succ]
theorem nilS23 {d : Nat} (hd : 4 ≤ d) (S : St) {y : D} {rows : List (List D)} (hY : SlD 1 rows y) : runF LP NN d 23 [.nilp, y] S = some (.int .i64 2, S, false) := by
 obtain ⟨d, rfl⟩ : ∃ d', d = d' + 4 := ⟨d - 4, by omega⟩
 rcases hY with ⟨rfl, _⟩ | ⟨c, rfl⟩
 ·
  exact nil23n d S
 ·
  exact nil23 d S rows c
theorem nilS24 {d : Nat} (hd : 4 ≤ d) (S : St) : runF LP NN d 24 [.nilp] S = some (.int .i64 2, S, false) := by
 obtain ⟨d, rfl⟩ : ∃ d', d = d' + 4 := ⟨d - 4, by omega⟩
 exact nil24 d S
theorem nilS25 {d : Nat} (hd : 4 ≤ d) (S : St) : runF LP NN d 25 [.nilp] S = some (.tup [.nils, .bool false, .int .i64 2], S, false) := by
 obtain ⟨d, rfl⟩ : ∃ d', d = d' + 4 := ⟨d - 4, by omega⟩
 exact nil25 d S
theorem nilS26 {d : Nat} (hd : 4 ≤ d) (S : St) : runF LP NN d 26 [.nilp] S = some (.int .i64 0, S, false) := by
 obtain ⟨d, rfl⟩ : ∃ d', d = d' + 4 := ⟨d - 4, by omega⟩
 exact nil26 d S

theorem newE_any {d : Nat} (hd : 18 ≤ d) {size pa pl : Int} {num ed : Bool} {qz n : Nat} {T : List AObj} {kx : D} (hA : KA (rowE pa pl (shpE num ed qz)) n T kx) (hn : n ≤ 1000) (hpa : pa ≤ 9223372036854775807) (o0 o1 o2 : AObj) :
  ∃ (x : D) (T' : List AObj) (wr : Bool), runF LP NN d 22 [kx, .int .i64 size] ⟨o0 :: o1 :: o2 :: T, 0⟩ = some (.tup [x, .int .i64 (wantK size pa pl (shpE num ed qz) n)], ⟨o0 :: o1 :: o2 :: T', 0⟩, wr) ∧ (∀ (m : Nat), snapV m (o0 :: o1 :: o2 :: T') kx = some (appY 14 (List.replicate n (rowE pa pl (shpE num ed qz))))) ∧ ∀ S : St, eqpD S x .nilp = some (wantK size pa pl (shpE num ed qz) n != 0) := by
 have hX := appY_S 14 (List.replicate n (rowE pa pl (shpE num ed qz)))
 have hCk := fun (d : Nat) (S : St) (h : 17 ≤ d) => checkE_run (d := d) h S (size := size) hX hn hpa
 have hk := fun (m : Nat) (R : List AObj) => hA.snapV o0 o1 o2 m R
 have hk0 : ∀ m, snapV m (o0 :: o1 :: o2 :: T) kx = some (appY 14 (List.replicate n (rowE pa pl (shpE num ed qz)))) := fun m => by simpa using hk m []
 have hs1 : ∀ m, snapVs m (o0 :: o1 :: o2 :: T) [kx, .int .i64 size] = some [appY 14 (List.replicate n (rowE pa pl (shpE num ed qz))), .int .i64 size] := fun m => by simp [snapVs, hk0, snapV_int]
 have hs2 : ∀ m, snapVs m (o0 :: o1 :: o2 :: T) [appY 14 (List.replicate n (rowE pa pl (shpE num ed qz))), .int .i64 size] = some [appY 14 (List.replicate n (rowE pa pl (shpE num ed qz))), .int .i64 size] := fun m => by simp [snapVs, hX.snapV, snapV_int]
 by_cases hw : wantK size pa pl (shpE num ed qz) n = 0
 ·
  obtain ⟨hn8, hn1, _, _⟩ := wantK_0 hw
  have e : appY 14 (List.replicate n (rowE pa pl (shpE num ed qz))) = .sl 14 (List.replicate n (rowE pa pl (shpE num ed qz))) none := by
   obtain ⟨k, rfl⟩ : ∃ k, n = k + 1 := ⟨n - 1, by omega⟩
   rfl
  rw [hw] at hCk
  rw [e] at hCk hs1 hs2
  have h := NewE_ok hd (o0 :: o1 :: o2 :: T) 0 size hCk (by simp; omega) (by simp; omega)
  rw [Nat.zero_min] at h
  exact ⟨_, T ++ [⟨80, 4, [[.sl 14 (List.replicate n (rowE pa pl (shpE num ed qz))) none, .int .i64 size, .nils, .bool false]], 0, 0, false⟩], true, ((run_snap rfl (hs1 _) (hs2 _)).trans h).trans (by rw [hw]; rfl), fun m => hk m _, fun S => by rw [hw]; rfl⟩
 ·
  have h := NewE_c hd ⟨o0 :: o1 :: o2 :: T, 0⟩ hX size _ hCk hw
  exact ⟨.nilp, T, false, (run_snap rfl (hs1 _) (hs2 _)).trans h, hk0, fun S => by
   have : (wantK size pa pl (shpE num ed qz) n != 0) = true := by rw [bne_iff_ne]; exact hw
   rw [this]; rfl⟩
theorem dig_step {l : List UInt8} {a j : Nat} {c : UInt8} (h : l[a + j]? = some c) : ((l.drop a).take (j + 1)).all isDig = (((l.drop a).take j).all isDig && isDig c) := by
 have h2 : (l.drop a)[j]? = some c := by rw [List.getElem?_drop]; exact h
 rw [List.take_add_one, h2]; simp
theorem isDig_lo {c : UInt8} (h : (c.toNat : Int) < 48) : isDig c = false := by
 have : ¬ 48 ≤ c.toNat := by omega
 simp [isDig, this]
theorem isDig_hi {c : UInt8} (h : (c.toNat : Int) > 57) : isDig c = false := by
 have : ¬ c.toNat ≤ 57 := by omega
 simp [isDig, this]
theorem isDig_in {c : UInt8} (h : ¬ (c.toNat : Int) < 48) (h2 : ¬ (c.toNat : Int) > 57) : isDig c = true := by
 have : 48 ≤ c.toNat := by omega
 have : c.toNat ≤ 57 := by omega
 simp [isDig, *]
theorem bool28 (c : Bool) : (((c != false) == c) != true) = false := by cases c <;> rfl

theorem cat5 (num : Bool) (zs : Nat) : (shpE num false zs).cat ≠ 5 := by
 simp only [shpE, Bool.false_eq_true, if_false]
 cases num <;> simp only [Bool.false_eq_true, if_false, if_true] <;> first | decide | (split <;> decide)

theorem fin15 {num : Bool} {c : Bool} (h : num = true) : (if c = true then (0 : Int) else 15) = if num = true ∧ c = false then 15 else 0 := by
 cases c <;> simp [h]

theorem lawErr_run {d : Nat} (hd : 40 ≤ d) (S : St) (size pa pl : Int) (qz qm : Nat) (num ed : Bool) {y : D} {l : List UInt8} (hR : SlD 1 (bR l) y) (hqz : qz < 256) (hqm : qm < 256) (hpa : pa ≤ 9223372036854775807) (hll : l.length ≤ 9223372036854775807) : runF LP NN d 8 [.int .i64 size, .agg [.int .i64 pa, .int .i64 pl], .agg [.int .u8 (qz : Nat), .bool num, .bool ed, .int .u8 (qm : Nat), y]] S = some (.bool true, S, false) := by
 have hm40 : ((qz : Int)).tmod 40 = ((qz % 40 : Nat) : Int) := by rw [Int.tmod_eq_emod_of_nonneg (by omega)]; omega
 have hm18 : ((qz : Int)).tmod 18 = ((qz % 18 : Nat) : Int) := by rw [Int.tmod_eq_emod_of_nonneg (by omega)]; omega
 have hw40 : IntKind.i64.wrap ((qz % 40 : Nat) : Int) = ((qz % 40 : Nat) : Int) := by rw [IntKind.wrap_i64]; omega
 have hw18 : IntKind.i64.wrap ((qz % 18 : Nat) : Int) = ((qz % 18 : Nat) : Int) := by rw [IntKind.wrap_i64]; omega
 have hw19 : IntKind.i64.wrap (1 + ((qz % 18 : Nat) : Int)) = ((1 + qz % 18 : Nat) : Int) := by rw [IntKind.wrap_i64]; omega
 have w01 : IntKind.i64.wrap (0 + 1) = 1 := by decide
 have w11 : IntKind.i64.wrap (1 + 1) = 2 := by decide
 have hwm : IntKind.i64.wrap ((qm : Nat) : Int) = ((qm : Nat) : Int) := by rw [IntKind.wrap_i64]; omega
 have zz := And.intro (hR.isCell) (And.intro (hR.val) (And.intro (hR.cells) (And.intro (hR.free) (And.intro (hR.snapV) (And.intro (hR.len) (And.intro (bR_len) (And.intro (hm40) (And.intro (hm18) (And.intro (hw40) (And.intro (hw18) (And.intro (hw19) (And.intro (hwm) (And.intro (bool28) (And.intro (w01) (w11)))))))))))))))
 refine run_pure (F := F8) rfl (by simp only [LP, fnOf, snapVs, snaps, zs, zm, zv, hR.snapV, hR.snap, hR.freeV, hR.free] <;> exact rfl) rfl (by simp only [LP, zf, zm, hR.snapV, hR.snap, hR.freeV, hR.free]; try rfl) (by simp only [F8, zv] <;> exact rfl) (by omega) ?_
 rintro d rfl
 refine cw_seq (cw_region ?_)
 refine ow_op (by simp only [zl, zm, zc, zz, bne_self_eq_false] <;> exact rfl) ?_
 refine ow_op (by simp only [zl, zm, zc, zz, bne_self_eq_false] <;> exact rfl) ?_
 refine ow_mc ?_
 refine ow_nil ?_
 refine sk_n (by simp only [ze] <;> exact rfl) ?_
 refine cw_seq (cw_seq (cw_region ?_))
 refine ow_op (by simp only [zo, zr, zm, zz, bne_self_eq_false] <;> exact rfl) ?_
 refine ow_op (by simp only [zl, zm, zd, partD, List.take, List.drop, zz, bne_self_eq_false] <;> exact rfl) ?_
 refine ow_op (by simp only [zo, lenD_str, lenD_nils, lenD_sl, lenD_msl, zz, bne_self_eq_false] <;> exact rfl) ?_
 refine ow_op (by simp only [zo, binD, zb, Int.reduceEq, Int.reduceToNat, Int.reduceLT, zz, bne_self_eq_false] <;> exact rfl) ?_
 refine ow_ml rfl ?_
 refine ow_split 0 (by simp only [opd, zv] <;> exact rfl) (by simp only [zn] <;> exact rfl) (by simp only [zn] <;> exact rfl) (fun hg => ?_) (fun hg => ?_)
 ·
  refine ow_off rfl rfl ?_
  refine ow_off rfl rfl ?_
  refine ow_off rfl rfl ?_
  refine ow_op (by simp only [zo, zz, bne_self_eq_false] <;> exact rfl) ?_
  refine ow_nil ?_
  refine sk_n (by simp only [ze] <;> exact rfl) ?_
  refine cw_true (by simp only [opd, zv, zz, bne_self_eq_false]) ?_
  refine cw_seq (cw_region ?_)
  refine ow_op (by simp only [zo, zz, bne_self_eq_false]; exact livesD (by omega) _) ?_
  refine ow_ml rfl ?_
  refine ow_nil ?_
  refine sk_n (by simp only [ze] <;> exact rfl) ?_
  refine cw_ret (sk_r ?_)
  refine ⟨_, by simp only [F8, resultD, resDs, resD, zg, zd, rowsOf, partD, List.take, List.drop, zm] <;> exact rfl, ?_⟩
  simp only [leaveP, leave, snapVs, snaps, zs, zf, zk]
 ·
  refine ow_on rfl ?_
  refine ow_op (by simp only [zo, zr, zm, zz, bne_self_eq_false] <;> exact rfl) ?_
  refine ow_on rfl ?_
  refine ow_op (by simp only [zl, zm, zd, partD, List.take, List.drop, zz, bne_self_eq_false] <;> exact rfl) ?_
  refine ow_on rfl ?_
  refine ow_op (by simp only [zo, binD, zb, Int.reduceEq, Int.reduceToNat, Int.reduceLT, zz, bne_self_eq_false] <;> exact rfl) ?_
  refine ow_op (by simp only [zo, zz, bne_self_eq_false] <;> exact rfl) ?_
  refine ow_nil ?_
  refine sk_n (by simp only [ze] <;> exact rfl) ?_
  refine cw_cond (by simp only [opd, zv, zz, bne_self_eq_false] <;> exact rfl) (fun hcF => ?_) (fun hcF => ?_)
  ·
   refine cw_seq (cw_region ?_)
   refine ow_op (by simp only [zo, zz, bne_self_eq_false]; exact livesD (by omega) _) ?_
   refine ow_ml rfl ?_
   refine ow_nil ?_
   refine sk_n (by simp only [ze] <;> exact rfl) ?_
   refine cw_ret (sk_r ?_)
   refine ⟨_, by simp only [F8, resultD, resDs, resD, zg, zd, rowsOf, partD, List.take, List.drop, zm] <;> exact rfl, ?_⟩
   simp only [leaveP, leave, snapVs, snaps, zs, zf, zk]
  ·
   refine cw_skip (sk_n rfl (cw_seq (cw_region ?_)))
   refine ow_op (by simp only [zo, zr, zm, zz, bne_self_eq_false] <;> exact rfl) ?_
   refine ow_op (by simp only [zl, zm, zd, partD, List.take, List.drop, zz, bne_self_eq_false] <;> exact rfl) ?_
   refine ow_op (by simp only [zo, binD, zb, Int.reduceEq, Int.reduceToNat, Int.reduceLT, zz, bne_self_eq_false] <;> exact rfl) ?_
   refine ow_op (by simp only [zo, zz, bne_self_eq_false] <;> exact rfl) ?_
   refine ow_op (by simp only [zo, zz, bne_self_eq_false]; exact textE_run (by omega) _ qz) ?_
   refine ow_op (by simp only [zl, zm, zz, bne_self_eq_false] <;> exact rfl) ?_
   refine ow_op (by simp only [zl, zm, storeD, overlay, snapVs, snaps, zs, zc, zf, List.take, List.drop, zz, bne_self_eq_false] <;> exact rfl) ?_
   refine ow_nil ?_
   refine sk_n (by simp only [ze] <;> exact rfl) ?_
   refine cw_cut (fun env S' => ∃  (a7 a8 a9 a10 a11 a12 a13 a14 a15 a16 a17 a18 a19 a20 a21 a22 a23 a24 a25 a26 a27 a28 a29 a30 a31 a32 a33 a34 a35 a36 : D), S' = ⟨[⟨57, 2, [[.int .i64 pa, .int .i64 pl]], 0, 0, false⟩, ⟨75, 5, [[.int .u8 (qz : Nat), .bool num, .bool ed, .int .u8 (qm : Nat), y]], 0, 0, false⟩, ⟨51, 11, [[.int .u8 (shpE num false qz).cat, .int .u8 (shpE num false qz).us, .str (shpE num false qz).pic, .int .i64 (shpE num false qz).dg, .int .i64 (shpE num false qz).sc, .bool (shpE num false qz).sg, .bool (shpE num false qz).le, .bool (shpE num false qz).se, .bool (shpE num false qz).ju, .bool (shpE num false qz).bl, .int .i64 (shpE num false qz).sz]], 0, 0, false⟩], 0⟩ ∧ env = [.int .i64 size, .agg [.int .i64 pa, .int .i64 pl], .agg [.int .u8 (qz : Nat), .bool num, .bool ed, .int .u8 (qm : Nat), y], .ptr 0 0 0 0, .ptr 1 0 0 0, .bool false, .ptr 2 0 0 0, a7, a8, a9, a10, a11, a12, a13, a14, a15, a16, a17, a18, a19, a20, a21, a22, a23, a24, a25, a26, a27, a28, a29, a30, a31, a32, a33, a34, a35, a36]) ?_ ?_
   ·
    refine cw_seq (cw_region ?_)
    refine ow_op (by simp only [zo, zr, zm, zz, bne_self_eq_false] <;> exact rfl) ?_
    refine ow_op (by simp only [zl, zm, zd, partD, List.take, List.drop, zz, bne_self_eq_false] <;> exact rfl) ?_
    refine ow_nil ?_
    refine sk_n (by simp only [ze] <;> exact rfl) ?_
    refine cw_cond (by simp only [opd, zv, zz, bne_self_eq_false] <;> exact rfl) (fun hcFF => ?_) (fun hcFF => ?_)
    ·
     refine cw_region ?_
     refine ow_op (by simp only [zo, zr, zm, zz, bne_self_eq_false] <;> exact rfl) ?_
     refine ow_op (by simp only [zl, zm, zd, partD, List.take, List.drop, zz, bne_self_eq_false] <;> exact rfl) ?_
     refine ow_op (by simp only [zo, binD, zb, Int.reduceEq, Int.reduceToNat, Int.reduceLT, zz, bne_self_eq_false] <;> exact rfl) ?_
     refine ow_op (by simp only [zo, zz, bne_self_eq_false] <;> exact rfl) ?_
     refine ow_op (by simp only [zo, binD, zb, Int.reduceEq, Int.reduceToNat, Int.reduceLT, zz, bne_self_eq_false] <;> exact rfl) ?_
     refine ow_op (by simp only [zo, zz, bne_self_eq_false]; exact numE_run (by omega) _ qz) ?_
     refine ow_op (by simp only [zl, zm, storeD, overlay, snapVs, snaps, zs, zc, zf, List.take, List.drop, zz, bne_self_eq_false] <;> exact rfl) ?_
     refine ow_nil ?_
     refine ck_n (by simp only [ze] <;> exact rfl) ?_
     exact ⟨_, _, _, _, _, _, _, _, _, _, _, _, _, _, _, _, _, _, _, _, _, _, _, _, _, _, _, _, _, _, by rw [hcFF] <;> rfl, rfl⟩
    ·
     refine cw_skip ?_
     refine ck_n rfl ?_
     exact ⟨_, _, _, _, _, _, _, _, _, _, _, _, _, _, _, _, _, _, _, _, _, _, _, _, _, _, _, _, _, _, by rw [hcFF] <;> rfl, rfl⟩
   rintro env S' ⟨a7, a8, a9, a10, a11, a12, a13, a14, a15, a16, a17, a18, a19, a20, a21, a22, a23, a24, a25, a26, a27, a28, a29, a30, a31, a32, a33, a34, a35, a36, rfl, rfl⟩
   refine cw_cut (fun env S' => ∃  (b7 b8 b9 b10 b11 b12 b13 b14 b15 b16 b17 b18 b19 b20 b21 b22 b23 b24 b25 b26 b27 b28 b29 b30 b31 b32 b33 b34 b35 b36 : D), S' = ⟨[⟨57, 2, [[.int .i64 pa, .int .i64 pl]], 0, 0, false⟩, ⟨75, 5, [[.int .u8 (qz : Nat), .bool num, .bool ed, .int .u8 (qm : Nat), y]], 0, 0, false⟩, ⟨51, 11, [[.int .u8 (shpE num ed qz).cat, .int .u8 (shpE num ed qz).us, .str (shpE num ed qz).pic, .int .i64 (shpE num ed qz).dg, .int .i64 (shpE num ed qz).sc, .bool (shpE num ed qz).sg, .bool (shpE num ed qz).le, .bool (shpE num ed qz).se, .bool (shpE num ed qz).ju, .bool (shpE num ed qz).bl, .int .i64 (shpE num ed qz).sz]], 0, 0, false⟩], 0⟩ ∧ env = [.int .i64 size, .agg [.int .i64 pa, .int .i64 pl], .agg [.int .u8 (qz : Nat), .bool num, .bool ed, .int .u8 (qm : Nat), y], .ptr 0 0 0 0, .ptr 1 0 0 0, .bool false, .ptr 2 0 0 0, b7, b8, b9, b10, b11, b12, b13, b14, b15, b16, b17, b18, b19, b20, b21, b22, b23, b24, b25, b26, b27, b28, b29, b30, b31, b32, b33, b34, b35, b36]) ?_ ?_
   ·
    refine cw_seq (cw_region ?_)
    refine ow_op (by simp only [zo, zr, zm, zz, bne_self_eq_false] <;> exact rfl) ?_
    refine ow_op (by simp only [zl, zm, zd, partD, List.take, List.drop, zz, bne_self_eq_false] <;> exact rfl) ?_
    refine ow_nil ?_
    refine sk_n (by simp only [ze] <;> exact rfl) ?_
    refine cw_cond (by simp only [opd, zv, zz, bne_self_eq_false] <;> exact rfl) (fun hcFFa => ?_) (fun hcFFa => ?_)
    ·
     refine cw_region ?_
     refine ow_op (by simp only [zo, zr, zm, zz, bne_self_eq_false] <;> exact rfl) ?_
     refine ow_op (by simp only [zl, zm, storeD, overlay, snapVs, snaps, zs, zc, zf, List.take, List.drop, zz, bne_self_eq_false] <;> exact rfl) ?_
     refine ow_nil ?_
     refine ck_n (by simp only [ze] <;> exact rfl) ?_
     exact ⟨_, _, _, _, _, _, _, _, _, _, _, _, _, _, _, _, _, _, _, _, _, _, _, _, _, _, _, _, _, _, by rw [hcFFa] <;> rfl, rfl⟩
    ·
     refine cw_skip ?_
     refine ck_n rfl ?_
     exact ⟨_, _, _, _, _, _, _, _, _, _, _, _, _, _, _, _, _, _, _, _, _, _, _, _, _, _, _, _, _, _, by rw [hcFFa] <;> rfl, rfl⟩
   rintro env S' ⟨b7, b8, b9, b10, b11, b12, b13, b14, b15, b16, b17, b18, b19, b20, b21, b22, b23, b24, b25, b26, b27, b28, b29, b30, b31, b32, b33, b34, b35, b36, rfl, rfl⟩
   refine cw_seq (cw_region ?_)
   refine ow_mc ?_
   refine ow_nil ?_
   refine sk_n (by simp only [ze] <;> exact rfl) ?_
   refine cw_seq (cw_seq (cw_region ?_))
   refine ow_mc ?_
   refine ow_nil ?_
   refine sk_n (by simp only [ze] <;> exact rfl) ?_
   refine cw_block ?_
   refine cw_loop (fun rr env S' => ∃ (i : Nat) (T : List AObj) (kx p9 p10 p11 p12 p13 p14 p15 p16 p17 p18 p19 p20 p21 p22 p23 p24 p25 p26 p27 p28 p29 p30 p31 p32 p33 p34 p35 p36 : D), i ≤ qm ∧ rr = qm - i ∧ KA (rowE pa pl (shpE num ed qz)) i T kx ∧ S' = ⟨⟨57, 2, [[.int .i64 pa, .int .i64 pl]], 0, 0, false⟩ :: ⟨75, 5, [[.int .u8 (qz : Nat), .bool num, .bool ed, .int .u8 (qm : Nat), y]], 0, 0, false⟩ :: ⟨51, 11, [[.int .u8 (shpE num ed qz).cat, .int .u8 (shpE num ed qz).us, .str (shpE num ed qz).pic, .int .i64 (shpE num ed qz).dg, .int .i64 (shpE num ed qz).sc, .bool (shpE num ed qz).sg, .bool (shpE num ed qz).le, .bool (shpE num ed qz).se, .bool (shpE num ed qz).ju, .bool (shpE num ed qz).bl, .int .i64 (shpE num ed qz).sz]], 0, 0, false⟩ :: T, 0⟩ ∧ env = [.int .i64 size, .agg [.int .i64 pa, .int .i64 pl], .agg [.int .u8 (qz : Nat), .bool num, .bool ed, .int .u8 (qm : Nat), y], .ptr 0 0 0 0, .ptr 1 0 0 0, .bool false, .ptr 2 0 0 0, kx, .int .i64 (i : Nat), p9, p10, p11, p12, p13, p14, p15, p16, p17, p18, p19, p20, p21, p22, p23, p24, p25, p26, p27, p28, p29, p30, p31, p32, p33, p34, p35, p36]) (qm) (by omega) (⟨0, [], .nils, _, _, _, _, _, _, _, _, _, _, _, _, _, _, _, _, _, _, _, _, _, _, _, _, _, _, _, _, by omega, by omega, .inl ⟨rfl, rfl, rfl⟩, rfl, rfl⟩) ?_
   rintro rr env S' ⟨i, T, kx, p9, p10, p11, p12, p13, p14, p15, p16, p17, p18, p19, p20, p21, p22, p23, p24, p25, p26, p27, p28, p29, p30, p31, p32, p33, p34, p35, p36, hi, rfl, hA, rfl, rfl⟩
   refine cw_seq (cw_seq (cw_region ?_))
   refine ow_me rfl ?_
   refine ow_op (by simp only [zo, zr, zm, zz, bne_self_eq_false] <;> exact rfl) ?_
   refine ow_op (by simp only [zl, zm, zd, partD, List.take, List.drop, zz, bne_self_eq_false] <;> exact rfl) ?_
   refine ow_op (by simp only [zo, zz, bne_self_eq_false] <;> exact rfl) ?_
   refine ow_op (by simp only [zo, binD, zb, Int.reduceEq, Int.reduceToNat, Int.reduceLT, zz, bne_self_eq_false] <;> exact rfl) ?_
   refine ow_nil ?_
   refine sk_n (by simp only [ze] <;> exact rfl) ?_
   refine cw_cond (by simp only [opd, zv, zz, bne_self_eq_false] <;> exact rfl) (fun hcFFabA => ?_) (fun hcFFabA => ?_)
   ·
    have hlt : i < qm := by have := of_decide_eq_true hcFFabA; omega
    have wi := wrap_nat i (by omega)
    obtain ⟨T', kx', hA', hap⟩ := hA.app (by omega) ⟨57, 2, [[.int .i64 pa, .int .i64 pl]], 0, 0, false⟩ ⟨75, 5, [[.int .u8 (qz : Nat), .bool num, .bool ed, .int .u8 (qm : Nat), y]], 0, 0, false⟩ ⟨51, 11, [[.int .u8 (shpE num ed qz).cat, .int .u8 (shpE num ed qz).us, .str (shpE num ed qz).pic, .int .i64 (shpE num ed qz).dg, .int .i64 (shpE num ed qz).sc, .bool (shpE num ed qz).sg, .bool (shpE num ed qz).le, .bool (shpE num ed qz).se, .bool (shpE num ed qz).ju, .bool (shpE num ed qz).bl, .int .i64 (shpE num ed qz).sz]], 0, 0, false⟩
    refine cw_skip (sk_n rfl (cw_seq (cw_block (cw_region ?_))))
    refine ow_me rfl ?_
    refine ow_op (by simp only [zl, zm, zd, partD, List.take, List.drop, zz, bne_self_eq_false, wi] <;> exact rfl) ?_
    refine ow_op (by simp only [zl, zm, zd, partD, List.take, List.drop, zz, bne_self_eq_false, wi] <;> exact rfl) ?_
    refine ow_op (by simp only [zo, fillD, overlay, zc, List.take, List.drop, Nat.reduceAdd, Nat.reduceLeDiff, Nat.reduceBEq, zm, zz, bne_self_eq_false, wi] <;> exact rfl) ?_
    refine ow_op (by simp only [zl, zm, fillRows, List.replicate, snapVs, snaps, zs, zc, zf, zz, bne_self_eq_false, wi] <;> exact rfl) ?_
    refine ow_op (by simp only [opd, zv]; exact hap _) ?_
    refine ow_ml rfl ?_
    refine ow_nil (bk_n ?_)
    refine sk_n (by simp only [ze] <;> exact rfl) ?_
    refine cw_region ?_
    refine ow_me rfl ?_
    refine ow_op (by simp only [zo, binD, zb, Int.reduceEq, Int.reduceToNat, Int.reduceLT, zz, bne_self_eq_false, wi] <;> exact rfl) ?_
    refine ow_ml rfl ?_
    refine ow_nil ?_
    refine lk_n (by simp only [ze] <;> exact rfl) ?_
    exact ⟨qm - (i + 1), by omega, i + 1, T', kx', _, _, _, _, _, _, _, _, _, _, _, _, _, _, _, _, _, _, _, _, _, _, _, _, _, _, _, _, by omega, rfl, hA', rfl, rfl⟩
   ·
    obtain rfl : qm = i := by have := of_decide_eq_false hcFFabA; omega
    refine cw_exit (sk_e (lk_e (bk_e (sk_n rfl (cw_seq (cw_region ?_))))))
    refine ow_mc ?_
    refine ow_nil ?_
    refine sk_n (by simp only [ze] <;> exact rfl) ?_
    refine cw_cut (fun env S' => ∃ (T : List AObj) (kx : D) (c8 c10 c11 c12 c13 c14 c15 c16 c17 c18 c19 c20 c21 c22 c23 c24 c25 c26 c27 c28 c29 c30 c31 c32 c33 c34 c35 c36 : D), KA (rowE pa pl (shpE num ed qz)) qm T kx ∧ S' = ⟨⟨57, 2, [[.int .i64 pa, .int .i64 pl]], 0, 0, false⟩ :: ⟨75, 5, [[.int .u8 (qz : Nat), .bool num, .bool ed, .int .u8 (qm : Nat), y]], 0, 0, false⟩ :: ⟨51, 11, [[.int .u8 (shpE num ed qz).cat, .int .u8 (shpE num ed qz).us, .str (shpE num ed qz).pic, .int .i64 (shpE num ed qz).dg, .int .i64 (shpE num ed qz).sc, .bool (shpE num ed qz).sg, .bool (shpE num ed qz).le, .bool (shpE num ed qz).se, .bool (shpE num ed qz).ju, .bool (shpE num ed qz).bl, .int .i64 (shpE num ed qz).sz]], 0, 0, false⟩ :: T, 0⟩ ∧ env = [.int .i64 size, .agg [.int .i64 pa, .int .i64 pl], .agg [.int .u8 (qz : Nat), .bool num, .bool ed, .int .u8 (qm : Nat), y], .ptr 0 0 0 0, .ptr 1 0 0 0, .bool false, .ptr 2 0 0 0, kx, c8, .int .i64 (wantK size pa pl (shpE num ed qz) qm), c10, c11, c12, c13, c14, c15, c16, c17, c18, c19, c20, c21, c22, c23, c24, c25, c26, c27, c28, c29, c30, c31, c32, c33, c34, c35, c36]) ?_ ?_
    ·
     refine cw_seq (cw_region ?_)
     refine ow_op (by simp only [zo, zr, zm, zz, bne_self_eq_false] <;> exact rfl) ?_
     refine ow_op (by simp only [zl, zm, zd, partD, List.take, List.drop, zz, bne_self_eq_false] <;> exact rfl) ?_
     refine ow_op (by simp only [zo, binD, zb, Int.reduceEq, Int.reduceToNat, Int.reduceLT, zz, bne_self_eq_false] <;> exact rfl) ?_
     refine ow_ml rfl ?_
     refine ow_split 0 (by simp only [opd, zv] <;> exact rfl) (by simp only [zn] <;> exact rfl) (by simp only [zn] <;> exact rfl) (fun hgFFabAF => ?_) (fun hgFFabAF => ?_)
     ·
      refine ow_off rfl rfl ?_
      refine ow_off rfl rfl ?_
      refine ow_op (by simp only [zo, zz, bne_self_eq_false] <;> exact rfl) ?_
      refine ow_nil ?_
      refine sk_n (by simp only [ze] <;> exact rfl) ?_
      refine cw_true (by simp only [opd, zv, zz, bne_self_eq_false]) ?_
      refine cw_region ?_
      refine ow_mc ?_
      refine ow_nil ?_
      refine ck_n (by simp only [ze] <;> exact rfl) ?_
      exact ⟨T, kx, _, _, _, _, _, _, _, _, _, _, _, _, _, _, _, _, _, _, _, _, _, _, _, _, _, _, _, _, hA, rfl, by rw [wantK, if_pos (.inl (by have := of_decide_eq_true hgFFabAF; omega))]⟩
     ·
      refine ow_on rfl ?_
      refine ow_me rfl ?_
      refine ow_on rfl ?_
      refine ow_op (by simp only [zo, binD, zb, Int.reduceEq, Int.reduceToNat, Int.reduceLT, zz, bne_self_eq_false] <;> exact rfl) ?_
      refine ow_op (by simp only [zo, zz, bne_self_eq_false] <;> exact rfl) ?_
      refine ow_nil ?_
      refine sk_n (by simp only [ze] <;> exact rfl) ?_
      refine cw_cond (by simp only [opd, zv, zz, bne_self_eq_false] <;> exact rfl) (fun hcFFabAFF => ?_) (fun hcFFabAFF => ?_)
      ·
       refine cw_region ?_
       refine ow_mc ?_
       refine ow_nil ?_
       refine ck_n (by simp only [ze] <;> exact rfl) ?_
       exact ⟨T, kx, _, _, _, _, _, _, _, _, _, _, _, _, _, _, _, _, _, _, _, _, _, _, _, _, _, _, _, _, hA, rfl, by rw [wantK, if_pos (.inr (of_decide_eq_true hcFFabAFF))]⟩
      ·
       refine cw_seq (cw_region ?_)
       refine ow_op (by simp only [zo, zr, zm, zz, bne_self_eq_false] <;> exact rfl) ?_
       refine ow_op (by simp only [zl, zm, zd, partD, List.take, List.drop, zz, bne_self_eq_false] <;> exact rfl) ?_
       refine ow_op (by simp only [zo, binD, zb, Int.reduceEq, Int.reduceToNat, Int.reduceLT, zz, bne_self_eq_false] <;> exact rfl) ?_
       refine ow_ml rfl ?_
       refine ow_split 0 (by simp only [opd, zv] <;> exact rfl) (by simp only [zn] <;> exact rfl) (by simp only [zn] <;> exact rfl) (fun hgFFabAFFF => ?_) (fun hgFFabAFFF => ?_)
       ·
        refine ow_off rfl rfl ?_
        refine ow_off rfl rfl ?_
        refine ow_op (by simp only [zo, zz, bne_self_eq_false] <;> exact rfl) ?_
        refine ow_ml rfl ?_
        refine ow_off rfl rfl ?_
        refine ow_off rfl rfl ?_
        refine ow_off rfl rfl ?_
        refine ow_op (by simp only [zo, zz, bne_self_eq_false] <;> exact rfl) ?_
        refine ow_ml rfl ?_
        refine ow_off rfl rfl ?_
        refine ow_off rfl rfl ?_
        refine ow_off rfl rfl ?_
        refine ow_op (by simp only [zo, zz, bne_self_eq_false] <;> exact rfl) ?_
        refine ow_ml rfl ?_
        refine ow_off rfl rfl ?_
        refine ow_off rfl rfl ?_
        refine ow_off rfl rfl ?_
        refine ow_off rfl rfl ?_
        refine ow_op (by simp only [zo, zz, bne_self_eq_false] <;> exact rfl) ?_
        refine ow_ml rfl ?_
        refine ow_off rfl rfl ?_
        refine ow_off rfl rfl ?_
        refine ow_off rfl rfl ?_
        refine ow_off rfl rfl ?_
        refine ow_off rfl rfl ?_
        refine ow_off rfl rfl ?_
        refine ow_off rfl rfl ?_
        refine ow_op (by simp only [zo, zz, bne_self_eq_false] <;> exact rfl) ?_
        refine ow_ml rfl ?_
        refine ow_off rfl rfl ?_
        refine ow_off rfl rfl ?_
        refine ow_off rfl rfl ?_
        refine ow_off rfl rfl ?_
        refine ow_off rfl rfl ?_
        refine ow_op (by simp only [zo, zz, bne_self_eq_false] <;> exact rfl) ?_
        refine ow_ml rfl ?_
        refine ow_off rfl rfl ?_
        refine ow_off rfl rfl ?_
        refine ow_op (by simp only [zo, zz, bne_self_eq_false] <;> exact rfl) ?_
        refine ow_nil ?_
        refine sk_n (by simp only [ze] <;> exact rfl) ?_
        refine cw_true (by simp only [opd, zv, zz, bne_self_eq_false]) ?_
        refine cw_region ?_
        refine ow_mc ?_
        refine ow_nil ?_
        refine ck_n (by simp only [ze] <;> exact rfl) ?_
        have q8 := of_decide_eq_false hgFFabAF
        have q4 := of_decide_eq_false hcFFabAFF
        have hx : qm = 0 ∨ size < 1 ∨ ¬ okE size pa pl (shpE num ed qz) := .inl (by have := hgFFabAFFF; simp at this; omega)
        exact ⟨T, kx, _, _, _, _, _, _, _, _, _, _, _, _, _, _, _, _, _, _, _, _, _, _, _, _, _, _, _, _, hA, rfl, by rw [wantK, if_neg (by intro h; rcases h with h | h <;> omega), if_pos hx]⟩
       ·
        refine ow_on rfl ?_
        refine ow_me rfl ?_
        refine ow_on rfl ?_
        refine ow_op (by simp only [zo, binD, zb, Int.reduceEq, Int.reduceToNat, Int.reduceLT, zz, bne_self_eq_false] <;> exact rfl) ?_
        refine ow_op (by simp only [zo, zz, bne_self_eq_false] <;> exact rfl) ?_
        refine ow_ml rfl ?_
        refine ow_split 0 (by simp only [opd, zv] <;> exact rfl) (by simp only [zn] <;> exact rfl) (by simp only [zn] <;> exact rfl) (fun hgFFabAFFFF => ?_) (fun hgFFabAFFFF => ?_)
        ·
         refine ow_off rfl rfl ?_
         refine ow_off rfl rfl ?_
         refine ow_off rfl rfl ?_
         refine ow_op (by simp only [zo, zz, bne_self_eq_false] <;> exact rfl) ?_
         refine ow_ml rfl ?_
         refine ow_off rfl rfl ?_
         refine ow_off rfl rfl ?_
         refine ow_off rfl rfl ?_
         refine ow_op (by simp only [zo, zz, bne_self_eq_false] <;> exact rfl) ?_
         refine ow_ml rfl ?_
         refine ow_off rfl rfl ?_
         refine ow_off rfl rfl ?_
         refine ow_off rfl rfl ?_
         refine ow_off rfl rfl ?_
         refine ow_op (by simp only [zo, zz, bne_self_eq_false] <;> exact rfl) ?_
         refine ow_ml rfl ?_
         refine ow_off rfl rfl ?_
         refine ow_off rfl rfl ?_
         refine ow_off rfl rfl ?_
         refine ow_off rfl rfl ?_
         refine ow_off rfl rfl ?_
         refine ow_off rfl rfl ?_
         refine ow_off rfl rfl ?_
         refine ow_op (by simp only [zo, zz, bne_self_eq_false] <;> exact rfl) ?_
         refine ow_ml rfl ?_
         refine ow_off rfl rfl ?_
         refine ow_off rfl rfl ?_
         refine ow_off rfl rfl ?_
         refine ow_off rfl rfl ?_
         refine ow_off rfl rfl ?_
         refine ow_op (by simp only [zo, zz, bne_self_eq_false] <;> exact rfl) ?_
         refine ow_ml rfl ?_
         refine ow_off rfl rfl ?_
         refine ow_off rfl rfl ?_
         refine ow_op (by simp only [zo, zz, bne_self_eq_false] <;> exact rfl) ?_
         refine ow_nil ?_
         refine sk_n (by simp only [ze] <;> exact rfl) ?_
         refine cw_true (by simp only [opd, zv, zz, bne_self_eq_false]) ?_
         refine cw_region ?_
         refine ow_mc ?_
         refine ow_nil ?_
         refine ck_n (by simp only [ze] <;> exact rfl) ?_
         have q8 := of_decide_eq_false hgFFabAF
         have q4 := of_decide_eq_false hcFFabAFF
         have hx : qm = 0 ∨ size < 1 ∨ ¬ okE size pa pl (shpE num ed qz) := .inr (.inl (of_decide_eq_true hgFFabAFFFF))
         exact ⟨T, kx, _, _, _, _, _, _, _, _, _, _, _, _, _, _, _, _, _, _, _, _, _, _, _, _, _, _, _, _, hA, rfl, by rw [wantK, if_neg (by intro h; rcases h with h | h <;> omega), if_pos hx]⟩
        ·
         refine ow_on rfl ?_
         refine ow_op (by simp only [zo, zr, zm, zz, bne_self_eq_false] <;> exact rfl) ?_
         refine ow_on rfl ?_
         refine ow_op (by simp only [zl, zm, zd, partD, List.take, List.drop, zz, bne_self_eq_false] <;> exact rfl) ?_
         refine ow_on rfl ?_
         refine ow_op (by simp only [zo, binD, zb, Int.reduceEq, Int.reduceToNat, Int.reduceLT, zz, bne_self_eq_false] <;> exact rfl) ?_
         refine ow_op (by simp only [zo, zz, bne_self_eq_false] <;> exact rfl) ?_
         refine ow_ml rfl ?_
         refine ow_split 0 (by simp only [opd, zv] <;> exact rfl) (by simp only [zn] <;> exact rfl) (by simp only [zn] <;> exact rfl) (fun hgFFabAFFFFF => ?_) (fun hgFFabAFFFFF => ?_)
         ·
          refine ow_off rfl rfl ?_
          refine ow_off rfl rfl ?_
          refine ow_off rfl rfl ?_
          refine ow_op (by simp only [zo, zz, bne_self_eq_false] <;> exact rfl) ?_
          refine ow_ml rfl ?_
          refine ow_off rfl rfl ?_
          refine ow_off rfl rfl ?_
          refine ow_off rfl rfl ?_
          refine ow_off rfl rfl ?_
          refine ow_op (by simp only [zo, zz, bne_self_eq_false] <;> exact rfl) ?_
          refine ow_ml rfl ?_
          refine ow_off rfl rfl ?_
          refine ow_off rfl rfl ?_
          refine ow_off rfl rfl ?_
          refine ow_off rfl rfl ?_
          refine ow_off rfl rfl ?_
          refine ow_off rfl rfl ?_
          refine ow_off rfl rfl ?_
          refine ow_op (by simp only [zo, zz, bne_self_eq_false] <;> exact rfl) ?_
          refine ow_ml rfl ?_
          refine ow_off rfl rfl ?_
          refine ow_off rfl rfl ?_
          refine ow_off rfl rfl ?_
          refine ow_off rfl rfl ?_
          refine ow_off rfl rfl ?_
          refine ow_op (by simp only [zo, zz, bne_self_eq_false] <;> exact rfl) ?_
          refine ow_ml rfl ?_
          refine ow_off rfl rfl ?_
          refine ow_off rfl rfl ?_
          refine ow_op (by simp only [zo, zz, bne_self_eq_false] <;> exact rfl) ?_
          refine ow_nil ?_
          refine sk_n (by simp only [ze] <;> exact rfl) ?_
          refine cw_true (by simp only [opd, zv, zz, bne_self_eq_false]) ?_
          refine cw_region ?_
          refine ow_mc ?_
          refine ow_nil ?_
          refine ck_n (by simp only [ze] <;> exact rfl) ?_
          have q8 := of_decide_eq_false hgFFabAF
          have q4 := of_decide_eq_false hcFFabAFF
          have hx : qm = 0 ∨ size < 1 ∨ ¬ okE size pa pl (shpE num ed qz) := .inr (.inr fun ho => ho.1 (of_decide_eq_true hgFFabAFFFFF))
          exact ⟨T, kx, _, _, _, _, _, _, _, _, _, _, _, _, _, _, _, _, _, _, _, _, _, _, _, _, _, _, _, _, hA, rfl, by rw [wantK, if_neg (by intro h; rcases h with h | h <;> omega), if_pos hx]⟩
         ·
          refine ow_on rfl ?_
          refine ow_op (by simp only [zo, zr, zm, zz, bne_self_eq_false] <;> exact rfl) ?_
          refine ow_on rfl ?_
          refine ow_op (by simp only [zl, zm, zd, partD, List.take, List.drop, zz, bne_self_eq_false] <;> exact rfl) ?_
          refine ow_on rfl ?_
          refine ow_op (by simp only [zo, binD, zb, Int.reduceEq, Int.reduceToNat, Int.reduceLT, zz, bne_self_eq_false] <;> exact rfl) ?_
          refine ow_op (by simp only [zo, zz, bne_self_eq_false] <;> exact rfl) ?_
          refine ow_ml rfl ?_
          refine ow_split 0 (by simp only [opd, zv] <;> exact rfl) (by simp only [zn] <;> exact rfl) (by simp only [zn] <;> exact rfl) (fun hgFFabAFFFFFF => ?_) (fun hgFFabAFFFFFF => ?_)
          ·
           refine ow_off rfl rfl ?_
           refine ow_off rfl rfl ?_
           refine ow_off rfl rfl ?_
           refine ow_off rfl rfl ?_
           refine ow_op (by simp only [zo, zz, bne_self_eq_false] <;> exact rfl) ?_
           refine ow_ml rfl ?_
           refine ow_off rfl rfl ?_
           refine ow_off rfl rfl ?_
           refine ow_off rfl rfl ?_
           refine ow_off rfl rfl ?_
           refine ow_off rfl rfl ?_
           refine ow_off rfl rfl ?_
           refine ow_off rfl rfl ?_
           refine ow_op (by simp only [zo, zz, bne_self_eq_false] <;> exact rfl) ?_
           refine ow_ml rfl ?_
           refine ow_off rfl rfl ?_
           refine ow_off rfl rfl ?_
           refine ow_off rfl rfl ?_
           refine ow_off rfl rfl ?_
           refine ow_off rfl rfl ?_
           refine ow_op (by simp only [zo, zz, bne_self_eq_false] <;> exact rfl) ?_
           refine ow_ml rfl ?_
           refine ow_off rfl rfl ?_
           refine ow_off rfl rfl ?_
           refine ow_op (by simp only [zo, zz, bne_self_eq_false] <;> exact rfl) ?_
           refine ow_nil ?_
           refine sk_n (by simp only [ze] <;> exact rfl) ?_
           refine cw_true (by simp only [opd, zv, zz, bne_self_eq_false]) ?_
           refine cw_region ?_
           refine ow_mc ?_
           refine ow_nil ?_
           refine ck_n (by simp only [ze] <;> exact rfl) ?_
           have q8 := of_decide_eq_false hgFFabAF
           have q4 := of_decide_eq_false hcFFabAFF
           have hx : qm = 0 ∨ size < 1 ∨ ¬ okE size pa pl (shpE num ed qz) := .inr (.inr fun ho => ho.2.1 (of_decide_eq_true hgFFabAFFFFFF))
           exact ⟨T, kx, _, _, _, _, _, _, _, _, _, _, _, _, _, _, _, _, _, _, _, _, _, _, _, _, _, _, _, _, hA, rfl, by rw [wantK, if_neg (by intro h; rcases h with h | h <;> omega), if_pos hx]⟩
          ·
           refine ow_on rfl ?_
           refine ow_op (by simp only [zo, zr, zm, zz, bne_self_eq_false] <;> exact rfl) ?_
           refine ow_on rfl ?_
           refine ow_op (by simp only [zl, zm, zd, partD, List.take, List.drop, zz, bne_self_eq_false] <;> exact rfl) ?_
           refine ow_on rfl ?_
           refine ow_me rfl ?_
           refine ow_on rfl ?_
           refine ow_op (by simp only [zo, binD, zb, Int.reduceEq, Int.reduceToNat, Int.reduceLT, zz, bne_self_eq_false] <;> exact rfl) ?_
           refine ow_op (by simp only [zo, zz, bne_self_eq_false] <;> exact rfl) ?_
           refine ow_ml rfl ?_
           refine ow_split 0 (by simp only [opd, zv] <;> exact rfl) (by simp only [zn] <;> exact rfl) (by simp only [zn] <;> exact rfl) (fun hgFFabAFFFFFFF => ?_) (fun hgFFabAFFFFFFF => ?_)
           ·
            refine ow_off rfl rfl ?_
            refine ow_off rfl rfl ?_
            refine ow_off rfl rfl ?_
            refine ow_off rfl rfl ?_
            refine ow_off rfl rfl ?_
            refine ow_off rfl rfl ?_
            refine ow_off rfl rfl ?_
            refine ow_op (by simp only [zo, zz, bne_self_eq_false] <;> exact rfl) ?_
            refine ow_ml rfl ?_
            refine ow_off rfl rfl ?_
            refine ow_off rfl rfl ?_
            refine ow_off rfl rfl ?_
            refine ow_off rfl rfl ?_
            refine ow_off rfl rfl ?_
            refine ow_op (by simp only [zo, zz, bne_self_eq_false] <;> exact rfl) ?_
            refine ow_ml rfl ?_
            refine ow_off rfl rfl ?_
            refine ow_off rfl rfl ?_
            refine ow_op (by simp only [zo, zz, bne_self_eq_false] <;> exact rfl) ?_
            refine ow_nil ?_
            refine sk_n (by simp only [ze] <;> exact rfl) ?_
            refine cw_true (by simp only [opd, zv, zz, bne_self_eq_false]) ?_
            refine cw_region ?_
            refine ow_mc ?_
            refine ow_nil ?_
            refine ck_n (by simp only [ze] <;> exact rfl) ?_
            have q8 := of_decide_eq_false hgFFabAF
            have q4 := of_decide_eq_false hcFFabAFF
            have hx : qm = 0 ∨ size < 1 ∨ ¬ okE size pa pl (shpE num ed qz) := .inr (.inr fun ho => ho.2.2.1 (of_decide_eq_true hgFFabAFFFFFFF))
            exact ⟨T, kx, _, _, _, _, _, _, _, _, _, _, _, _, _, _, _, _, _, _, _, _, _, _, _, _, _, _, _, _, hA, rfl, by rw [wantK, if_neg (by intro h; rcases h with h | h <;> omega), if_pos hx]⟩
           ·
            refine ow_on rfl ?_
            refine ow_op (by simp only [zo, zr, zm, zz, bne_self_eq_false] <;> exact rfl) ?_
            refine ow_on rfl ?_
            refine ow_op (by simp only [zl, zm, zd, partD, List.take, List.drop, zz, bne_self_eq_false] <;> exact rfl) ?_
            refine ow_on rfl ?_
            refine ow_me rfl ?_
            refine ow_on rfl ?_
            refine ow_op (by simp only [zo, zr, zm, zz, bne_self_eq_false] <;> exact rfl) ?_
            refine ow_on rfl ?_
            refine ow_op (by simp only [zl, zm, zd, partD, List.take, List.drop, zz, bne_self_eq_false] <;> exact rfl) ?_
            refine ow_on rfl ?_
            refine ow_op (by simp only [zo, binD, zb, Int.reduceEq, Int.reduceToNat, Int.reduceLT, zz, bne_self_eq_false] <;> exact rfl) ?_
            refine ow_on rfl ?_
            refine ow_op (by simp only [zo, binD, zb, Int.reduceEq, Int.reduceToNat, Int.reduceLT, zz, bne_self_eq_false] <;> exact rfl) ?_
            refine ow_op (by simp only [zo, zz, bne_self_eq_false] <;> exact rfl) ?_
            refine ow_ml rfl ?_
            refine ow_split 0 (by simp only [opd, zv] <;> exact rfl) (by simp only [zn] <;> exact rfl) (by simp only [zn] <;> exact rfl) (fun hgFFabAFFFFFFFF => ?_) (fun hgFFabAFFFFFFFF => ?_)
            ·
             refine ow_off rfl rfl ?_
             refine ow_off rfl rfl ?_
             refine ow_off rfl rfl ?_
             refine ow_off rfl rfl ?_
             refine ow_off rfl rfl ?_
             refine ow_op (by simp only [zo, zz, bne_self_eq_false] <;> exact rfl) ?_
             refine ow_ml rfl ?_
             refine ow_off rfl rfl ?_
             refine ow_off rfl rfl ?_
             refine ow_op (by simp only [zo, zz, bne_self_eq_false] <;> exact rfl) ?_
             refine ow_nil ?_
             refine sk_n (by simp only [ze] <;> exact rfl) ?_
             refine cw_true (by simp only [opd, zv, zz, bne_self_eq_false]) ?_
             refine cw_region ?_
             refine ow_mc ?_
             refine ow_nil ?_
             refine ck_n (by simp only [ze] <;> exact rfl) ?_
             have q8 := of_decide_eq_false hgFFabAF
             have q4 := of_decide_eq_false hcFFabAFF
             have hx : qm = 0 ∨ size < 1 ∨ ¬ okE size pa pl (shpE num ed qz) := .inr (.inr fun ho => ho.2.2.2.1 (of_decide_eq_true hgFFabAFFFFFFFF))
             exact ⟨T, kx, _, _, _, _, _, _, _, _, _, _, _, _, _, _, _, _, _, _, _, _, _, _, _, _, _, _, _, _, hA, rfl, by rw [wantK, if_neg (by intro h; rcases h with h | h <;> omega), if_pos hx]⟩
            ·
             refine ow_on rfl ?_
             refine ow_op (by simp only [zo, zr, zm, zz, bne_self_eq_false] <;> exact rfl) ?_
             refine ow_on rfl ?_
             refine ow_op (by simp only [zl, zm, zd, partD, List.take, List.drop, zz, bne_self_eq_false] <;> exact rfl) ?_
             refine ow_on rfl ?_
             refine ow_op (by simp only [zo, zr, zm, zz, bne_self_eq_false] <;> exact rfl) ?_
             refine ow_on rfl ?_
             refine ow_op (by simp only [zl, zm, zd, partD, List.take, List.drop, zz, bne_self_eq_false] <;> exact rfl) ?_
             refine ow_on rfl ?_
             refine ow_op (by simp only [zo, binD, zb, Int.reduceEq, Int.reduceToNat, Int.reduceLT, zz, bne_self_eq_false] <;> exact rfl) ?_
             refine ow_op (by simp only [zo, zz, bne_self_eq_false] <;> exact rfl) ?_
             refine ow_ml rfl ?_
             refine ow_split 0 (by simp only [opd, zv] <;> exact rfl) (by simp only [zn] <;> exact rfl) (by simp only [zn] <;> exact rfl) (fun hgFFabAFFFFFFFFF => ?_) (fun hgFFabAFFFFFFFFF => ?_)
             ·
              refine ow_off rfl rfl ?_
              refine ow_off rfl rfl ?_
              refine ow_op (by simp only [zo, zz, bne_self_eq_false] <;> exact rfl) ?_
              refine ow_nil ?_
              refine sk_n (by simp only [ze] <;> exact rfl) ?_
              refine cw_true (by simp only [opd, zv, zz, bne_self_eq_false]) ?_
              refine cw_region ?_
              refine ow_mc ?_
              refine ow_nil ?_
              refine ck_n (by simp only [ze] <;> exact rfl) ?_
              have q8 := of_decide_eq_false hgFFabAF
              have q4 := of_decide_eq_false hcFFabAFF
              have hx : qm = 0 ∨ size < 1 ∨ ¬ okE size pa pl (shpE num ed qz) := .inr (.inr fun ho => by have h := hgFFabAFFFFFFFFF; rw [ho.2.2.2.2.1] at h; simp at h)
              exact ⟨T, kx, _, _, _, _, _, _, _, _, _, _, _, _, _, _, _, _, _, _, _, _, _, _, _, _, _, _, _, _, hA, rfl, by rw [wantK, if_neg (by intro h; rcases h with h | h <;> omega), if_pos hx]⟩
             ·
              refine ow_on rfl ?_
              refine ow_op (by simp only [zo, zr, zm, zz, bne_self_eq_false] <;> exact rfl) ?_
              refine ow_on rfl ?_
              refine ow_op (by simp only [zl, zm, zd, partD, List.take, List.drop, zz, bne_self_eq_false] <;> exact rfl) ?_
              refine ow_op (by simp only [zo, zz, bne_self_eq_false] <;> exact rfl) ?_
              refine ow_nil ?_
              refine sk_n (by simp only [ze] <;> exact rfl) ?_
              refine cw_cond (by simp only [opd, zv, zz, bne_self_eq_false] <;> exact rfl) (fun hcFFabAFFFFFFFFFF => ?_) (fun hcFFabAFFFFFFFFFF => ?_)
              ·
               refine cw_region ?_
               refine ow_mc ?_
               refine ow_nil ?_
               refine ck_n (by simp only [ze] <;> exact rfl) ?_
               have q8 := of_decide_eq_false hgFFabAF
               have q4 := of_decide_eq_false hcFFabAFF
               have hx : qm = 0 ∨ size < 1 ∨ ¬ okE size pa pl (shpE num ed qz) := .inr (.inr fun ho => ho.2.2.2.2.2 (by rw [show ed = true from hcFFabAFFFFFFFFFF]; rfl))
               exact ⟨T, kx, _, _, _, _, _, _, _, _, _, _, _, _, _, _, _, _, _, _, _, _, _, _, _, _, _, _, _, _, hA, rfl, by rw [wantK, if_neg (by intro h; rcases h with h | h <;> omega), if_pos hx]⟩
              ·
               refine cw_skip ?_
               refine ck_n rfl ?_
               have q8 := of_decide_eq_false hgFFabAF
               have q4 := of_decide_eq_false hcFFabAFF
               have n0 : ¬ qm = 0 := by intro h; rw [h] at hgFFabAFFF; simp at hgFFabAFFF
               have n1 := of_decide_eq_false hgFFabAFFFF
               have ho : okE size pa pl (shpE num ed qz) := ⟨of_decide_eq_false hgFFabAFFFFF, of_decide_eq_false hgFFabAFFFFFF, of_decide_eq_false hgFFabAFFFFFFF, of_decide_eq_false hgFFabAFFFFFFFF, by simpa using hgFFabAFFFFFFFFF, by rw [show ed = false from hcFFabAFFFFFFFFFF]; exact cat5 _ _⟩
               exact ⟨T, kx, _, _, _, _, _, _, _, _, _, _, _, _, _, _, _, _, _, _, _, _, _, _, _, _, _, _, _, _, hA, rfl, by rw [wantK, if_neg (by intro h; rcases h with h | h <;> omega), if_neg (by rintro (h | h | h); exact n0 h; exact n1 h; exact h ho)]⟩
    rintro env S' ⟨T, kx, c8, c10, c11, c12, c13, c14, c15, c16, c17, c18, c19, c20, c21, c22, c23, c24, c25, c26, c27, c28, c29, c30, c31, c32, c33, c34, c35, c36, hA, rfl, rfl⟩
    obtain ⟨x0, T', wr0, hNew, hKS, heq⟩ := newE_any (d := d) (size := size) (by omega) hA (by omega) hpa ⟨57, 2, [[.int .i64 pa, .int .i64 pl]], 0, 0, false⟩ ⟨75, 5, [[.int .u8 (qz : Nat), .bool num, .bool ed, .int .u8 (qm : Nat), y]], 0, 0, false⟩ ⟨51, 11, [[.int .u8 (shpE num ed qz).cat, .int .u8 (shpE num ed qz).us, .str (shpE num ed qz).pic, .int .i64 (shpE num ed qz).dg, .int .i64 (shpE num ed qz).sc, .bool (shpE num ed qz).sg, .bool (shpE num ed qz).le, .bool (shpE num ed qz).se, .bool (shpE num ed qz).ju, .bool (shpE num ed qz).bl, .int .i64 (shpE num ed qz).sz]], 0, 0, false⟩
    have hX := appY_S 14 (List.replicate qm (rowE pa pl (shpE num ed qz)))
    have hCk := fun (d : Nat) (S : St) (h : 17 ≤ d) => checkE_run (d := d) h S (size := size) hX (by omega) hpa
    refine cw_seq (cw_region ?_)
    refine ow_me rfl ?_
    refine ow_me rfl ?_
    refine ow_op (by simp only [zo, zz, bne_self_eq_false, heq]; exact hNew) ?_
    refine ow_ml rfl ?_
    refine ow_op (by simp only [zo, List.getElem?_cons_zero, List.getElem?_cons_succ, zz, bne_self_eq_false, heq] <;> exact rfl) ?_
    refine ow_op (by simp only [zo, List.getElem?_cons_zero, List.getElem?_cons_succ, zz, bne_self_eq_false, heq] <;> exact rfl) ?_
    refine ow_ml rfl ?_
    refine ow_ml rfl ?_
    refine ow_nil ?_
    refine sk_n (by simp only [ze] <;> exact rfl) ?_
    refine cw_seq (cw_seq (cw_region ?_))
    refine ow_me rfl ?_
    refine ow_me rfl ?_
    refine ow_op (by simp only [zo, zz, bne_self_eq_false, heq]; exact (run_snap rfl (by simp only [snapVs, hKS, hX.snapV, hR.snapV, snapV_int, snapV_sl] <;> exact rfl) (by simp only [snapVs, hKS, hX.snapV, hR.snapV, snapV_int, snapV_sl] <;> exact rfl)).trans (hCk _ _ (by omega))) ?_
    refine ow_me rfl ?_
    refine ow_op (by simp only [zo, binD, zb, Int.reduceEq, Int.reduceToNat, Int.reduceLT, zz, bne_self_eq_false, heq] <;> exact rfl) ?_
    refine ow_ml rfl ?_
    refine ow_know 0 (b := false) (by simp only [opd, zv, zz, bne_self_eq_false, heq] <;> rfl) (by simp only [zn] <;> exact rfl) ?_
    refine ow_on rfl ?_
    refine ow_me rfl ?_
    refine ow_on rfl ?_
    refine ow_me rfl ?_
    refine ow_on rfl ?_
    refine ow_op (by simp only [zo, binD, zb, Int.reduceEq, Int.reduceToNat, Int.reduceLT, zz, bne_self_eq_false, heq] <;> exact rfl) ?_
    refine ow_op (by simp only [zo, zz, bne_self_eq_false, heq] <;> exact rfl) ?_
    refine ow_ml rfl ?_
    refine ow_know 0 (b := false) (by simp only [opd, zv, zz, bne_self_eq_false, heq] <;> rfl) (by simp only [zn] <;> exact rfl) ?_
    refine ow_on rfl ?_
    refine ow_me rfl ?_
    refine ow_on rfl ?_
    refine ow_op (by simp only [opd, zv, exOp, aop, LOp.loud, lop, if_true, Option.map_some, zz, bne_self_eq_false, heq] <;> exact rfl) ?_
    refine ow_on rfl ?_
    refine ow_me rfl ?_
    refine ow_on rfl ?_
    refine ow_op (by simp only [zo, binD, zb, Int.reduceEq, Int.reduceToNat, Int.reduceLT, zz, bne_self_eq_false, heq] <;> exact rfl) ?_
    refine ow_on rfl ?_
    refine ow_op (by simp only [zo, zz, bne_self_eq_false, heq] <;> exact rfl) ?_
    refine ow_op (by simp only [zo, zz, bne_self_eq_false, heq] <;> exact rfl) ?_
    refine ow_nil ?_
    refine sk_n (by simp only [ze] <;> exact rfl) ?_
    skip
    refine cw_false (by simp only [opd, zv, zz, bne_self_eq_false, heq] <;> rfl) ?_
    refine cw_skip (sk_n rfl ?_)
    refine cw_cut (fun env S' => ∃ (T' : List AObj) (kx : D) (e8 e10 e11 e12 e13 e14 e15 e16 e17 e18 e19 e20 e21 e22 e23 e24 e25 e26 e27 e28 e29 e30 e31 e32 e33 e34 e35 e36 : D), (∀ (m : Nat), snapV m (⟨57, 2, [[.int .i64 pa, .int .i64 pl]], 0, 0, false⟩ :: ⟨75, 5, [[.int .u8 (qz : Nat), .bool num, .bool ed, .int .u8 (qm : Nat), y]], 0, 0, false⟩ :: ⟨51, 11, [[.int .u8 (shpE num ed qz).cat, .int .u8 (shpE num ed qz).us, .str (shpE num ed qz).pic, .int .i64 (shpE num ed qz).dg, .int .i64 (shpE num ed qz).sc, .bool (shpE num ed qz).sg, .bool (shpE num ed qz).le, .bool (shpE num ed qz).se, .bool (shpE num ed qz).ju, .bool (shpE num ed qz).bl, .int .i64 (shpE num ed qz).sz]], 0, 0, false⟩ :: T') kx = some (appY 14 (List.replicate qm (rowE pa pl (shpE num ed qz))))) ∧ S' = ⟨⟨57, 2, [[.int .i64 pa, .int .i64 pl]], 0, 0, false⟩ :: ⟨75, 5, [[.int .u8 (qz : Nat), .bool num, .bool ed, .int .u8 (qm : Nat), y]], 0, 0, false⟩ :: ⟨51, 11, [[.int .u8 (shpE num ed qz).cat, .int .u8 (shpE num ed qz).us, .str (shpE num ed qz).pic, .int .i64 (shpE num ed qz).dg, .int .i64 (shpE num ed qz).sc, .bool (shpE num ed qz).sg, .bool (shpE num ed qz).le, .bool (shpE num ed qz).se, .bool (shpE num ed qz).ju, .bool (shpE num ed qz).bl, .int .i64 (shpE num ed qz).sz]], 0, 0, false⟩ :: T', 0⟩ ∧ env = [.int .i64 size, .agg [.int .i64 pa, .int .i64 pl], .agg [.int .u8 (qz : Nat), .bool num, .bool ed, .int .u8 (qm : Nat), y], .ptr 0 0 0 0, .ptr 1 0 0 0, .bool false, .ptr 2 0 0 0, kx, e8, .int .i64 (wantE size pa pl num ed qz qm l), e10, e11, e12, e13, e14, e15, e16, e17, e18, e19, e20, e21, e22, e23, e24, e25, e26, e27, e28, e29, e30, e31, e32, e33, e34, e35, e36]) ?_ ?_
    ·
     refine cw_seq (cw_region ?_)
     refine ow_me rfl ?_
     refine ow_op (by simp only [zo, binD, zb, Int.reduceEq, Int.reduceToNat, Int.reduceLT, zz, bne_self_eq_false, heq] <;> exact rfl) ?_
     refine ow_nil ?_
     refine sk_n (by simp only [ze] <;> exact rfl) ?_
     refine cw_cond (by simp only [opd, zv, zz, bne_self_eq_false, heq] <;> exact rfl) (fun hcFFabAFc => ?_) (fun hcFFabAFc => ?_)
     ·
      have hw0 : wantK size pa pl (shpE num ed qz) qm = 0 := by simpa using hcFFabAFc
      obtain ⟨hn8, hn1, hs4, hok⟩ := wantK_0 hw0
      obtain ⟨a, m, s, hpa1, hpl1, hsz1, hs1, hs2, hed, hg0, hmz⟩ := okE_key hok (by omega) hpa
      have hfit := hg0.fit
      have hfit : a + m ≤ s := hfit
      refine cw_seq (cw_region ?_)
      refine ow_op (by simp only [zo, zr, zm, zz, bne_self_eq_false, heq] <;> exact rfl) ?_
      refine ow_op (by simp only [zl, zm, zd, partD, List.take, List.drop, zz, bne_self_eq_false, heq] <;> exact rfl) ?_
      refine ow_op (by simp only [zo, lenD_str, lenD_nils, lenD_sl, lenD_msl, zz, bne_self_eq_false, heq] <;> exact rfl) ?_
      refine ow_me rfl ?_
      refine ow_op (by simp only [zo, binD, zb, Int.reduceEq, Int.reduceToNat, Int.reduceLT, zz, bne_self_eq_false, heq] <;> exact rfl) ?_
      refine ow_nil ?_
      refine sk_n (by simp only [ze] <;> exact rfl) ?_
      refine cw_cond (by simp only [opd, zv, zz, bne_self_eq_false, heq] <;> exact rfl) (fun hcFFabAFcT => ?_) (fun hcFFabAFcT => ?_)
      ·
       refine cw_region ?_
       refine ow_mc ?_
       refine ow_nil ?_
       refine ck_n (by simp only [ze] <;> exact rfl) ?_
       exact ⟨T', kx, _, _, _, _, _, _, _, _, _, _, _, _, _, _, _, _, _, _, _, _, _, _, _, _, _, _, _, _, hKS, rfl, by rw [wantE, if_neg (by simp [hw0]), if_pos (by simpa using hcFFabAFcT)]⟩
      ·
       have hls : l.length = s := by have h := hcFFabAFcT; rw [hsz1] at h; simp only [bne_eq_false_iff_eq] at h; omega
       have hwpl : IntKind.i64.wrap (pa + pl) = ((a + m : Nat) : Int) := by rw [hpa1, hpl1, IntKind.wrap_i64]; omega
       refine cw_seq (cw_region ?_)
       refine ow_op (by simp only [zo, zr, zm, zz, bne_self_eq_false, heq, hwpl] <;> exact rfl) ?_
       refine ow_op (by simp only [zl, zm, zd, partD, List.take, List.drop, zz, bne_self_eq_false, heq, hwpl] <;> exact rfl) ?_
       refine ow_nil ?_
       refine sk_n (by simp only [ze] <;> exact rfl) ?_
       refine cw_cond (by simp only [opd, zv, zz, bne_self_eq_false, heq, hwpl] <;> exact rfl) (fun hcFFabAFcTF => ?_) (fun hcFFabAFcTF => ?_)
       ·
        refine cw_seq (cw_region ?_)
        refine ow_op (by simp only [zo, zr, zm, zz, bne_self_eq_false, heq, hwpl] <;> exact rfl) ?_
        refine ow_op (by simp only [zl, zm, zd, partD, List.take, List.drop, zz, bne_self_eq_false, heq, hwpl] <;> exact rfl) ?_
        refine ow_ml rfl ?_
        refine ow_nil ?_
        refine sk_n (by simp only [ze] <;> exact rfl) ?_
        refine cw_block ?_
        refine cw_loop (fun rr env S' => ∃ (j : Nat) (r8 r10 r11 r13 r14 r15 r16 r17 r18 r19 r20 r21 r22 r23 r24 r25 r26 r27 r28 r29 r30 r31 r32 r33 r34 r35 r36 : D), j ≤ m ∧ rr = m - j ∧ S' = ⟨⟨57, 2, [[.int .i64 pa, .int .i64 pl]], 0, 0, false⟩ :: ⟨75, 5, [[.int .u8 (qz : Nat), .bool num, .bool ed, .int .u8 (qm : Nat), y]], 0, 0, false⟩ :: ⟨51, 11, [[.int .u8 (shpE num ed qz).cat, .int .u8 (shpE num ed qz).us, .str (shpE num ed qz).pic, .int .i64 (shpE num ed qz).dg, .int .i64 (shpE num ed qz).sc, .bool (shpE num ed qz).sg, .bool (shpE num ed qz).le, .bool (shpE num ed qz).se, .bool (shpE num ed qz).ju, .bool (shpE num ed qz).bl, .int .i64 (shpE num ed qz).sz]], 0, 0, false⟩ :: T', 0⟩ ∧ env = [.int .i64 size, .agg [.int .i64 pa, .int .i64 pl], .agg [.int .u8 (qz : Nat), .bool num, .bool ed, .int .u8 (qm : Nat), y], .ptr 0 0 0 0, .ptr 1 0 0 0, .bool false, .ptr 2 0 0 0, kx, r8, .int .i64 (if ((l.drop a).take j).all isDig = true then 0 else 15), r10, r11, .int .i64 ((a + j : Nat) : Int), r13, r14, r15, r16, r17, r18, r19, r20, r21, r22, r23, r24, r25, r26, r27, r28, r29, r30, r31, r32, r33, r34, r35, r36]) (m) (by omega) (⟨0, _, _, _, _, _, _, _, _, _, _, _, _, _, _, _, _, _, _, _, _, _, _, _, _, _, _, _, by omega, by omega, rfl, by rw [hw0, hpa1] <;> rfl⟩) ?_
        rintro rr env S' ⟨j, r8, r10, r11, r13, r14, r15, r16, r17, r18, r19, r20, r21, r22, r23, r24, r25, r26, r27, r28, r29, r30, r31, r32, r33, r34, r35, r36, hj, rfl, rfl, rfl⟩
        refine cw_seq (cw_seq (cw_region ?_))
        refine ow_me rfl ?_
        refine ow_op (by simp only [zo, zr, zm, zz, bne_self_eq_false, heq, hwpl] <;> exact rfl) ?_
        refine ow_op (by simp only [zl, zm, zd, partD, List.take, List.drop, zz, bne_self_eq_false, heq, hwpl] <;> exact rfl) ?_
        refine ow_op (by simp only [zo, zr, zm, zz, bne_self_eq_false, heq, hwpl] <;> exact rfl) ?_
        refine ow_op (by simp only [zl, zm, zd, partD, List.take, List.drop, zz, bne_self_eq_false, heq, hwpl] <;> exact rfl) ?_
        refine ow_op (by simp only [zo, binD, zb, Int.reduceEq, Int.reduceToNat, Int.reduceLT, zz, bne_self_eq_false, heq, hwpl] <;> exact rfl) ?_
        refine ow_op (by simp only [zo, binD, zb, Int.reduceEq, Int.reduceToNat, Int.reduceLT, zz, bne_self_eq_false, heq, hwpl] <;> exact rfl) ?_
        refine ow_nil ?_
        refine sk_n (by simp only [ze] <;> exact rfl) ?_
        refine cw_cond (by simp only [opd, zv, zz, bne_self_eq_false, heq, hwpl] <;> exact rfl) (fun hcFFabAFcTFTB => ?_) (fun hcFFabAFcTFTB => ?_)
        ·
         have hjm : j < m := by have := of_decide_eq_true hcFFabAFcTFTB; omega
         obtain ⟨c, hcj⟩ : ∃ c, l[a + j]? = some c := ⟨_, List.getElem?_eq_getElem (by omega)⟩
         have hia := fun (S : St) => hR.iaddrN S .i64 (bR_at hcj)
         have hwj : IntKind.i64.wrap (((a + j : Nat) : Int) + 1) = ((a + (j + 1) : Nat) : Int) := by rw [IntKind.wrap_i64]; omega
         refine cw_skip (sk_n rfl (cw_seq (cw_block (cw_seq (cw_region ?_)))))
         refine ow_op (by simp only [zo, zr, zm, zz, bne_self_eq_false, heq, hwpl, hia, hwj] <;> exact rfl) ?_
         refine ow_op (by simp only [zl, zm, zd, partD, List.take, List.drop, zz, bne_self_eq_false, heq, hwpl, hia, hwj] <;> exact rfl) ?_
         refine ow_me rfl ?_
         refine ow_op (by simp only [zl, zm, iaddrD_sl, iaddrD_msl, Int.toNat_natCast, Int.toNat_zero, List.getElem?_map, Option.map_some, Int.le_refl, zz, bne_self_eq_false, heq, hwpl, hia, hwj] <;> exact rfl) ?_
         refine ow_op (by simp only [zl, zm, zd, partD, List.take, List.drop, zz, bne_self_eq_false, heq, hwpl, hia, hwj] <;> exact rfl) ?_
         refine ow_op (by simp only [zo, binD, zb, Int.reduceEq, Int.reduceToNat, Int.reduceLT, zz, bne_self_eq_false, heq, hwpl, hia, hwj] <;> exact rfl) ?_
         refine ow_ml rfl ?_
         refine ow_split 0 (by simp only [opd, zv] <;> exact rfl) (by simp only [zn] <;> exact rfl) (by simp only [zn] <;> exact rfl) (fun hgFFabAFcTFTBT => ?_) (fun hgFFabAFcTFTBT => ?_)
         ·
          refine ow_off rfl rfl ?_
          refine ow_off rfl rfl ?_
          refine ow_off rfl rfl ?_
          refine ow_off rfl rfl ?_
          refine ow_off rfl rfl ?_
          refine ow_off rfl rfl ?_
          refine ow_op (by simp only [zo, zz, bne_self_eq_false, heq, hwpl, hia, hwj] <;> exact rfl) ?_
          refine ow_nil ?_
          refine sk_n (by simp only [ze] <;> exact rfl) ?_
          refine cw_true (by simp only [opd, zv, zz, bne_self_eq_false, heq, hwpl, hia, hwj]) ?_
          refine cw_region ?_
          refine ow_mc ?_
          refine ow_nil (bk_n ?_)
          refine sk_n (by simp only [ze] <;> exact rfl) ?_
          refine cw_region ?_
          refine ow_me rfl ?_
          refine ow_op (by simp only [zo, binD, zb, Int.reduceEq, Int.reduceToNat, Int.reduceLT, zz, bne_self_eq_false, heq, hwpl, hia, hwj] <;> exact rfl) ?_
          refine ow_ml rfl ?_
          refine ow_nil ?_
          refine lk_n (by simp only [ze] <;> exact rfl) ?_
          have hn : (if ((l.drop a).take (j + 1)).all isDig = true then (0 : Int) else 15) = 15 := by rw [dig_step hcj, isDig_lo (of_decide_eq_true hgFFabAFcTFTBT)]; simp
          exact ⟨m - (j + 1), by omega, j + 1, _, _, _, _, _, _, _, _, _, _, _, _, _, _, _, _, _, _, _, _, _, _, _, _, _, _, _, by omega, rfl, rfl, by rw [hn] <;> rfl⟩
         ·
          refine ow_on rfl ?_
          refine ow_op (by simp only [zo, zr, zm, zz, bne_self_eq_false, heq, hwpl, hia, hwj] <;> exact rfl) ?_
          refine ow_on rfl ?_
          refine ow_op (by simp only [zl, zm, zd, partD, List.take, List.drop, zz, bne_self_eq_false, heq, hwpl, hia, hwj] <;> exact rfl) ?_
          refine ow_on rfl ?_
          refine ow_me rfl ?_
          refine ow_on rfl ?_
          refine ow_op (by simp only [zl, zm, iaddrD_sl, iaddrD_msl, Int.toNat_natCast, Int.toNat_zero, List.getElem?_map, Option.map_some, Int.le_refl, zz, bne_self_eq_false, heq, hwpl, hia, hwj] <;> exact rfl) ?_
          refine ow_on rfl ?_
          refine ow_op (by simp only [zl, zm, zd, partD, List.take, List.drop, zz, bne_self_eq_false, heq, hwpl, hia, hwj] <;> exact rfl) ?_
          refine ow_on rfl ?_
          refine ow_op (by simp only [zo, binD, zb, Int.reduceEq, Int.reduceToNat, Int.reduceLT, zz, bne_self_eq_false, heq, hwpl, hia, hwj] <;> exact rfl) ?_
          refine ow_op (by simp only [zo, zz, bne_self_eq_false, heq, hwpl, hia, hwj] <;> exact rfl) ?_
          refine ow_nil ?_
          refine sk_n (by simp only [ze] <;> exact rfl) ?_
          refine cw_cond (by simp only [opd, zv, zz, bne_self_eq_false, heq, hwpl, hia, hwj] <;> exact rfl) (fun hcFFabAFcTFTBTF => ?_) (fun hcFFabAFcTFTBTF => ?_)
          ·
           refine cw_region ?_
           refine ow_mc ?_
           refine ow_nil (bk_n ?_)
           refine sk_n (by simp only [ze] <;> exact rfl) ?_
           refine cw_region ?_
           refine ow_me rfl ?_
           refine ow_op (by simp only [zo, binD, zb, Int.reduceEq, Int.reduceToNat, Int.reduceLT, zz, bne_self_eq_false, heq, hwpl, hia, hwj] <;> exact rfl) ?_
           refine ow_ml rfl ?_
           refine ow_nil ?_
           refine lk_n (by simp only [ze] <;> exact rfl) ?_
           have hn : (if ((l.drop a).take (j + 1)).all isDig = true then (0 : Int) else 15) = 15 := by rw [dig_step hcj, isDig_hi (of_decide_eq_true hcFFabAFcTFTBTF)]; simp
           exact ⟨m - (j + 1), by omega, j + 1, _, _, _, _, _, _, _, _, _, _, _, _, _, _, _, _, _, _, _, _, _, _, _, _, _, _, _, by omega, rfl, rfl, by rw [hn] <;> rfl⟩
          ·
           refine cw_skip (bk_n (sk_n rfl (cw_region ?_)))
           refine ow_me rfl ?_
           refine ow_op (by simp only [zo, binD, zb, Int.reduceEq, Int.reduceToNat, Int.reduceLT, zz, bne_self_eq_false, heq, hwpl, hia, hwj] <;> exact rfl) ?_
           refine ow_ml rfl ?_
           refine ow_nil ?_
           refine lk_n (by simp only [ze] <;> exact rfl) ?_
           have hn : (if ((l.drop a).take (j + 1)).all isDig = true then (0 : Int) else 15) = (if ((l.drop a).take j).all isDig = true then (0 : Int) else 15) := by rw [dig_step hcj, isDig_in (of_decide_eq_false hgFFabAFcTFTBT) (of_decide_eq_false hcFFabAFcTFTBTF)]; simp
           exact ⟨m - (j + 1), by omega, j + 1, _, _, _, _, _, _, _, _, _, _, _, _, _, _, _, _, _, _, _, _, _, _, _, _, _, _, _, by omega, rfl, rfl, by rw [hn] <;> rfl⟩
        ·
         obtain rfl : m = j := by have := of_decide_eq_false hcFFabAFcTFTB; omega
         refine cw_exit (sk_e (lk_e (bk_e ?_)))
         refine ck_n rfl ?_
         have hW : wantE size pa pl num ed qz qm l = if num = true ∧ ((l.drop a).take m).all isDig = false then 15 else 0 := by
          rw [wantE, if_neg (by simp [hw0]), if_neg (show ¬ ((l.length : Int) ≠ size) by rw [hsz1]; omega), hpa1, hpl1]
          simp only [Int.toNat_natCast]
         exact ⟨T', kx, _, _, _, _, _, _, _, _, _, _, _, _, _, _, _, _, _, _, _, _, _, _, _, _, _, _, _, _, hKS, rfl, by rw [hW, ← fin15 hcFFabAFcTF] <;> rfl⟩
       ·
        refine cw_skip ?_
        refine ck_n rfl ?_
        exact ⟨T', kx, _, _, _, _, _, _, _, _, _, _, _, _, _, _, _, _, _, _, _, _, _, _, _, _, _, _, _, _, hKS, rfl, by rw [wantE, if_neg (by simp [hw0]), if_neg (by simpa using hcFFabAFcT), if_neg (by rw [hcFFabAFcTF]; simp), hw0]⟩
     ·
      refine cw_skip ?_
      refine ck_n rfl ?_
      exact ⟨T', kx, _, _, _, _, _, _, _, _, _, _, _, _, _, _, _, _, _, _, _, _, _, _, _, _, _, _, _, _, hKS, rfl, by rw [wantE, if_pos (by simpa using hcFFabAFc)]⟩
    rintro env S' ⟨T', kx, e8, e10, e11, e12, e13, e14, e15, e16, e17, e18, e19, e20, e21, e22, e23, e24, e25, e26, e27, e28, e29, e30, e31, e32, e33, e34, e35, e36, hKS, rfl, rfl⟩
    have h40 : l.length ≤ 40 := by have := of_decide_eq_false hg; omega
    have hX := appY_S 14 (List.replicate qm (rowE pa pl (shpE num ed qz)))
    have hrec := recE (d := d) (size := size) (by omega) ⟨⟨57, 2, [[.int .i64 pa, .int .i64 pl]], 0, 0, false⟩ :: ⟨75, 5, [[.int .u8 (qz : Nat), .bool num, .bool ed, .int .u8 (qm : Nat), y]], 0, 0, false⟩ :: ⟨51, 11, [[.int .u8 (shpE num ed qz).cat, .int .u8 (shpE num ed qz).us, .str (shpE num ed qz).pic, .int .i64 (shpE num ed qz).dg, .int .i64 (shpE num ed qz).sc, .bool (shpE num ed qz).sg, .bool (shpE num ed qz).le, .bool (shpE num ed qz).se, .bool (shpE num ed qz).ju, .bool (shpE num ed qz).bl, .int .i64 (shpE num ed qz).sz]], 0, 0, false⟩ :: T', 0⟩ hX hR (by omega) hpa (by omega)
    have hVa := hrec.valid
    obtain ⟨rC, hCm⟩ := hrec.cmp
    obtain ⟨gS, hSo⟩ := hrec.sort
    obtain ⟨gM, hMe⟩ := hrec.merge
    refine cw_seq (cw_region ?_)
    refine ow_me rfl ?_
    refine ow_me rfl ?_
    refine ow_op (by simp only [zo, zr, zm, zz, bne_self_eq_false, heq] <;> exact rfl) ?_
    refine ow_op (by simp only [zl, zm, zd, partD, List.take, List.drop, zz, bne_self_eq_false, heq] <;> exact rfl) ?_
    refine ow_op (by simp only [zo, zr, zm, zz, bne_self_eq_false, heq] <;> exact rfl) ?_
    refine ow_op (by simp only [zl, zm, zd, partD, List.take, List.drop, zz, bne_self_eq_false, heq] <;> exact rfl) ?_
    refine ow_op (by simp only [zo, zz, bne_self_eq_false, heq]; exact (run_snap rfl (by simp only [snapVs, hKS, hX.snapV, hR.snapV, snapV_int, snapV_sl] <;> exact rfl) (by simp only [snapVs, hKS, hX.snapV, hR.snapV, snapV_int, snapV_sl] <;> exact rfl)).trans (hCm)) ?_
    refine ow_ml rfl ?_
    refine ow_op (by simp only [zo, List.getElem?_cons_zero, List.getElem?_cons_succ, zz, bne_self_eq_false, heq] <;> exact rfl) ?_
    refine ow_op (by simp only [zo, List.getElem?_cons_zero, List.getElem?_cons_succ, zz, bne_self_eq_false, heq] <;> exact rfl) ?_
    refine ow_ml rfl ?_
    refine ow_ml rfl ?_
    refine ow_nil ?_
    refine sk_n (by simp only [ze] <;> exact rfl) ?_
    refine cw_seq (cw_region ?_)
    refine ow_me rfl ?_
    refine ow_me rfl ?_
    refine ow_op (by simp only [zo, zr, zm, zz, bne_self_eq_false, heq] <;> exact rfl) ?_
    refine ow_op (by simp only [zl, zm, zd, partD, List.take, List.drop, zz, bne_self_eq_false, heq] <;> exact rfl) ?_
    refine ow_op (by simp only [zl, zm, fillRows, List.replicate, snapVs, snaps, zs, zc, zf, zz, bne_self_eq_false, heq] <;> exact rfl) ?_
    refine ow_op (by simp only [zo, zz, bne_self_eq_false, heq]; exact (run_snap rfl (by simp only [snapVs, hKS, hX.snapV, hR.snapV, snapV_int, snapV_sl] <;> exact rfl) (by simp only [snapVs, hKS, hX.snapV, hR.snapV, snapV_int, snapV_sl] <;> exact rfl)).trans (hSo)) ?_
    refine ow_ml rfl ?_
    refine ow_op (by simp only [zo, List.getElem?_cons_zero, List.getElem?_cons_succ, zz, bne_self_eq_false, heq] <;> exact rfl) ?_
    refine ow_op (by simp only [zo, List.getElem?_cons_zero, List.getElem?_cons_succ, zz, bne_self_eq_false, heq] <;> exact rfl) ?_
    refine ow_ml rfl ?_
    refine ow_ml rfl ?_
    refine ow_nil ?_
    refine sk_n (by simp only [ze] <;> exact rfl) ?_
    refine cw_seq (cw_region ?_)
    refine ow_me rfl ?_
    refine ow_me rfl ?_
    refine ow_op (by simp only [zo, zr, zm, zz, bne_self_eq_false, heq] <;> exact rfl) ?_
    refine ow_op (by simp only [zl, zm, zd, partD, List.take, List.drop, zz, bne_self_eq_false, heq] <;> exact rfl) ?_
    refine ow_op (by simp only [zl, zm, fillRows, List.replicate, snapVs, snaps, zs, zc, zf, zz, bne_self_eq_false, heq] <;> exact rfl) ?_
    refine ow_op (by simp only [zl, zm, fillRows, List.replicate, snapVs, snaps, zs, zc, zf, zz, bne_self_eq_false, heq] <;> exact rfl) ?_
    refine ow_op (by simp only [zo, zz, bne_self_eq_false, heq]; exact (run_snap rfl (by simp only [snapVs, hKS, hX.snapV, hR.snapV, snapV_int, snapV_sl] <;> exact rfl) (by simp only [snapVs, hKS, hX.snapV, hR.snapV, snapV_int, snapV_sl] <;> exact rfl)).trans (hMe)) ?_
    refine ow_ml rfl ?_
    refine ow_op (by simp only [zo, List.getElem?_cons_zero, List.getElem?_cons_succ, zz, bne_self_eq_false, heq] <;> exact rfl) ?_
    refine ow_op (by simp only [zo, List.getElem?_cons_zero, List.getElem?_cons_succ, zz, bne_self_eq_false, heq] <;> exact rfl) ?_
    refine ow_ml rfl ?_
    refine ow_ml rfl ?_
    refine ow_nil ?_
    refine sk_n (by simp only [ze] <;> exact rfl) ?_
    refine cw_seq (cw_seq (cw_region ?_))
    refine ow_me rfl ?_
    refine ow_me rfl ?_
    refine ow_op (by simp only [zo, zr, zm, zz, bne_self_eq_false, heq] <;> exact rfl) ?_
    refine ow_op (by simp only [zl, zm, zd, partD, List.take, List.drop, zz, bne_self_eq_false, heq] <;> exact rfl) ?_
    refine ow_op (by simp only [zo, zz, bne_self_eq_false, heq]; exact (run_snap rfl (by simp only [snapVs, hKS, hX.snapV, hR.snapV, snapV_int, snapV_sl] <;> exact rfl) (by simp only [snapVs, hKS, hX.snapV, hR.snapV, snapV_int, snapV_sl] <;> exact rfl)).trans (hVa)) ?_
    refine ow_me rfl ?_
    refine ow_op (by simp only [zo, binD, zb, Int.reduceEq, Int.reduceToNat, Int.reduceLT, zz, bne_self_eq_false, heq] <;> exact rfl) ?_
    refine ow_ml rfl ?_
    refine ow_know 0 (b := false) (by simp only [opd, zv, zz, bne_self_eq_false, heq] <;> rfl) (by simp only [zn] <;> exact rfl) ?_
    refine ow_on rfl ?_
    refine ow_me rfl ?_
    refine ow_on rfl ?_
    refine ow_me rfl ?_
    refine ow_on rfl ?_
    refine ow_op (by simp only [zo, binD, zb, Int.reduceEq, Int.reduceToNat, Int.reduceLT, zz, bne_self_eq_false, heq] <;> exact rfl) ?_
    refine ow_op (by simp only [zo, zz, bne_self_eq_false, heq] <;> exact rfl) ?_
    refine ow_ml rfl ?_
    refine ow_know 0 (b := false) (by simp only [opd, zv, zz, bne_self_eq_false, heq] <;> rfl) (by simp only [zn] <;> exact rfl) ?_
    refine ow_on rfl ?_
    refine ow_me rfl ?_
    refine ow_on rfl ?_
    refine ow_me rfl ?_
    refine ow_on rfl ?_
    refine ow_op (by simp only [zo, binD, zb, Int.reduceEq, Int.reduceToNat, Int.reduceLT, zz, bne_self_eq_false, heq] <;> exact rfl) ?_
    refine ow_op (by simp only [zo, zz, bne_self_eq_false, heq] <;> exact rfl) ?_
    refine ow_ml rfl ?_
    refine ow_know 0 (b := false) (by simp only [opd, zv, zz, bne_self_eq_false, heq] <;> rfl) (by simp only [zn] <;> exact rfl) ?_
    refine ow_on rfl ?_
    refine ow_me rfl ?_
    refine ow_on rfl ?_
    refine ow_me rfl ?_
    refine ow_on rfl ?_
    refine ow_op (by simp only [zo, binD, zb, Int.reduceEq, Int.reduceToNat, Int.reduceLT, zz, bne_self_eq_false, heq] <;> exact rfl) ?_
    refine ow_op (by simp only [zo, zz, bne_self_eq_false, heq] <;> exact rfl) ?_
    refine ow_nil ?_
    refine sk_n (by simp only [ze] <;> exact rfl) ?_
    skip
    refine cw_false (by simp only [opd, zv, zz, bne_self_eq_false, heq] <;> rfl) ?_
    refine cw_skip (sk_n rfl (cw_seq (cw_region ?_)))
    refine ow_op (by simp only [zl, zm, zz, bne_self_eq_false, heq] <;> exact rfl) ?_
    refine ow_nil ?_
    refine sk_n (by simp only [ze] <;> exact rfl) ?_
    refine cw_seq (cw_region ?_)
    refine ow_op (by simp only [opd, zv]; exact rfl) ?_
    refine ow_ml rfl ?_
    refine ow_nil ?_
    refine sk_n (by simp only [ze] <;> exact rfl) ?_
    refine cw_seq (cw_seq (cw_region ?_))
    refine ow_mc ?_
    refine ow_nil ?_
    refine sk_n (by simp only [ze] <;> exact rfl) ?_
    refine cw_block (cw_unroll ?_)
    refine cl_step ?_
    refine cw_seq (cw_seq (cw_region ?_))
    refine ow_me rfl ?_
    refine ow_op (by simp only [zo, binD, zb, Int.reduceEq, Int.reduceToNat, Int.reduceLT, zz, bne_self_eq_false, heq] <;> exact rfl) ?_
    refine ow_nil ?_
    refine sk_n (by simp only [ze] <;> exact rfl) ?_
    skip
    refine cw_true (by simp only [opd, zv, zz, bne_self_eq_false, heq] <;> rfl) ?_
    refine cw_skip (sk_n rfl (cw_seq (cw_block (cw_seq (cw_region ?_)))))
    refine ow_me rfl ?_
    refine ow_me rfl ?_
    refine ow_op (by simp only [zl, zm, iaddrD_sl, iaddrD_msl, Int.toNat_natCast, Int.toNat_zero, List.getElem?_map, Option.map_some, Int.le_refl, zz, bne_self_eq_false, heq] <;> exact rfl) ?_
    refine ow_op (by simp only [zl, zm, zd, partD, List.take, List.drop, zz, bne_self_eq_false, heq] <;> exact rfl) ?_
    refine ow_ml rfl ?_
    refine ow_nil ?_
    refine sk_n (by simp only [ze] <;> exact rfl) ?_
    refine cw_seq (cw_region ?_)
    refine ow_me rfl ?_
    refine ow_op (by simp only [zo, zz, bne_self_eq_false, heq]; exact nilS25 (by omega) _) ?_
    refine ow_ml rfl ?_
    refine ow_op (by simp only [zo, List.getElem?_cons_zero, List.getElem?_cons_succ, zz, bne_self_eq_false, heq] <;> exact rfl) ?_
    refine ow_op (by simp only [zo, List.getElem?_cons_zero, List.getElem?_cons_succ, zz, bne_self_eq_false, heq] <;> exact rfl) ?_
    refine ow_op (by simp only [zo, List.getElem?_cons_zero, List.getElem?_cons_succ, zz, bne_self_eq_false, heq] <;> exact rfl) ?_
    refine ow_ml rfl ?_
    refine ow_ml rfl ?_
    refine ow_ml rfl ?_
    refine ow_nil ?_
    refine sk_n (by simp only [ze] <;> exact rfl) ?_
    refine cw_seq (cw_region ?_)
    refine ow_me rfl ?_
    refine ow_op (by simp only [zo, zr, zm, zz, bne_self_eq_false, heq] <;> exact rfl) ?_
    refine ow_op (by simp only [zl, zm, zd, partD, List.take, List.drop, zz, bne_self_eq_false, heq] <;> exact rfl) ?_
    refine ow_op (by simp only [zo, zz, bne_self_eq_false, heq]; exact nilS23 (by omega) _ hR) ?_
    refine ow_op (by simp only [zo, binD, zb, Int.reduceEq, Int.reduceToNat, Int.reduceLT, zz, bne_self_eq_false, heq] <;> exact rfl) ?_
    refine ow_ml rfl ?_
    refine ow_know 0 (b := false) (by simp only [opd, zv, zz, bne_self_eq_false, heq] <;> rfl) (by simp only [zn] <;> exact rfl) ?_
    refine ow_on rfl ?_
    refine ow_me rfl ?_
    refine ow_on rfl ?_
    refine ow_op (by simp only [zo, zz, bne_self_eq_false, heq]; exact nilS24 (by omega) _) ?_
    refine ow_on rfl ?_
    refine ow_op (by simp only [zo, binD, zb, Int.reduceEq, Int.reduceToNat, Int.reduceLT, zz, bne_self_eq_false, heq] <;> exact rfl) ?_
    refine ow_op (by simp only [zo, zz, bne_self_eq_false, heq] <;> exact rfl) ?_
    refine ow_ml rfl ?_
    refine ow_know 0 (b := false) (by simp only [opd, zv, zz, bne_self_eq_false, heq] <;> rfl) (by simp only [zn] <;> exact rfl) ?_
    refine ow_on rfl ?_
    refine ow_me rfl ?_
    refine ow_on rfl ?_
    refine ow_op (by simp only [zo, binD, zb, Int.reduceEq, Int.reduceToNat, Int.reduceLT, zz, bne_self_eq_false, heq] <;> exact rfl) ?_
    refine ow_op (by simp only [zo, zz, bne_self_eq_false, heq] <;> exact rfl) ?_
    refine ow_ml rfl ?_
    refine ow_know 0 (b := false) (by simp only [opd, zv, zz, bne_self_eq_false, heq] <;> rfl) (by simp only [zn] <;> exact rfl) ?_
    refine ow_on rfl ?_
    refine ow_me rfl ?_
    refine ow_op (by simp only [zo, zz, bne_self_eq_false, heq] <;> exact rfl) ?_
    refine ow_ml rfl ?_
    refine ow_know 0 (b := false) (by simp only [opd, zv, zz, bne_self_eq_false, heq] <;> rfl) (by simp only [zn] <;> exact rfl) ?_
    refine ow_on rfl ?_
    refine ow_me rfl ?_
    refine ow_on rfl ?_
    refine ow_op (by simp only [zo, zz, bne_self_eq_false, heq]; exact nilS26 (by omega) _) ?_
    refine ow_on rfl ?_
    refine ow_op (by simp only [zo, binD, zb, Int.reduceEq, Int.reduceToNat, Int.reduceLT, zz, bne_self_eq_false, heq] <;> exact rfl) ?_
    refine ow_op (by simp only [zo, zz, bne_self_eq_false, heq] <;> exact rfl) ?_
    refine ow_nil ?_
    refine sk_n (by simp only [ze] <;> exact rfl) ?_
    skip
    refine cw_false (by simp only [opd, zv, zz, bne_self_eq_false, heq] <;> rfl) ?_
    refine cw_skip (bk_n (sk_n rfl (cw_region ?_)))
    refine ow_me rfl ?_
    refine ow_op (by simp only [zo, binD, zb, Int.reduceEq, Int.reduceToNat, Int.reduceLT, zz, bne_self_eq_false, heq] <;> exact rfl) ?_
    refine ow_ml rfl ?_
    refine ow_nil ?_
    refine lu_n (by simp only [ze] <;> exact rfl) ?_
    refine cl_step ?_
    refine cw_seq (cw_seq (cw_region ?_))
    refine ow_me rfl ?_
    refine ow_op (by simp only [zo, binD, zb, Int.reduceEq, Int.reduceToNat, Int.reduceLT, zz, bne_self_eq_false, heq] <;> exact rfl) ?_
    refine ow_nil ?_
    refine sk_n (by simp only [ze] <;> exact rfl) ?_
    skip
    refine cw_true (by simp only [opd, zv, zz, bne_self_eq_false, heq] <;> rfl) ?_
    refine cw_skip (sk_n rfl (cw_seq (cw_block (cw_seq (cw_region ?_)))))
    refine ow_me rfl ?_
    refine ow_me rfl ?_
    refine ow_op (by simp only [zl, zm, iaddrD_sl, iaddrD_msl, Int.toNat_natCast, Int.toNat_zero, List.getElem?_map, Option.map_some, Int.le_refl, zz, bne_self_eq_false, heq] <;> exact rfl) ?_
    refine ow_op (by simp only [zl, zm, zd, partD, List.take, List.drop, zz, bne_self_eq_false, heq] <;> exact rfl) ?_
    refine ow_ml rfl ?_
    refine ow_nil ?_
    refine sk_n (by simp only [ze] <;> exact rfl) ?_
    refine cw_seq (cw_region ?_)
    refine ow_me rfl ?_
    refine ow_op (by simp only [zo, zz, bne_self_eq_false, heq]; exact zero25 (by omega) _ (by simp [newAt])) ?_
    refine ow_ml rfl ?_
    refine ow_op (by simp only [zo, List.getElem?_cons_zero, List.getElem?_cons_succ, zz, bne_self_eq_false, heq] <;> exact rfl) ?_
    refine ow_op (by simp only [zo, List.getElem?_cons_zero, List.getElem?_cons_succ, zz, bne_self_eq_false, heq] <;> exact rfl) ?_
    refine ow_op (by simp only [zo, List.getElem?_cons_zero, List.getElem?_cons_succ, zz, bne_self_eq_false, heq] <;> exact rfl) ?_
    refine ow_ml rfl ?_
    refine ow_ml rfl ?_
    refine ow_ml rfl ?_
    refine ow_nil ?_
    refine sk_n (by simp only [ze] <;> exact rfl) ?_
    refine cw_seq (cw_region ?_)
    refine ow_me rfl ?_
    refine ow_op (by simp only [zo, zr, zm, zz, bne_self_eq_false, heq] <;> exact rfl) ?_
    refine ow_op (by simp only [zl, zm, zd, partD, List.take, List.drop, zz, bne_self_eq_false, heq] <;> exact rfl) ?_
    refine ow_op (by simp only [zo, zz, bne_self_eq_false, heq]; exact zero23 (by omega) _ (by simp [newAt]) hR) ?_
    refine ow_op (by simp only [zo, binD, zb, Int.reduceEq, Int.reduceToNat, Int.reduceLT, zz, bne_self_eq_false, heq] <;> exact rfl) ?_
    refine ow_ml rfl ?_
    refine ow_know 0 (b := false) (by simp only [opd, zv, zz, bne_self_eq_false, heq] <;> rfl) (by simp only [zn] <;> exact rfl) ?_
    refine ow_on rfl ?_
    refine ow_me rfl ?_
    refine ow_on rfl ?_
    refine ow_op (by simp only [zo, zz, bne_self_eq_false, heq]; exact zero24 (by omega) _ (by simp [newAt])) ?_
    refine ow_on rfl ?_
    refine ow_op (by simp only [zo, binD, zb, Int.reduceEq, Int.reduceToNat, Int.reduceLT, zz, bne_self_eq_false, heq] <;> exact rfl) ?_
    refine ow_op (by simp only [zo, zz, bne_self_eq_false, heq] <;> exact rfl) ?_
    refine ow_ml rfl ?_
    refine ow_know 0 (b := false) (by simp only [opd, zv, zz, bne_self_eq_false, heq] <;> rfl) (by simp only [zn] <;> exact rfl) ?_
    refine ow_on rfl ?_
    refine ow_me rfl ?_
    refine ow_on rfl ?_
    refine ow_op (by simp only [zo, binD, zb, Int.reduceEq, Int.reduceToNat, Int.reduceLT, zz, bne_self_eq_false, heq] <;> exact rfl) ?_
    refine ow_op (by simp only [zo, zz, bne_self_eq_false, heq] <;> exact rfl) ?_
    refine ow_ml rfl ?_
    refine ow_know 0 (b := false) (by simp only [opd, zv, zz, bne_self_eq_false, heq] <;> rfl) (by simp only [zn] <;> exact rfl) ?_
    refine ow_on rfl ?_
    refine ow_me rfl ?_
    refine ow_op (by simp only [zo, zz, bne_self_eq_false, heq] <;> exact rfl) ?_
    refine ow_ml rfl ?_
    refine ow_know 0 (b := false) (by simp only [opd, zv, zz, bne_self_eq_false, heq] <;> rfl) (by simp only [zn] <;> exact rfl) ?_
    refine ow_on rfl ?_
    refine ow_me rfl ?_
    refine ow_on rfl ?_
    refine ow_op (by simp only [zo, zz, bne_self_eq_false, heq]; exact zero26 (by omega) _ (by simp [newAt])) ?_
    refine ow_on rfl ?_
    refine ow_op (by simp only [zo, binD, zb, Int.reduceEq, Int.reduceToNat, Int.reduceLT, zz, bne_self_eq_false, heq] <;> exact rfl) ?_
    refine ow_op (by simp only [zo, zz, bne_self_eq_false, heq] <;> exact rfl) ?_
    refine ow_nil ?_
    refine sk_n (by simp only [ze] <;> exact rfl) ?_
    skip
    refine cw_false (by simp only [opd, zv, zz, bne_self_eq_false, heq] <;> rfl) ?_
    refine cw_skip (bk_n (sk_n rfl (cw_region ?_)))
    refine ow_me rfl ?_
    refine ow_op (by simp only [zo, binD, zb, Int.reduceEq, Int.reduceToNat, Int.reduceLT, zz, bne_self_eq_false, heq] <;> exact rfl) ?_
    refine ow_ml rfl ?_
    refine ow_nil ?_
    refine lu_n (by simp only [ze] <;> exact rfl) ?_
    refine cl_step ?_
    refine cw_seq (cw_seq (cw_region ?_))
    refine ow_me rfl ?_
    refine ow_op (by simp only [zo, binD, zb, Int.reduceEq, Int.reduceToNat, Int.reduceLT, zz, bne_self_eq_false, heq] <;> exact rfl) ?_
    refine ow_nil ?_
    refine sk_n (by simp only [ze] <;> exact rfl) ?_
    skip
    refine cw_false (by simp only [opd, zv, zz, bne_self_eq_false, heq] <;> rfl) ?_
    refine cw_exit (sk_e (lu_e (bk_e (sk_n rfl (cw_seq (cw_region ?_))))))
    refine ow_op (by simp only [zo, zz, bne_self_eq_false, heq]; exact livesD (by omega) _) ?_
    refine ow_ml rfl ?_
    refine ow_nil ?_
    refine sk_n (by simp only [ze] <;> exact rfl) ?_
    refine cw_ret ?_
    refine ⟨_, by simp only [F8, resultD, resDs, resD, zg, zd, rowsOf, partD, List.take, List.drop, zm] <;> exact rfl, ?_⟩
    simp only [leaveP, leave, snapVs, snaps, zs, zf, zk]

end Go.Proofs.YtabgobmeibjeeaaGreatDoor

namespace Go.Proofs.YtabgobmeibjeeaaGreatDoor
set_option linter.unusedVariables false
set_option linter.unusedSimpArgs false
set_option maxRecDepth 100000

noncomputable def fs57 : Array Field := match Tryz.prog.underlying 57 with | some (.struct fs) => fs | _ => #[]
noncomputable def fs75 : Array Field := match Tryz.prog.underlying 75 with | some (.struct fs) => fs | _ => #[]
theorem ty57 : Tryz.prog.underlying 57 = some (.struct fs57) := by kernel_rfl
theorem ty75 : Tryz.prog.underlying 75 = some (.struct fs75) := by kernel_rfl
theorem ft57 : fs57.toList.map (·.type) = [3, 3] := by kernel_rfl
theorem ft75 : fs75.toList.map (·.type) = [5, 4, 4, 5, 43] := by kernel_rfl
theorem i64_le {n : Int} (h : (Lit.int .i64 n).wf = true) : n ≤ 9223372036854775807 := by
 have h1 : IntKind.i64.max = 9223372036854775807 := by decide
 simp only [Lit.wf, Bool.and_eq_true, decide_eq_true_eq] at h
 have := h.2
 rw [h1] at this
 exact this
theorem at_type {fs : Array Field} {ts : List TypeId} (h : fs.toList.map (·.type) = ts) {j t : Nat} (hj : ts[j]? = some t) : ∃ f, fs[j]? = some f ∧ f.type = t := by
 subst h
 rw [List.getElem?_map] at hj
 cases hf : fs.toList[j]? with
 | none => rw [hf] at hj; simp at hj
 | some f =>
  rw [hf] at hj
  exact ⟨f, by simpa using hf, by simpa using hj⟩
theorem placeArg {ds : List D} (h : Sh Tryz.prog 3 57 ds) : ∃ pa pl : Int, ds = [.int .i64 pa, .int .i64 pl] ∧ pa ≤ 9223372036854775807 := by
 obtain ⟨parts, rfl, hp, hf⟩ := Sh.struct ty57 h
 have hs : fs57.size = 2 := by have := congrArg List.length ft57; simpa using this
 rw [hs] at hp
 obtain ⟨f0, g0, t0⟩ := at_type (j := 0) ft57 rfl
 obtain ⟨f1, g1, t1⟩ := at_type (j := 1) ft57 rfl
 obtain ⟨r0, a0, b0⟩ := hf 0 f0 g0
 obtain ⟨r1, a1, b1⟩ := hf 1 f1 g1
 rw [t0] at b0
 rw [t1] at b1
 obtain ⟨n0, rfl, w0⟩ := Sh.int ty3 b0
 obtain ⟨n1, rfl, w1⟩ := Sh.int ty3 b1
 match parts, hp, a0, a1 with
 | [p0, p1], _, a0, a1 =>
  simp at a0 a1
  subst a0 a1
  exact ⟨n0, n1, rfl, i64_le w0⟩
theorem badArg {ds : List D} (h : Sh Tryz.prog 4 75 ds) : ∃ (zs zm : Nat) (num ed : Bool) (x : D) (l : List UInt8), ds = [.int .u8 (zs : Nat), .bool num, .bool ed, .int .u8 (zm : Nat), x] ∧ zs < 256 ∧ zm < 256 ∧ SlD 1 (bR l) x ∧ l.length ≤ 9223372036854775807 := by
 obtain ⟨parts, rfl, hp, hf⟩ := Sh.struct ty75 h
 have hs : fs75.size = 5 := by have := congrArg List.length ft75; simpa using this
 rw [hs] at hp
 obtain ⟨f0, g0, t0⟩ := at_type (j := 0) ft75 rfl
 obtain ⟨f1, g1, t1⟩ := at_type (j := 1) ft75 rfl
 obtain ⟨f2, g2, t2⟩ := at_type (j := 2) ft75 rfl
 obtain ⟨f3, g3, t3⟩ := at_type (j := 3) ft75 rfl
 obtain ⟨f4, g4, t4⟩ := at_type (j := 4) ft75 rfl
 obtain ⟨r0, a0, b0⟩ := hf 0 f0 g0
 obtain ⟨r1, a1, b1⟩ := hf 1 f1 g1
 obtain ⟨r2, a2, b2⟩ := hf 2 f2 g2
 obtain ⟨r3, a3, b3⟩ := hf 3 f3 g3
 obtain ⟨r4, a4, b4⟩ := hf 4 f4 g4
 rw [t0] at b0
 rw [t1] at b1
 rw [t2] at b2
 rw [t3] at b3
 rw [t4] at b4
 obtain ⟨n0, rfl, w0⟩ := Sh.int ty5 b0
 obtain ⟨n1, rfl⟩ := Sh.bool ty4 b1
 obtain ⟨n2, rfl⟩ := Sh.bool ty4 b2
 obtain ⟨n3, rfl, w3⟩ := Sh.int ty5 b3
 obtain ⟨x, l, rfl, hx, hl⟩ := bytesArg b4
 obtain ⟨m0, rfl, h0⟩ := u8_nat w0
 obtain ⟨m3, rfl, h3⟩ := u8_nat w3
 match parts, hp, a0, a1, a2, a3, a4 with
 | [p0, p1, p2, p3, p4], _, a0, a1, a2, a3, a4 =>
  simp at a0 a1 a2 a3 a4
  subst a0 a1 a2 a3 a4
  exact ⟨m0, m3, n1, n2, x, l, rfl, h0, h3, hx, hl⟩
end Go.Proofs.YtabgobmeibjeeaaGreatDoor

/- Proved here: parts of the proof, joined (S46, S47, S48, S49, S50, S51): an abstract machine, its soundness, what functions of the program compute in it; no condition. -/
import Derived.Test.YtabgobmeibjeeaaGreatDoorM5
namespace Go.Proofs.YtabgobmeibjeeaaGreatDoor
set_option linter.unusedSimpArgs false
set_option linter.unusedVariables false
set_option maxRecDepth 10000
set_option maxHeartbeats 4000000

theorem concat0_run {d : Nat} (hd : 2 ≤ d) (S : St) {z : D} {rows : List (List D)} {ms : List (List RecT)} (hZ : SlD 1 rows z) (hL : ListsR ms rows) (hl : ms.length ≤ 1000000) (ht : tot ms ≤ 65536) (h0 : tot ms = 0) : runF LP NN d 41 [z] S = some (appY 1 (rR ms.flatten), S, false) := by
 refine run_pure (F := F41) rfl (by simp only [LP, fnOf, snapVs, snaps, zs, Bool.false_eq_true, if_false, Option.map_some, List.map_cons, List.map_nil, hZ.snapV, hZ.freeV] <;> exact rfl) rfl (by simp only [LP, zf, List.all_cons, List.all_nil, Bool.and_true, Bool.true_and, hZ.snapV, hZ.freeV]; try rfl) (by simp only [F41, zv] <;> exact rfl) (by omega) ?_
 rintro d rfl
 refine cw_seq (cw_region ?_)
 refine ow_mc ?_
 refine ow_nil ?_
 refine sk_n (by simp only [ze] <;> exact rfl) ?_
 refine cw_seq (cw_region ?_)
 refine ow_mc ?_
 refine ow_nil ?_
 refine sk_n (by simp only [ze] <;> exact rfl) ?_
 refine cw_seq (cw_seq (cw_region ?_))
 refine ow_me rfl ?_
 refine ow_op (by simp only [zo, lenD_str, lenD_nils, lenD_sl, lenD_msl, hZ.len, hL.1] <;> exact rfl) ?_
 refine ow_mc ?_
 refine ow_nil ?_
 refine sk_n (by simp only [ze] <;> exact rfl) ?_
 refine cw_block ?_
 refine cw_loop (fun rr env S' => ∃ (i : Nat) (p3 p4 p5 p9 p10 p11 p12 p13 p14 : D), i ≤ ms.length ∧ rr = ms.length - i ∧ S' = ⟨[], 0⟩ ∧ env = [z, .nils, .int .i64 (tot (ms.take i) : Nat), p3, p4, p5, z, .int .i64 (ms.length : Nat), .int .i64 (i : Nat), p9, p10, p11, p12, p13, p14]) (ms.length) (by omega) (⟨0, _, _, _, _, _, _, _, _, _, by omega, by omega, rfl, rfl⟩) ?_
 rintro rr env S' ⟨i, p3, p4, p5, p9, p10, p11, p12, p13, p14, hi, rfl, rfl, rfl⟩
 refine cw_seq (cw_region ?_)
 refine ow_op (by simp only [zo, binD, zb, Int.reduceEq, Int.reduceToNat, Int.reduceLT, hZ.len, hL.1] <;> exact rfl) ?_
 refine ow_nil ?_
 refine sk_n (by simp only [ze] <;> exact rfl) ?_
 refine cw_seq ?_
 refine cw_cond (by simp only [opd, zv, hZ.len, hL.1] <;> exact rfl) (fun hcA => ?_) (fun hcA => ?_)
 ·
  have hlt : i < ms.length := by have := of_decide_eq_true hcA; omega
  obtain ⟨m, hm⟩ : ∃ m, ms[i]? = some m := ⟨_, List.getElem?_eq_getElem hlt⟩
  obtain ⟨y, hy, hyS⟩ := hL.2 i m hm
  have hia := fun (S : St) => hZ.iaddrN S .i64 hy
  have wi := wrap_nat i (by omega)
  have htt := tot_le ms (i + 1)
  rw [tot_take hm] at htt
  have wt := i64_add (tot (ms.take i)) m.length (by omega)
  have hlt0 : decide (((tot (ms.take i) + m.length : Nat) : Int) < 0) = false := decide_eq_false (by omega)
  refine cw_skip (sk_n rfl (cw_seq (cw_block (cw_seq (cw_region ?_)))))
  refine ow_op (by simp only [zl, zm, iaddrD_sl, iaddrD_msl, Int.toNat_natCast, Int.toNat_zero, List.getElem?_map, Option.map_some, Int.le_refl, hZ.len, hL.1, hia, wi, wt, hyS.len, rR_len, hlt0] <;> exact rfl) ?_
  refine ow_op (by simp only [zl, zm, zd, partD, List.take, List.drop, hZ.len, hL.1, hia, wi, wt, hyS.len, rR_len, hlt0] <;> exact rfl) ?_
  refine ow_ml rfl ?_
  refine ow_nil ?_
  refine sk_n (by simp only [ze] <;> exact rfl) ?_
  refine cw_seq (cw_region ?_)
  refine ow_me rfl ?_
  refine ow_me rfl ?_
  refine ow_op (by simp only [zo, lenD_str, lenD_nils, lenD_sl, lenD_msl, hZ.len, hL.1, hia, wi, wt, hyS.len, rR_len, hlt0] <;> exact rfl) ?_
  refine ow_op (by simp only [zo, binD, zb, Int.reduceEq, Int.reduceToNat, Int.reduceLT, hZ.len, hL.1, hia, wi, wt, hyS.len, rR_len, hlt0] <;> exact rfl) ?_
  refine ow_ml rfl ?_
  refine ow_nil ?_
  refine sk_n (by simp only [ze] <;> exact rfl) ?_
  refine cw_seq (cw_region ?_)
  refine ow_me rfl ?_
  refine ow_op (by simp only [zo, binD, zb, Int.reduceEq, Int.reduceToNat, Int.reduceLT, hZ.len, hL.1, hia, wi, wt, hyS.len, rR_len, hlt0] <;> exact rfl) ?_
  refine ow_nil ?_
  refine sk_n (by simp only [ze] <;> exact rfl) ?_
  skip
  refine cw_false (by simp only [opd, zv, hZ.len, hL.1, hia, wi, wt, hyS.len, rR_len, hlt0] <;> rfl) ?_
  refine cw_skip (bk_n (sk_n rfl (cw_region ?_)))
  refine ow_op (by simp only [zo, binD, zb, Int.reduceEq, Int.reduceToNat, Int.reduceLT, hZ.len, hL.1, hia, wi, wt, hyS.len, rR_len, hlt0] <;> exact rfl) ?_
  refine ow_ml rfl ?_
  refine ow_nil ?_
  refine lk_n (by simp only [ze] <;> exact rfl) ?_
  exact ⟨ms.length - (i + 1), by omega, i + 1, _, _, _, _, _, _, _, _, _, by omega, rfl, rfl, by rw [tot_take hm]⟩
 ·
  obtain rfl : i = ms.length := by have := of_decide_eq_false hcA; omega
  rw [List.take_length]
  rw [h0]
  refine cw_exit (sk_e (lk_e (bk_e (sk_n rfl (cw_seq (cw_region ?_))))))
  refine ow_me rfl ?_
  refine ow_op (by simp only [zo, hZ.len, hL.1]; exact grow0_run (by omega) _) ?_
  refine ow_ml rfl ?_
  refine ow_nil ?_
  refine sk_n (by simp only [ze] <;> exact rfl) ?_
  refine cw_seq (cw_seq (cw_region ?_))
  refine ow_me rfl ?_
  refine ow_op (by simp only [zo, lenD_str, lenD_nils, lenD_sl, lenD_msl, hZ.len, hL.1] <;> exact rfl) ?_
  refine ow_mc ?_
  refine ow_nil ?_
  refine sk_n (by simp only [ze] <;> exact rfl) ?_
  refine cw_block ?_
  refine cw_loop (fun rr env S' => ∃ (i : Nat) (q3 q5 q9 q10 q14 : D), i ≤ ms.length ∧ rr = ms.length - i ∧ S' = ⟨[], 0⟩ ∧ env = [z, .nils, .int .i64 ((0 : Nat) : Int), q3, .nils, q5, z, .int .i64 (ms.length : Nat), .int .i64 (ms.length : Nat), q9, q10, z, .int .i64 (ms.length : Nat), .int .i64 (i : Nat), q14]) (ms.length) (by omega) (⟨0, _, _, _, _, _, by omega, by omega, rfl, rfl⟩) ?_
  rintro rr env S' ⟨i, q3, q5, q9, q10, q14, hi, rfl, rfl, rfl⟩
  refine cw_seq (cw_region ?_)
  refine ow_op (by simp only [zo, binD, zb, Int.reduceEq, Int.reduceToNat, Int.reduceLT, hZ.len, hL.1] <;> exact rfl) ?_
  refine ow_nil ?_
  refine sk_n (by simp only [ze] <;> exact rfl) ?_
  refine cw_seq ?_
  refine cw_cond (by simp only [opd, zv, hZ.len, hL.1] <;> exact rfl) (fun hcAFB => ?_) (fun hcAFB => ?_)
  ·
   have hlt : i < ms.length := by have := of_decide_eq_true hcAFB; omega
   obtain ⟨m, hm⟩ : ∃ m, ms[i]? = some m := ⟨_, List.getElem?_eq_getElem hlt⟩
   obtain ⟨y, hy, hyS⟩ := hL.2 i m hm
   have hia := fun (S : St) => hZ.iaddrN S .i64 hy
   have wi := wrap_nat i (by omega)
   have hm0 : m = [] := by have := tot_le ms (i + 1); rw [tot_take hm] at this; exact List.length_eq_zero_iff.1 (by omega)
   subst hm0
   have hap : ∀ c : CallF, exOp c (.append 43 1 24 1) [.nils, y] ⟨[], 0⟩ = some (.nils, ⟨[], 0⟩, false) := fun c => by simp [exOp, aop, LOp.loud, lop, appendD, hyS.read, appendRows, rR]
   refine cw_skip (sk_n rfl (cw_seq (cw_block (cw_seq (cw_region ?_)))))
   refine ow_op (by simp only [zl, zm, iaddrD_sl, iaddrD_msl, Int.toNat_natCast, Int.toNat_zero, List.getElem?_map, Option.map_some, Int.le_refl, hZ.len, hL.1, hia, wi] <;> exact rfl) ?_
   refine ow_op (by simp only [zl, zm, zd, partD, List.take, List.drop, hZ.len, hL.1, hia, wi] <;> exact rfl) ?_
   refine ow_ml rfl ?_
   refine ow_nil ?_
   refine sk_n (by simp only [ze] <;> exact rfl) ?_
   refine cw_region ?_
   refine ow_me rfl ?_
   refine ow_me rfl ?_
   refine ow_op (by simp only [opd, zv]; exact hap _) ?_
   refine ow_ml rfl ?_
   refine ow_nil (bk_n ?_)
   refine sk_n (by simp only [ze] <;> exact rfl) ?_
   refine cw_region ?_
   refine ow_op (by simp only [zo, binD, zb, Int.reduceEq, Int.reduceToNat, Int.reduceLT, hZ.len, hL.1, hia, wi] <;> exact rfl) ?_
   refine ow_ml rfl ?_
   refine ow_nil ?_
   refine lk_n (by simp only [ze] <;> exact rfl) ?_
   exact ⟨ms.length - (i + 1), by omega, i + 1, _, _, _, _, _, by omega, rfl, rfl, rfl⟩
  ·
   obtain rfl : i = ms.length := by have := of_decide_eq_false hcAFB; omega
   refine cw_exit (sk_e (lk_e (bk_e (sk_n rfl (cw_seq (cw_region ?_))))))
   refine ow_me rfl ?_
   refine ow_ml rfl ?_
   refine ow_nil ?_
   refine sk_n (by simp only [ze] <;> exact rfl) ?_
   refine cw_ret ?_
   refine ⟨_, by simp only [F41, resultD, resDs, resD, List.getD_cons_zero, List.getD_cons_succ, zd, rowsOf, partD, List.getElem?_cons_zero, List.getElem?_cons_succ, if_true, if_false, Bool.false_eq_true, List.take, List.drop, zm] <;> exact rfl, ?_⟩
   rw [show ms.flatten = [] from List.length_eq_zero_iff.1 (by rw [← tot_flat]; exact h0)]
   rfl

theorem conc_leave (ms : List (List RecT)) (v : Nat) (h0 : 0 < tot ms) : leaveP ⟨[], 0⟩ (.msl 0 v 0 (tot ms) none) ⟨[⟨43, 1, conc ms ms.length, v, 2, true⟩], 0⟩ = some (appY 1 (rR ms.flatten), ⟨[], 0⟩, false) := by
 have e : conc ms ms.length = rR ms.flatten := by simp [conc]
 have e2 : (rR ms.flatten).take (tot ms) = rR ms.flatten := List.take_of_length_le (by rw [rR_len, ← tot_flat]; exact Nat.le_refl _)
 have e3 : appY 1 (rR ms.flatten) = .sl 1 (rR ms.flatten) none := by
  have : rR ms.flatten ≠ [] := by
   intro h
   have := congrArg List.length h
   rw [rR_len, ← tot_flat] at this
   simp at this; omega
  cases h : rR ms.flatten with
  | nil => exact absurd h this
  | cons a l => rfl
 rw [e, e3]
 simp [leaveP, leave, snapR_msl, snapV_msl, snap_msl, freeR_sl, e2]

theorem concat1_run {d : Nat} (hd : 2 ≤ d) (S : St) {z : D} {rows : List (List D)} {ms : List (List RecT)} (hZ : SlD 1 rows z) (hL : ListsR ms rows) (hl : ms.length ≤ 1000000) (ht : tot ms ≤ 65536) (h0 : 0 < tot ms) : runF LP NN d 41 [z] S = some (appY 1 (rR ms.flatten), S, false) := by
 refine run_pure (F := F41) rfl (by simp only [LP, fnOf, snapVs, snaps, zs, Bool.false_eq_true, if_false, Option.map_some, List.map_cons, List.map_nil, hZ.snapV, hZ.freeV] <;> exact rfl) rfl (by simp only [LP, zf, List.all_cons, List.all_nil, Bool.and_true, Bool.true_and, hZ.snapV, hZ.freeV]; try rfl) (by simp only [F41, zv] <;> exact rfl) (by omega) ?_
 rintro d rfl
 refine cw_seq (cw_region ?_)
 refine ow_mc ?_
 refine ow_nil ?_
 refine sk_n (by simp only [ze] <;> exact rfl) ?_
 refine cw_seq (cw_region ?_)
 refine ow_mc ?_
 refine ow_nil ?_
 refine sk_n (by simp only [ze] <;> exact rfl) ?_
 refine cw_seq (cw_seq (cw_region ?_))
 refine ow_me rfl ?_
 refine ow_op (by simp only [zo, lenD_str, lenD_nils, lenD_sl, lenD_msl, hZ.len, hL.1] <;> exact rfl) ?_
 refine ow_mc ?_
 refine ow_nil ?_
 refine sk_n (by simp only [ze] <;> exact rfl) ?_
 refine cw_block ?_
 refine cw_loop (fun rr env S' => ∃ (i : Nat) (p3 p4 p5 p9 p10 p11 p12 p13 p14 : D), i ≤ ms.length ∧ rr = ms.length - i ∧ S' = ⟨[], 0⟩ ∧ env = [z, .nils, .int .i64 (tot (ms.take i) : Nat), p3, p4, p5, z, .int .i64 (ms.length : Nat), .int .i64 (i : Nat), p9, p10, p11, p12, p13, p14]) (ms.length) (by omega) (⟨0, _, _, _, _, _, _, _, _, _, by omega, by omega, rfl, rfl⟩) ?_
 rintro rr env S' ⟨i, p3, p4, p5, p9, p10, p11, p12, p13, p14, hi, rfl, rfl, rfl⟩
 refine cw_seq (cw_region ?_)
 refine ow_op (by simp only [zo, binD, zb, Int.reduceEq, Int.reduceToNat, Int.reduceLT, hZ.len, hL.1] <;> exact rfl) ?_
 refine ow_nil ?_
 refine sk_n (by simp only [ze] <;> exact rfl) ?_
 refine cw_seq ?_
 refine cw_cond (by simp only [opd, zv, hZ.len, hL.1] <;> exact rfl) (fun hcA => ?_) (fun hcA => ?_)
 ·
  have hlt : i < ms.length := by have := of_decide_eq_true hcA; omega
  obtain ⟨m, hm⟩ : ∃ m, ms[i]? = some m := ⟨_, List.getElem?_eq_getElem hlt⟩
  obtain ⟨y, hy, hyS⟩ := hL.2 i m hm
  have hia := fun (S : St) => hZ.iaddrN S .i64 hy
  have wi := wrap_nat i (by omega)
  have htt := tot_le ms (i + 1)
  rw [tot_take hm] at htt
  have wt := i64_add (tot (ms.take i)) m.length (by omega)
  have hlt0 : decide (((tot (ms.take i) + m.length : Nat) : Int) < 0) = false := decide_eq_false (by omega)
  refine cw_skip (sk_n rfl (cw_seq (cw_block (cw_seq (cw_region ?_)))))
  refine ow_op (by simp only [zl, zm, iaddrD_sl, iaddrD_msl, Int.toNat_natCast, Int.toNat_zero, List.getElem?_map, Option.map_some, Int.le_refl, hZ.len, hL.1, hia, wi, wt, hyS.len, rR_len, hlt0] <;> exact rfl) ?_
  refine ow_op (by simp only [zl, zm, zd, partD, List.take, List.drop, hZ.len, hL.1, hia, wi, wt, hyS.len, rR_len, hlt0] <;> exact rfl) ?_
  refine ow_ml rfl ?_
  refine ow_nil ?_
  refine sk_n (by simp only [ze] <;> exact rfl) ?_
  refine cw_seq (cw_region ?_)
  refine ow_me rfl ?_
  refine ow_me rfl ?_
  refine ow_op (by simp only [zo, lenD_str, lenD_nils, lenD_sl, lenD_msl, hZ.len, hL.1, hia, wi, wt, hyS.len, rR_len, hlt0] <;> exact rfl) ?_
  refine ow_op (by simp only [zo, binD, zb, Int.reduceEq, Int.reduceToNat, Int.reduceLT, hZ.len, hL.1, hia, wi, wt, hyS.len, rR_len, hlt0] <;> exact rfl) ?_
  refine ow_ml rfl ?_
  refine ow_nil ?_
  refine sk_n (by simp only [ze] <;> exact rfl) ?_
  refine cw_seq (cw_region ?_)
  refine ow_me rfl ?_
  refine ow_op (by simp only [zo, binD, zb, Int.reduceEq, Int.reduceToNat, Int.reduceLT, hZ.len, hL.1, hia, wi, wt, hyS.len, rR_len, hlt0] <;> exact rfl) ?_
  refine ow_nil ?_
  refine sk_n (by simp only [ze] <;> exact rfl) ?_
  skip
  refine cw_false (by simp only [opd, zv, hZ.len, hL.1, hia, wi, wt, hyS.len, rR_len, hlt0] <;> rfl) ?_
  refine cw_skip (bk_n (sk_n rfl (cw_region ?_)))
  refine ow_op (by simp only [zo, binD, zb, Int.reduceEq, Int.reduceToNat, Int.reduceLT, hZ.len, hL.1, hia, wi, wt, hyS.len, rR_len, hlt0] <;> exact rfl) ?_
  refine ow_ml rfl ?_
  refine ow_nil ?_
  refine lk_n (by simp only [ze] <;> exact rfl) ?_
  exact ⟨ms.length - (i + 1), by omega, i + 1, _, _, _, _, _, _, _, _, _, by omega, rfl, rfl, by rw [tot_take hm]⟩
 ·
  obtain rfl : i = ms.length := by have := of_decide_eq_false hcA; omega
  rw [List.take_length]
  refine cw_exit (sk_e (lk_e (bk_e (sk_n rfl (cw_seq (cw_region ?_))))))
  refine ow_me rfl ?_
  refine ow_op (by simp only [zo, hZ.len, hL.1]; exact grow_run (by omega) _ (tot ms) h0 (by omega)) ?_
  refine ow_ml rfl ?_
  refine ow_nil ?_
  refine sk_n (by simp only [ze] <;> exact rfl) ?_
  refine cw_seq (cw_seq (cw_region ?_))
  refine ow_me rfl ?_
  refine ow_op (by simp only [zo, lenD_str, lenD_nils, lenD_sl, lenD_msl, hZ.len, hL.1] <;> exact rfl) ?_
  refine ow_mc ?_
  refine ow_nil ?_
  refine sk_n (by simp only [ze] <;> exact rfl) ?_
  refine cw_block ?_
  refine cw_loop (fun rr env S' => ∃ (i v : Nat) (q3 q5 q9 q10 q14 : D), i ≤ ms.length ∧ rr = ms.length - i ∧ S' = ⟨[⟨43, 1, conc ms i, v, 2, true⟩], 0⟩ ∧ env = [z, .nils, .int .i64 (tot ms : Nat), q3, .msl 0 v 0 (tot (ms.take i)) none, q5, z, .int .i64 (ms.length : Nat), .int .i64 (ms.length : Nat), q9, q10, z, .int .i64 (ms.length : Nat), .int .i64 (i : Nat), q14]) (ms.length) (by omega) (⟨0, 0, _, _, _, _, _, by omega, by omega, by rw [show conc ms 0 = List.replicate (tot ms) [.nils] by simp [conc, rR, tot]]; rfl, rfl⟩) ?_
  rintro rr env S' ⟨i, v, q3, q5, q9, q10, q14, hi, rfl, rfl, rfl⟩
  refine cw_seq (cw_region ?_)
  refine ow_op (by simp only [zo, binD, zb, Int.reduceEq, Int.reduceToNat, Int.reduceLT, hZ.len, hL.1] <;> exact rfl) ?_
  refine ow_nil ?_
  refine sk_n (by simp only [ze] <;> exact rfl) ?_
  refine cw_seq ?_
  refine cw_cond (by simp only [opd, zv, hZ.len, hL.1] <;> exact rfl) (fun hcAFB => ?_) (fun hcAFB => ?_)
  ·
   have hlt : i < ms.length := by have := of_decide_eq_true hcAFB; omega
   obtain ⟨m, hm⟩ : ∃ m, ms[i]? = some m := ⟨_, List.getElem?_eq_getElem hlt⟩
   obtain ⟨y, hy, hyS⟩ := hL.2 i m hm
   have hia := fun (S : St) => hZ.iaddrN S .i64 hy
   have wi := wrap_nat i (by omega)
   obtain ⟨v2, hap⟩ := conc_app (call := runF LP NN d) (v := v) hm hyS ht
   refine cw_skip (sk_n rfl (cw_seq (cw_block (cw_seq (cw_region ?_)))))
   refine ow_op (by simp only [zl, zm, iaddrD_sl, iaddrD_msl, Int.toNat_natCast, Int.toNat_zero, List.getElem?_map, Option.map_some, Int.le_refl, hZ.len, hL.1, hia, wi] <;> exact rfl) ?_
   refine ow_op (by simp only [zl, zm, zd, partD, List.take, List.drop, hZ.len, hL.1, hia, wi] <;> exact rfl) ?_
   refine ow_ml rfl ?_
   refine ow_nil ?_
   refine sk_n (by simp only [ze] <;> exact rfl) ?_
   refine cw_region ?_
   refine ow_me rfl ?_
   refine ow_me rfl ?_
   refine ow_op (by simp only [opd, zv]; exact hap) ?_
   refine ow_ml rfl ?_
   refine ow_nil (bk_n ?_)
   refine sk_n (by simp only [ze] <;> exact rfl) ?_
   refine cw_region ?_
   refine ow_op (by simp only [zo, binD, zb, Int.reduceEq, Int.reduceToNat, Int.reduceLT, hZ.len, hL.1, hia, wi] <;> exact rfl) ?_
   refine ow_ml rfl ?_
   refine ow_nil ?_
   refine lk_n (by simp only [ze] <;> exact rfl) ?_
   exact ⟨ms.length - (i + 1), by omega, i + 1, v2, _, _, _, _, _, by omega, rfl, rfl, rfl⟩
  ·
   obtain rfl : i = ms.length := by have := of_decide_eq_false hcAFB; omega
   rw [List.take_length] at *
   refine cw_exit (sk_e (lk_e (bk_e (sk_n rfl (cw_seq (cw_region ?_))))))
   refine ow_me rfl ?_
   refine ow_ml rfl ?_
   refine ow_nil ?_
   refine sk_n (by simp only [ze] <;> exact rfl) ?_
   refine cw_ret ?_
   refine ⟨_, by simp only [F41, resultD, resDs, resD, List.getD_cons_zero, List.getD_cons_succ, zd, rowsOf, partD, List.getElem?_cons_zero, List.getElem?_cons_succ, if_true, if_false, Bool.false_eq_true, List.take, List.drop, zm] <;> exact rfl, ?_⟩
   exact conc_leave ms _ h0

theorem concat_run {d : Nat} (hd : 2 ≤ d) (S : St) {z : D} {rows : List (List D)} {ms : List (List RecT)} (hZ : SlD 1 rows z) (hL : ListsR ms rows) (hl : ms.length ≤ 1000000) (ht : tot ms ≤ 65536) : runF LP NN d 41 [z] S = some (appY 1 (rR ms.flatten), S, false) := by
 by_cases h0 : tot ms = 0
 ·
  exact concat0_run hd S hZ hL hl ht h0
 ·
  exact concat1_run hd S hZ hL hl ht (by omega)

end Go.Proofs.YtabgobmeibjeeaaGreatDoor

namespace Go.Proofs.YtabgobmeibjeeaaGreatDoor
set_option linter.unusedSimpArgs false
set_option linter.unusedVariables false
set_option maxRecDepth 10000
set_option maxHeartbeats 4000000

theorem cmp40_run {d : Nat} (hd : 16 ≤ d) (S : St) {gk : Nat} {ks : List Ke} {kx : D} (hS : SlD 14 (keRows ks) kx) (h8 : ks.length ≤ 8) (hg : ∀ k ∈ ks, GK k) (hk : S.heap[gk]? = some ⟨26, 1, [[kx]], 0, 0, false⟩) (x y : RecT) : runF LP NN d 40 [recD x.1, recD y.1, .ptr gk 0 0 0] S = some (.int .i64 (cK ks x y), S, false) := by
 refine run_at (F := F40) rfl (by simp only [LP, fnOf, snapVs, snaps, zs, Bool.false_eq_true, if_false, Option.map_some, List.map_cons, List.map_nil, snapV_recD, freeV_recD] <;> exact rfl) rfl (by simp only [LP, zf, List.all_cons, List.all_nil, Bool.and_true, Bool.true_and, snapV_recD, freeV_recD]; try rfl) (by simp only [F40, zv] <;> exact rfl) (by omega) ?_
 rintro d rfl
 refine cw_seq (cw_region ?_)
 refine ow_mc ?_
 refine ow_nil ?_
 refine sk_n (by simp only [ze] <;> exact rfl) ?_
 refine cw_seq (cw_region ?_)
 refine ow_op (by simp only [zl, zm, zd, partD, List.take, List.drop, hk] <;> exact rfl) ?_
 refine ow_me rfl ?_
 refine ow_me rfl ?_
 refine ow_op (by simp only [zo, hk]; exact compareR_run (by omega) _ hS (recD_S _) (recD_S _) h8 hg x.2 y.2) ?_
 refine ow_ml rfl ?_
 refine ow_nil ?_
 refine sk_n (by simp only [ze] <;> exact rfl) ?_
 refine cw_ret ?_
 refine ⟨_, by simp only [F40, resultD, resDs, resD, List.getD_cons_zero, List.getD_cons_succ, zd, rowsOf, partD, List.getElem?_cons_zero, List.getElem?_cons_succ, if_true, if_false, Bool.false_eq_true, List.take, List.drop, zm] <;> exact rfl, ?_⟩
 simp [leave, LP, snapR, snapV, snap, D.freeR, D.freeV, D.free, cK]

/-- neighbours are in order from j on -/
def Adj (ks : List Ke) (m : List RecT) (j : Nat) : Prop := ∀ (p : Nat) (x y : RecT), j ≤ p → m[p]? = some x → m[p + 1]? = some y → cK ks x y ≤ 0
theorem Adj.srt {ks : List Ke} {m : List RecT} (h : Adj ks m 0) : Srt (cK ks) m 0 m.length := by
 have key : ∀ (t i : Nat) (x y : RecT), m[i]? = some x → m[i + t]? = some y → cK ks x y ≤ 0 := by
  intro t
  induction t with
  | zero =>
   intro i x y h1 h2
   rw [Nat.add_zero, h1] at h2
   obtain rfl := Option.some.inj h2
   have := (cK_cmp ks).refl x; omega
  | succ t ih =>
   intro i x y h1 h2
   have hlt := (List.getElem?_eq_some_iff.1 h2).1
   obtain ⟨z, hz⟩ : ∃ z, m[i + t]? = some z := ⟨_, List.getElem?_eq_getElem (by omega)⟩
   exact (cK_cmp ks).trans x z y (ih i x z h1 hz) (h (i + t) z y (by omega) hz h2)
 intro i j x y _ hij _ h1 h2
 exact key (j - i) i x y h1 (by rw [show i + (j - i) = j by omega]; exact h2)
theorem adj_eq {ks : List Ke} {m : List RecT} (h : Adj ks m 0) : m = srt ks m := srt_eq ⟨Same.refl _, h.srt⟩
theorem inv_ne {ks : List Ke} {m : List RecT} (hI : IsS (cK ks) m (srt ks m)) {p : Nat} {x y : RecT} (hx : m[p]? = some x) (hy : m[p + 1]? = some y) (h : cK ks y x < 0) : m ≠ srt ks m := by
 intro e
 have hl := (List.getElem?_eq_some_iff.1 hy).1
 have s := hI.2
 rw [← e] at s
 have h1 := s p (p + 1) x y (by omega) (by omega) hl hx hy
 have h2 := (cK_cmp ks).swap x y
 omega

theorem isSorted_run {d : Nat} (hd : 17 ≤ d) (S : St) {gk : Nat} {ks : List Ke} {kx : D} (hS : SlD 14 (keRows ks) kx) (h8 : ks.length ≤ 8) (hg : ∀ k ∈ ks, GK k) (hk : S.heap[gk]? = some ⟨26, 1, [[kx]], 0, 0, false⟩) {y : D} {m : List RecT} (hY : SlD 1 (rR m) y) (hn6 : m.length ≤ 1000000) (hI : IsS (cK ks) m (srt ks m)) : runF LP NN d 39 [y, .fn 40 [.ptr gk 0 0 0]] S = some (.bool (decide (m = srt ks m)), S, false) := by
 have w0 : IntKind.i64.wrap ((m.length : Int) - 1) = (m.length : Int) - 1 - ((0 : Nat) : Int) := by rw [IntKind.wrap_i64]; omega
 refine run_at (F := F39) rfl (by simp only [LP, fnOf, snapVs, snaps, zs, Bool.false_eq_true, if_false, Option.map_some, List.map_cons, List.map_nil, hY.snapV, hY.freeV] <;> exact rfl) rfl (by simp only [LP, zf, List.all_cons, List.all_nil, Bool.and_true, Bool.true_and, hY.snapV, hY.freeV]; try rfl) (by simp only [F39, zv] <;> exact rfl) (by omega) ?_
 rintro d rfl
 refine cw_seq (cw_region ?_)
 refine ow_mc ?_
 refine ow_nil ?_
 refine sk_n (by simp only [ze] <;> exact rfl) ?_
 refine cw_seq (cw_seq (cw_region ?_))
 refine ow_me rfl ?_
 refine ow_op (by simp only [zo, lenD_str, lenD_nils, lenD_sl, lenD_msl, hY.len, rR_len] <;> exact rfl) ?_
 refine ow_op (by simp only [zo, binD, zb, Int.reduceEq, Int.reduceToNat, Int.reduceLT, hY.len, rR_len] <;> exact rfl) ?_
 refine ow_ml rfl ?_
 refine ow_nil ?_
 refine sk_n (by simp only [ze] <;> exact rfl) ?_
 refine cw_block ?_
 refine cw_loop (fun rr env S' => ∃ (t : Nat) (u4 u5 : D), rr = m.length - t ∧ Adj ks m (m.length - 1 - t) ∧ S' = ⟨S.heap, S.heap.length⟩ ∧ env = [y, .fn 40 [.ptr gk 0 0 0], .bool false, .int .i64 ((m.length : Int) - 1 - (t : Int)), u4, u5]) (m.length) (by omega) (⟨0, _, _, rfl, fun p x y hp h1 h2 => by have := (List.getElem?_eq_some_iff.1 h2).1; omega, rfl, by rw [w0] <;> rfl⟩) ?_
 rintro rr env S' ⟨t, u4, u5, rfl, hA, rfl, rfl⟩
 refine cw_seq (cw_seq (cw_region ?_))
 refine ow_me rfl ?_
 refine ow_op (by simp only [zo, binD, zb, Int.reduceEq, Int.reduceToNat, Int.reduceLT, hY.len, rR_len] <;> exact rfl) ?_
 refine ow_nil ?_
 refine sk_n (by simp only [ze] <;> exact rfl) ?_
 refine cw_cond (by simp only [opd, zv, hY.len, rR_len] <;> exact rfl) (fun hcA => ?_) (fun hcA => ?_)
 ·
  have hgt : 0 < (m.length : Int) - 1 - (t : Int) := of_decide_eq_true hcA
  obtain ⟨j, hj⟩ : ∃ j : Nat, (m.length : Int) - 1 - (t : Int) = ((j + 1 : Nat) : Int) := ⟨m.length - 1 - t - 1, by omega⟩
  have wj : IntKind.i64.wrap (((j + 1 : Nat) : Int) - 1) = ((j : Nat) : Int) := by rw [IntKind.wrap_i64]; omega
  have wt : IntKind.i64.wrap ((m.length : Int) - 1 - (t : Int) - 1) = (m.length : Int) - 1 - (t : Int) - 1 := by rw [IntKind.wrap_i64]; omega
  obtain ⟨a, ha⟩ : ∃ a, m[j]? = some a := ⟨_, List.getElem?_eq_getElem (by omega)⟩
  obtain ⟨b, hb⟩ : ∃ b, m[j + 1]? = some b := ⟨_, List.getElem?_eq_getElem (by omega)⟩
  have hia := fun (S : St) => hY.iaddrN S .i64 (rR_at ha)
  have hib := fun (S : St) => hY.iaddrN S .i64 (rR_at hb)
  rw [hj]
  refine cw_skip (sk_n rfl (cw_seq (cw_block (cw_seq ?_))))
  refine cw_drawn (by simp only [newsVals, zw, Nat.reduceAdd] <;> exact rfl) (by simp only [zw, newsObj, St.eta] <;> exact rfl) ?_
  refine dw_me rfl rfl ?_
  refine dw_me rfl rfl ?_
  refine dw_me rfl rfl ?_
  refine dw_op (by simp only [zl, zm, iaddrD_sl, iaddrD_msl, Int.toNat_natCast, Int.toNat_zero, List.getElem?_map, Option.map_some, Int.le_refl, hY.len, rR_len, wj, hia, hib] <;> exact rfl) (by simp only [fpHere, zo, zq, hY.fpi] <;> exact rfl) rfl ?_
  refine dw_op (by simp only [zl, zm, zd, partD, List.take, List.drop, hY.len, rR_len, wj, hia, hib] <;> exact rfl) (by simp only [fpHere, zo, zq, hY.fpi] <;> exact rfl) rfl ?_
  refine dw_me rfl rfl ?_
  refine dw_me rfl rfl ?_
  refine dw_quiet (by simp only [zo, binD, zb, Int.reduceEq, Int.reduceToNat, Int.reduceLT, hY.len, rR_len, wj, hia, hib] <;> exact rfl) rfl rfl ?_
  refine dw_op (by simp only [zl, zm, iaddrD_sl, iaddrD_msl, Int.toNat_natCast, Int.toNat_zero, List.getElem?_map, Option.map_some, Int.le_refl, hY.len, rR_len, wj, hia, hib] <;> exact rfl) (by simp only [fpHere, zo, zq, hY.fpi] <;> exact rfl) rfl ?_
  refine dw_op (by simp only [zl, zm, zd, partD, List.take, List.drop, hY.len, rR_len, wj, hia, hib] <;> exact rfl) (by simp only [fpHere, zo, zq, hY.fpi] <;> exact rfl) rfl ?_
  refine dw_op (by simp only [zo, hY.len, rR_len, wj, hia, hib]; exact (cmp40_run (d := d) (by omega) ⟨S.heap, S.heap.length⟩ hS h8 hg hk b a)) (by simp only [fpHere, zo, zq, hY.fpi] <;> exact rfl) rfl ?_
  refine dw_quiet (by simp only [zo, binD, zb, Int.reduceEq, Int.reduceToNat, Int.reduceLT, hY.len, rR_len, wj, hia, hib] <;> exact rfl) rfl rfl ?_
  refine dw_nil ?_
  refine sk_n (by simp only [ze] <;> exact rfl) ?_
  refine cw_cond (by simp only [opd, zv, hY.len, rR_len, wj, hia, hib] <;> exact rfl) (fun hcAT => ?_) (fun hcAT => ?_)
  ·
   have hne := inv_ne hI ha hb (of_decide_eq_true hcAT)
   refine cw_seq (cw_region ?_)
   refine ow_mc ?_
   refine ow_nil ?_
   refine sk_n (by simp only [ze] <;> exact rfl) ?_
   refine cw_ret (bk_r (sk_r (lk_r (bk_r (sk_r ?_)))))
   refine ⟨_, by simp only [F39, resultD, resDs, resD, List.getD_cons_zero, List.getD_cons_succ, zd, rowsOf, partD, List.getElem?_cons_zero, List.getElem?_cons_succ, if_true, if_false, Bool.false_eq_true, List.take, List.drop, zm] <;> exact rfl, ?_⟩
   rw [decide_eq_false hne]
   simp [leave, LP, snapR, snapV, snap, D.freeR, D.freeV, D.free]
  ·
   have hA' : Adj ks m (m.length - 1 - (t + 1)) := by
    intro p x z hp h1 h2
    by_cases e : p = j
    ·
     subst e
     rw [ha] at h1
     rw [hb] at h2
     obtain rfl := Option.some.inj h1
     obtain rfl := Option.some.inj h2
     have h3 := of_decide_eq_false hcAT
     have h4 := (cK_cmp ks).swap a b
     omega
    ·
     exact hA p x z (by omega) h1 h2
   rw [← hj]
   rw [← hj] at wj
   refine cw_skip (bk_n (sk_n rfl (cw_region ?_)))
   refine ow_me rfl ?_
   refine ow_op (by simp only [zo, binD, zb, Int.reduceEq, Int.reduceToNat, Int.reduceLT, hY.len, rR_len, wj, hia, hib, wt] <;> exact rfl) ?_
   refine ow_ml rfl ?_
   refine ow_nil ?_
   refine lk_n (by simp only [ze] <;> exact rfl) ?_
   exact ⟨m.length - (t + 1), by omega, t + 1, _, _, rfl, hA', rfl, by rw [show ((m.length : Int) - 1 - ((t + 1 : Nat) : Int)) = ((j : Nat) : Int) by omega]⟩
 ·
  have heq : m = srt ks m := adj_eq (fun p x z hp => hA p x z (by have := of_decide_eq_false hcA; omega))
  refine cw_exit (sk_e (lk_e (bk_e (sk_n rfl (cw_seq (cw_region ?_))))))
  refine ow_mc ?_
  refine ow_nil ?_
  refine sk_n (by simp only [ze] <;> exact rfl) ?_
  refine cw_ret ?_
  refine ⟨_, by simp only [F39, resultD, resDs, resD, List.getD_cons_zero, List.getD_cons_succ, zd, rowsOf, partD, List.getElem?_cons_zero, List.getElem?_cons_succ, if_true, if_false, Bool.false_eq_true, List.take, List.drop, zm] <;> exact rfl, ?_⟩
  rw [decide_eq_true heq]
  simp [leave, LP, snapR, snapV, snap, D.freeR, D.freeV, D.free]

end Go.Proofs.YtabgobmeibjeeaaGreatDoor

namespace Go.Proofs.YtabgobmeibjeeaaGreatDoor
set_option linter.unusedSimpArgs false
set_option linter.unusedVariables false
set_option maxRecDepth 10000
set_option maxHeartbeats 4000000

theorem Merge_good {d : Nat} (S : St) {x : D} {ks : List Ke} (hX : SlD 14 (keRows ks) x) (hne : 0 < ks.length) (h8 : ks.length ≤ 8) (hg : ∀ k ∈ ks, GK k) {z : D} {rows : List (List D)} {ms : List (List RecT)} (hd : 21 + ms.flatten.length ≤ d) (hZ : SlD 1 rows z) (hL : ListsR ms rows) (hl : ms.length ≤ 1000000) (ht : tot ms ≤ 65536) (hI : ∀ m ∈ ms, IsS (cK ks) m (srt ks m)) (hgood : ∀ m ∈ ms, m = srt ks m) : runF LP NN d 21 [x, .int .i64 6, z] S = some (.tup [.sl 1 (rR (srt ks ms.flatten)) (some ms.flatten.length), .int .i64 0], S, false) := by
 refine run_pure (F := F21) rfl (by simp only [LP, fnOf, snapVs, snaps, zs, Bool.false_eq_true, if_false, Option.map_some, List.map_cons, List.map_nil, hX.snapV, hX.freeV, hZ.snapV, hZ.freeV] <;> exact rfl) rfl (by simp only [LP, zf, List.all_cons, List.all_nil, Bool.and_true, Bool.true_and, hX.snapV, hX.freeV, hZ.snapV, hZ.freeV]; try rfl) (by simp only [F21, zv] <;> exact rfl) (by omega) ?_
 rintro d rfl
 refine cw_seq (cw_region ?_)
 refine ow_op (by simp only [zl, zm, zc, hX.isCell, hX.val, hX.cells, hZ.len, hL.1] <;> exact rfl) ?_
 refine ow_mc ?_
 refine ow_mc ?_
 refine ow_nil ?_
 refine sk_n (by simp only [ze] <;> exact rfl) ?_
 refine cw_seq (cw_seq (cw_region ?_))
 refine ow_op (by simp only [zl, zm, zd, partD, List.take, List.drop, hX.isCell, hX.val, hX.cells, hZ.len, hL.1] <;> exact rfl) ?_
 refine ow_me rfl ?_
 refine ow_me rfl ?_
 refine ow_op (by simp only [zo, hX.isCell, hX.val, hX.cells, hZ.len, hL.1]; exact all_run (by omega) _ hX hne h8 hg hZ hL.of hl ht) ?_
 refine ow_ml rfl ?_
 refine ow_nil ?_
 refine sk_n (by simp only [ze] <;> exact rfl) ?_
 refine cw_seq (cw_region ?_)
 refine ow_me rfl ?_
 refine ow_op (by simp only [zo, binD, zb, Int.reduceEq, Int.reduceToNat, Int.reduceLT, hX.isCell, hX.val, hX.cells, hZ.len, hL.1] <;> exact rfl) ?_
 refine ow_nil ?_
 refine sk_n (by simp only [ze] <;> exact rfl) ?_
 skip
 refine cw_false (by simp only [opd, zv, hX.isCell, hX.val, hX.cells, hZ.len, hL.1] <;> rfl) ?_
 refine cw_skip (sk_n rfl (cw_seq (cw_seq (cw_region ?_))))
 refine ow_me rfl ?_
 refine ow_op (by simp only [zo, lenD_str, lenD_nils, lenD_sl, lenD_msl, hX.isCell, hX.val, hX.cells, hZ.len, hL.1] <;> exact rfl) ?_
 refine ow_mc ?_
 refine ow_nil ?_
 refine sk_n (by simp only [ze] <;> exact rfl) ?_
 refine cw_block ?_
 refine cw_loop (fun rr env S' => ∃ (i : Nat) (u7 u8 u12 u13 : D), i ≤ ms.length ∧ rr = ms.length - i ∧ (∀ m ∈ ms.take i, m = srt ks m) ∧ S' = ⟨[⟨26, 1, [[x]], 0, 0, false⟩], 0⟩ ∧ env = [x, .int .i64 6, z, .ptr 0 0 0 0, .nils, .int .i64 0, .int .i64 0, u7, u8, z, .int .i64 (ms.length : Nat), .int .i64 (i : Nat), u12, u13]) (ms.length) (by omega) (⟨0, _, _, _, _, by omega, by omega, by simp, rfl, rfl⟩) ?_
 rintro rr env S' ⟨i, u7, u8, u12, u13, hi, rfl, hall, rfl, rfl⟩
 refine cw_seq (cw_region ?_)
 refine ow_op (by simp only [zo, binD, zb, Int.reduceEq, Int.reduceToNat, Int.reduceLT, hX.isCell, hX.val, hX.cells, hZ.len, hL.1] <;> exact rfl) ?_
 refine ow_nil ?_
 refine sk_n (by simp only [ze] <;> exact rfl) ?_
 refine cw_seq ?_
 refine cw_cond (by simp only [opd, zv, hX.isCell, hX.val, hX.cells, hZ.len, hL.1] <;> exact rfl) (fun hcA => ?_) (fun hcA => ?_)
 ·
  have hlt : i < ms.length := by have := of_decide_eq_true hcA; omega
  obtain ⟨m, hm⟩ : ∃ m, ms[i]? = some m := ⟨_, List.getElem?_eq_getElem hlt⟩
  obtain ⟨y, hy, hyS⟩ := hL.2 i m hm
  have hia := fun (S : St) => hZ.iaddrN S .i64 hy
  have wi := wrap_nat i (by omega)
  have hmm := List.mem_of_getElem? hm
  have hmt := mem_tot hm
  have hs := hgood m hmm
  have hsd : decide (m = srt ks m) = true := decide_eq_true hs
  refine cw_skip (sk_n rfl (cw_seq (cw_block (cw_seq (cw_region ?_)))))
  refine ow_op (by simp only [zl, zm, iaddrD_sl, iaddrD_msl, Int.toNat_natCast, Int.toNat_zero, List.getElem?_map, Option.map_some, Int.le_refl, hX.isCell, hX.val, hX.cells, hZ.len, hL.1, hia, wi, hsd] <;> exact rfl) ?_
  refine ow_op (by simp only [zl, zm, zd, partD, List.take, List.drop, hX.isCell, hX.val, hX.cells, hZ.len, hL.1, hia, wi, hsd] <;> exact rfl) ?_
  refine ow_ml rfl ?_
  refine ow_nil ?_
  refine sk_n (by simp only [ze] <;> exact rfl) ?_
  refine cw_seq (cw_region ?_)
  refine ow_me rfl ?_
  refine ow_op (by simp only [zo, hX.isCell, hX.val, hX.cells, hZ.len, hL.1, hia, wi, hsd] <;> exact rfl) ?_
  refine ow_op (by simp only [zo, hX.isCell, hX.val, hX.cells, hZ.len, hL.1, hia, wi, hsd]; exact isSorted_run (d := d) (by omega) _ (gk := 0) hX h8 hg rfl hyS (by omega) (hI m hmm)) ?_
  refine ow_op (by simp only [zo, unD, hX.isCell, hX.val, hX.cells, hZ.len, hL.1, hia, wi, hsd] <;> exact rfl) ?_
  refine ow_nil ?_
  refine sk_n (by simp only [ze] <;> exact rfl) ?_
  skip
  refine cw_false (by simp only [opd, zv, hX.isCell, hX.val, hX.cells, hZ.len, hL.1, hia, wi, hsd] <;> rfl) ?_
  refine cw_skip (bk_n (sk_n rfl (cw_region ?_)))
  refine ow_op (by simp only [zo, binD, zb, Int.reduceEq, Int.reduceToNat, Int.reduceLT, hX.isCell, hX.val, hX.cells, hZ.len, hL.1, hia, wi, hsd] <;> exact rfl) ?_
  refine ow_ml rfl ?_
  refine ow_nil ?_
  refine lk_n (by simp only [ze] <;> exact rfl) ?_
  exact ⟨ms.length - (i + 1), by omega, i + 1, _, _, _, _, by omega, rfl, by rw [List.take_add_one, hm]; intro q hq; rcases List.mem_append.1 hq with h | h; exact hall q h; (simp at h; subst h; exact hs), rfl, rfl⟩
 ·
  obtain rfl : i = ms.length := by have := of_decide_eq_false hcA; omega
  rw [List.take_length] at hall
  refine cw_exit (sk_e (lk_e (bk_e (sk_n rfl (cw_seq ?_)))))
  refine cw_drawn (by simp only [newsVals, zw, Nat.reduceAdd] <;> exact rfl) (by simp only [zw, newsObj, St.eta] <;> exact rfl) ?_
  refine dw_op (by simp only [zl, zm, zd, partD, List.take, List.drop, hX.isCell, hX.val, hX.cells, hZ.len, hL.1] <;> exact rfl) (by simp only [fpHere, zo, zq, hX.plainV, hZ.plainV] <;> exact rfl) rfl ?_
  refine dw_me rfl rfl ?_
  refine dw_op (by simp only [zo, hX.isCell, hX.val, hX.cells, hZ.len, hL.1]; exact concat_run (by omega) _ hZ hL hl ht) (by simp only [fpHere, zo, zq, hX.plainV, hZ.plainV] <;> exact rfl) rfl ?_
  refine dw_op (by simp only [zo, hX.isCell, hX.val, hX.cells, hZ.len, hL.1]; exact sortedF_run _ ms.flatten (by omega) hX (appY_S _ _) (.rR _) h8 hg (by rw [← tot_flat]; omega)) (by simp only [fpHere, zo, zq, hX.plainV, hZ.plainV] <;> exact rfl) rfl ?_
  refine dw_ml rfl rfl ?_
  refine dw_mc rfl ?_
  refine dw_nil ?_
  refine sk_n (by simp only [ze] <;> exact rfl) ?_
  refine cw_ret ?_
  refine ⟨_, by simp only [F21, resultD, resDs, resD, List.getD_cons_zero, List.getD_cons_succ, zd, rowsOf, partD, List.getElem?_cons_zero, List.getElem?_cons_succ, if_true, if_false, Bool.false_eq_true, List.take, List.drop, zm] <;> exact rfl, ?_⟩
  simp only [leaveP, leave, snapVs, snaps, zs, zf, zk]

theorem Merge_bad {d : Nat} (S : St) {x : D} {ks : List Ke} (hX : SlD 14 (keRows ks) x) (hne : 0 < ks.length) (h8 : ks.length ≤ 8) (hg : ∀ k ∈ ks, GK k) {z : D} {rows : List (List D)} {ms : List (List RecT)} (hd : 21 + ms.flatten.length ≤ d) (hZ : SlD 1 rows z) (hL : ListsR ms rows) (hl : ms.length ≤ 1000000) (ht : tot ms ≤ 65536) (hI : ∀ m ∈ ms, IsS (cK ks) m (srt ks m)) (hbad : ¬ ∀ m ∈ ms, m = srt ks m) : runF LP NN d 21 [x, .int .i64 6, z] S = some (.tup [.nils, .int .i64 6], S, false) := by
 refine run_pure (F := F21) rfl (by simp only [LP, fnOf, snapVs, snaps, zs, Bool.false_eq_true, if_false, Option.map_some, List.map_cons, List.map_nil, hX.snapV, hX.freeV, hZ.snapV, hZ.freeV] <;> exact rfl) rfl (by simp only [LP, zf, List.all_cons, List.all_nil, Bool.and_true, Bool.true_and, hX.snapV, hX.freeV, hZ.snapV, hZ.freeV]; try rfl) (by simp only [F21, zv] <;> exact rfl) (by omega) ?_
 rintro d rfl
 refine cw_seq (cw_region ?_)
 refine ow_op (by simp only [zl, zm, zc, hX.isCell, hX.val, hX.cells, hZ.len, hL.1] <;> exact rfl) ?_
 refine ow_mc ?_
 refine ow_mc ?_
 refine ow_nil ?_
 refine sk_n (by simp only [ze] <;> exact rfl) ?_
 refine cw_seq (cw_seq (cw_region ?_))
 refine ow_op (by simp only [zl, zm, zd, partD, List.take, List.drop, hX.isCell, hX.val, hX.cells, hZ.len, hL.1] <;> exact rfl) ?_
 refine ow_me rfl ?_
 refine ow_me rfl ?_
 refine ow_op (by simp only [zo, hX.isCell, hX.val, hX.cells, hZ.len, hL.1]; exact all_run (by omega) _ hX hne h8 hg hZ hL.of hl ht) ?_
 refine ow_ml rfl ?_
 refine ow_nil ?_
 refine sk_n (by simp only [ze] <;> exact rfl) ?_
 refine cw_seq (cw_region ?_)
 refine ow_me rfl ?_
 refine ow_op (by simp only [zo, binD, zb, Int.reduceEq, Int.reduceToNat, Int.reduceLT, hX.isCell, hX.val, hX.cells, hZ.len, hL.1] <;> exact rfl) ?_
 refine ow_nil ?_
 refine sk_n (by simp only [ze] <;> exact rfl) ?_
 skip
 refine cw_false (by simp only [opd, zv, hX.isCell, hX.val, hX.cells, hZ.len, hL.1] <;> rfl) ?_
 refine cw_skip (sk_n rfl (cw_seq (cw_seq (cw_region ?_))))
 refine ow_me rfl ?_
 refine ow_op (by simp only [zo, lenD_str, lenD_nils, lenD_sl, lenD_msl, hX.isCell, hX.val, hX.cells, hZ.len, hL.1] <;> exact rfl) ?_
 refine ow_mc ?_
 refine ow_nil ?_
 refine sk_n (by simp only [ze] <;> exact rfl) ?_
 refine cw_block ?_
 refine cw_loop (fun rr env S' => ∃ (i : Nat) (u7 u8 u12 u13 : D), i ≤ ms.length ∧ rr = ms.length - i ∧ (∀ m ∈ ms.take i, m = srt ks m) ∧ S' = ⟨[⟨26, 1, [[x]], 0, 0, false⟩], 0⟩ ∧ env = [x, .int .i64 6, z, .ptr 0 0 0 0, .nils, .int .i64 0, .int .i64 0, u7, u8, z, .int .i64 (ms.length : Nat), .int .i64 (i : Nat), u12, u13]) (ms.length) (by omega) (⟨0, _, _, _, _, by omega, by omega, by simp, rfl, rfl⟩) ?_
 rintro rr env S' ⟨i, u7, u8, u12, u13, hi, rfl, hall, rfl, rfl⟩
 refine cw_seq (cw_region ?_)
 refine ow_op (by simp only [zo, binD, zb, Int.reduceEq, Int.reduceToNat, Int.reduceLT, hX.isCell, hX.val, hX.cells, hZ.len, hL.1] <;> exact rfl) ?_
 refine ow_nil ?_
 refine sk_n (by simp only [ze] <;> exact rfl) ?_
 refine cw_seq ?_
 refine cw_cond (by simp only [opd, zv, hX.isCell, hX.val, hX.cells, hZ.len, hL.1] <;> exact rfl) (fun hcA => ?_) (fun hcA => ?_)
 ·
  have hlt : i < ms.length := by have := of_decide_eq_true hcA; omega
  obtain ⟨m, hm⟩ : ∃ m, ms[i]? = some m := ⟨_, List.getElem?_eq_getElem hlt⟩
  obtain ⟨y, hy, hyS⟩ := hL.2 i m hm
  have hia := fun (S : St) => hZ.iaddrN S .i64 hy
  have wi := wrap_nat i (by omega)
  have hmm := List.mem_of_getElem? hm
  have hmt := mem_tot hm
  refine cw_skip (sk_n rfl (cw_seq (cw_block (cw_seq (cw_region ?_)))))
  refine ow_op (by simp only [zl, zm, iaddrD_sl, iaddrD_msl, Int.toNat_natCast, Int.toNat_zero, List.getElem?_map, Option.map_some, Int.le_refl, hX.isCell, hX.val, hX.cells, hZ.len, hL.1, hia, wi] <;> exact rfl) ?_
  refine ow_op (by simp only [zl, zm, zd, partD, List.take, List.drop, hX.isCell, hX.val, hX.cells, hZ.len, hL.1, hia, wi] <;> exact rfl) ?_
  refine ow_ml rfl ?_
  refine ow_nil ?_
  refine sk_n (by simp only [ze] <;> exact rfl) ?_
  refine cw_seq (cw_region ?_)
  refine ow_me rfl ?_
  refine ow_op (by simp only [zo, hX.isCell, hX.val, hX.cells, hZ.len, hL.1, hia, wi] <;> exact rfl) ?_
  refine ow_op (by simp only [zo, hX.isCell, hX.val, hX.cells, hZ.len, hL.1, hia, wi]; exact isSorted_run (d := d) (by omega) _ (gk := 0) hX h8 hg rfl hyS (by omega) (hI m hmm)) ?_
  refine ow_op (by simp only [zo, unD, hX.isCell, hX.val, hX.cells, hZ.len, hL.1, hia, wi] <;> exact rfl) ?_
  refine ow_nil ?_
  refine sk_n (by simp only [ze] <;> exact rfl) ?_
  refine cw_cond (by simp only [opd, zv, hX.isCell, hX.val, hX.cells, hZ.len, hL.1, hia, wi] <;> exact rfl) (fun hcAT => ?_) (fun hcAT => ?_)
  ·
   refine cw_seq (cw_region ?_)
   refine ow_mc ?_
   refine ow_mc ?_
   refine ow_nil ?_
   refine sk_n (by simp only [ze] <;> exact rfl) ?_
   refine cw_ret (bk_r (sk_r (lk_r (bk_r (sk_r ?_)))))
   refine ⟨_, by simp only [F21, resultD, resDs, resD, List.getD_cons_zero, List.getD_cons_succ, zd, rowsOf, partD, List.getElem?_cons_zero, List.getElem?_cons_succ, if_true, if_false, Bool.false_eq_true, List.take, List.drop, zm] <;> exact rfl, ?_⟩
   simp only [leaveP, leave, snapVs, snaps, zs, zf, zk]
  ·
   have hs : m = srt ks m := by have := hcAT; simp only [Bool.not_eq_false', decide_eq_true_eq] at this; exact this
   refine cw_skip (bk_n (sk_n rfl (cw_region ?_)))
   refine ow_op (by simp only [zo, binD, zb, Int.reduceEq, Int.reduceToNat, Int.reduceLT, hX.isCell, hX.val, hX.cells, hZ.len, hL.1, hia, wi] <;> exact rfl) ?_
   refine ow_ml rfl ?_
   refine ow_nil ?_
   refine lk_n (by simp only [ze] <;> exact rfl) ?_
   exact ⟨ms.length - (i + 1), by omega, i + 1, _, _, _, _, by omega, rfl, by rw [List.take_add_one, hm]; intro q hq; rcases List.mem_append.1 hq with h | h; exact hall q h; (simp at h; subst h; exact hs), rfl, rfl⟩
 ·
  obtain rfl : i = ms.length := by have := of_decide_eq_false hcA; omega
  rw [List.take_length] at hall
  exact absurd hall hbad
end Go.Proofs.YtabgobmeibjeeaaGreatDoor

namespace Go.Proofs.YtabgobmeibjeeaaGreatDoor
set_option linter.unusedVariables false
set_option linter.unusedSimpArgs false

/-- some rows, or none, are appended -/
theorem AppAt.app0 {e : TypeId} {sz : Nat} {rows : List (List D)} {H : List AObj} {x : D} (h : AppAt e sz rows H x) (bytes : Nat) {new : List (List D)} {y : D} (hy : SlD sz new y) (hb : (rows.length + new.length) * bytes ≤ 140737488355328) :
    ∃ x' H' wr, (∀ c : CallF, exOp c (.append e sz bytes 1) [x, y] ⟨H, 0⟩ = some (x', ⟨H', 0⟩, wr)) ∧ AppAt e sz (rows ++ new) H' x' ∧ H.length ≤ H'.length ∧ ∀ (g : Nat) (o : AObj), H[g]? = some o → (o.kind = 0 ∨ o.elem ≠ e) → H'[g]? = some o := by
  rcases h with ⟨rfl, rfl⟩ | ⟨h0, g, v, rfl, h2⟩
  · by_cases hn : new = []
    · subst hn
      exact ⟨.nils, H, false, fun c => by simp [exOp, aop, LOp.loud, lop, appendD, hy.read, appendRows], .inl ⟨rfl, rfl⟩, Nat.le_refl _, fun g o ho _ => ho⟩
    · have hn' : new.isEmpty = false := by cases new <;> simp at hn ⊢
      simp only [List.length_nil, Nat.zero_add] at hb
      refine ⟨.msl H.length 0 0 new.length none, H ++ [⟨e, sz, new, 0, 1, true⟩], true, fun c => ?_, .inr ⟨by simpa using hn, H.length, 0, by simp, by simp⟩, by simp, fun g o ho _ => get_app ho _⟩
      simp [exOp, aop, LOp.loud, lop, appendD, hy.read, appendRows, hn', hb, newAt]
  · have hne : rows ++ new ≠ [] := by cases rows <;> simp at h0 ⊢
    refine ⟨.msl g (v + 1) 0 (rows.length + new.length) none, H.set g ⟨e, sz, rows ++ new, v + 1, 1, true⟩, true, fun c => ?_, .inr ⟨hne, g, v + 1, by simp, get_set_self h2 _⟩, by simp, fun g' o ho hk => ?_⟩
    · simp [exOp, aop, LOp.loud, lop, appendD, hy.read, appendRows, rowsOf, h2, hb, setAt]
    · refine get_set_ne ho (fun hgg => ?_) _
      subst hgg
      rw [h2] at ho
      simp only [Option.some.injEq] at ho
      subst ho
      rcases hk with h | h
      · simp at h
      · exact h rfl
/-- lists of records as rows -/
def lRows (ms : List (List RecT)) : List (List D) := ms.map fun m => [appY 1 (rR m)]
theorem lRows_len (ms : List (List RecT)) : (lRows ms).length = ms.length := by simp [lRows]
theorem lRows_snoc (ms : List (List RecT)) (m : List RecT) : lRows ms ++ [[appY 1 (rR m)]] = lRows (ms ++ [m]) := by simp [lRows]
theorem lRows_R (ms : List (List RecT)) : ListsR ms (lRows ms) := ⟨lRows_len ms, fun i m h => ⟨appY 1 (rR m), by simp [lRows, h], appY_S _ _⟩⟩
/-- are all lists in order? -/
noncomputable def gd (ks : List Ke) (ms : List (List RecT)) : Bool := ms.all fun m => decide (m = srt ks m)
theorem gd_snoc (ks : List Ke) (ms : List (List RecT)) (m : List RecT) : gd ks (ms ++ [m]) = (gd ks ms && decide (m = srt ks m)) := by simp [gd]
theorem gd_true {ks : List Ke} {ms : List (List RecT)} : gd ks ms = true ↔ ∀ m ∈ ms, m = srt ks m := by simp [gd]
theorem gd_false {ks : List Ke} {ms : List (List RecT)} (h : gd ks ms = false) : ¬ ∀ m ∈ ms, m = srt ks m := fun hh => by rw [gd_true.2 hh] at h; simp at h
/-- lists of numbers, as rows -/
def NumsOf (ll : List (List Nat)) (rows : List (List D)) : Prop := rows.length = ll.length ∧ ∀ (i : Nat) (l : List Nat), ll[i]? = some l → ∃ y : D, rows[i]? = some [y] ∧ SlD 1 (numRows l) y
/-- a list of the law -/
noncomputable def mL (ks : List Ke) (mix : Bool) (l : List Nat) : List RecT := if mix then l.map recOf else srt ks (l.map recOf)
end Go.Proofs.YtabgobmeibjeeaaGreatDoor

namespace Go.Proofs.YtabgobmeibjeeaaGreatDoor
set_option linter.unusedSimpArgs false
set_option linter.unusedVariables false
set_option maxRecDepth 10000
set_option maxHeartbeats 4000000

theorem flat_bound {ms : List (List RecT)} {b : Nat} (h : ∀ m ∈ ms, m.length ≤ b) : ms.flatten.length ≤ ms.length * b := by
 induction ms with
 | nil => simp
 | cons m ms ih =>
  have h1 := h m List.mem_cons_self
  have h2 := ih (fun q hq => h q (List.mem_cons_of_mem _ hq))
  simp only [List.flatten_cons, List.length_append, List.length_cons, Nat.succ_mul]
  omega

theorem lawMerge_true {d : Nat} (hd : 200 ≤ d) (S : St) {x y : D} {k : List (Nat × Nat × Nat)} (hS : SlD 3 (triRows k) x) (hbd : ∀ t ∈ k, t.1 < 256 ∧ t.2.1 < 256 ∧ t.2.2 < 256) (hll : k.length ≤ 9223372036854775807) {ll : List (List Nat)} {rows : List (List D)} (hY : SlD 1 rows y) (hN : NumsOf ll rows) (hb : ∀ l ∈ ll, ∀ n ∈ l, n < 4294967296) (hl0 : ll.length ≤ 9223372036854775807) : runF LP NN d 6 [x, y, .bool true] S = some (.bool true, S, false) := by
 refine run_pure (F := F6) rfl (by simp only [LP, fnOf, snapVs, snaps, zs, Bool.false_eq_true, if_false, Option.map_some, List.map_cons, List.map_nil, hS.snapV, hS.freeV, hY.snapV, hY.freeV] <;> exact rfl) rfl (by simp only [LP, zf, List.all_cons, List.all_nil, Bool.and_true, Bool.true_and, hS.snapV, hS.freeV, hY.snapV, hY.freeV]; try rfl) (by simp only [F6, zv] <;> exact rfl) (by omega) ?_
 rintro d rfl
 refine cw_seq (cw_region ?_)
 refine ow_mc ?_
 refine ow_nil ?_
 refine sk_n (by simp only [ze] <;> exact rfl) ?_
 refine cw_seq (cw_seq (cw_region ?_))
 refine ow_me rfl ?_
 refine ow_op (by simp only [zo, lenD_str, lenD_nils, lenD_sl, lenD_msl, hY.len, hN.1] <;> exact rfl) ?_
 refine ow_op (by simp only [zo, binD, zb, Int.reduceEq, Int.reduceToNat, Int.reduceLT, hY.len, hN.1] <;> exact rfl) ?_
 refine ow_nil ?_
 refine sk_n (by simp only [ze] <;> exact rfl) ?_
 refine cw_cond (by simp only [opd, zv, hY.len, hN.1] <;> exact rfl) (fun hc => ?_) (fun hc => ?_)
 ·
  refine cw_seq (cw_region ?_)
  refine ow_op (by simp only [zo, hY.len, hN.1]; exact livesD (by omega) _) ?_
  refine ow_ml rfl ?_
  refine ow_nil ?_
  refine sk_n (by simp only [ze] <;> exact rfl) ?_
  refine cw_ret (sk_r ?_)
  refine ⟨_, by simp only [F6, resultD, resDs, resD, List.getD_cons_zero, List.getD_cons_succ, zd, rowsOf, partD, List.getElem?_cons_zero, List.getElem?_cons_succ, if_true, if_false, Bool.false_eq_true, List.take, List.drop, zm] <;> exact rfl, ?_⟩
  simp only [leaveP, leave, snapVs, snaps, zs, zf, zk]
 ·
  have h4 : ll.length ≤ 4 := by have := of_decide_eq_false hc; omega
  refine cw_skip (sk_n rfl (cw_seq (cw_region ?_)))
  refine ow_me rfl ?_
  refine ow_op (by simp only [zo, hY.len, hN.1]; exact kOf_run (by omega) _ hS hbd hll) ?_
  refine ow_ml rfl ?_
  refine ow_nil ?_
  refine sk_n (by simp only [ze] <;> exact rfl) ?_
  refine cw_seq (cw_region ?_)
  refine ow_mc ?_
  refine ow_nil ?_
  refine sk_n (by simp only [ze] <;> exact rfl) ?_
  refine cw_seq (cw_region ?_)
  refine ow_mc ?_
  refine ow_nil ?_
  refine sk_n (by simp only [ze] <;> exact rfl) ?_
  refine cw_seq (cw_region ?_)
  refine ow_mc ?_
  refine ow_nil ?_
  refine sk_n (by simp only [ze] <;> exact rfl) ?_
  refine cw_seq (cw_seq (cw_region ?_))
  refine ow_mc ?_
  refine ow_nil ?_
  refine sk_n (by simp only [ze] <;> exact rfl) ?_
  refine cw_block ?_
  refine cw_loop (fun rr env S' => ∃ (i : Nat) (ms : List (List RecT)) (H : List AObj) (lx ax u9 u10 u11 u12 u13 u14 u15 u16 : D), i ≤ ll.length ∧ rr = ll.length - i ∧ ms.length = i ∧ (∀ m ∈ ms, m.length ≤ 20 ∧ IsS (cK (keysF k)) m (srt (keysF k) m)) ∧ AppAt 28 1 (lRows ms) H lx ∧ AppAt 43 1 (rR ms.flatten) H ax ∧ S' = ⟨H, 0⟩ ∧ env = [x, y, .bool true, .bool false, .sl 14 (keRows (keysF k)) none, lx, ax, .bool (gd (keysF k) ms), .int .i64 (i : Nat), u9, u10, u11, u12, u13, u14, u15, u16]) (ll.length) (by omega) (⟨0, [], _, _, _, _, _, _, _, _, _, _, _, by omega, by omega, rfl, by simp, AppAt.nil _ _ _, AppAt.nil _ _ _, rfl, rfl⟩) ?_
  rintro rr env S' ⟨i, ms, H, lx, ax, u9, u10, u11, u12, u13, u14, u15, u16, hi, rfl, hml, hms, hA1, hA2, rfl, rfl⟩
  have hfb := flat_bound (fun m hm => (hms m hm).1)
  rw [hml] at hfb
  refine cw_seq (cw_seq (cw_region ?_))
  refine ow_me rfl ?_
  refine ow_me rfl ?_
  refine ow_op (by simp only [zo, lenD_str, lenD_nils, lenD_sl, lenD_msl, hY.len, hN.1] <;> exact rfl) ?_
  refine ow_op (by simp only [zo, binD, zb, Int.reduceEq, Int.reduceToNat, Int.reduceLT, hY.len, hN.1] <;> exact rfl) ?_
  refine ow_nil ?_
  refine sk_n (by simp only [ze] <;> exact rfl) ?_
  refine cw_cond (by simp only [opd, zv, hY.len, hN.1] <;> exact rfl) (fun hcFA => ?_) (fun hcFA => ?_)
  ·
   have hlt : i < ll.length := by have := of_decide_eq_true hcFA; omega
   have wi := wrap_nat i (by omega)
   obtain ⟨l, hl⟩ : ∃ l, ll[i]? = some l := ⟨_, List.getElem?_eq_getElem hlt⟩
   obtain ⟨yl, hyl, hylS⟩ := hN.2 i l hl
   have hlm := List.mem_of_getElem? hl
   have hia := fun (S : St) => hY.iaddrN S .i64 hyl
   refine cw_skip (sk_n rfl (cw_seq (cw_block (cw_seq (cw_seq (cw_region ?_))))))
   refine ow_me rfl ?_
   refine ow_me rfl ?_
   refine ow_op (by simp only [zl, zm, iaddrD_sl, iaddrD_msl, Int.toNat_natCast, Int.toNat_zero, List.getElem?_map, Option.map_some, Int.le_refl, hY.len, hN.1, hia, wi, hylS.len, numRows_len] <;> exact rfl) ?_
   refine ow_op (by simp only [zl, zm, zd, partD, List.take, List.drop, hY.len, hN.1, hia, wi, hylS.len, numRows_len] <;> exact rfl) ?_
   refine ow_op (by simp only [zo, lenD_str, lenD_nils, lenD_sl, lenD_msl, hY.len, hN.1, hia, wi, hylS.len, numRows_len] <;> exact rfl) ?_
   refine ow_op (by simp only [zo, binD, zb, Int.reduceEq, Int.reduceToNat, Int.reduceLT, hY.len, hN.1, hia, wi, hylS.len, numRows_len] <;> exact rfl) ?_
   refine ow_nil ?_
   refine sk_n (by simp only [ze] <;> exact rfl) ?_
   refine cw_cond (by simp only [opd, zv, hY.len, hN.1, hia, wi, hylS.len, numRows_len] <;> exact rfl) (fun hcFAT => ?_) (fun hcFAT => ?_)
   ·
    refine cw_seq (cw_region ?_)
    refine ow_op (by simp only [zo, hY.len, hN.1, hia, wi, hylS.len, numRows_len]; exact livesD (by omega) _) ?_
    refine ow_ml rfl ?_
    refine ow_nil ?_
    refine sk_n (by simp only [ze] <;> exact rfl) ?_
    refine cw_ret (sk_r (bk_r (sk_r (lk_r (bk_r (sk_r ?_))))))
    refine ⟨_, by simp only [F6, resultD, resDs, resD, List.getD_cons_zero, List.getD_cons_succ, zd, rowsOf, partD, List.getElem?_cons_zero, List.getElem?_cons_succ, if_true, if_false, Bool.false_eq_true, List.take, List.drop, zm] <;> exact rfl, ?_⟩
    simp only [leaveP, leave, snapVs, snaps, zs, zf, zk]
   ·
    have h20 : l.length ≤ 20 := by have := of_decide_eq_false hcFAT; omega
    have hrI := srt_ok k (l.map recOf) (by rw [List.length_map]; omega)
    have hrl : (srt (keysF k) (l.map recOf)).length = l.length := by rw [hrI.1.1, List.length_map]
    have hm20 : (l.map recOf).length ≤ 20 := by first | (rw [hrl]; exact h20) | (rw [List.length_map]; exact h20)
    have hmI : IsS (cK (keysF k)) (l.map recOf) (srt (keysF k) (l.map recOf)) := srt_ok k _ (by omega)
    obtain ⟨lx', H1, hap1, hA1', hlen1, hkeep1⟩ := hA1.app 24 (new := [[appY 1 (rR (l.map recOf))]]) (c := some 1) rfl (by rw [lRows_len]; simp; omega)
    rw [lRows_snoc] at hA1'
    have hA2' := hA2.keep (fun g o ho h1 h2 => hkeep1 g o ho (.inr (by rw [h2]; decide)))
    obtain ⟨ax', H2, wr2, hap2, hB2, hlen2, hkeep2⟩ := hA2'.app0 24 (appY_S 1 (rR (l.map recOf))) (by rw [rR_len, rR_len]; omega)
    have hB1 := hA1'.keep (fun g o ho h1 h2 => hkeep2 g o ho (.inr (by rw [h2]; decide)))
    rw [show rR ms.flatten ++ rR (l.map recOf) = rR (ms.flatten ++ (l.map recOf)) by simp [rR]] at hB2
    have hyS := appY_S 1 (rR (l.map recOf))
    refine cw_skip (sk_n rfl (cw_seq (cw_region ?_)))
    refine ow_me rfl ?_
    refine ow_me rfl ?_
    refine ow_op (by simp only [zl, zm, iaddrD_sl, iaddrD_msl, Int.toNat_natCast, Int.toNat_zero, List.getElem?_map, Option.map_some, Int.le_refl, hY.len, hN.1, hia, wi, hylS.len, numRows_len, hyS.snapV, hyS.isCell, hyS.val, hyS.cells, hyS.free] <;> exact rfl) ?_
    refine ow_op (by simp only [zl, zm, zd, partD, List.take, List.drop, hY.len, hN.1, hia, wi, hylS.len, numRows_len, hyS.snapV, hyS.isCell, hyS.val, hyS.cells, hyS.free] <;> exact rfl) ?_
    refine ow_op (by simp only [zo, hY.len, hN.1, hia, wi, hylS.len, numRows_len, hyS.snapV, hyS.isCell, hyS.val, hyS.cells, hyS.free]; exact records_run (by omega) _ hylS (hb l hlm) (by omega)) ?_
    refine ow_ml rfl ?_
    refine ow_nil ?_
    refine sk_n (by simp only [ze] <;> exact rfl) ?_
    refine cw_seq (cw_seq (cw_region ?_))
    refine ow_me rfl ?_
    refine ow_op (by simp only [zo, unD, hY.len, hN.1, hia, wi, hylS.len, numRows_len, hyS.snapV, hyS.isCell, hyS.val, hyS.cells, hyS.free] <;> exact rfl) ?_
    refine ow_nil ?_
    refine sk_n (by simp only [ze] <;> exact rfl) ?_
    skip
    refine cw_false (by simp only [opd, zv, hY.len, hN.1, hia, wi, hylS.len, numRows_len, hyS.snapV, hyS.isCell, hyS.val, hyS.cells, hyS.free] <;> rfl) ?_
    refine cw_skip (sk_n rfl (cw_seq (cw_region ?_)))
    refine ow_me rfl ?_
    refine ow_ml rfl ?_
    refine ow_split 0 (by simp only [opd, zv] <;> exact rfl) (by simp only [zn] <;> exact rfl) (by simp only [zn] <;> exact rfl) (fun hgFATF => ?_) (fun hgFATF => ?_)
    ·
     refine ow_on (by simp only [opd, zv]) ?_
     refine ow_me rfl ?_
     refine ow_on (by simp only [opd, zv]) ?_
     refine ow_me rfl ?_
     refine ow_on (by simp only [opd, zv]) ?_
     refine ow_me rfl ?_
     refine ow_on (by simp only [opd, zv]) ?_
     first
      | refine ow_op (by simp only [zo, hY.len, hN.1, hia, wi, hylS.len, numRows_len, hyS.snapV, hyS.isCell, hyS.val, hyS.cells, hyS.free]; exact inserted_run (by omega) _ (.of _ _ _) (by have := (keysF_len k).2; omega) (keysF_gk k) (appY_S _ (rR (l.map recOf))) (by rw [List.length_map]; omega)) ?_
      | refine ow_op (by simp only [zo, hY.len, hN.1, hia, wi, hylS.len, numRows_len, hyS.snapV, hyS.isCell, hyS.val, hyS.cells, hyS.free]; exact inserted_run (by omega) _ (.of _ _ _) (by have := (keysF_len k).2; omega) (keysF_gk k) (appY_S _ (rR (l.map recOf))) (by omega)) ?_
     refine ow_on (by simp only [opd, zv]) ?_
     first
      | refine ow_op (by simp only [zo, hY.len, hN.1, hia, wi, hylS.len, numRows_len, hyS.snapV, hyS.isCell, hyS.val, hyS.cells, hyS.free]; exact same_run (by omega) _ (appY_S _ _) (appY_S _ _) (.rR _) (.rR _) (by omega) (by first | omega | (rw [hmI.1.1]; omega))) ?_
      | refine ow_op (by simp only [zo, hY.len, hN.1, hia, wi, hylS.len, numRows_len, hyS.snapV, hyS.isCell, hyS.val, hyS.cells, hyS.free]; exact same_run (by omega) _ (.of _ _ _) (appY_S _ _) (.rR _) (.rR _) (by omega) (by omega)) ?_
     refine ow_op (by simp only [zo, hY.len, hN.1, hia, wi, hylS.len, numRows_len, hyS.snapV, hyS.isCell, hyS.val, hyS.cells, hyS.free] <;> exact rfl) ?_
     refine ow_ml rfl ?_
     refine ow_nil ?_
     refine sk_n (by simp only [ze] <;> exact rfl) ?_
     refine cw_seq (cw_region ?_)
     refine ow_me rfl ?_
     refine ow_me rfl ?_
     refine ow_op (by simp only [zl, zm, fillRows, List.replicate, snapVs, snaps, zs, zc, zf, hY.len, hN.1, hia, wi, hylS.len, numRows_len, hyS.snapV, hyS.isCell, hyS.val, hyS.cells, hyS.free] <;> exact rfl) ?_
     refine ow_op (by simp only [opd, zv, exOp, aop, LOp.loud, lop, if_true]; exact hap1) ?_
     refine ow_ml rfl ?_
     refine ow_nil ?_
     refine sk_n (by simp only [ze] <;> exact rfl) ?_
     refine cw_region ?_
     refine ow_me rfl ?_
     refine ow_me rfl ?_
     refine ow_op (by simp only [opd, zv]; exact hap2 _) ?_
     refine ow_ml rfl ?_
     refine ow_nil (bk_n ?_)
     refine sk_n (by simp only [ze] <;> exact rfl) ?_
     refine cw_region ?_
     refine ow_me rfl ?_
     refine ow_op (by simp only [zo, binD, zb, Int.reduceEq, Int.reduceToNat, Int.reduceLT, hY.len, hN.1, hia, wi, hylS.len, numRows_len, hyS.snapV, hyS.isCell, hyS.val, hyS.cells, hyS.free] <;> exact rfl) ?_
     refine ow_ml rfl ?_
     refine ow_nil ?_
     refine lk_n (by simp only [ze] <;> exact rfl) ?_
     exact ⟨ll.length - (i + 1), by omega, i + 1, ms ++ [(l.map recOf)], _, _, _, _, _, _, _, _, _, _, _, by omega, rfl, by simp [hml], by intro q hq; rcases List.mem_append.1 hq with h | h; exact hms q h; (simp only [List.mem_singleton] at h; subst h; exact ⟨hm20, hmI⟩), hB1, by rw [List.flatten_append]; simpa using hB2, rfl, by rw [gd_snoc, hgFATF, Bool.true_and]⟩
    ·
     refine ow_off (b' := false) (by simp only [opd, zv]) rfl ?_
     refine ow_off (b' := false) (by simp only [opd, zv]) rfl ?_
     refine ow_off (b' := false) (by simp only [opd, zv]) rfl ?_
     refine ow_off (b' := false) (by simp only [opd, zv]) rfl ?_
     refine ow_off (b' := false) (by simp only [opd, zv]) rfl ?_
     refine ow_op (by simp only [zo, hY.len, hN.1, hia, wi, hylS.len, numRows_len, hyS.snapV, hyS.isCell, hyS.val, hyS.cells, hyS.free] <;> exact rfl) ?_
     refine ow_ml rfl ?_
     refine ow_nil ?_
     refine sk_n (by simp only [ze] <;> exact rfl) ?_
     refine cw_seq (cw_region ?_)
     refine ow_me rfl ?_
     refine ow_me rfl ?_
     refine ow_op (by simp only [zl, zm, fillRows, List.replicate, snapVs, snaps, zs, zc, zf, hY.len, hN.1, hia, wi, hylS.len, numRows_len, hyS.snapV, hyS.isCell, hyS.val, hyS.cells, hyS.free] <;> exact rfl) ?_
     refine ow_op (by simp only [opd, zv, exOp, aop, LOp.loud, lop, if_true]; exact hap1) ?_
     refine ow_ml rfl ?_
     refine ow_nil ?_
     refine sk_n (by simp only [ze] <;> exact rfl) ?_
     refine cw_region ?_
     refine ow_me rfl ?_
     refine ow_me rfl ?_
     refine ow_op (by simp only [opd, zv]; exact hap2 _) ?_
     refine ow_ml rfl ?_
     refine ow_nil (bk_n ?_)
     refine sk_n (by simp only [ze] <;> exact rfl) ?_
     refine cw_region ?_
     refine ow_me rfl ?_
     refine ow_op (by simp only [zo, binD, zb, Int.reduceEq, Int.reduceToNat, Int.reduceLT, hY.len, hN.1, hia, wi, hylS.len, numRows_len, hyS.snapV, hyS.isCell, hyS.val, hyS.cells, hyS.free] <;> exact rfl) ?_
     refine ow_ml rfl ?_
     refine ow_nil ?_
     refine lk_n (by simp only [ze] <;> exact rfl) ?_
     exact ⟨ll.length - (i + 1), by omega, i + 1, ms ++ [(l.map recOf)], _, _, _, _, _, _, _, _, _, _, _, by omega, rfl, by simp [hml], by intro q hq; rcases List.mem_append.1 hq with h | h; exact hms q h; (simp only [List.mem_singleton] at h; subst h; exact ⟨hm20, hmI⟩), hB1, by rw [List.flatten_append]; simpa using hB2, rfl, by rw [gd_snoc, hgFATF, Bool.false_and]⟩
  ·
   obtain rfl : i = ll.length := by have := of_decide_eq_false hcFA; omega
   have htt : tot ms ≤ 80 := by rw [tot_flat]; omega
   have hsn : snapVs H.length H [.sl 14 (keRows (keysF k)) none, .int .i64 6, lx] = some [.sl 14 (keRows (keysF k)) none, .int .i64 6, appY 1 (lRows ms)] := by simp [snapVs, snapV_sl, snapV_int, hA1.snapV]
   have hsn2 : snapVs H.length H [.sl 14 (keRows (keysF k)) none, .int .i64 6, appY 1 (lRows ms)] = some [.sl 14 (keRows (keysF k)) none, .int .i64 6, appY 1 (lRows ms)] := by simp [snapVs, snapV_sl, snapV_int, (appY_S 1 (lRows ms)).snapV]
   have hsa : snapVs H.length H [.sl 14 (keRows (keysF k)) none, ax] = some [.sl 14 (keRows (keysF k)) none, appY 1 (rR ms.flatten)] := by simp [snapVs, snapV_sl, hA2.snapV]
   have hsa2 : snapVs H.length H [.sl 14 (keRows (keysF k)) none, appY 1 (rR ms.flatten)] = some [.sl 14 (keRows (keysF k)) none, appY 1 (rR ms.flatten)] := by simp [snapVs, snapV_sl, (appY_S 1 (rR ms.flatten)).snapV]
   have hIf := srt_ok k ms.flatten (by omega)
   have hfl : (srt (keysF k) ms.flatten).length = ms.flatten.length := hIf.1.1
   obtain ⟨got, e, hM, hge⟩ : ∃ (got : D) (e : Int), runF LP NN d 21 [.sl 14 (keRows (keysF k)) none, .int .i64 6, lx] ⟨H, 0⟩ = some (.tup [got, .int .i64 e], ⟨H, 0⟩, false) ∧ ((gd (keysF k) ms = true ∧ got = .sl 1 (rR (srt (keysF k) ms.flatten)) (some ms.flatten.length) ∧ e = 0) ∨ (gd (keysF k) ms = false ∧ got = .nils ∧ e = 6)) := by
    cases hgd : gd (keysF k) ms with
    | true => exact ⟨_, _, (run_snap rfl hsn hsn2).trans (Merge_good ⟨H, 0⟩ (.of _ _ _) (keysF_len k).1 (by have := (keysF_len k).2; omega) (keysF_gk k) (by omega) (appY_S _ _) (lRows_R ms) (by omega) (by omega) (fun m hm => (hms m hm).2) (gd_true.1 hgd)), .inl ⟨rfl, rfl, rfl⟩⟩
    | false => exact ⟨_, _, (run_snap rfl hsn hsn2).trans (Merge_bad ⟨H, 0⟩ (.of _ _ _) (keysF_len k).1 (by have := (keysF_len k).2; omega) (keysF_gk k) (by omega) (appY_S _ _) (lRows_R ms) (by omega) (by omega) (fun m hm => (hms m hm).2) (gd_false hgd)), .inr ⟨rfl, rfl, rfl⟩⟩
   refine cw_exit (sk_e (lk_e (bk_e (sk_n rfl (cw_seq (cw_region ?_))))))
   refine ow_me rfl ?_
   refine ow_me rfl ?_
   refine ow_op (by simp only [zo, hY.len, hN.1]; exact hM) ?_
   refine ow_ml rfl ?_
   refine ow_op (by simp only [zo, List.getElem?_cons_zero, List.getElem?_cons_succ, hY.len, hN.1] <;> exact rfl) ?_
   refine ow_op (by simp only [zo, List.getElem?_cons_zero, List.getElem?_cons_succ, hY.len, hN.1] <;> exact rfl) ?_
   refine ow_ml rfl ?_
   refine ow_ml rfl ?_
   refine ow_nil ?_
   refine sk_n (by simp only [ze] <;> exact rfl) ?_
   refine cw_seq (cw_seq (cw_region ?_))
   refine ow_me rfl ?_
   refine ow_op (by simp only [zo, unD, hY.len, hN.1] <;> exact rfl) ?_
   refine ow_nil ?_
   refine sk_n (by simp only [ze] <;> exact rfl) ?_
   refine cw_cond (by simp only [opd, zv, hY.len, hN.1] <;> exact rfl) (fun hcFAF => ?_) (fun hcFAF => ?_)
   ·
    obtain ⟨rfl, rfl⟩ : got = .nils ∧ e = 6 := by
     rcases hge with ⟨h1, _⟩ | ⟨_, h2, h3⟩
     ·
      rw [h1] at hcFAF; simp at hcFAF
     ·
      exact ⟨h2, h3⟩
    have e6 : ((6 : Int) == 6) = true := rfl
    have e0 : ((0 : Int) == 0) = true := rfl
    refine cw_seq (cw_region ?_)
    refine ow_me rfl ?_
    refine ow_op (by simp only [zo, binD, zb, Int.reduceEq, Int.reduceToNat, Int.reduceLT, hY.len, hN.1, e6, e0] <;> exact rfl) ?_
    refine ow_ml rfl ?_
    refine ow_know 0 (b := true) (by simp only [opd, zv, hY.len, hN.1, e6, e0] <;> rfl) (by simp only [zn] <;> exact rfl) ?_
    refine ow_on (by simp only [opd, zv]) ?_
    refine ow_me rfl ?_
    refine ow_on (by simp only [opd, zv]) ?_
    refine ow_op (by simp only [zo, lenD_str, lenD_nils, lenD_sl, lenD_msl, hY.len, hN.1, e6, e0] <;> exact rfl) ?_
    refine ow_on (by simp only [opd, zv]) ?_
    refine ow_op (by simp only [zo, binD, zb, Int.reduceEq, Int.reduceToNat, Int.reduceLT, hY.len, hN.1, e6, e0] <;> exact rfl) ?_
    refine ow_op (by simp only [zo, hY.len, hN.1, e6, e0] <;> exact rfl) ?_
    refine ow_ml rfl ?_
    refine ow_know 0 (b := true) (by simp only [opd, zv, hY.len, hN.1, e6, e0] <;> rfl) (by simp only [zn] <;> exact rfl) ?_
    refine ow_on (by simp only [opd, zv]) ?_
    refine ow_op (by simp only [zo, hY.len, hN.1, e6, e0]; exact livesD (by omega) _) ?_
    refine ow_op (by simp only [zo, hY.len, hN.1, e6, e0] <;> exact rfl) ?_
    refine ow_ml rfl ?_
    refine ow_nil ?_
    refine sk_n (by simp only [ze] <;> exact rfl) ?_
    refine cw_ret (sk_r ?_)
    refine ⟨_, by simp only [F6, resultD, resDs, resD, List.getD_cons_zero, List.getD_cons_succ, zd, rowsOf, partD, List.getElem?_cons_zero, List.getElem?_cons_succ, if_true, if_false, Bool.false_eq_true, List.take, List.drop, zm] <;> exact rfl, ?_⟩
    simp only [leaveP, leave, snapVs, snaps, zs, zf, zk]
   ·
    obtain ⟨rfl, rfl⟩ : got = .sl 1 (rR (srt (keysF k) ms.flatten)) (some ms.flatten.length) ∧ e = 0 := by
     rcases hge with ⟨_, h2, h3⟩ | ⟨h1, _⟩
     ·
      exact ⟨h2, h3⟩
     ·
      rw [h1] at hcFAF; simp at hcFAF
    have e0 : ((0 : Int) == 0) = true := rfl
    have t1 : decide (srt (keysF k) ms.flatten = srt (keysF k) ms.flatten) = true := decide_eq_true rfl
    have t2 : (((ms.flatten.length : Nat) : Int) == ((ms.flatten.length : Nat) : Int)) = true := by simp
    refine cw_skip (sk_n rfl (cw_seq (cw_region ?_)))
    refine ow_me rfl ?_
    refine ow_op (by simp only [zo, binD, zb, Int.reduceEq, Int.reduceToNat, Int.reduceLT, hY.len, hN.1, e0, t1, t2, rR_len, hfl] <;> exact rfl) ?_
    refine ow_ml rfl ?_
    refine ow_know 0 (b := true) (by simp only [opd, zv, hY.len, hN.1, e0, t1, t2, rR_len, hfl] <;> rfl) (by simp only [zn] <;> exact rfl) ?_
    refine ow_on (by simp only [opd, zv]) ?_
    refine ow_me rfl ?_
    refine ow_on (by simp only [opd, zv]) ?_
    refine ow_me rfl ?_
    refine ow_on (by simp only [opd, zv]) ?_
    refine ow_me rfl ?_
    refine ow_on (by simp only [opd, zv]) ?_
    refine ow_op (by simp only [zo, hY.len, hN.1, e0, t1, t2, rR_len, hfl]; exact (run_snap rfl hsa hsa2).trans (inserted_run (by omega) _ (.of _ _ _) (by have := (keysF_len k).2; omega) (keysF_gk k) (appY_S _ _) (by omega))) ?_
    refine ow_on (by simp only [opd, zv]) ?_
    first
     | refine ow_op (by simp only [zo, hY.len, hN.1, e0, t1, t2, rR_len, hfl]; exact same_run (by omega) _ (appY_S _ _) (appY_S _ _) (.rR _) (.rR _) (by omega) (by first | omega | (rw [hmI.1.1]; omega))) ?_
     | refine ow_op (by simp only [zo, hY.len, hN.1, e0, t1, t2, rR_len, hfl]; exact same_run (by omega) _ (.of _ _ _) (appY_S _ _) (.rR _) (.rR _) (by omega) (by omega)) ?_
    refine ow_op (by simp only [zo, hY.len, hN.1, e0, t1, t2, rR_len, hfl] <;> exact rfl) ?_
    refine ow_ml rfl ?_
    refine ow_know 0 (b := true) (by simp only [opd, zv, hY.len, hN.1, e0, t1, t2, rR_len, hfl] <;> rfl) (by simp only [zn] <;> exact rfl) ?_
    refine ow_on (by simp only [opd, zv]) ?_
    refine ow_me rfl ?_
    refine ow_on (by simp only [opd, zv]) ?_
    refine ow_op (by simp only [zo, capD_nils, capD_sl, capD_msl, hY.len, hN.1, e0, t1, t2, rR_len, hfl] <;> exact rfl) ?_
    refine ow_on (by simp only [opd, zv]) ?_
    refine ow_me rfl ?_
    refine ow_on (by simp only [opd, zv]) ?_
    refine ow_op (by simp only [zo, lenD_str, lenD_nils, lenD_sl, lenD_msl, hY.len, hN.1, e0, t1, t2, rR_len, hfl] <;> exact rfl) ?_
    refine ow_on (by simp only [opd, zv]) ?_
    refine ow_op (by simp only [zo, binD, zb, Int.reduceEq, Int.reduceToNat, Int.reduceLT, hY.len, hN.1, e0, t1, t2, rR_len, hfl] <;> exact rfl) ?_
    refine ow_op (by simp only [zo, hY.len, hN.1, e0, t1, t2, rR_len, hfl] <;> exact rfl) ?_
    refine ow_ml rfl ?_
    refine ow_know 0 (b := true) (by simp only [opd, zv, hY.len, hN.1, e0, t1, t2, rR_len, hfl] <;> rfl) (by simp only [zn] <;> exact rfl) ?_
    refine ow_on (by simp only [opd, zv]) ?_
    refine ow_op (by simp only [zo, hY.len, hN.1, e0, t1, t2, rR_len, hfl]; exact livesD (by omega) _) ?_
    refine ow_op (by simp only [zo, hY.len, hN.1, e0, t1, t2, rR_len, hfl] <;> exact rfl) ?_
    refine ow_ml rfl ?_
    refine ow_nil ?_
    refine sk_n (by simp only [ze] <;> exact rfl) ?_
    refine cw_ret ?_
    refine ⟨_, by simp only [F6, resultD, resDs, resD, List.getD_cons_zero, List.getD_cons_succ, zd, rowsOf, partD, List.getElem?_cons_zero, List.getElem?_cons_succ, if_true, if_false, Bool.false_eq_true, List.take, List.drop, zm] <;> exact rfl, ?_⟩
    simp only [leaveP, leave, snapVs, snaps, zs, zf, zk]

theorem lawMerge_false {d : Nat} (hd : 200 ≤ d) (S : St) {x y : D} {k : List (Nat × Nat × Nat)} (hS : SlD 3 (triRows k) x) (hbd : ∀ t ∈ k, t.1 < 256 ∧ t.2.1 < 256 ∧ t.2.2 < 256) (hll : k.length ≤ 9223372036854775807) {ll : List (List Nat)} {rows : List (List D)} (hY : SlD 1 rows y) (hN : NumsOf ll rows) (hb : ∀ l ∈ ll, ∀ n ∈ l, n < 4294967296) (hl0 : ll.length ≤ 9223372036854775807) : runF LP NN d 6 [x, y, .bool false] S = some (.bool true, S, false) := by
 refine run_pure (F := F6) rfl (by simp only [LP, fnOf, snapVs, snaps, zs, Bool.false_eq_true, if_false, Option.map_some, List.map_cons, List.map_nil, hS.snapV, hS.freeV, hY.snapV, hY.freeV] <;> exact rfl) rfl (by simp only [LP, zf, List.all_cons, List.all_nil, Bool.and_true, Bool.true_and, hS.snapV, hS.freeV, hY.snapV, hY.freeV]; try rfl) (by simp only [F6, zv] <;> exact rfl) (by omega) ?_
 rintro d rfl
 refine cw_seq (cw_region ?_)
 refine ow_mc ?_
 refine ow_nil ?_
 refine sk_n (by simp only [ze] <;> exact rfl) ?_
 refine cw_seq (cw_seq (cw_region ?_))
 refine ow_me rfl ?_
 refine ow_op (by simp only [zo, lenD_str, lenD_nils, lenD_sl, lenD_msl, hY.len, hN.1] <;> exact rfl) ?_
 refine ow_op (by simp only [zo, binD, zb, Int.reduceEq, Int.reduceToNat, Int.reduceLT, hY.len, hN.1] <;> exact rfl) ?_
 refine ow_nil ?_
 refine sk_n (by simp only [ze] <;> exact rfl) ?_
 refine cw_cond (by simp only [opd, zv, hY.len, hN.1] <;> exact rfl) (fun hc => ?_) (fun hc => ?_)
 ·
  refine cw_seq (cw_region ?_)
  refine ow_op (by simp only [zo, hY.len, hN.1]; exact livesD (by omega) _) ?_
  refine ow_ml rfl ?_
  refine ow_nil ?_
  refine sk_n (by simp only [ze] <;> exact rfl) ?_
  refine cw_ret (sk_r ?_)
  refine ⟨_, by simp only [F6, resultD, resDs, resD, List.getD_cons_zero, List.getD_cons_succ, zd, rowsOf, partD, List.getElem?_cons_zero, List.getElem?_cons_succ, if_true, if_false, Bool.false_eq_true, List.take, List.drop, zm] <;> exact rfl, ?_⟩
  simp only [leaveP, leave, snapVs, snaps, zs, zf, zk]
 ·
  have h4 : ll.length ≤ 4 := by have := of_decide_eq_false hc; omega
  refine cw_skip (sk_n rfl (cw_seq (cw_region ?_)))
  refine ow_me rfl ?_
  refine ow_op (by simp only [zo, hY.len, hN.1]; exact kOf_run (by omega) _ hS hbd hll) ?_
  refine ow_ml rfl ?_
  refine ow_nil ?_
  refine sk_n (by simp only [ze] <;> exact rfl) ?_
  refine cw_seq (cw_region ?_)
  refine ow_mc ?_
  refine ow_nil ?_
  refine sk_n (by simp only [ze] <;> exact rfl) ?_
  refine cw_seq (cw_region ?_)
  refine ow_mc ?_
  refine ow_nil ?_
  refine sk_n (by simp only [ze] <;> exact rfl) ?_
  refine cw_seq (cw_region ?_)
  refine ow_mc ?_
  refine ow_nil ?_
  refine sk_n (by simp only [ze] <;> exact rfl) ?_
  refine cw_seq (cw_seq (cw_region ?_))
  refine ow_mc ?_
  refine ow_nil ?_
  refine sk_n (by simp only [ze] <;> exact rfl) ?_
  refine cw_block ?_
  refine cw_loop (fun rr env S' => ∃ (i : Nat) (ms : List (List RecT)) (H : List AObj) (lx ax u9 u10 u11 u12 u13 u14 u15 u16 : D), i ≤ ll.length ∧ rr = ll.length - i ∧ ms.length = i ∧ (∀ m ∈ ms, m.length ≤ 20 ∧ IsS (cK (keysF k)) m (srt (keysF k) m)) ∧ AppAt 28 1 (lRows ms) H lx ∧ AppAt 43 1 (rR ms.flatten) H ax ∧ S' = ⟨H, 0⟩ ∧ env = [x, y, .bool false, .bool false, .sl 14 (keRows (keysF k)) none, lx, ax, .bool (gd (keysF k) ms), .int .i64 (i : Nat), u9, u10, u11, u12, u13, u14, u15, u16]) (ll.length) (by omega) (⟨0, [], _, _, _, _, _, _, _, _, _, _, _, by omega, by omega, rfl, by simp, AppAt.nil _ _ _, AppAt.nil _ _ _, rfl, rfl⟩) ?_
  rintro rr env S' ⟨i, ms, H, lx, ax, u9, u10, u11, u12, u13, u14, u15, u16, hi, rfl, hml, hms, hA1, hA2, rfl, rfl⟩
  have hfb := flat_bound (fun m hm => (hms m hm).1)
  rw [hml] at hfb
  refine cw_seq (cw_seq (cw_region ?_))
  refine ow_me rfl ?_
  refine ow_me rfl ?_
  refine ow_op (by simp only [zo, lenD_str, lenD_nils, lenD_sl, lenD_msl, hY.len, hN.1] <;> exact rfl) ?_
  refine ow_op (by simp only [zo, binD, zb, Int.reduceEq, Int.reduceToNat, Int.reduceLT, hY.len, hN.1] <;> exact rfl) ?_
  refine ow_nil ?_
  refine sk_n (by simp only [ze] <;> exact rfl) ?_
  refine cw_cond (by simp only [opd, zv, hY.len, hN.1] <;> exact rfl) (fun hcFA => ?_) (fun hcFA => ?_)
  ·
   have hlt : i < ll.length := by have := of_decide_eq_true hcFA; omega
   have wi := wrap_nat i (by omega)
   obtain ⟨l, hl⟩ : ∃ l, ll[i]? = some l := ⟨_, List.getElem?_eq_getElem hlt⟩
   obtain ⟨yl, hyl, hylS⟩ := hN.2 i l hl
   have hlm := List.mem_of_getElem? hl
   have hia := fun (S : St) => hY.iaddrN S .i64 hyl
   refine cw_skip (sk_n rfl (cw_seq (cw_block (cw_seq (cw_seq (cw_region ?_))))))
   refine ow_me rfl ?_
   refine ow_me rfl ?_
   refine ow_op (by simp only [zl, zm, iaddrD_sl, iaddrD_msl, Int.toNat_natCast, Int.toNat_zero, List.getElem?_map, Option.map_some, Int.le_refl, hY.len, hN.1, hia, wi, hylS.len, numRows_len] <;> exact rfl) ?_
   refine ow_op (by simp only [zl, zm, zd, partD, List.take, List.drop, hY.len, hN.1, hia, wi, hylS.len, numRows_len] <;> exact rfl) ?_
   refine ow_op (by simp only [zo, lenD_str, lenD_nils, lenD_sl, lenD_msl, hY.len, hN.1, hia, wi, hylS.len, numRows_len] <;> exact rfl) ?_
   refine ow_op (by simp only [zo, binD, zb, Int.reduceEq, Int.reduceToNat, Int.reduceLT, hY.len, hN.1, hia, wi, hylS.len, numRows_len] <;> exact rfl) ?_
   refine ow_nil ?_
   refine sk_n (by simp only [ze] <;> exact rfl) ?_
   refine cw_cond (by simp only [opd, zv, hY.len, hN.1, hia, wi, hylS.len, numRows_len] <;> exact rfl) (fun hcFAT => ?_) (fun hcFAT => ?_)
   ·
    refine cw_seq (cw_region ?_)
    refine ow_op (by simp only [zo, hY.len, hN.1, hia, wi, hylS.len, numRows_len]; exact livesD (by omega) _) ?_
    refine ow_ml rfl ?_
    refine ow_nil ?_
    refine sk_n (by simp only [ze] <;> exact rfl) ?_
    refine cw_ret (sk_r (bk_r (sk_r (lk_r (bk_r (sk_r ?_))))))
    refine ⟨_, by simp only [F6, resultD, resDs, resD, List.getD_cons_zero, List.getD_cons_succ, zd, rowsOf, partD, List.getElem?_cons_zero, List.getElem?_cons_succ, if_true, if_false, Bool.false_eq_true, List.take, List.drop, zm] <;> exact rfl, ?_⟩
    simp only [leaveP, leave, snapVs, snaps, zs, zf, zk]
   ·
    have h20 : l.length ≤ 20 := by have := of_decide_eq_false hcFAT; omega
    have hrI := srt_ok k (l.map recOf) (by rw [List.length_map]; omega)
    have hrl : (srt (keysF k) (l.map recOf)).length = l.length := by rw [hrI.1.1, List.length_map]
    have hm20 : (srt (keysF k) (l.map recOf)).length ≤ 20 := by first | (rw [hrl]; exact h20) | (rw [List.length_map]; exact h20)
    have hmI : IsS (cK (keysF k)) (srt (keysF k) (l.map recOf)) (srt (keysF k) (srt (keysF k) (l.map recOf))) := srt_ok k _ (by omega)
    obtain ⟨lx', H1, hap1, hA1', hlen1, hkeep1⟩ := hA1.app 24 (new := [[appY 1 (rR (srt (keysF k) (l.map recOf)))]]) (c := some 1) rfl (by rw [lRows_len]; simp; omega)
    rw [lRows_snoc] at hA1'
    have hA2' := hA2.keep (fun g o ho h1 h2 => hkeep1 g o ho (.inr (by rw [h2]; decide)))
    obtain ⟨ax', H2, wr2, hap2, hB2, hlen2, hkeep2⟩ := hA2'.app0 24 (appY_S 1 (rR (srt (keysF k) (l.map recOf)))) (by rw [rR_len, rR_len]; omega)
    have hB1 := hA1'.keep (fun g o ho h1 h2 => hkeep2 g o ho (.inr (by rw [h2]; decide)))
    rw [show rR ms.flatten ++ rR (srt (keysF k) (l.map recOf)) = rR (ms.flatten ++ (srt (keysF k) (l.map recOf))) by simp [rR]] at hB2
    have hyS := appY_S 1 (rR (srt (keysF k) (l.map recOf)))
    refine cw_skip (sk_n rfl (cw_seq (cw_region ?_)))
    refine ow_me rfl ?_
    refine ow_me rfl ?_
    refine ow_op (by simp only [zl, zm, iaddrD_sl, iaddrD_msl, Int.toNat_natCast, Int.toNat_zero, List.getElem?_map, Option.map_some, Int.le_refl, hY.len, hN.1, hia, wi, hylS.len, numRows_len, hyS.snapV, hyS.isCell, hyS.val, hyS.cells, hyS.free] <;> exact rfl) ?_
    refine ow_op (by simp only [zl, zm, zd, partD, List.take, List.drop, hY.len, hN.1, hia, wi, hylS.len, numRows_len, hyS.snapV, hyS.isCell, hyS.val, hyS.cells, hyS.free] <;> exact rfl) ?_
    refine ow_op (by simp only [zo, hY.len, hN.1, hia, wi, hylS.len, numRows_len, hyS.snapV, hyS.isCell, hyS.val, hyS.cells, hyS.free]; exact records_run (by omega) _ hylS (hb l hlm) (by omega)) ?_
    refine ow_ml rfl ?_
    refine ow_nil ?_
    refine sk_n (by simp only [ze] <;> exact rfl) ?_
    refine cw_seq (cw_seq (cw_region ?_))
    refine ow_me rfl ?_
    refine ow_op (by simp only [zo, unD, hY.len, hN.1, hia, wi, hylS.len, numRows_len, hyS.snapV, hyS.isCell, hyS.val, hyS.cells, hyS.free] <;> exact rfl) ?_
    refine ow_nil ?_
    refine sk_n (by simp only [ze] <;> exact rfl) ?_
    skip
    refine cw_true (by simp only [opd, zv, hY.len, hN.1, hia, wi, hylS.len, numRows_len, hyS.snapV, hyS.isCell, hyS.val, hyS.cells, hyS.free] <;> rfl) ?_
    refine cw_region ?_
    refine ow_me rfl ?_
    refine ow_me rfl ?_
    first
     | refine ow_op (by simp only [zo, hY.len, hN.1, hia, wi, hylS.len, numRows_len, hyS.snapV, hyS.isCell, hyS.val, hyS.cells, hyS.free]; exact inserted_run (by omega) _ (.of _ _ _) (by have := (keysF_len k).2; omega) (keysF_gk k) (appY_S _ (rR (l.map recOf))) (by rw [List.length_map]; omega)) ?_
     | refine ow_op (by simp only [zo, hY.len, hN.1, hia, wi, hylS.len, numRows_len, hyS.snapV, hyS.isCell, hyS.val, hyS.cells, hyS.free]; exact inserted_run (by omega) _ (.of _ _ _) (by have := (keysF_len k).2; omega) (keysF_gk k) (appY_S _ (rR (srt (keysF k) (l.map recOf)))) (by omega)) ?_
    refine ow_ml rfl ?_
    refine ow_nil ?_
    refine sk_n (by simp only [ze] <;> exact rfl) ?_
    refine cw_seq (cw_region ?_)
    refine ow_me rfl ?_
    refine ow_ml rfl ?_
    refine ow_split 0 (by simp only [opd, zv] <;> exact rfl) (by simp only [zn] <;> exact rfl) (by simp only [zn] <;> exact rfl) (fun hgFATF => ?_) (fun hgFATF => ?_)
    ·
     refine ow_on (by simp only [opd, zv]) ?_
     refine ow_me rfl ?_
     refine ow_on (by simp only [opd, zv]) ?_
     refine ow_me rfl ?_
     refine ow_on (by simp only [opd, zv]) ?_
     refine ow_me rfl ?_
     refine ow_on (by simp only [opd, zv]) ?_
     first
      | refine ow_op (by simp only [zo, hY.len, hN.1, hia, wi, hylS.len, numRows_len, hyS.snapV, hyS.isCell, hyS.val, hyS.cells, hyS.free]; exact inserted_run (by omega) _ (.of _ _ _) (by have := (keysF_len k).2; omega) (keysF_gk k) (appY_S _ (rR (l.map recOf))) (by rw [List.length_map]; omega)) ?_
      | refine ow_op (by simp only [zo, hY.len, hN.1, hia, wi, hylS.len, numRows_len, hyS.snapV, hyS.isCell, hyS.val, hyS.cells, hyS.free]; exact inserted_run (by omega) _ (.of _ _ _) (by have := (keysF_len k).2; omega) (keysF_gk k) (appY_S _ (rR (srt (keysF k) (l.map recOf)))) (by omega)) ?_
     refine ow_on (by simp only [opd, zv]) ?_
     first
      | refine ow_op (by simp only [zo, hY.len, hN.1, hia, wi, hylS.len, numRows_len, hyS.snapV, hyS.isCell, hyS.val, hyS.cells, hyS.free]; exact same_run (by omega) _ (appY_S _ _) (appY_S _ _) (.rR _) (.rR _) (by omega) (by first | omega | (rw [hmI.1.1]; omega))) ?_
      | refine ow_op (by simp only [zo, hY.len, hN.1, hia, wi, hylS.len, numRows_len, hyS.snapV, hyS.isCell, hyS.val, hyS.cells, hyS.free]; exact same_run (by omega) _ (.of _ _ _) (appY_S _ _) (.rR _) (.rR _) (by omega) (by omega)) ?_
     refine ow_op (by simp only [zo, hY.len, hN.1, hia, wi, hylS.len, numRows_len, hyS.snapV, hyS.isCell, hyS.val, hyS.cells, hyS.free] <;> exact rfl) ?_
     refine ow_ml rfl ?_
     refine ow_nil ?_
     refine sk_n (by simp only [ze] <;> exact rfl) ?_
     refine cw_seq (cw_region ?_)
     refine ow_me rfl ?_
     refine ow_me rfl ?_
     refine ow_op (by simp only [zl, zm, fillRows, List.replicate, snapVs, snaps, zs, zc, zf, hY.len, hN.1, hia, wi, hylS.len, numRows_len, hyS.snapV, hyS.isCell, hyS.val, hyS.cells, hyS.free] <;> exact rfl) ?_
     refine ow_op (by simp only [opd, zv, exOp, aop, LOp.loud, lop, if_true]; exact hap1) ?_
     refine ow_ml rfl ?_
     refine ow_nil ?_
     refine sk_n (by simp only [ze] <;> exact rfl) ?_
     refine cw_region ?_
     refine ow_me rfl ?_
     refine ow_me rfl ?_
     refine ow_op (by simp only [opd, zv]; exact hap2 _) ?_
     refine ow_ml rfl ?_
     refine ow_nil (bk_n ?_)
     refine sk_n (by simp only [ze] <;> exact rfl) ?_
     refine cw_region ?_
     refine ow_me rfl ?_
     refine ow_op (by simp only [zo, binD, zb, Int.reduceEq, Int.reduceToNat, Int.reduceLT, hY.len, hN.1, hia, wi, hylS.len, numRows_len, hyS.snapV, hyS.isCell, hyS.val, hyS.cells, hyS.free] <;> exact rfl) ?_
     refine ow_ml rfl ?_
     refine ow_nil ?_
     refine lk_n (by simp only [ze] <;> exact rfl) ?_
     exact ⟨ll.length - (i + 1), by omega, i + 1, ms ++ [(srt (keysF k) (l.map recOf))], _, _, _, _, _, _, _, _, _, _, _, by omega, rfl, by simp [hml], by intro q hq; rcases List.mem_append.1 hq with h | h; exact hms q h; (simp only [List.mem_singleton] at h; subst h; exact ⟨hm20, hmI⟩), hB1, by rw [List.flatten_append]; simpa using hB2, rfl, by rw [gd_snoc, hgFATF, Bool.true_and]⟩
    ·
     refine ow_off (b' := false) (by simp only [opd, zv]) rfl ?_
     refine ow_off (b' := false) (by simp only [opd, zv]) rfl ?_
     refine ow_off (b' := false) (by simp only [opd, zv]) rfl ?_
     refine ow_off (b' := false) (by simp only [opd, zv]) rfl ?_
     refine ow_off (b' := false) (by simp only [opd, zv]) rfl ?_
     refine ow_op (by simp only [zo, hY.len, hN.1, hia, wi, hylS.len, numRows_len, hyS.snapV, hyS.isCell, hyS.val, hyS.cells, hyS.free] <;> exact rfl) ?_
     refine ow_ml rfl ?_
     refine ow_nil ?_
     refine sk_n (by simp only [ze] <;> exact rfl) ?_
     refine cw_seq (cw_region ?_)
     refine ow_me rfl ?_
     refine ow_me rfl ?_
     refine ow_op (by simp only [zl, zm, fillRows, List.replicate, snapVs, snaps, zs, zc, zf, hY.len, hN.1, hia, wi, hylS.len, numRows_len, hyS.snapV, hyS.isCell, hyS.val, hyS.cells, hyS.free] <;> exact rfl) ?_
     refine ow_op (by simp only [opd, zv, exOp, aop, LOp.loud, lop, if_true]; exact hap1) ?_
     refine ow_ml rfl ?_
     refine ow_nil ?_
     refine sk_n (by simp only [ze] <;> exact rfl) ?_
     refine cw_region ?_
     refine ow_me rfl ?_
     refine ow_me rfl ?_
     refine ow_op (by simp only [opd, zv]; exact hap2 _) ?_
     refine ow_ml rfl ?_
     refine ow_nil (bk_n ?_)
     refine sk_n (by simp only [ze] <;> exact rfl) ?_
     refine cw_region ?_
     refine ow_me rfl ?_
     refine ow_op (by simp only [zo, binD, zb, Int.reduceEq, Int.reduceToNat, Int.reduceLT, hY.len, hN.1, hia, wi, hylS.len, numRows_len, hyS.snapV, hyS.isCell, hyS.val, hyS.cells, hyS.free] <;> exact rfl) ?_
     refine ow_ml rfl ?_
     refine ow_nil ?_
     refine lk_n (by simp only [ze] <;> exact rfl) ?_
     exact ⟨ll.length - (i + 1), by omega, i + 1, ms ++ [(srt (keysF k) (l.map recOf))], _, _, _, _, _, _, _, _, _, _, _, by omega, rfl, by simp [hml], by intro q hq; rcases List.mem_append.1 hq with h | h; exact hms q h; (simp only [List.mem_singleton] at h; subst h; exact ⟨hm20, hmI⟩), hB1, by rw [List.flatten_append]; simpa using hB2, rfl, by rw [gd_snoc, hgFATF, Bool.false_and]⟩
  ·
   obtain rfl : i = ll.length := by have := of_decide_eq_false hcFA; omega
   have htt : tot ms ≤ 80 := by rw [tot_flat]; omega
   have hsn : snapVs H.length H [.sl 14 (keRows (keysF k)) none, .int .i64 6, lx] = some [.sl 14 (keRows (keysF k)) none, .int .i64 6, appY 1 (lRows ms)] := by simp [snapVs, snapV_sl, snapV_int, hA1.snapV]
   have hsn2 : snapVs H.length H [.sl 14 (keRows (keysF k)) none, .int .i64 6, appY 1 (lRows ms)] = some [.sl 14 (keRows (keysF k)) none, .int .i64 6, appY 1 (lRows ms)] := by simp [snapVs, snapV_sl, snapV_int, (appY_S 1 (lRows ms)).snapV]
   have hsa : snapVs H.length H [.sl 14 (keRows (keysF k)) none, ax] = some [.sl 14 (keRows (keysF k)) none, appY 1 (rR ms.flatten)] := by simp [snapVs, snapV_sl, hA2.snapV]
   have hsa2 : snapVs H.length H [.sl 14 (keRows (keysF k)) none, appY 1 (rR ms.flatten)] = some [.sl 14 (keRows (keysF k)) none, appY 1 (rR ms.flatten)] := by simp [snapVs, snapV_sl, (appY_S 1 (rR ms.flatten)).snapV]
   have hIf := srt_ok k ms.flatten (by omega)
   have hfl : (srt (keysF k) ms.flatten).length = ms.flatten.length := hIf.1.1
   obtain ⟨got, e, hM, hge⟩ : ∃ (got : D) (e : Int), runF LP NN d 21 [.sl 14 (keRows (keysF k)) none, .int .i64 6, lx] ⟨H, 0⟩ = some (.tup [got, .int .i64 e], ⟨H, 0⟩, false) ∧ ((gd (keysF k) ms = true ∧ got = .sl 1 (rR (srt (keysF k) ms.flatten)) (some ms.flatten.length) ∧ e = 0) ∨ (gd (keysF k) ms = false ∧ got = .nils ∧ e = 6)) := by
    cases hgd : gd (keysF k) ms with
    | true => exact ⟨_, _, (run_snap rfl hsn hsn2).trans (Merge_good ⟨H, 0⟩ (.of _ _ _) (keysF_len k).1 (by have := (keysF_len k).2; omega) (keysF_gk k) (by omega) (appY_S _ _) (lRows_R ms) (by omega) (by omega) (fun m hm => (hms m hm).2) (gd_true.1 hgd)), .inl ⟨rfl, rfl, rfl⟩⟩
    | false => exact ⟨_, _, (run_snap rfl hsn hsn2).trans (Merge_bad ⟨H, 0⟩ (.of _ _ _) (keysF_len k).1 (by have := (keysF_len k).2; omega) (keysF_gk k) (by omega) (appY_S _ _) (lRows_R ms) (by omega) (by omega) (fun m hm => (hms m hm).2) (gd_false hgd)), .inr ⟨rfl, rfl, rfl⟩⟩
   refine cw_exit (sk_e (lk_e (bk_e (sk_n rfl (cw_seq (cw_region ?_))))))
   refine ow_me rfl ?_
   refine ow_me rfl ?_
   refine ow_op (by simp only [zo, hY.len, hN.1]; exact hM) ?_
   refine ow_ml rfl ?_
   refine ow_op (by simp only [zo, List.getElem?_cons_zero, List.getElem?_cons_succ, hY.len, hN.1] <;> exact rfl) ?_
   refine ow_op (by simp only [zo, List.getElem?_cons_zero, List.getElem?_cons_succ, hY.len, hN.1] <;> exact rfl) ?_
   refine ow_ml rfl ?_
   refine ow_ml rfl ?_
   refine ow_nil ?_
   refine sk_n (by simp only [ze] <;> exact rfl) ?_
   refine cw_seq (cw_seq (cw_region ?_))
   refine ow_me rfl ?_
   refine ow_op (by simp only [zo, unD, hY.len, hN.1] <;> exact rfl) ?_
   refine ow_nil ?_
   refine sk_n (by simp only [ze] <;> exact rfl) ?_
   refine cw_cond (by simp only [opd, zv, hY.len, hN.1] <;> exact rfl) (fun hcFAF => ?_) (fun hcFAF => ?_)
   ·
    obtain ⟨rfl, rfl⟩ : got = .nils ∧ e = 6 := by
     rcases hge with ⟨h1, _⟩ | ⟨_, h2, h3⟩
     ·
      rw [h1] at hcFAF; simp at hcFAF
     ·
      exact ⟨h2, h3⟩
    have e6 : ((6 : Int) == 6) = true := rfl
    have e0 : ((0 : Int) == 0) = true := rfl
    refine cw_seq (cw_region ?_)
    refine ow_me rfl ?_
    refine ow_op (by simp only [zo, binD, zb, Int.reduceEq, Int.reduceToNat, Int.reduceLT, hY.len, hN.1, e6, e0] <;> exact rfl) ?_
    refine ow_ml rfl ?_
    refine ow_know 0 (b := true) (by simp only [opd, zv, hY.len, hN.1, e6, e0] <;> rfl) (by simp only [zn] <;> exact rfl) ?_
    refine ow_on (by simp only [opd, zv]) ?_
    refine ow_me rfl ?_
    refine ow_on (by simp only [opd, zv]) ?_
    refine ow_op (by simp only [zo, lenD_str, lenD_nils, lenD_sl, lenD_msl, hY.len, hN.1, e6, e0] <;> exact rfl) ?_
    refine ow_on (by simp only [opd, zv]) ?_
    refine ow_op (by simp only [zo, binD, zb, Int.reduceEq, Int.reduceToNat, Int.reduceLT, hY.len, hN.1, e6, e0] <;> exact rfl) ?_
    refine ow_op (by simp only [zo, hY.len, hN.1, e6, e0] <;> exact rfl) ?_
    refine ow_ml rfl ?_
    refine ow_know 0 (b := true) (by simp only [opd, zv, hY.len, hN.1, e6, e0] <;> rfl) (by simp only [zn] <;> exact rfl) ?_
    refine ow_on (by simp only [opd, zv]) ?_
    refine ow_op (by simp only [zo, hY.len, hN.1, e6, e0]; exact livesD (by omega) _) ?_
    refine ow_op (by simp only [zo, hY.len, hN.1, e6, e0] <;> exact rfl) ?_
    refine ow_ml rfl ?_
    refine ow_nil ?_
    refine sk_n (by simp only [ze] <;> exact rfl) ?_
    refine cw_ret (sk_r ?_)
    refine ⟨_, by simp only [F6, resultD, resDs, resD, List.getD_cons_zero, List.getD_cons_succ, zd, rowsOf, partD, List.getElem?_cons_zero, List.getElem?_cons_succ, if_true, if_false, Bool.false_eq_true, List.take, List.drop, zm] <;> exact rfl, ?_⟩
    simp only [leaveP, leave, snapVs, snaps, zs, zf, zk]
   ·
    obtain ⟨rfl, rfl⟩ : got = .sl 1 (rR (srt (keysF k) ms.flatten)) (some ms.flatten.length) ∧ e = 0 := by
     rcases hge with ⟨_, h2, h3⟩ | ⟨h1, _⟩
     ·
      exact ⟨h2, h3⟩
     ·
      rw [h1] at hcFAF; simp at hcFAF
    have e0 : ((0 : Int) == 0) = true := rfl
    have t1 : decide (srt (keysF k) ms.flatten = srt (keysF k) ms.flatten) = true := decide_eq_true rfl
    have t2 : (((ms.flatten.length : Nat) : Int) == ((ms.flatten.length : Nat) : Int)) = true := by simp
    refine cw_skip (sk_n rfl (cw_seq (cw_region ?_)))
    refine ow_me rfl ?_
    refine ow_op (by simp only [zo, binD, zb, Int.reduceEq, Int.reduceToNat, Int.reduceLT, hY.len, hN.1, e0, t1, t2, rR_len, hfl] <;> exact rfl) ?_
    refine ow_ml rfl ?_
    refine ow_know 0 (b := true) (by simp only [opd, zv, hY.len, hN.1, e0, t1, t2, rR_len, hfl] <;> rfl) (by simp only [zn] <;> exact rfl) ?_
    refine ow_on (by simp only [opd, zv]) ?_
    refine ow_me rfl ?_
    refine ow_on (by simp only [opd, zv]) ?_
    refine ow_me rfl ?_
    refine ow_on (by simp only [opd, zv]) ?_
    refine ow_me rfl ?_
    refine ow_on (by simp only [opd, zv]) ?_
    refine ow_op (by simp only [zo, hY.len, hN.1, e0, t1, t2, rR_len, hfl]; exact (run_snap rfl hsa hsa2).trans (inserted_run (by omega) _ (.of _ _ _) (by have := (keysF_len k).2; omega) (keysF_gk k) (appY_S _ _) (by omega))) ?_
    refine ow_on (by simp only [opd, zv]) ?_
    first
     | refine ow_op (by simp only [zo, hY.len, hN.1, e0, t1, t2, rR_len, hfl]; exact same_run (by omega) _ (appY_S _ _) (appY_S _ _) (.rR _) (.rR _) (by omega) (by first | omega | (rw [hmI.1.1]; omega))) ?_
     | refine ow_op (by simp only [zo, hY.len, hN.1, e0, t1, t2, rR_len, hfl]; exact same_run (by omega) _ (.of _ _ _) (appY_S _ _) (.rR _) (.rR _) (by omega) (by omega)) ?_
    refine ow_op (by simp only [zo, hY.len, hN.1, e0, t1, t2, rR_len, hfl] <;> exact rfl) ?_
    refine ow_ml rfl ?_
    refine ow_know 0 (b := true) (by simp only [opd, zv, hY.len, hN.1, e0, t1, t2, rR_len, hfl] <;> rfl) (by simp only [zn] <;> exact rfl) ?_
    refine ow_on (by simp only [opd, zv]) ?_
    refine ow_me rfl ?_
    refine ow_on (by simp only [opd, zv]) ?_
    refine ow_op (by simp only [zo, capD_nils, capD_sl, capD_msl, hY.len, hN.1, e0, t1, t2, rR_len, hfl] <;> exact rfl) ?_
    refine ow_on (by simp only [opd, zv]) ?_
    refine ow_me rfl ?_
    refine ow_on (by simp only [opd, zv]) ?_
    refine ow_op (by simp only [zo, lenD_str, lenD_nils, lenD_sl, lenD_msl, hY.len, hN.1, e0, t1, t2, rR_len, hfl] <;> exact rfl) ?_
    refine ow_on (by simp only [opd, zv]) ?_
    refine ow_op (by simp only [zo, binD, zb, Int.reduceEq, Int.reduceToNat, Int.reduceLT, hY.len, hN.1, e0, t1, t2, rR_len, hfl] <;> exact rfl) ?_
    refine ow_op (by simp only [zo, hY.len, hN.1, e0, t1, t2, rR_len, hfl] <;> exact rfl) ?_
    refine ow_ml rfl ?_
    refine ow_know 0 (b := true) (by simp only [opd, zv, hY.len, hN.1, e0, t1, t2, rR_len, hfl] <;> rfl) (by simp only [zn] <;> exact rfl) ?_
    refine ow_on (by simp only [opd, zv]) ?_
    refine ow_op (by simp only [zo, hY.len, hN.1, e0, t1, t2, rR_len, hfl]; exact livesD (by omega) _) ?_
    refine ow_op (by simp only [zo, hY.len, hN.1, e0, t1, t2, rR_len, hfl] <;> exact rfl) ?_
    refine ow_ml rfl ?_
    refine ow_nil ?_
    refine sk_n (by simp only [ze] <;> exact rfl) ?_
    refine cw_ret ?_
    refine ⟨_, by simp only [F6, resultD, resDs, resD, List.getD_cons_zero, List.getD_cons_succ, zd, rowsOf, partD, List.getElem?_cons_zero, List.getElem?_cons_succ, if_true, if_false, Bool.false_eq_true, List.take, List.drop, zm] <;> exact rfl, ?_⟩
    simp only [leaveP, leave, snapVs, snaps, zs, zf, zk]

end Go.Proofs.YtabgobmeibjeeaaGreatDoor

namespace Go.Proofs.YtabgobmeibjeeaaGreatDoor
set_option linter.unusedVariables false
set_option linter.unusedSimpArgs false
set_option maxRecDepth 100000

/-- lists of records -/
theorem listsArg {ds : List D} (h : Sh Tryz.prog 4 61 ds) : ∃ (x : D) (ll : List (List Nat)), ds = [x] ∧ (∃ rows, SlD 1 rows x ∧ NumsOf ll rows) ∧ (∀ l ∈ ll, ∀ n ∈ l, n < 4294967296) ∧ ll.length ≤ 9223372036854775807 := by
  have e1 : Tryz.prog.cellsOf 24 = 1 := by kernel_rfl
  obtain ⟨x, rows, rfl, hS, hm, hr⟩ := Sh.slice ty61 h
  rw [e1] at hS
  have key : ∀ rows : List (List D), (∀ r ∈ rows, Sh Tryz.prog 3 24 r) → ∃ ll : List (List Nat), NumsOf ll rows ∧ ∀ l ∈ ll, ∀ n ∈ l, n < 4294967296 := by
    intro rows
    induction rows with
    | nil => intro _; exact ⟨[], ⟨rfl, fun i l h => by simp at h⟩, by simp⟩
    | cons r rows ih =>
      intro hr
      obtain ⟨ll, ⟨h1, h2⟩, h3⟩ := ih (fun q hq => hr q (List.mem_cons_of_mem _ hq))
      obtain ⟨y, l, rfl, hy, hb, _⟩ := numsArg (hr r List.mem_cons_self)
      refine ⟨l :: ll, ⟨by simp [h1], fun i l' h => ?_⟩, fun l' hl' => ?_⟩
      · cases i with
        | zero => simp at h; subst h; exact ⟨y, rfl, hy⟩
        | succ i => exact h2 i l' (by simpa using h)
      · rcases List.mem_cons.1 hl' with rfl | hl'
        · exact hb
        · exact h3 l' hl'
  obtain ⟨ll, h1, h2⟩ := key rows hr
  refine ⟨x, ll, rfl, ⟨rows, hS, h1⟩, h2, ?_⟩
  have : maxLen ≤ 9223372036854775807 := by decide
  have := h1.1
  omega
theorem lawMerge_run {d : Nat} (hd : 200 ≤ d) (S : St) {x y : D} {k : List (Nat × Nat × Nat)} (hS : SlD 3 (triRows k) x) (hbd : ∀ t ∈ k, t.1 < 256 ∧ t.2.1 < 256 ∧ t.2.2 < 256) (hll : k.length ≤ 9223372036854775807) {ll : List (List Nat)} (hY : ∃ rows, SlD 1 rows y ∧ NumsOf ll rows) (hb : ∀ l ∈ ll, ∀ n ∈ l, n < 4294967296) (hl0 : ll.length ≤ 9223372036854775807) (mix : Bool) : runF LP NN d 6 [x, y, .bool mix] S = some (.bool true, S, false) := by
  obtain ⟨rows, h1, h2⟩ := hY
  cases mix with
  | true => exact lawMerge_true hd S hS hbd hll h1 h2 hb hl0
  | false => exact lawMerge_false hd S hS hbd hll h1 h2 hb hl0
end Go.Proofs.YtabgobmeibjeeaaGreatDoor

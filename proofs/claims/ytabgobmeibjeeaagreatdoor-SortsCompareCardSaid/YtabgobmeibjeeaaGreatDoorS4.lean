/- Proved here: what functions of the program compute, in the abstract machine; no condition. -/
import Derived.Test.YtabgobmeibjeeaaGreatDoorS3
namespace Go.Proofs.YtabgobmeibjeeaaGreatDoor
set_option linter.unusedSimpArgs false
set_option linter.unusedVariables false
set_option maxRecDepth 10000

/-- a number without needless zeros -/
structure Nrm (neg : Bool) (l : List UInt8) : Prop where
 num : isNum l = true
 len : l.length ≤ 62
 st : strip l = l
 sg : (neg && nz l) = neg
theorem strip0_strip (l : List UInt8) : strip0 (strip l) = strip0 l := by
 unfold strip
 split
 ·
  rename_i h; rw [h]; rfl
 ·
  exact strip0_strip0 l
theorem Nrm.of (neg : Bool) (l : List UInt8) (h1 : isNum l = true) (h2 : l.length ≤ 62) : Nrm (neg && nz l) (strip l) := by
 simp only [isNum, Bool.and_eq_true, Bool.not_eq_true', beq_eq_false_iff_ne, ne_eq] at h1
 obtain ⟨a, b⟩ := strip_len l h1.1
 refine ⟨?_, by omega, strip_idem l, ?_⟩
 ·
  simp only [isNum, Bool.and_eq_true, Bool.not_eq_true', beq_eq_false_iff_ne, ne_eq]
  exact ⟨fun e => by rw [e] at b; simp at b, strip_dig l h1.2⟩
 ·
  unfold nz
  rw [strip0_strip]
  cases neg <;> simp
theorem ba_self (s : ByteArray) : (s == s) = true := by
 first
  | exact beq_self_eq_true s
  | (cases s with | mk a => show (a == a) = true; simp)
  | (cases s with | mk a => show decide _ = true; simp)
theorem big62 {l : List UInt8} (h : l.length ≤ 62) : decide ((l.length : Int) > 62) = false := decide_eq_false (by omega)
theorem rep_tab (d : Nat) (S : St) : (List.range 7).map (fun k => runF LP NN (d + 4) 57 [.str ⟨#[48]⟩, .int .i64 ((k : Nat) : Int)] S) = (List.range 7).map (fun k => some (.str (mkS (List.replicate k 48)), S, false)) := by kernel_rfl
theorem rep_run {d : Nat} (hd : 4 ≤ d) (S : St) (k : Nat) (hk : k < 7) : runF LP NN d 57 [.str ⟨#[48]⟩, .int .i64 (k : Int)] S = some (.str (mkS (List.replicate k 48)), S, false) := by
 obtain ⟨d, rfl⟩ : ∃ d', d = d' + 4 := ⟨d - 4, by omega⟩
 exact tab_at (rep_tab d S) k hk

theorem decCheck_run {d : Nat} (hd : 6 ≤ d) (S : St) (neg : Bool) (l : List UInt8) (h : Nrm neg l) : runF LP NN d 123 [.agg [.bool neg, .str (mkS l), .int .i64 0]] S = some (.int .i64 0, S, false) := by
 refine run_pure (F := F123) rfl (by simp only [LP, fnOf, snapVs, snaps, zs, Bool.false_eq_true, if_false, Option.map_some, List.map_cons, List.map_nil] <;> exact rfl) rfl (by simp only [LP, zf, List.all_cons, List.all_nil, Bool.and_true, Bool.true_and]; try rfl) (by simp only [F123, zv] <;> exact rfl) (by omega) ?_
 rintro d rfl
 refine cw_seq (cw_region ?_)
 refine ow_op (by simp only [zl, zm, zc, mkS_toList, nil_toList, mkS_size, h.num, Bool.not_true, big62 h.len] <;> exact rfl) ?_
 refine ow_op (by simp only [zo] <;> exact rfl) ?_
 refine ow_nil ?_
 refine sk_n (by simp only [exports, zn, zg] <;> exact rfl) ?_
 refine cw_seq (cw_seq (cw_region ?_))
 refine ow_op (by simp only [zo, faddrD_ptr, faddrD_cptr, zm, mkS_toList, nil_toList, mkS_size, h.num, Bool.not_true, big62 h.len] <;> exact rfl) ?_
 refine ow_op (by simp only [zl, zm, loadD_cptr, loadD_ptr, partD, List.take, List.drop, mkS_toList, nil_toList, mkS_size, h.num, Bool.not_true, big62 h.len] <;> exact rfl) ?_
 refine ow_op (by simp only [zo, mkS_toList, nil_toList, mkS_size, h.num, Bool.not_true, big62 h.len]; exact number_run (by omega) _ l (by have := h.len; omega)) ?_
 refine ow_op (by simp only [zo, unD, mkS_toList, nil_toList, mkS_size, h.num, Bool.not_true, big62 h.len] <;> exact rfl) ?_
 refine ow_op (by simp only [zo] <;> exact rfl) ?_
 refine ow_know 0 (b := false) (by simp only [opd, zv, mkS_toList, nil_toList, mkS_size, h.num, Bool.not_true, big62 h.len] <;> rfl) (by simp only [zn] <;> exact rfl) ?_
 refine ow_on (by simp only [opd, zv]) ?_
 refine ow_op (by simp only [zo, faddrD_ptr, faddrD_cptr, zm, mkS_toList, nil_toList, mkS_size, h.num, Bool.not_true, big62 h.len] <;> exact rfl) ?_
 refine ow_on (by simp only [opd, zv]) ?_
 refine ow_op (by simp only [zl, zm, loadD_cptr, loadD_ptr, partD, List.take, List.drop, mkS_toList, nil_toList, mkS_size, h.num, Bool.not_true, big62 h.len] <;> exact rfl) ?_
 refine ow_on (by simp only [opd, zv]) ?_
 refine ow_op (by simp only [zo, lenD_str, lenD_nils, lenD_sl, lenD_msl, mkS_toList, nil_toList, mkS_size, h.num, Bool.not_true, big62 h.len] <;> exact rfl) ?_
 refine ow_on (by simp only [opd, zv]) ?_
 refine ow_op (by simp only [zo, binD, eq_self, ne_eq, not_false_eq_true, true_and, Int.reduceEq, ite_true, ite_false, not_true_eq_false, Int.reduceToNat, Int.reduceLT, mkS_toList, nil_toList, mkS_size, h.num, Bool.not_true, big62 h.len] <;> exact rfl) ?_
 refine ow_op (by simp only [zo, mkS_toList, nil_toList, mkS_size, h.num, Bool.not_true, big62 h.len] <;> exact rfl) ?_
 refine ow_op (by simp only [zo] <;> exact rfl) ?_
 refine ow_know 0 (b := false) (by simp only [opd, zv, mkS_toList, nil_toList, mkS_size, h.num, Bool.not_true, big62 h.len] <;> rfl) (by simp only [zn] <;> exact rfl) ?_
 refine ow_on (by simp only [opd, zv]) ?_
 refine ow_op (by simp only [zo, faddrD_ptr, faddrD_cptr, zm, mkS_toList, nil_toList, mkS_size, h.num, Bool.not_true, big62 h.len] <;> exact rfl) ?_
 refine ow_on (by simp only [opd, zv]) ?_
 refine ow_op (by simp only [zl, zm, loadD_cptr, loadD_ptr, partD, List.take, List.drop, mkS_toList, nil_toList, mkS_size, h.num, Bool.not_true, big62 h.len] <;> exact rfl) ?_
 refine ow_on (by simp only [opd, zv]) ?_
 refine ow_op (by simp only [zo, binD, eq_self, ne_eq, not_false_eq_true, true_and, Int.reduceEq, ite_true, ite_false, not_true_eq_false, Int.reduceToNat, Int.reduceLT, mkS_toList, nil_toList, mkS_size, h.num, Bool.not_true, big62 h.len] <;> exact rfl) ?_
 refine ow_op (by simp only [zo, mkS_toList, nil_toList, mkS_size, h.num, Bool.not_true, big62 h.len] <;> exact rfl) ?_
 refine ow_op (by simp only [zo] <;> exact rfl) ?_
 refine ow_know 0 (b := false) (by simp only [opd, zv, mkS_toList, nil_toList, mkS_size, h.num, Bool.not_true, big62 h.len] <;> rfl) (by simp only [zn] <;> exact rfl) ?_
 refine ow_on (by simp only [opd, zv]) ?_
 refine ow_op (by simp only [zo, faddrD_ptr, faddrD_cptr, zm, mkS_toList, nil_toList, mkS_size, h.num, Bool.not_true, big62 h.len] <;> exact rfl) ?_
 refine ow_on (by simp only [opd, zv]) ?_
 refine ow_op (by simp only [zl, zm, loadD_cptr, loadD_ptr, partD, List.take, List.drop, mkS_toList, nil_toList, mkS_size, h.num, Bool.not_true, big62 h.len] <;> exact rfl) ?_
 refine ow_on (by simp only [opd, zv]) ?_
 refine ow_op (by simp only [zo, binD, eq_self, ne_eq, not_false_eq_true, true_and, Int.reduceEq, ite_true, ite_false, not_true_eq_false, Int.reduceToNat, Int.reduceLT, mkS_toList, nil_toList, mkS_size, h.num, Bool.not_true, big62 h.len] <;> exact rfl) ?_
 refine ow_op (by simp only [zo, mkS_toList, nil_toList, mkS_size, h.num, Bool.not_true, big62 h.len] <;> exact rfl) ?_
 refine ow_nil ?_
 refine sk_n (by simp only [exports, zn, zg] <;> exact rfl) ?_
 skip
 refine cw_false (by simp only [opd, zv, mkS_toList, nil_toList, mkS_size, h.num, Bool.not_true, big62 h.len] <;> rfl) ?_
 refine cw_skip (sk_n rfl (cw_seq (cw_seq (cw_region ?_))))
 refine ow_op (by simp only [zo, faddrD_ptr, faddrD_cptr, zm, mkS_toList, nil_toList, mkS_size, h.num, Bool.not_true, big62 h.len] <;> exact rfl) ?_
 refine ow_op (by simp only [zl, zm, loadD_cptr, loadD_ptr, partD, List.take, List.drop, mkS_toList, nil_toList, mkS_size, h.num, Bool.not_true, big62 h.len] <;> exact rfl) ?_
 refine ow_op (by simp only [zo, faddrD_ptr, faddrD_cptr, zm, mkS_toList, nil_toList, mkS_size, h.num, Bool.not_true, big62 h.len] <;> exact rfl) ?_
 refine ow_op (by simp only [zl, zm, loadD_cptr, loadD_ptr, partD, List.take, List.drop, mkS_toList, nil_toList, mkS_size, h.num, Bool.not_true, big62 h.len] <;> exact rfl) ?_
 refine ow_op (by simp only [zo, faddrD_ptr, faddrD_cptr, zm, mkS_toList, nil_toList, mkS_size, h.num, Bool.not_true, big62 h.len] <;> exact rfl) ?_
 refine ow_op (by simp only [zl, zm, loadD_cptr, loadD_ptr, partD, List.take, List.drop, mkS_toList, nil_toList, mkS_size, h.num, Bool.not_true, big62 h.len] <;> exact rfl) ?_
 refine ow_op (by simp only [zo, mkS_toList, nil_toList, mkS_size, h.num, Bool.not_true, big62 h.len]; exact normal_run (by omega) _ neg l h.len) ?_
 refine ow_op (by simp only [zo] <;> exact rfl) ?_
 refine ow_op (by simp only [zo, List.getElem?_cons_zero, List.getElem?_cons_succ, mkS_toList, nil_toList, mkS_size, h.num, Bool.not_true, big62 h.len] <;> exact rfl) ?_
 refine ow_op (by simp only [zo, List.getElem?_cons_zero, List.getElem?_cons_succ, mkS_toList, nil_toList, mkS_size, h.num, Bool.not_true, big62 h.len] <;> exact rfl) ?_
 refine ow_op (by simp only [zl, zm, mkS_toList, nil_toList, mkS_size, h.num, Bool.not_true, big62 h.len] <;> exact rfl) ?_
 refine ow_op (by simp only [zl, zm, storeD, overlay, snapVs, snaps, zs, zc, zf, List.take, List.drop, mkS_toList, nil_toList, mkS_size, h.num, Bool.not_true, big62 h.len] <;> exact rfl) ?_
 refine ow_op (by simp only [zo] <;> exact rfl) ?_
 refine ow_nil ?_
 refine sk_n (by simp only [exports, zn, zg] <;> exact rfl) ?_
 refine cw_seq (cw_region ?_)
 refine ow_op (by simp only [zo] <;> exact rfl) ?_
 refine ow_op (by simp only [zo, binD, eq_self, ne_eq, not_false_eq_true, true_and, Int.reduceEq, ite_true, ite_false, not_true_eq_false, Int.reduceToNat, Int.reduceLT, mkS_toList, nil_toList, mkS_size, h.num, Bool.not_true, big62 h.len] <;> exact rfl) ?_
 refine ow_op (by simp only [zo] <;> exact rfl) ?_
 refine ow_know 0 (b := false) (by simp only [opd, zv, mkS_toList, nil_toList, mkS_size, h.num, Bool.not_true, big62 h.len] <;> rfl) (by simp only [zn] <;> exact rfl) ?_
 refine ow_on (by simp only [opd, zv]) ?_
 refine ow_op (by simp only [zl, zm, loadD_cptr, loadD_ptr, partD, List.take, List.drop, mkS_toList, nil_toList, mkS_size, h.num, Bool.not_true, big62 h.len] <;> exact rfl) ?_
 refine ow_on (by simp only [opd, zv]) ?_
 refine ow_op (by simp only [zl, zm, loadD_cptr, loadD_ptr, partD, List.take, List.drop, mkS_toList, nil_toList, mkS_size, h.num, Bool.not_true, big62 h.len] <;> exact rfl) ?_
 refine ow_on (by simp only [opd, zv]) ?_
 refine ow_op (by simp only [zo, eqCells, eqCell, isKey, h.sg, h.st, beq_self_eq_true, Bool.and_self, if_true, Option.map_some, bne_self_eq_false, ba_self, mkS_toList, nil_toList, mkS_size, h.num, Bool.not_true, big62 h.len] <;> exact rfl) ?_
 refine ow_op (by simp only [zo, mkS_toList, nil_toList, mkS_size, h.num, Bool.not_true, big62 h.len] <;> exact rfl) ?_
 refine ow_nil ?_
 refine sk_n (by simp only [exports, zn, zg] <;> exact rfl) ?_
 skip
 refine cw_false (by simp only [opd, zv, mkS_toList, nil_toList, mkS_size, h.num, Bool.not_true, big62 h.len] <;> rfl) ?_
 refine cw_skip (sk_n rfl (cw_seq (cw_region ?_)))
 refine ow_op (by simp only [zo] <;> exact rfl) ?_
 refine ow_nil ?_
 refine sk_n (by simp only [exports, zn, zg] <;> exact rfl) ?_
 refine cw_ret ?_
 refine ⟨_, by simp only [F123, resultD, resDs, resD, List.getD_cons_zero, List.getD_cons_succ, loadD_cptr, loadD_ptr, rowsOf, partD, List.getElem?_cons_zero, List.getElem?_cons_succ, if_true, if_false, Bool.false_eq_true, List.take, List.drop, zm] <;> exact rfl, ?_⟩
 rfl

theorem both_run {d : Nat} (hd : 7 ≤ d) (S : St) (na nb : Bool) (a b : List UInt8) (ha : Nrm na a) (hb : Nrm nb b) : runF LP NN d 83 [.agg [.bool na, .str (mkS a), .int .i64 0], .agg [.bool nb, .str (mkS b), .int .i64 0]] S = some (.int .i64 0, S, false) := by
 refine run_pure (F := F83) rfl (by simp only [LP, fnOf, snapVs, snaps, zs, Bool.false_eq_true, if_false, Option.map_some, List.map_cons, List.map_nil] <;> exact rfl) rfl (by simp only [LP, zf, List.all_cons, List.all_nil, Bool.and_true, Bool.true_and]; try rfl) (by simp only [F83, zv] <;> exact rfl) (by omega) ?_
 rintro d rfl
 refine cw_seq (cw_region ?_)
 refine ow_op (by simp only [zl, zm, zc] <;> exact rfl) ?_
 refine ow_op (by simp only [zl, zm, zc] <;> exact rfl) ?_
 refine ow_op (by simp only [zo] <;> exact rfl) ?_
 refine ow_nil ?_
 refine sk_n (by simp only [exports, zn, zg] <;> exact rfl) ?_
 refine cw_seq ?_
 refine cw_drawn (by simp only [newsVals, List.length_nil, List.length_cons, List.range_succ, List.range_zero, List.nil_append, List.map_nil, List.reverse_nil, List.cons_append, List.map_cons, List.reverse_cons, Nat.zero_add, Nat.add_zero, Nat.reduceAdd] <;> exact rfl) (by simp only [List.map_nil, List.map_cons, newsObj, St.eta, List.append_nil, List.cons_append, List.nil_append, List.length_cons, List.length_nil] <;> exact rfl) ?_
 refine dw_op (by simp only [zl, zm, loadD_cptr, loadD_ptr, partD, List.take, List.drop] <;> exact rfl) (by simp only [fpHere, opd, List.map_cons, List.map_nil, List.getD_cons_zero, List.getD_cons_succ, zq] <;> exact rfl) rfl ?_
 first
  | refine dw_op (by simp only [zo]; exact decCheck_run (by omega) _ na a ha) (by simp only [fpHere, opd, List.map_cons, List.map_nil, List.getD_cons_zero, List.getD_cons_succ, zq] <;> exact rfl) rfl ?_
  | refine dw_op (by simp only [zo]; exact decCheck_run (by omega) _ nb b hb) (by simp only [fpHere, opd, List.map_cons, List.map_nil, List.getD_cons_zero, List.getD_cons_succ, zq] <;> exact rfl) rfl ?_
 refine dw_op (by simp only [zl, zm, loadD_cptr, loadD_ptr, partD, List.take, List.drop] <;> exact rfl) (by simp only [fpHere, opd, List.map_cons, List.map_nil, List.getD_cons_zero, List.getD_cons_succ, zq] <;> exact rfl) rfl ?_
 first
  | refine dw_op (by simp only [zo]; exact decCheck_run (by omega) _ na a ha) (by simp only [fpHere, opd, List.map_cons, List.map_nil, List.getD_cons_zero, List.getD_cons_succ, zq] <;> exact rfl) rfl ?_
  | refine dw_op (by simp only [zo]; exact decCheck_run (by omega) _ nb b hb) (by simp only [fpHere, opd, List.map_cons, List.map_nil, List.getD_cons_zero, List.getD_cons_succ, zq] <;> exact rfl) rfl ?_
 refine dw_quiet (by simp only [zo, foldD, maxD] <;> exact rfl) rfl rfl ?_
 refine dw_quiet (by simp only [zo] <;> exact rfl) rfl rfl ?_
 refine dw_nil ?_
 refine sk_n (by simp only [exports, zn, zg] <;> exact rfl) ?_
 refine cw_ret ?_
 refine ⟨_, by simp only [F83, resultD, resDs, resD, List.getD_cons_zero, List.getD_cons_succ, loadD_cptr, loadD_ptr, rowsOf, partD, List.getElem?_cons_zero, List.getElem?_cons_succ, if_true, if_false, Bool.false_eq_true, List.take, List.drop, zm] <;> exact rfl, ?_⟩
 rfl

theorem padded_run {d : Nat} (hd : 5 ≤ d) (S : St) (l : List UInt8) (n : Nat) (hn : n - l.length < 7) (h62 : l.length ≤ 62) : runF LP NN d 124 [.str (mkS l), .int .i64 n] S = some (.str (mkS (pad n l)), S, false) := by
 have hk : IntKind.i64.wrap ((n : Int) - (l.length : Int)) = (n : Int) - (l.length : Int) := by rw [IntKind.wrap_i64]; omega
 have hmx : (if (0 : Int) > (n : Int) - (l.length : Int) then (0 : Int) else (n : Int) - (l.length : Int)) = ((n - l.length : Nat) : Int) := by split <;> omega
 refine run_pure (F := F124) rfl (by simp only [LP, fnOf, snapVs, snaps, zs, Bool.false_eq_true, if_false, Option.map_some, List.map_cons, List.map_nil] <;> exact rfl) rfl (by simp only [LP, zf, List.all_cons, List.all_nil, Bool.and_true, Bool.true_and]; try rfl) (by simp only [F124, zv] <;> exact rfl) (by omega) ?_
 rintro d rfl
 refine cw_seq (cw_region ?_)
 refine ow_op (by simp only [zo] <;> exact rfl) ?_
 refine ow_nil ?_
 refine sk_n (by simp only [exports, zn, zg] <;> exact rfl) ?_
 refine cw_seq (cw_region ?_)
 refine ow_op (by simp only [zo] <;> exact rfl) ?_
 refine ow_op (by simp only [zo] <;> exact rfl) ?_
 refine ow_op (by simp only [zo, lenD_str, lenD_nils, lenD_sl, lenD_msl, mkS_toList, nil_toList, mkS_size, hk, hmx] <;> exact rfl) ?_
 refine ow_op (by simp only [zo, binD, eq_self, ne_eq, not_false_eq_true, true_and, Int.reduceEq, ite_true, ite_false, not_true_eq_false, Int.reduceToNat, Int.reduceLT, mkS_toList, nil_toList, mkS_size, hk, hmx] <;> exact rfl) ?_
 refine ow_op (by simp only [zo, foldD, maxD, mkS_toList, nil_toList, mkS_size, hk, hmx] <;> exact rfl) ?_
 refine ow_op (by simp only [zo, mkS_toList, nil_toList, mkS_size, hk, hmx]; exact rep_run (by omega) _ (n - l.length) hn) ?_
 refine ow_op (by simp only [zo] <;> exact rfl) ?_
 refine ow_op (by simp only [zo, binD, eq_self, ne_eq, not_false_eq_true, true_and, Int.reduceEq, ite_true, ite_false, not_true_eq_false, Int.reduceToNat, Int.reduceLT, mkS_app, mkS_size]; rw [if_neg (by rw [show IntKind.i64.max = 9223372036854775807 from rfl]; simp; omega)]; exact rfl) ?_
 refine ow_op (by simp only [zo] <;> exact rfl) ?_
 refine ow_nil ?_
 refine sk_n (by simp only [exports, zn, zg] <;> exact rfl) ?_
 refine cw_ret ?_
 refine ⟨_, by simp only [F124, resultD, resDs, resD, List.getD_cons_zero, List.getD_cons_succ, loadD_cptr, loadD_ptr, rowsOf, partD, List.getElem?_cons_zero, List.getElem?_cons_succ, if_true, if_false, Bool.false_eq_true, List.take, List.drop, zm] <;> exact rfl, ?_⟩
 rfl

end Go.Proofs.YtabgobmeibjeeaaGreatDoor

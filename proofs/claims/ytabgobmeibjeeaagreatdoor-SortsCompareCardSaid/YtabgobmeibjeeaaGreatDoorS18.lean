/- Proved here: what functions of the program compute, in the abstract machine; no condition. -/
import Derived.Test.YtabgobmeibjeeaaGreatDoorS17
namespace Go.Proofs.YtabgobmeibjeeaaGreatDoor
set_option linter.unusedSimpArgs false
set_option linter.unusedVariables false
set_option maxRecDepth 10000

theorem textK_run {d : Nat} (hd : 12 ≤ d) (S : St) (n : Nat) (h1 : 1 ≤ n) (h6 : n ≤ 6) : runF LP NN d 27 [.int .i64 n] S = some (.agg [.int .u8 2, .int .u8 0, .str (mkS (List.replicate n 88)), .int .i64 0, .int .i64 0, .bool false, .bool false, .bool false, .bool false, .bool false, .int .i64 n], S, false) := by
 obtain ⟨d, rfl⟩ : ∃ d', d = d' + 12 := ⟨d - 12, by omega⟩
 obtain ⟨k, rfl⟩ : ∃ k, n = k + 1 := ⟨n - 1, by omega⟩
 exact tab_at (text_tab d S) k (by omega)
theorem numK_run {d : Nat} (hd : 12 ≤ d) (S : St) (n : Nat) (h1 : 1 ≤ n) (h6 : n ≤ 6) : runF LP NN d 28 [.int .i64 n] S = some (.agg [.int .u8 4, .int .u8 0, .str (mkS (List.replicate n 57)), .int .i64 n, .int .i64 0, .bool false, .bool false, .bool false, .bool false, .bool false, .int .i64 n], S, false) := by
 obtain ⟨d, rfl⟩ : ∃ d', d = d' + 12 := ⟨d - 12, by omega⟩
 obtain ⟨k, rfl⟩ : ∃ k, n = k + 1 := ⟨n - 1, by omega⟩
 exact tab_at (number_tab d S) k (by omega)
/-- the key of a triple -/
def kT (a n : Nat) (dn : Bool) : Ke := ⟨⟨2, 0, mkS (List.replicate n 88), 0, 0, false, false, false, false, false, n⟩, a, n, dn⟩
def kN (a n : Nat) (dn : Bool) : Ke := ⟨⟨4, 0, mkS (List.replicate n 57), n, 0, false, false, false, false, false, n⟩, a, n, dn⟩
def kat (t : Nat × Nat × Nat) : Nat := t.1 % 6
def kln (t : Nat × Nat × Nat) : Nat := 1 + t.2.1 % (6 - kat t)
def keyOf (t : Nat × Nat × Nat) : Ke := if t.2.2 / 2 % 2 = 1 then kN (kat t) (kln t) (t.2.2 % 2 == 1) else kT (kat t) (kln t) (t.2.2 % 2 == 1)
def triRows (l : List (Nat × Nat × Nat)) : List (List D) := l.map fun t => [.int .u8 (t.1 : Int), .int .u8 (t.2.1 : Int), .int .u8 (t.2.2 : Int)]
theorem triRows_len (l : List (Nat × Nat × Nat)) : (triRows l).length = l.length := by simp [triRows]
theorem triRows_at {l : List (Nat × Nat × Nat)} {i : Nat} {t : Nat × Nat × Nat} (h : l[i]? = some t) : (triRows l)[i]? = some [.int .u8 (t.1 : Int), .int .u8 (t.2.1 : Int), .int .u8 (t.2.2 : Int)] := by simp [triRows, h]
def keysF (l : List (Nat × Nat × Nat)) : List Ke := if l = [] then [kT 0 6 false] else (l.take 4).map keyOf
theorem kln_le (t : Nat × Nat × Nat) : 1 ≤ kln t ∧ kat t + kln t ≤ 6 := by
 unfold kln kat
 have : t.2.1 % (6 - t.1 % 6) < 6 - t.1 % 6 := Nat.mod_lt _ (by omega)
 omega

theorem kOf_run {d : Nat} (hd : 13 ≤ d) (S : St) {x : D} {l : List (Nat × Nat × Nat)} (hS : SlD 3 (triRows l) x) (hbd : ∀ t ∈ l, t.1 < 256 ∧ t.2.1 < 256 ∧ t.2.2 < 256) (hll : l.length ≤ 9223372036854775807) : runF LP NN d 10 [x] S = some (.sl 14 (keRows (keysF l)) none, S, false) := by
 refine run_pure (F := F10) rfl (by simp only [LP, fnOf, snapVs, snaps, zs, Bool.false_eq_true, if_false, Option.map_some, List.map_cons, List.map_nil, hS.snapV, hS.freeV] <;> exact rfl) rfl (by simp only [LP, zf, List.all_cons, List.all_nil, Bool.and_true, Bool.true_and, hS.snapV, hS.freeV]; try rfl) (by simp only [F10, zv] <;> exact rfl) (by omega) ?_
 rintro d rfl
 refine cw_seq (cw_region ?_)
 refine ow_op (by simp only [zo] <;> exact rfl) ?_
 refine ow_nil ?_
 refine sk_n (by simp only [exports, zn, zg] <;> exact rfl) ?_
 refine cw_seq (cw_region ?_)
 refine ow_op (by simp only [zo] <;> exact rfl) ?_
 refine ow_nil ?_
 refine sk_n (by simp only [exports, zn, zg] <;> exact rfl) ?_
 refine cw_seq (cw_seq (cw_region ?_))
 refine ow_op (by simp only [zo] <;> exact rfl) ?_
 refine ow_nil ?_
 refine sk_n (by simp only [exports, zn, zg] <;> exact rfl) ?_
 refine cw_block ?_
 refine cw_loop (fun n env S' => ∃ (i : Nat) (H : List AObj) (ox u4 u5 u6 u7 u8 u9 : D), i ≤ l.length ∧ i ≤ 4 ∧ n = 4 - i ∧ AppAt 59 14 (keRows ((l.take i).map keyOf)) H ox ∧ S' = ⟨H, 0⟩ ∧ env = [x, .nils, ox, .int .i64 i, u4, u5, u6, u7, u8, u9]) (4) (by omega) (⟨0, _, _, _, _, _, _, _, _, by omega, by omega, by omega, AppAt.nil _ _ _, rfl, rfl⟩) ?_
 rintro n env S' ⟨i, H, ox, u4, u5, u6, u7, u8, u9, hi, hi4, rfl, hA, rfl, rfl⟩
 have h0 : (0 : Int) ≤ (i : Int) := by omega
 refine cw_seq (cw_seq (cw_region ?_))
 refine ow_op (by simp only [zo] <;> exact rfl) ?_
 refine ow_op (by simp only [zo] <;> exact rfl) ?_
 refine ow_op (by simp only [zo, lenD_str, lenD_nils, lenD_sl, lenD_msl, hS.len, triRows_len, Nat.add_assoc, Nat.reduceAdd, h0] <;> exact rfl) ?_
 refine ow_op (by simp only [zo, binD, eq_self, ne_eq, not_false_eq_true, true_and, Int.reduceEq, ite_true, ite_false, not_true_eq_false, Int.reduceToNat, Int.reduceLT, hS.len, triRows_len, Nat.add_assoc, Nat.reduceAdd, h0] <;> exact rfl) ?_
 refine ow_op (by simp only [zo] <;> exact rfl) ?_
 refine ow_split 0 (by simp only [opd, zv] <;> exact rfl) (by simp only [zn] <;> exact rfl) (by simp only [zn] <;> exact rfl) (fun hgA => ?_) (fun hgA => ?_)
 ·
  have hlt : i < l.length := by have := of_decide_eq_true hgA; omega
  have hw := wrap_nat i (by omega)
  obtain ⟨t, ht⟩ : ∃ t, l[i]? = some t := ⟨_, List.getElem?_eq_getElem hlt⟩
  have htm := List.mem_of_getElem? ht
  obtain ⟨hb1, hb2, hb3⟩ := hbd t htm
  obtain ⟨hn1, hn6⟩ := kln_le t
  have hia := fun (S : St) => hS.iaddrN S .i64 (triRows_at ht)
  have e1 : IntKind.i64.wrap ((t.1 : Int).tmod 6) = (kat t : Int) := by rw [Int.tmod_eq_emod_of_nonneg (by omega), IntKind.wrap_i64]; unfold kat; omega
  have e2 : IntKind.i64.wrap (t.2.1 : Int) = (t.2.1 : Int) := by rw [IntKind.wrap_i64]; omega
  have e3 : IntKind.i64.wrap (6 - (kat t : Int)) = ((6 - kat t : Nat) : Int) := by rw [IntKind.wrap_i64]; unfold kat; omega
  have e4 : IntKind.i64.wrap (1 + (t.2.1 : Int).tmod ((6 - kat t : Nat) : Int)) = (kln t : Int) := by rw [Int.tmod_eq_emod_of_nonneg (by omega), IntKind.wrap_i64]; unfold kln; have : t.2.1 % (6 - kat t) < 6 - kat t := Nat.mod_lt _ (by unfold kat; omega); rw [← Int.natCast_emod]; omega
  have e5 : ((6 - kat t : Nat) : Int) ≠ 0 := by unfold kat; omega
  have e6 : ((t.2.2 : Int).tmod 2 == 1) = (t.2.2 % 2 == 1) := by rw [Int.tmod_eq_emod_of_nonneg (by omega), Bool.eq_iff_iff]; simp only [beq_iff_eq]; omega
  have e7 : IntKind.u8.wrap ((t.2.2 : Int).tdiv 2) = ((t.2.2 / 2 : Nat) : Int) := by rw [Int.tdiv_eq_ediv_of_nonneg (by omega)]; simp only [IntKind.wrap, IntKind.signed, IntKind.bits, Bool.false_and, Bool.false_eq_true, if_false]; omega
  have hsn : (l.take (i + 1)).map keyOf = (l.take i).map keyOf ++ [keyOf t] := by rw [List.take_add_one, ht]; simp
  refine ow_on (by simp only [opd, zv]) ?_
  refine ow_op (by simp only [zo] <;> exact rfl) ?_
  refine ow_on (by simp only [opd, zv]) ?_
  refine ow_op (by simp only [zo, binD, eq_self, ne_eq, not_false_eq_true, true_and, Int.reduceEq, ite_true, ite_false, not_true_eq_false, Int.reduceToNat, Int.reduceLT, hS.len, triRows_len, Nat.add_assoc, Nat.reduceAdd, h0, hw, hia, e1, e2, e3, e4, e5, e6, e7] <;> exact rfl) ?_
  refine ow_op (by simp only [zo, hS.len, triRows_len, Nat.add_assoc, Nat.reduceAdd, h0, hw, hia, e1, e2, e3, e4, e5, e6, e7] <;> exact rfl) ?_
  refine ow_nil ?_
  refine sk_n (by simp only [exports, zn, zg] <;> exact rfl) ?_
  refine cw_cond (by simp only [opd, zv, hS.len, triRows_len, Nat.add_assoc, Nat.reduceAdd, h0, hw, hia, e1, e2, e3, e4, e5, e6, e7] <;> exact rfl) (fun hcAT => ?_) (fun hcAT => ?_)
  ·
   have hi5 : i < 4 := by have := of_decide_eq_true hcAT; omega
   refine cw_skip (sk_n rfl (cw_seq (cw_block (cw_seq (cw_region ?_)))))
   refine ow_op (by simp only [zo] <;> exact rfl) ?_
   refine ow_op (by simp only [zo] <;> exact rfl) ?_
   refine ow_op (by simp only [zl, zm, iaddrD_sl, iaddrD_msl, Int.toNat_natCast, Int.toNat_zero, List.getElem?_map, Option.map_some, Int.le_refl, hS.len, triRows_len, Nat.add_assoc, Nat.reduceAdd, h0, hw, hia, e1, e2, e3, e4, e5, e6, e7] <;> exact rfl) ?_
   refine ow_op (by simp only [zo, aaddrD, zm, hS.len, triRows_len, Nat.add_assoc, Nat.reduceAdd, h0, hw, hia, e1, e2, e3, e4, e5, e6, e7] <;> exact rfl) ?_
   refine ow_op (by simp only [zl, zm, loadD_cptr, loadD_ptr, partD, List.take, List.drop, hS.len, triRows_len, Nat.add_assoc, Nat.reduceAdd, h0, hw, hia, e1, e2, e3, e4, e5, e6, e7] <;> exact rfl) ?_
   refine ow_op (by simp only [zo, binD, eq_self, ne_eq, not_false_eq_true, true_and, Int.reduceEq, ite_true, ite_false, not_true_eq_false, Int.reduceToNat, Int.reduceLT, hS.len, triRows_len, Nat.add_assoc, Nat.reduceAdd, h0, hw, hia, e1, e2, e3, e4, e5, e6, e7] <;> exact rfl) ?_
   refine ow_op (by simp only [zo, hS.len, triRows_len, Nat.add_assoc, Nat.reduceAdd, h0, hw, hia, e1, e2, e3, e4, e5, e6, e7] <;> exact rfl) ?_
   refine ow_op (by simp only [zo] <;> exact rfl) ?_
   refine ow_nil ?_
   refine sk_n (by simp only [exports, zn, zg] <;> exact rfl) ?_
   refine cw_seq (cw_region ?_)
   refine ow_op (by simp only [zo] <;> exact rfl) ?_
   refine ow_op (by simp only [zo] <;> exact rfl) ?_
   refine ow_op (by simp only [zl, zm, iaddrD_sl, iaddrD_msl, Int.toNat_natCast, Int.toNat_zero, List.getElem?_map, Option.map_some, Int.le_refl, hS.len, triRows_len, Nat.add_assoc, Nat.reduceAdd, h0, hw, hia, e1, e2, e3, e4, e5, e6, e7] <;> exact rfl) ?_
   refine ow_op (by simp only [zo, aaddrD, zm, hS.len, triRows_len, Nat.add_assoc, Nat.reduceAdd, h0, hw, hia, e1, e2, e3, e4, e5, e6, e7] <;> exact rfl) ?_
   refine ow_op (by simp only [zl, zm, loadD_cptr, loadD_ptr, partD, List.take, List.drop, hS.len, triRows_len, Nat.add_assoc, Nat.reduceAdd, h0, hw, hia, e1, e2, e3, e4, e5, e6, e7] <;> exact rfl) ?_
   refine ow_op (by simp only [zo, hS.len, triRows_len, Nat.add_assoc, Nat.reduceAdd, h0, hw, hia, e1, e2, e3, e4, e5, e6, e7] <;> exact rfl) ?_
   refine ow_op (by simp only [zo] <;> exact rfl) ?_
   refine ow_op (by simp only [zo, binD, eq_self, ne_eq, not_false_eq_true, true_and, Int.reduceEq, ite_true, ite_false, not_true_eq_false, Int.reduceToNat, Int.reduceLT, hS.len, triRows_len, Nat.add_assoc, Nat.reduceAdd, h0, hw, hia, e1, e2, e3, e4, e5, e6, e7] <;> exact rfl) ?_
   refine ow_op (by simp only [zo, binD, eq_self, ne_eq, not_false_eq_true, true_and, Int.reduceEq, ite_true, ite_false, not_true_eq_false, Int.reduceToNat, Int.reduceLT, hS.len, triRows_len, Nat.add_assoc, Nat.reduceAdd, h0, hw, hia, e1, e2, e3, e4, e5, e6, e7] <;> exact rfl) ?_
   refine ow_op (by simp only [zo, binD, eq_self, ne_eq, not_false_eq_true, true_and, Int.reduceEq, ite_true, ite_false, not_true_eq_false, Int.reduceToNat, Int.reduceLT, hS.len, triRows_len, Nat.add_assoc, Nat.reduceAdd, h0, hw, hia, e1, e2, e3, e4, e5, e6, e7] <;> exact rfl) ?_
   refine ow_op (by simp only [zo] <;> exact rfl) ?_
   refine ow_nil ?_
   refine sk_n (by simp only [exports, zn, zg] <;> exact rfl) ?_
   refine cw_seq ?_
   refine cw_drawn (by simp only [newsVals, List.length_nil, List.length_cons, List.range_succ, List.range_zero, List.nil_append, List.map_nil, List.reverse_nil, List.cons_append, List.map_cons, List.reverse_cons, Nat.zero_add, Nat.add_zero, Nat.reduceAdd] <;> exact rfl) (by simp only [List.map_nil, List.map_cons, newsObj, St.eta, List.append_nil, List.cons_append, List.nil_append, List.length_cons, List.length_nil] <;> exact rfl) ?_
   refine dw_quiet (by simp only [zo] <;> exact rfl) rfl rfl ?_
   refine dw_quiet (by simp only [zo] <;> exact rfl) rfl rfl ?_
   refine dw_quiet (by simp only [zo, fillD, overlay, zc, List.take, List.drop, Nat.reduceAdd, Nat.reduceLeDiff, Nat.reduceBEq, zm, hS.len, triRows_len, Nat.add_assoc, Nat.reduceAdd, h0, hw, hia, e1, e2, e3, e4, e5, e6, e7] <;> exact rfl) rfl rfl ?_
   refine dw_quiet (by simp only [zo] <;> exact rfl) rfl rfl ?_
   first
    | refine dw_op (by simp only [zo, hS.len, triRows_len, Nat.add_assoc, Nat.reduceAdd, h0, hw, hia, e1, e2, e3, e4, e5, e6, e7]; exact textK_run (by omega) _ (kln t) hn1 (by omega)) (by simp only [fpHere, opd, List.map_cons, List.map_nil, List.getD_cons_zero, List.getD_cons_succ, zq, hS.fpi, plainV_agg, List.all_cons, List.all_nil, plain1_int, plain1_str, plain1_bool, plain1_nils, Bool.and_true, Bool.and_self, if_true] <;> exact rfl) rfl ?_
    | refine dw_op (by simp only [zo, hS.len, triRows_len, Nat.add_assoc, Nat.reduceAdd, h0, hw, hia, e1, e2, e3, e4, e5, e6, e7]; exact textK_run (by omega) _ 6 (by omega) (by omega)) (by simp only [fpHere, opd, List.map_cons, List.map_nil, List.getD_cons_zero, List.getD_cons_succ, zq, hS.fpi, plainV_agg, List.all_cons, List.all_nil, plain1_int, plain1_str, plain1_bool, plain1_nils, Bool.and_true, Bool.and_self, if_true] <;> exact rfl) rfl ?_
   refine dw_quiet (by simp only [zo] <;> exact rfl) rfl rfl ?_
   refine dw_quiet (by simp only [zo] <;> exact rfl) rfl rfl ?_
   refine dw_op (by simp only [zl, zm, iaddrD_sl, iaddrD_msl, Int.toNat_natCast, Int.toNat_zero, List.getElem?_map, Option.map_some, Int.le_refl, hS.len, triRows_len, Nat.add_assoc, Nat.reduceAdd, h0, hw, hia, e1, e2, e3, e4, e5, e6, e7] <;> exact rfl) (by simp only [fpHere, opd, List.map_cons, List.map_nil, List.getD_cons_zero, List.getD_cons_succ, zq, hS.fpi, plainV_agg, List.all_cons, List.all_nil, plain1_int, plain1_str, plain1_bool, plain1_nils, Bool.and_true, Bool.and_self, if_true] <;> exact rfl) rfl ?_
   refine dw_quiet (by simp only [zo, aaddrD, zm, hS.len, triRows_len, Nat.add_assoc, Nat.reduceAdd, h0, hw, hia, e1, e2, e3, e4, e5, e6, e7] <;> exact rfl) rfl rfl ?_
   refine dw_op (by simp only [zl, zm, loadD_cptr, loadD_ptr, partD, List.take, List.drop, hS.len, triRows_len, Nat.add_assoc, Nat.reduceAdd, h0, hw, hia, e1, e2, e3, e4, e5, e6, e7] <;> exact rfl) (by simp only [fpHere, opd, List.map_cons, List.map_nil, List.getD_cons_zero, List.getD_cons_succ, zq, hS.fpi, plainV_agg, List.all_cons, List.all_nil, plain1_int, plain1_str, plain1_bool, plain1_nils, Bool.and_true, Bool.and_self, if_true] <;> exact rfl) rfl ?_
   refine dw_quiet (by simp only [zo, binD, eq_self, ne_eq, not_false_eq_true, true_and, Int.reduceEq, ite_true, ite_false, not_true_eq_false, Int.reduceToNat, Int.reduceLT, hS.len, triRows_len, Nat.add_assoc, Nat.reduceAdd, h0, hw, hia, e1, e2, e3, e4, e5, e6, e7] <;> exact rfl) rfl rfl ?_
   refine dw_quiet (by simp only [zo, binD, eq_self, ne_eq, not_false_eq_true, true_and, Int.reduceEq, ite_true, ite_false, not_true_eq_false, Int.reduceToNat, Int.reduceLT, hS.len, triRows_len, Nat.add_assoc, Nat.reduceAdd, h0, hw, hia, e1, e2, e3, e4, e5, e6, e7] <;> exact rfl) rfl rfl ?_
   refine dw_quiet (by simp only [zo, fillD, overlay, zc, List.take, List.drop, Nat.reduceAdd, Nat.reduceLeDiff, Nat.reduceBEq, zm, hS.len, triRows_len, Nat.add_assoc, Nat.reduceAdd, h0, hw, hia, e1, e2, e3, e4, e5, e6, e7] <;> exact rfl) rfl rfl ?_
   refine dw_op (by simp only [zo] <;> exact rfl) rfl rfl ?_
   refine dw_op (by simp only [zl, zm, storeD, overlay, snapVs, snaps, zs, zc, zf, List.take, List.drop, hS.len, triRows_len, Nat.add_assoc, Nat.reduceAdd, h0, hw, hia, e1, e2, e3, e4, e5, e6, e7] <;> exact rfl) (by simp only [fpHere, opd, List.map_cons, List.map_nil, List.getD_cons_zero, List.getD_cons_succ, zq, hS.fpi, plainV_agg, List.all_cons, List.all_nil, plain1_int, plain1_str, plain1_bool, plain1_nils, Bool.and_true, Bool.and_self, if_true] <;> exact rfl) rfl ?_
   refine dw_nil ?_
   refine sk_n (by simp only [exports, zn, zg] <;> exact rfl) ?_
   refine cw_seq (cw_seq (cw_region ?_))
   refine ow_op (by simp only [zo] <;> exact rfl) ?_
   refine ow_op (by simp only [zo] <;> exact rfl) ?_
   refine ow_op (by simp only [zl, zm, iaddrD_sl, iaddrD_msl, Int.toNat_natCast, Int.toNat_zero, List.getElem?_map, Option.map_some, Int.le_refl, hS.len, triRows_len, Nat.add_assoc, Nat.reduceAdd, h0, hw, hia, e1, e2, e3, e4, e5, e6, e7] <;> exact rfl) ?_
   refine ow_op (by simp only [zo, aaddrD, zm, hS.len, triRows_len, Nat.add_assoc, Nat.reduceAdd, h0, hw, hia, e1, e2, e3, e4, e5, e6, e7] <;> exact rfl) ?_
   refine ow_op (by simp only [zl, zm, loadD_cptr, loadD_ptr, partD, List.take, List.drop, hS.len, triRows_len, Nat.add_assoc, Nat.reduceAdd, h0, hw, hia, e1, e2, e3, e4, e5, e6, e7] <;> exact rfl) ?_
   refine ow_op (by simp only [zo, binD, eq_self, ne_eq, not_false_eq_true, true_and, Int.reduceEq, ite_true, ite_false, not_true_eq_false, Int.reduceToNat, Int.reduceLT, hS.len, triRows_len, Nat.add_assoc, Nat.reduceAdd, h0, hw, hia, e1, e2, e3, e4, e5, e6, e7] <;> exact rfl) ?_
   refine ow_op (by simp only [zo, binD, eq_self, ne_eq, not_false_eq_true, true_and, Int.reduceEq, ite_true, ite_false, not_true_eq_false, Int.reduceToNat, Int.reduceLT, hS.len, triRows_len, Nat.add_assoc, Nat.reduceAdd, h0, hw, hia, e1, e2, e3, e4, e5, e6, e7] <;> exact rfl) ?_
   refine ow_op (by simp only [zo, binD, eq_self, ne_eq, not_false_eq_true, true_and, Int.reduceEq, ite_true, ite_false, not_true_eq_false, Int.reduceToNat, Int.reduceLT, hS.len, triRows_len, Nat.add_assoc, Nat.reduceAdd, h0, hw, hia, e1, e2, e3, e4, e5, e6, e7] <;> exact rfl) ?_
   refine ow_nil ?_
   refine sk_n (by simp only [exports, zn, zg] <;> exact rfl) ?_
   refine cw_cond (by simp only [opd, zv, hS.len, triRows_len, Nat.add_assoc, Nat.reduceAdd, h0, hw, hia, e1, e2, e3, e4, e5, e6, e7] <;> exact rfl) (fun hcATT => ?_) (fun hcATT => ?_)
   ·
    have hkey : keyOf t = kN (kat t) (kln t) (t.2.2 % 2 == 1) := by rw [keyOf, if_pos (by have := hcATT; rw [Int.tmod_eq_emod_of_nonneg (by omega)] at this; simp only [beq_iff_eq] at this; omega)]
    have hA2 := (hA.push [⟨59, 14, [(kN (kat t) (kln t) (t.2.2 % 2 == 1)).row], 0, 0, false⟩])
    obtain ⟨ox', H', hap, hA', hlen', hkeep⟩ := hA2.app 80 (new := [(kN (kat t) (kln t) (t.2.2 % 2 == 1)).row]) (c := some 1) rfl (by rw [keRows_len]; simp; omega)
    rw [show keRows ((l.take i).map keyOf) ++ [(kN (kat t) (kln t) (t.2.2 % 2 == 1)).row] = keRows ((l.take i).map keyOf ++ [keyOf t]) by rw [hkey]; simp [keRows]] at hA'
    simp only [kN, Ke.row] at hap
    refine cw_region ?_
    refine ow_op (by simp only [zo] <;> exact rfl) ?_
    refine ow_op (by simp only [zo, hS.len, triRows_len, Nat.add_assoc, Nat.reduceAdd, h0, hw, hia, e1, e2, e3, e4, e5, e6, e7]; exact numK_run (by omega) _ (kln t) hn1 (by omega)) ?_
    refine ow_op (by simp only [zo, faddrD_ptr, faddrD_cptr, zm, hS.len, triRows_len, Nat.add_assoc, Nat.reduceAdd, h0, hw, hia, e1, e2, e3, e4, e5, e6, e7] <;> exact rfl) ?_
    refine ow_op (by simp only [zl, zm, storeD, overlay, snapVs, snaps, zs, zc, zf, List.take, List.drop, hS.len, triRows_len, Nat.add_assoc, Nat.reduceAdd, h0, hw, hia, e1, e2, e3, e4, e5, e6, e7] <;> exact rfl) ?_
    refine ow_nil ?_
    refine sk_n (by simp only [exports, zn, zg] <;> exact rfl) ?_
    refine cw_region ?_
    refine ow_op (by simp only [zo] <;> exact rfl) ?_
    refine ow_op (by simp only [zl, zm, loadD_cptr, loadD_ptr, partD, List.take, List.drop, hS.len, triRows_len, Nat.add_assoc, Nat.reduceAdd, h0, hw, hia, e1, e2, e3, e4, e5, e6, e7] <;> exact rfl) ?_
    refine ow_op (by simp only [zl, zm, fillRows, List.replicate, snapVs, snaps, zs, zc, zf, hS.len, triRows_len, Nat.add_assoc, Nat.reduceAdd, h0, hw, hia, e1, e2, e3, e4, e5, e6, e7] <;> exact rfl) ?_
    refine ow_op (by simp only [opd, zv, exOp, aop, LOp.loud, lop, if_true]; exact hap) ?_
    refine ow_op (by simp only [zo] <;> exact rfl) ?_
    refine ow_nil (bk_n ?_)
    refine sk_n (by simp only [exports, zn, zg] <;> exact rfl) ?_
    refine cw_region ?_
    refine ow_op (by simp only [zo] <;> exact rfl) ?_
    refine ow_op (by simp only [zo, binD, eq_self, ne_eq, not_false_eq_true, true_and, Int.reduceEq, ite_true, ite_false, not_true_eq_false, Int.reduceToNat, Int.reduceLT, hS.len, triRows_len, Nat.add_assoc, Nat.reduceAdd, h0, hw, hia, e1, e2, e3, e4, e5, e6, e7] <;> exact rfl) ?_
    refine ow_op (by simp only [zo] <;> exact rfl) ?_
    refine ow_nil ?_
    refine lk_n (by simp only [exports, zn, zg] <;> exact rfl) ?_
    exact ⟨4 - (i + 1), by omega, i + 1, _, _, _, _, _, _, _, _, by omega, by omega, rfl, by rw [hsn]; exact hA', rfl, rfl⟩
   ·
    have hkey : keyOf t = kT (kat t) (kln t) (t.2.2 % 2 == 1) := by rw [keyOf, if_neg (by have := hcATT; rw [Int.tmod_eq_emod_of_nonneg (by omega)] at this; simp only [beq_eq_false_iff_ne] at this; omega)]
    have hA2 := (hA.push [⟨59, 14, [(kT (kat t) (kln t) (t.2.2 % 2 == 1)).row], 0, 0, false⟩])
    obtain ⟨ox', H', hap, hA', hlen', hkeep⟩ := hA2.app 80 (new := [(kT (kat t) (kln t) (t.2.2 % 2 == 1)).row]) (c := some 1) rfl (by rw [keRows_len]; simp; omega)
    rw [show keRows ((l.take i).map keyOf) ++ [(kT (kat t) (kln t) (t.2.2 % 2 == 1)).row] = keRows ((l.take i).map keyOf ++ [keyOf t]) by rw [hkey]; simp [keRows]] at hA'
    simp only [kT, Ke.row] at hap
    refine cw_skip (sk_n rfl (cw_region ?_))
    refine ow_op (by simp only [zo] <;> exact rfl) ?_
    refine ow_op (by simp only [zl, zm, loadD_cptr, loadD_ptr, partD, List.take, List.drop, hS.len, triRows_len, Nat.add_assoc, Nat.reduceAdd, h0, hw, hia, e1, e2, e3, e4, e5, e6, e7] <;> exact rfl) ?_
    refine ow_op (by simp only [zl, zm, fillRows, List.replicate, snapVs, snaps, zs, zc, zf, hS.len, triRows_len, Nat.add_assoc, Nat.reduceAdd, h0, hw, hia, e1, e2, e3, e4, e5, e6, e7] <;> exact rfl) ?_
    refine ow_op (by simp only [opd, zv, exOp, aop, LOp.loud, lop, if_true]; exact hap) ?_
    refine ow_op (by simp only [zo] <;> exact rfl) ?_
    refine ow_nil (bk_n ?_)
    refine sk_n (by simp only [exports, zn, zg] <;> exact rfl) ?_
    refine cw_region ?_
    refine ow_op (by simp only [zo] <;> exact rfl) ?_
    refine ow_op (by simp only [zo, binD, eq_self, ne_eq, not_false_eq_true, true_and, Int.reduceEq, ite_true, ite_false, not_true_eq_false, Int.reduceToNat, Int.reduceLT, hS.len, triRows_len, Nat.add_assoc, Nat.reduceAdd, h0, hw, hia, e1, e2, e3, e4, e5, e6, e7] <;> exact rfl) ?_
    refine ow_op (by simp only [zo] <;> exact rfl) ?_
    refine ow_nil ?_
    refine lk_n (by simp only [exports, zn, zg] <;> exact rfl) ?_
    exact ⟨4 - (i + 1), by omega, i + 1, _, _, _, _, _, _, _, _, by omega, by omega, rfl, by rw [hsn]; exact hA', rfl, rfl⟩
  ·
   have hi5 : 4 ≤ i := by have := of_decide_eq_false hcAT; omega
   have hln : (keRows ((l.take i).map keyOf)).length = i := by rw [keRows_len, List.length_map, List.length_take]; omega
   have hAl := hA.len
   refine cw_exit (sk_e (lk_e (bk_e (sk_n rfl (cw_seq (cw_seq (cw_region ?_)))))))
   refine ow_op (by simp only [zo] <;> exact rfl) ?_
   refine ow_op (by simp only [zo, lenD_str, lenD_nils, lenD_sl, lenD_msl, hS.len, triRows_len, Nat.add_assoc, Nat.reduceAdd, h0, hw, hia, e1, e2, e3, e4, e5, e6, e7, hAl, hln] <;> exact rfl) ?_
   refine ow_op (by simp only [zo, binD, eq_self, ne_eq, not_false_eq_true, true_and, Int.reduceEq, ite_true, ite_false, not_true_eq_false, Int.reduceToNat, Int.reduceLT, hS.len, triRows_len, Nat.add_assoc, Nat.reduceAdd, h0, hw, hia, e1, e2, e3, e4, e5, e6, e7, hAl, hln] <;> exact rfl) ?_
   refine ow_nil ?_
   refine sk_n (by simp only [exports, zn, zg] <;> exact rfl) ?_
   skip
   refine cw_false (by simp only [opd, zv, hS.len, triRows_len, Nat.add_assoc, Nat.reduceAdd, h0, hw, hia, e1, e2, e3, e4, e5, e6, e7, hAl, hln] <;> (rw [show ((i : Int) == 0) = false by simp; omega])) ?_
   refine cw_skip (sk_n rfl (cw_seq (cw_region ?_)))
   refine ow_op (by simp only [zo] <;> exact rfl) ?_
   refine ow_op (by simp only [zo] <;> exact rfl) ?_
   refine ow_nil ?_
   refine sk_n (by simp only [exports, zn, zg] <;> exact rfl) ?_
   refine cw_ret ?_
   refine ⟨_, by simp only [F10, resultD, resDs, resD, List.getD_cons_zero, List.getD_cons_succ, loadD_cptr, loadD_ptr, rowsOf, partD, List.getElem?_cons_zero, List.getElem?_cons_succ, if_true, if_false, Bool.false_eq_true, List.take, List.drop, zm] <;> exact rfl, ?_⟩
   rcases hA with ⟨h1, _⟩ | ⟨_, g, v, rfl, h2⟩
   ·
    exfalso; rw [h1] at hln; simp at hln; omega
   ·
    rw [keysF, if_neg (fun h => by subst h; simp at *; try omega), show l.take 4 = l.take i by rw [show i = 4 by omega]]
    exact leaveP_app h2 rfl
 ·
  have hge : l.length ≤ i := by have := of_decide_eq_false hgA; omega
  have hln : (keRows ((l.take i).map keyOf)).length = i := by rw [keRows_len, List.length_map, List.length_take]; omega
  have hAl := hA.len
  refine ow_off (b' := false) (by simp only [opd, zv]) rfl ?_
  refine ow_off (b' := false) (by simp only [opd, zv]) rfl ?_
  refine ow_op (by simp only [zo, hS.len, triRows_len, Nat.add_assoc, Nat.reduceAdd, h0, hAl, hln] <;> exact rfl) ?_
  refine ow_nil ?_
  refine sk_n (by simp only [exports, zn, zg] <;> exact rfl) ?_
  refine cw_false (by simp only [opd, zv, hS.len, triRows_len, Nat.add_assoc, Nat.reduceAdd, h0, hAl, hln]) ?_
  refine cw_exit (sk_e (lk_e (bk_e (sk_n rfl (cw_seq (cw_seq (cw_region ?_)))))))
  refine ow_op (by simp only [zo] <;> exact rfl) ?_
  refine ow_op (by simp only [zo, lenD_str, lenD_nils, lenD_sl, lenD_msl, hS.len, triRows_len, Nat.add_assoc, Nat.reduceAdd, h0, hAl, hln] <;> exact rfl) ?_
  refine ow_op (by simp only [zo, binD, eq_self, ne_eq, not_false_eq_true, true_and, Int.reduceEq, ite_true, ite_false, not_true_eq_false, Int.reduceToNat, Int.reduceLT, hS.len, triRows_len, Nat.add_assoc, Nat.reduceAdd, h0, hAl, hln] <;> exact rfl) ?_
  refine ow_nil ?_
  refine sk_n (by simp only [exports, zn, zg] <;> exact rfl) ?_
  refine cw_cond (by simp only [opd, zv, hS.len, triRows_len, Nat.add_assoc, Nat.reduceAdd, h0, hAl, hln] <;> exact rfl) (fun hcAF => ?_) (fun hcAF => ?_)
  ·
   have hl0 : l = [] := List.length_eq_zero_iff.1 (by have := hcAF; simp at this; omega)
   rcases hA with ⟨_, rfl⟩ | ⟨hne, _⟩
   rotate_left
   ·
    exact absurd (by rw [hl0]; simp [keRows]) hne
   refine cw_region ?_
   refine ow_op (by simp only [zo] <;> exact rfl) ?_
   refine ow_op (by simp only [zo, fillD, overlay, zc, List.take, List.drop, Nat.reduceAdd, Nat.reduceLeDiff, Nat.reduceBEq, zm, hS.len, triRows_len, Nat.add_assoc, Nat.reduceAdd, h0, hAl, hln] <;> exact rfl) ?_
   first
    | refine ow_op (by simp only [zo, hS.len, triRows_len, Nat.add_assoc, Nat.reduceAdd, h0, hAl, hln]; exact textK_run (by omega) _ (kln t) hn1 (by omega)) ?_
    | refine ow_op (by simp only [zo, hS.len, triRows_len, Nat.add_assoc, Nat.reduceAdd, h0, hAl, hln]; exact textK_run (by omega) _ 6 (by omega) (by omega)) ?_
   refine ow_op (by simp only [zo, fillD, overlay, zc, List.take, List.drop, Nat.reduceAdd, Nat.reduceLeDiff, Nat.reduceBEq, zm, hS.len, triRows_len, Nat.add_assoc, Nat.reduceAdd, h0, hAl, hln] <;> exact rfl) ?_
   refine ow_op (by simp only [zl, zm, fillRows, List.replicate, snapVs, snaps, zs, zc, zf, hS.len, triRows_len, Nat.add_assoc, Nat.reduceAdd, h0, hAl, hln] <;> exact rfl) ?_
   refine ow_op (by simp only [zl, zm, appendD, appendRows, readRows_nils, readRows_sl, readRows_msl, List.isEmpty_cons, List.isEmpty_nil, reduceIte, hS.len, triRows_len, Nat.add_assoc, Nat.reduceAdd, h0, hAl, hln] <;> exact rfl) ?_
   refine ow_op (by simp only [zo] <;> exact rfl) ?_
   refine ow_nil ?_
   refine sk_n (by simp only [exports, zn, zg] <;> exact rfl) ?_
   refine cw_seq (cw_region ?_)
   refine ow_op (by simp only [zo] <;> exact rfl) ?_
   refine ow_op (by simp only [zo] <;> exact rfl) ?_
   refine ow_nil ?_
   refine sk_n (by simp only [exports, zn, zg] <;> exact rfl) ?_
   refine cw_ret ?_
   refine ⟨_, by simp only [F10, resultD, resDs, resD, List.getD_cons_zero, List.getD_cons_succ, loadD_cptr, loadD_ptr, rowsOf, partD, List.getElem?_cons_zero, List.getElem?_cons_succ, if_true, if_false, Bool.false_eq_true, List.take, List.drop, zm] <;> exact rfl, ?_⟩
   rw [keysF, if_pos hl0]
   exact leaveP_app (List.getElem?_concat_length ..) rfl
  ·
   refine cw_skip (sk_n rfl (cw_seq (cw_region ?_)))
   refine ow_op (by simp only [zo] <;> exact rfl) ?_
   refine ow_op (by simp only [zo] <;> exact rfl) ?_
   refine ow_nil ?_
   refine sk_n (by simp only [exports, zn, zg] <;> exact rfl) ?_
   refine cw_ret ?_
   refine ⟨_, by simp only [F10, resultD, resDs, resD, List.getD_cons_zero, List.getD_cons_succ, loadD_cptr, loadD_ptr, rowsOf, partD, List.getElem?_cons_zero, List.getElem?_cons_succ, if_true, if_false, Bool.false_eq_true, List.take, List.drop, zm] <;> exact rfl, ?_⟩
   rcases hA with ⟨h1, _⟩ | ⟨_, g, v, rfl, h2⟩
   ·
    exfalso; rw [h1] at hln; simp at hln; rw [← hln] at hcAF; simp at hcAF
   ·
    rw [keysF, if_neg (fun h => by subst h; simp at *; try omega), show l.take 4 = l.take i by rw [List.take_of_length_le (show l.length ≤ 4 by omega), List.take_of_length_le hge]]
    exact leaveP_app h2 rfl

end Go.Proofs.YtabgobmeibjeeaaGreatDoor

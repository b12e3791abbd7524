/- Proved here: parts of the proof, joined (S18, S19, S20, SP, S36, S37, S38, S39, S40, S41, S42, S43): an abstract machine, its soundness, what functions of the program compute in it; no condition. -/
import Derived.Test.YtabgobmeibjeeaaGreatDoorTie
import Derived.WalkKit
import Derived.ProofKit
import Derived.OpenShut
import Derived.ShutString
import Derived.ChangeOld
import Derived.Below
import Derived.LaidMore
import Derived.Lay
import Derived.SevenTiedAt
import Derived.Stop.Joined
import Derived.Test.YtabgobmeibjeeaaGreatDoorM5
namespace Go.Proofs.YtabgobmeibjeeaaGreatDoor
set_option linter.unusedSimpArgs false
set_option linter.unusedVariables false
set_option maxRecDepth 10000

theorem textK_run {d : Nat} (hd : 12 ≤ d) (S : St) (n : Nat) (h1 : 1 ≤ n) (h6 : n ≤ 6) : runF LP NN d 27 [.int .i64 n] S = some (.agg [.int .u8 2, .int .u8 0, .str (mkS (List.replicate n 88)), .int .i64 0, .int .i64 0, .bool false, .bool false, .bool false, .bool false, .bool false, .int .i64 n], S, false) := by
 obtain ⟨d, rfl⟩ : ∃ d', d = d' + 12 := ⟨d - 12, by omega⟩
 obtain ⟨k, rfl⟩ : ∃ k, n = k + 1 := ⟨n - 1, by omega⟩
 exact tab_at (text_tab d S) k (by omega)
theorem numK_run {d : Nat} (hd : 12 ≤ d) (S : St) (n : Nat) (h1 : 1 ≤ n) (h6 : n ≤ 6) : runF LP NN d 28 [.int .i64 n] S = some (.agg [.int .u8 4, .int .u8 0, .str (mkS (List.replicate n 57)), .int .i64 n, .int .i64 0, .bool false, .bool false, .bool false, .bool false, .bool false, .int .i64 n], S, false) := by
 obtain ⟨d, rfl⟩ : ∃ d', d = d' + 12 := ⟨d - 12, by omega⟩
 obtain ⟨k, rfl⟩ : ∃ k, n = k + 1 := ⟨n - 1, by omega⟩
 exact tab_at (number_tab d S) k (by omega)
/-- the key of a triple -/
def kT (a n : Nat) (dn : Bool) : Ke := ⟨⟨2, 0, mkS (List.replicate n 88), 0, 0, false, false, false, false, false, n⟩, a, n, dn⟩
def kN (a n : Nat) (dn : Bool) : Ke := ⟨⟨4, 0, mkS (List.replicate n 57), n, 0, false, false, false, false, false, n⟩, a, n, dn⟩
def kat (t : Nat × Nat × Nat) : Nat := t.1 % 6
def kln (t : Nat × Nat × Nat) : Nat := 1 + t.2.1 % (6 - kat t)
def keyOf (t : Nat × Nat × Nat) : Ke := if t.2.2 / 2 % 2 = 1 then kN (kat t) (kln t) (t.2.2 % 2 == 1) else kT (kat t) (kln t) (t.2.2 % 2 == 1)
def triRows (l : List (Nat × Nat × Nat)) : List (List D) := l.map fun t => [.int .u8 (t.1 : Int), .int .u8 (t.2.1 : Int), .int .u8 (t.2.2 : Int)]
theorem triRows_len (l : List (Nat × Nat × Nat)) : (triRows l).length = l.length := by simp [triRows]
theorem triRows_at {l : List (Nat × Nat × Nat)} {i : Nat} {t : Nat × Nat × Nat} (h : l[i]? = some t) : (triRows l)[i]? = some [.int .u8 (t.1 : Int), .int .u8 (t.2.1 : Int), .int .u8 (t.2.2 : Int)] := by simp [triRows, h]
def keysF (l : List (Nat × Nat × Nat)) : List Ke := if l = [] then [kT 0 6 false] else (l.take 4).map keyOf
theorem kln_le (t : Nat × Nat × Nat) : 1 ≤ kln t ∧ kat t + kln t ≤ 6 := by
 unfold kln kat
 have : t.2.1 % (6 - t.1 % 6) < 6 - t.1 % 6 := Nat.mod_lt _ (by omega)
 omega

theorem kOf_run {d : Nat} (hd : 13 ≤ d) (S : St) {x : D} {l : List (Nat × Nat × Nat)} (hS : SlD 3 (triRows l) x) (hbd : ∀ t ∈ l, t.1 < 256 ∧ t.2.1 < 256 ∧ t.2.2 < 256) (hll : l.length ≤ 9223372036854775807) : runF LP NN d 10 [x] S = some (.sl 14 (keRows (keysF l)) none, S, false) := by
 refine run_pure (F := F10) rfl (by simp only [LP, fnOf, snapVs, snaps, zs, Bool.false_eq_true, if_false, Option.map_some, List.map_cons, List.map_nil, hS.snapV, hS.freeV] <;> exact rfl) rfl (by simp only [LP, zf, List.all_cons, List.all_nil, Bool.and_true, Bool.true_and, hS.snapV, hS.freeV]; try rfl) (by simp only [F10, zv] <;> exact rfl) (by omega) ?_
 rintro d rfl
 refine cw_seq (cw_region ?_)
 refine ow_mc ?_
 refine ow_nil ?_
 refine sk_n (by simp only [ze] <;> exact rfl) ?_
 refine cw_seq (cw_region ?_)
 refine ow_mc ?_
 refine ow_nil ?_
 refine sk_n (by simp only [ze] <;> exact rfl) ?_
 refine cw_seq (cw_seq (cw_region ?_))
 refine ow_mc ?_
 refine ow_nil ?_
 refine sk_n (by simp only [ze] <;> exact rfl) ?_
 refine cw_block ?_
 refine cw_loop (fun n env S' => ∃ (i : Nat) (H : List AObj) (ox u4 u5 u6 u7 u8 u9 : D), i ≤ l.length ∧ i ≤ 4 ∧ n = 4 - i ∧ AppAt 59 14 (keRows ((l.take i).map keyOf)) H ox ∧ S' = ⟨H, 0⟩ ∧ env = [x, .nils, ox, .int .i64 i, u4, u5, u6, u7, u8, u9]) (4) (by omega) (⟨0, _, _, _, _, _, _, _, _, by omega, by omega, by omega, AppAt.nil _ _ _, rfl, rfl⟩) ?_
 rintro n env S' ⟨i, H, ox, u4, u5, u6, u7, u8, u9, hi, hi4, rfl, hA, rfl, rfl⟩
 have h0 : (0 : Int) ≤ (i : Int) := by omega
 refine cw_seq (cw_seq (cw_region ?_))
 refine ow_me rfl ?_
 refine ow_me rfl ?_
 refine ow_op (by simp only [zo, lenD_str, lenD_nils, lenD_sl, lenD_msl, hS.len, triRows_len, Nat.add_assoc, Nat.reduceAdd, h0] <;> exact rfl) ?_
 refine ow_op (by simp only [zo, binD, zb, Int.reduceEq, Int.reduceToNat, Int.reduceLT, hS.len, triRows_len, Nat.add_assoc, Nat.reduceAdd, h0] <;> exact rfl) ?_
 refine ow_ml rfl ?_
 refine ow_split 0 (by simp only [opd, zv] <;> exact rfl) (by simp only [zn] <;> exact rfl) (by simp only [zn] <;> exact rfl) (fun hgA => ?_) (fun hgA => ?_)
 ·
  have hlt : i < l.length := by have := of_decide_eq_true hgA; omega
  have hw := wrap_nat i (by omega)
  obtain ⟨t, ht⟩ : ∃ t, l[i]? = some t := ⟨_, List.getElem?_eq_getElem hlt⟩
  have htm := List.mem_of_getElem? ht
  obtain ⟨hb1, hb2, hb3⟩ := hbd t htm
  obtain ⟨hn1, hn6⟩ := kln_le t
  have hia := fun (S : St) => hS.iaddrN S .i64 (triRows_at ht)
  have e1 : IntKind.i64.wrap ((t.1 : Int).tmod 6) = (kat t : Int) := by rw [Int.tmod_eq_emod_of_nonneg (by omega), IntKind.wrap_i64]; unfold kat; omega
  have e2 : IntKind.i64.wrap (t.2.1 : Int) = (t.2.1 : Int) := by rw [IntKind.wrap_i64]; omega
  have e3 : IntKind.i64.wrap (6 - (kat t : Int)) = ((6 - kat t : Nat) : Int) := by rw [IntKind.wrap_i64]; unfold kat; omega
  have e4 : IntKind.i64.wrap (1 + (t.2.1 : Int).tmod ((6 - kat t : Nat) : Int)) = (kln t : Int) := by rw [Int.tmod_eq_emod_of_nonneg (by omega), IntKind.wrap_i64]; unfold kln; have : t.2.1 % (6 - kat t) < 6 - kat t := Nat.mod_lt _ (by unfold kat; omega); rw [← Int.natCast_emod]; omega
  have e5 : ((6 - kat t : Nat) : Int) ≠ 0 := by unfold kat; omega
  have e6 : ((t.2.2 : Int).tmod 2 == 1) = (t.2.2 % 2 == 1) := by rw [Int.tmod_eq_emod_of_nonneg (by omega), Bool.eq_iff_iff]; simp only [beq_iff_eq]; omega
  have e7 : IntKind.u8.wrap ((t.2.2 : Int).tdiv 2) = ((t.2.2 / 2 : Nat) : Int) := by rw [Int.tdiv_eq_ediv_of_nonneg (by omega)]; simp only [IntKind.wrap, IntKind.signed, IntKind.bits, Bool.false_and, Bool.false_eq_true, if_false]; omega
  have hsn : (l.take (i + 1)).map keyOf = (l.take i).map keyOf ++ [keyOf t] := by rw [List.take_add_one, ht]; simp
  refine ow_on (by simp only [opd, zv]) ?_
  refine ow_me rfl ?_
  refine ow_on (by simp only [opd, zv]) ?_
  refine ow_op (by simp only [zo, binD, zb, Int.reduceEq, Int.reduceToNat, Int.reduceLT, hS.len, triRows_len, Nat.add_assoc, Nat.reduceAdd, h0, hw, hia, e1, e2, e3, e4, e5, e6, e7] <;> exact rfl) ?_
  refine ow_op (by simp only [zo, hS.len, triRows_len, Nat.add_assoc, Nat.reduceAdd, h0, hw, hia, e1, e2, e3, e4, e5, e6, e7] <;> exact rfl) ?_
  refine ow_nil ?_
  refine sk_n (by simp only [ze] <;> exact rfl) ?_
  refine cw_cond (by simp only [opd, zv, hS.len, triRows_len, Nat.add_assoc, Nat.reduceAdd, h0, hw, hia, e1, e2, e3, e4, e5, e6, e7] <;> exact rfl) (fun hcAT => ?_) (fun hcAT => ?_)
  ·
   have hi5 : i < 4 := by have := of_decide_eq_true hcAT; omega
   refine cw_skip (sk_n rfl (cw_seq (cw_block (cw_seq (cw_region ?_)))))
   refine ow_me rfl ?_
   refine ow_me rfl ?_
   refine ow_op (by simp only [zl, zm, iaddrD_sl, iaddrD_msl, Int.toNat_natCast, Int.toNat_zero, List.getElem?_map, Option.map_some, Int.le_refl, hS.len, triRows_len, Nat.add_assoc, Nat.reduceAdd, h0, hw, hia, e1, e2, e3, e4, e5, e6, e7] <;> exact rfl) ?_
   refine ow_op (by simp only [zo, aaddrD, zm, hS.len, triRows_len, Nat.add_assoc, Nat.reduceAdd, h0, hw, hia, e1, e2, e3, e4, e5, e6, e7] <;> exact rfl) ?_
   refine ow_op (by simp only [zl, zm, zd, partD, List.take, List.drop, hS.len, triRows_len, Nat.add_assoc, Nat.reduceAdd, h0, hw, hia, e1, e2, e3, e4, e5, e6, e7] <;> exact rfl) ?_
   refine ow_op (by simp only [zo, binD, zb, Int.reduceEq, Int.reduceToNat, Int.reduceLT, hS.len, triRows_len, Nat.add_assoc, Nat.reduceAdd, h0, hw, hia, e1, e2, e3, e4, e5, e6, e7] <;> exact rfl) ?_
   refine ow_op (by simp only [zo, hS.len, triRows_len, Nat.add_assoc, Nat.reduceAdd, h0, hw, hia, e1, e2, e3, e4, e5, e6, e7] <;> exact rfl) ?_
   refine ow_ml rfl ?_
   refine ow_nil ?_
   refine sk_n (by simp only [ze] <;> exact rfl) ?_
   refine cw_seq (cw_region ?_)
   refine ow_me rfl ?_
   refine ow_me rfl ?_
   refine ow_op (by simp only [zl, zm, iaddrD_sl, iaddrD_msl, Int.toNat_natCast, Int.toNat_zero, List.getElem?_map, Option.map_some, Int.le_refl, hS.len, triRows_len, Nat.add_assoc, Nat.reduceAdd, h0, hw, hia, e1, e2, e3, e4, e5, e6, e7] <;> exact rfl) ?_
   refine ow_op (by simp only [zo, aaddrD, zm, hS.len, triRows_len, Nat.add_assoc, Nat.reduceAdd, h0, hw, hia, e1, e2, e3, e4, e5, e6, e7] <;> exact rfl) ?_
   refine ow_op (by simp only [zl, zm, zd, partD, List.take, List.drop, hS.len, triRows_len, Nat.add_assoc, Nat.reduceAdd, h0, hw, hia, e1, e2, e3, e4, e5, e6, e7] <;> exact rfl) ?_
   refine ow_op (by simp only [zo, hS.len, triRows_len, Nat.add_assoc, Nat.reduceAdd, h0, hw, hia, e1, e2, e3, e4, e5, e6, e7] <;> exact rfl) ?_
   refine ow_me rfl ?_
   refine ow_op (by simp only [zo, binD, zb, Int.reduceEq, Int.reduceToNat, Int.reduceLT, hS.len, triRows_len, Nat.add_assoc, Nat.reduceAdd, h0, hw, hia, e1, e2, e3, e4, e5, e6, e7] <;> exact rfl) ?_
   refine ow_op (by simp only [zo, binD, zb, Int.reduceEq, Int.reduceToNat, Int.reduceLT, hS.len, triRows_len, Nat.add_assoc, Nat.reduceAdd, h0, hw, hia, e1, e2, e3, e4, e5, e6, e7] <;> exact rfl) ?_
   refine ow_op (by simp only [zo, binD, zb, Int.reduceEq, Int.reduceToNat, Int.reduceLT, hS.len, triRows_len, Nat.add_assoc, Nat.reduceAdd, h0, hw, hia, e1, e2, e3, e4, e5, e6, e7] <;> exact rfl) ?_
   refine ow_ml rfl ?_
   refine ow_nil ?_
   refine sk_n (by simp only [ze] <;> exact rfl) ?_
   refine cw_seq ?_
   refine cw_drawn (by simp only [newsVals, zw, Nat.reduceAdd] <;> exact rfl) (by simp only [zw, newsObj, St.eta] <;> exact rfl) ?_
   refine dw_me rfl rfl ?_
   refine dw_me rfl rfl ?_
   refine dw_quiet (by simp only [zo, fillD, overlay, zc, List.take, List.drop, Nat.reduceAdd, Nat.reduceLeDiff, Nat.reduceBEq, zm, hS.len, triRows_len, Nat.add_assoc, Nat.reduceAdd, h0, hw, hia, e1, e2, e3, e4, e5, e6, e7] <;> exact rfl) rfl rfl ?_
   refine dw_me rfl rfl ?_
   first
    | refine dw_op (by simp only [zo, hS.len, triRows_len, Nat.add_assoc, Nat.reduceAdd, h0, hw, hia, e1, e2, e3, e4, e5, e6, e7]; exact textK_run (by omega) _ (kln t) hn1 (by omega)) (by simp only [fpHere, zo, zq, hS.fpi, plainV_agg, List.all_cons, List.all_nil, plain1_int, plain1_str, plain1_bool, plain1_nils, Bool.and_true, Bool.and_self, if_true] <;> exact rfl) rfl ?_
    | refine dw_op (by simp only [zo, hS.len, triRows_len, Nat.add_assoc, Nat.reduceAdd, h0, hw, hia, e1, e2, e3, e4, e5, e6, e7]; exact textK_run (by omega) _ 6 (by omega) (by omega)) (by simp only [fpHere, zo, zq, hS.fpi, plainV_agg, List.all_cons, List.all_nil, plain1_int, plain1_str, plain1_bool, plain1_nils, Bool.and_true, Bool.and_self, if_true] <;> exact rfl) rfl ?_
   refine dw_me rfl rfl ?_
   refine dw_me rfl rfl ?_
   refine dw_op (by simp only [zl, zm, iaddrD_sl, iaddrD_msl, Int.toNat_natCast, Int.toNat_zero, List.getElem?_map, Option.map_some, Int.le_refl, hS.len, triRows_len, Nat.add_assoc, Nat.reduceAdd, h0, hw, hia, e1, e2, e3, e4, e5, e6, e7] <;> exact rfl) (by simp only [fpHere, zo, zq, hS.fpi, plainV_agg, List.all_cons, List.all_nil, plain1_int, plain1_str, plain1_bool, plain1_nils, Bool.and_true, Bool.and_self, if_true] <;> exact rfl) rfl ?_
   refine dw_quiet (by simp only [zo, aaddrD, zm, hS.len, triRows_len, Nat.add_assoc, Nat.reduceAdd, h0, hw, hia, e1, e2, e3, e4, e5, e6, e7] <;> exact rfl) rfl rfl ?_
   refine dw_op (by simp only [zl, zm, zd, partD, List.take, List.drop, hS.len, triRows_len, Nat.add_assoc, Nat.reduceAdd, h0, hw, hia, e1, e2, e3, e4, e5, e6, e7] <;> exact rfl) (by simp only [fpHere, zo, zq, hS.fpi, plainV_agg, List.all_cons, List.all_nil, plain1_int, plain1_str, plain1_bool, plain1_nils, Bool.and_true, Bool.and_self, if_true] <;> exact rfl) rfl ?_
   refine dw_quiet (by simp only [zo, binD, zb, Int.reduceEq, Int.reduceToNat, Int.reduceLT, hS.len, triRows_len, Nat.add_assoc, Nat.reduceAdd, h0, hw, hia, e1, e2, e3, e4, e5, e6, e7] <;> exact rfl) rfl rfl ?_
   refine dw_quiet (by simp only [zo, binD, zb, Int.reduceEq, Int.reduceToNat, Int.reduceLT, hS.len, triRows_len, Nat.add_assoc, Nat.reduceAdd, h0, hw, hia, e1, e2, e3, e4, e5, e6, e7] <;> exact rfl) rfl rfl ?_
   refine dw_quiet (by simp only [zo, fillD, overlay, zc, List.take, List.drop, Nat.reduceAdd, Nat.reduceLeDiff, Nat.reduceBEq, zm, hS.len, triRows_len, Nat.add_assoc, Nat.reduceAdd, h0, hw, hia, e1, e2, e3, e4, e5, e6, e7] <;> exact rfl) rfl rfl ?_
   refine dw_op (by simp only [zo] <;> exact rfl) rfl rfl ?_
   refine dw_op (by simp only [zl, zm, storeD, overlay, snapVs, snaps, zs, zc, zf, List.take, List.drop, hS.len, triRows_len, Nat.add_assoc, Nat.reduceAdd, h0, hw, hia, e1, e2, e3, e4, e5, e6, e7] <;> exact rfl) (by simp only [fpHere, zo, zq, hS.fpi, plainV_agg, List.all_cons, List.all_nil, plain1_int, plain1_str, plain1_bool, plain1_nils, Bool.and_true, Bool.and_self, if_true] <;> exact rfl) rfl ?_
   refine dw_nil ?_
   refine sk_n (by simp only [ze] <;> exact rfl) ?_
   refine cw_seq (cw_seq (cw_region ?_))
   refine ow_me rfl ?_
   refine ow_me rfl ?_
   refine ow_op (by simp only [zl, zm, iaddrD_sl, iaddrD_msl, Int.toNat_natCast, Int.toNat_zero, List.getElem?_map, Option.map_some, Int.le_refl, hS.len, triRows_len, Nat.add_assoc, Nat.reduceAdd, h0, hw, hia, e1, e2, e3, e4, e5, e6, e7] <;> exact rfl) ?_
   refine ow_op (by simp only [zo, aaddrD, zm, hS.len, triRows_len, Nat.add_assoc, Nat.reduceAdd, h0, hw, hia, e1, e2, e3, e4, e5, e6, e7] <;> exact rfl) ?_
   refine ow_op (by simp only [zl, zm, zd, partD, List.take, List.drop, hS.len, triRows_len, Nat.add_assoc, Nat.reduceAdd, h0, hw, hia, e1, e2, e3, e4, e5, e6, e7] <;> exact rfl) ?_
   refine ow_op (by simp only [zo, binD, zb, Int.reduceEq, Int.reduceToNat, Int.reduceLT, hS.len, triRows_len, Nat.add_assoc, Nat.reduceAdd, h0, hw, hia, e1, e2, e3, e4, e5, e6, e7] <;> exact rfl) ?_
   refine ow_op (by simp only [zo, binD, zb, Int.reduceEq, Int.reduceToNat, Int.reduceLT, hS.len, triRows_len, Nat.add_assoc, Nat.reduceAdd, h0, hw, hia, e1, e2, e3, e4, e5, e6, e7] <;> exact rfl) ?_
   refine ow_op (by simp only [zo, binD, zb, Int.reduceEq, Int.reduceToNat, Int.reduceLT, hS.len, triRows_len, Nat.add_assoc, Nat.reduceAdd, h0, hw, hia, e1, e2, e3, e4, e5, e6, e7] <;> exact rfl) ?_
   refine ow_nil ?_
   refine sk_n (by simp only [ze] <;> exact rfl) ?_
   refine cw_cond (by simp only [opd, zv, hS.len, triRows_len, Nat.add_assoc, Nat.reduceAdd, h0, hw, hia, e1, e2, e3, e4, e5, e6, e7] <;> exact rfl) (fun hcATT => ?_) (fun hcATT => ?_)
   ·
    have hkey : keyOf t = kN (kat t) (kln t) (t.2.2 % 2 == 1) := by rw [keyOf, if_pos (by have := hcATT; rw [Int.tmod_eq_emod_of_nonneg (by omega)] at this; simp only [beq_iff_eq] at this; omega)]
    have hA2 := (hA.push [⟨59, 14, [(kN (kat t) (kln t) (t.2.2 % 2 == 1)).row], 0, 0, false⟩])
    obtain ⟨ox', H', hap, hA', hlen', hkeep⟩ := hA2.app 80 (new := [(kN (kat t) (kln t) (t.2.2 % 2 == 1)).row]) (c := some 1) rfl (by rw [keRows_len]; simp; omega)
    rw [show keRows ((l.take i).map keyOf) ++ [(kN (kat t) (kln t) (t.2.2 % 2 == 1)).row] = keRows ((l.take i).map keyOf ++ [keyOf t]) by rw [hkey]; simp [keRows]] at hA'
    simp only [kN, Ke.row] at hap
    refine cw_region ?_
    refine ow_me rfl ?_
    refine ow_op (by simp only [zo, hS.len, triRows_len, Nat.add_assoc, Nat.reduceAdd, h0, hw, hia, e1, e2, e3, e4, e5, e6, e7]; exact numK_run (by omega) _ (kln t) hn1 (by omega)) ?_
    refine ow_op (by simp only [zo, faddrD_ptr, faddrD_cptr, zm, hS.len, triRows_len, Nat.add_assoc, Nat.reduceAdd, h0, hw, hia, e1, e2, e3, e4, e5, e6, e7] <;> exact rfl) ?_
    refine ow_op (by simp only [zl, zm, storeD, overlay, snapVs, snaps, zs, zc, zf, List.take, List.drop, hS.len, triRows_len, Nat.add_assoc, Nat.reduceAdd, h0, hw, hia, e1, e2, e3, e4, e5, e6, e7] <;> exact rfl) ?_
    refine ow_nil ?_
    refine sk_n (by simp only [ze] <;> exact rfl) ?_
    refine cw_region ?_
    refine ow_me rfl ?_
    refine ow_op (by simp only [zl, zm, zd, partD, List.take, List.drop, hS.len, triRows_len, Nat.add_assoc, Nat.reduceAdd, h0, hw, hia, e1, e2, e3, e4, e5, e6, e7] <;> exact rfl) ?_
    refine ow_op (by simp only [zl, zm, fillRows, List.replicate, snapVs, snaps, zs, zc, zf, hS.len, triRows_len, Nat.add_assoc, Nat.reduceAdd, h0, hw, hia, e1, e2, e3, e4, e5, e6, e7] <;> exact rfl) ?_
    refine ow_op (by simp only [opd, zv, exOp, aop, LOp.loud, lop, if_true]; exact hap) ?_
    refine ow_ml rfl ?_
    refine ow_nil (bk_n ?_)
    refine sk_n (by simp only [ze] <;> exact rfl) ?_
    refine cw_region ?_
    refine ow_me rfl ?_
    refine ow_op (by simp only [zo, binD, zb, Int.reduceEq, Int.reduceToNat, Int.reduceLT, hS.len, triRows_len, Nat.add_assoc, Nat.reduceAdd, h0, hw, hia, e1, e2, e3, e4, e5, e6, e7] <;> exact rfl) ?_
    refine ow_ml rfl ?_
    refine ow_nil ?_
    refine lk_n (by simp only [ze] <;> exact rfl) ?_
    exact ⟨4 - (i + 1), by omega, i + 1, _, _, _, _, _, _, _, _, by omega, by omega, rfl, by rw [hsn]; exact hA', rfl, rfl⟩
   ·
    have hkey : keyOf t = kT (kat t) (kln t) (t.2.2 % 2 == 1) := by rw [keyOf, if_neg (by have := hcATT; rw [Int.tmod_eq_emod_of_nonneg (by omega)] at this; simp only [beq_eq_false_iff_ne] at this; omega)]
    have hA2 := (hA.push [⟨59, 14, [(kT (kat t) (kln t) (t.2.2 % 2 == 1)).row], 0, 0, false⟩])
    obtain ⟨ox', H', hap, hA', hlen', hkeep⟩ := hA2.app 80 (new := [(kT (kat t) (kln t) (t.2.2 % 2 == 1)).row]) (c := some 1) rfl (by rw [keRows_len]; simp; omega)
    rw [show keRows ((l.take i).map keyOf) ++ [(kT (kat t) (kln t) (t.2.2 % 2 == 1)).row] = keRows ((l.take i).map keyOf ++ [keyOf t]) by rw [hkey]; simp [keRows]] at hA'
    simp only [kT, Ke.row] at hap
    refine cw_skip (sk_n rfl (cw_region ?_))
    refine ow_me rfl ?_
    refine ow_op (by simp only [zl, zm, zd, partD, List.take, List.drop, hS.len, triRows_len, Nat.add_assoc, Nat.reduceAdd, h0, hw, hia, e1, e2, e3, e4, e5, e6, e7] <;> exact rfl) ?_
    refine ow_op (by simp only [zl, zm, fillRows, List.replicate, snapVs, snaps, zs, zc, zf, hS.len, triRows_len, Nat.add_assoc, Nat.reduceAdd, h0, hw, hia, e1, e2, e3, e4, e5, e6, e7] <;> exact rfl) ?_
    refine ow_op (by simp only [opd, zv, exOp, aop, LOp.loud, lop, if_true]; exact hap) ?_
    refine ow_ml rfl ?_
    refine ow_nil (bk_n ?_)
    refine sk_n (by simp only [ze] <;> exact rfl) ?_
    refine cw_region ?_
    refine ow_me rfl ?_
    refine ow_op (by simp only [zo, binD, zb, Int.reduceEq, Int.reduceToNat, Int.reduceLT, hS.len, triRows_len, Nat.add_assoc, Nat.reduceAdd, h0, hw, hia, e1, e2, e3, e4, e5, e6, e7] <;> exact rfl) ?_
    refine ow_ml rfl ?_
    refine ow_nil ?_
    refine lk_n (by simp only [ze] <;> exact rfl) ?_
    exact ⟨4 - (i + 1), by omega, i + 1, _, _, _, _, _, _, _, _, by omega, by omega, rfl, by rw [hsn]; exact hA', rfl, rfl⟩
  ·
   have hi5 : 4 ≤ i := by have := of_decide_eq_false hcAT; omega
   have hln : (keRows ((l.take i).map keyOf)).length = i := by rw [keRows_len, List.length_map, List.length_take]; omega
   have hAl := hA.len
   refine cw_exit (sk_e (lk_e (bk_e (sk_n rfl (cw_seq (cw_seq (cw_region ?_)))))))
   refine ow_me rfl ?_
   refine ow_op (by simp only [zo, lenD_str, lenD_nils, lenD_sl, lenD_msl, hS.len, triRows_len, Nat.add_assoc, Nat.reduceAdd, h0, hw, hia, e1, e2, e3, e4, e5, e6, e7, hAl, hln] <;> exact rfl) ?_
   refine ow_op (by simp only [zo, binD, zb, Int.reduceEq, Int.reduceToNat, Int.reduceLT, hS.len, triRows_len, Nat.add_assoc, Nat.reduceAdd, h0, hw, hia, e1, e2, e3, e4, e5, e6, e7, hAl, hln] <;> exact rfl) ?_
   refine ow_nil ?_
   refine sk_n (by simp only [ze] <;> exact rfl) ?_
   skip
   refine cw_false (by simp only [opd, zv, hS.len, triRows_len, Nat.add_assoc, Nat.reduceAdd, h0, hw, hia, e1, e2, e3, e4, e5, e6, e7, hAl, hln] <;> (rw [show ((i : Int) == 0) = false by simp; omega])) ?_
   refine cw_skip (sk_n rfl (cw_seq (cw_region ?_)))
   refine ow_me rfl ?_
   refine ow_ml rfl ?_
   refine ow_nil ?_
   refine sk_n (by simp only [ze] <;> exact rfl) ?_
   refine cw_ret ?_
   refine ⟨_, by simp only [F10, resultD, resDs, resD, List.getD_cons_zero, List.getD_cons_succ, zd, rowsOf, partD, List.getElem?_cons_zero, List.getElem?_cons_succ, if_true, if_false, Bool.false_eq_true, List.take, List.drop, zm] <;> exact rfl, ?_⟩
   rcases hA with ⟨h1, _⟩ | ⟨_, g, v, rfl, h2⟩
   ·
    exfalso; rw [h1] at hln; simp at hln; omega
   ·
    rw [keysF, if_neg (fun h => by subst h; simp at *; try omega), show l.take 4 = l.take i by rw [show i = 4 by omega]]
    exact leaveP_app h2 rfl
 ·
  have hge : l.length ≤ i := by have := of_decide_eq_false hgA; omega
  have hln : (keRows ((l.take i).map keyOf)).length = i := by rw [keRows_len, List.length_map, List.length_take]; omega
  have hAl := hA.len
  refine ow_off (b' := false) (by simp only [opd, zv]) rfl ?_
  refine ow_off (b' := false) (by simp only [opd, zv]) rfl ?_
  refine ow_op (by simp only [zo, hS.len, triRows_len, Nat.add_assoc, Nat.reduceAdd, h0, hAl, hln] <;> exact rfl) ?_
  refine ow_nil ?_
  refine sk_n (by simp only [ze] <;> exact rfl) ?_
  refine cw_false (by simp only [opd, zv, hS.len, triRows_len, Nat.add_assoc, Nat.reduceAdd, h0, hAl, hln]) ?_
  refine cw_exit (sk_e (lk_e (bk_e (sk_n rfl (cw_seq (cw_seq (cw_region ?_)))))))
  refine ow_me rfl ?_
  refine ow_op (by simp only [zo, lenD_str, lenD_nils, lenD_sl, lenD_msl, hS.len, triRows_len, Nat.add_assoc, Nat.reduceAdd, h0, hAl, hln] <;> exact rfl) ?_
  refine ow_op (by simp only [zo, binD, zb, Int.reduceEq, Int.reduceToNat, Int.reduceLT, hS.len, triRows_len, Nat.add_assoc, Nat.reduceAdd, h0, hAl, hln] <;> exact rfl) ?_
  refine ow_nil ?_
  refine sk_n (by simp only [ze] <;> exact rfl) ?_
  refine cw_cond (by simp only [opd, zv, hS.len, triRows_len, Nat.add_assoc, Nat.reduceAdd, h0, hAl, hln] <;> exact rfl) (fun hcAF => ?_) (fun hcAF => ?_)
  ·
   have hl0 : l = [] := List.length_eq_zero_iff.1 (by have := hcAF; simp at this; omega)
   rcases hA with ⟨_, rfl⟩ | ⟨hne, _⟩
   rotate_left
   ·
    exact absurd (by rw [hl0]; simp [keRows]) hne
   refine cw_region ?_
   refine ow_me rfl ?_
   refine ow_op (by simp only [zo, fillD, overlay, zc, List.take, List.drop, Nat.reduceAdd, Nat.reduceLeDiff, Nat.reduceBEq, zm, hS.len, triRows_len, Nat.add_assoc, Nat.reduceAdd, h0, hAl, hln] <;> exact rfl) ?_
   first
    | refine ow_op (by simp only [zo, hS.len, triRows_len, Nat.add_assoc, Nat.reduceAdd, h0, hAl, hln]; exact textK_run (by omega) _ (kln t) hn1 (by omega)) ?_
    | refine ow_op (by simp only [zo, hS.len, triRows_len, Nat.add_assoc, Nat.reduceAdd, h0, hAl, hln]; exact textK_run (by omega) _ 6 (by omega) (by omega)) ?_
   refine ow_op (by simp only [zo, fillD, overlay, zc, List.take, List.drop, Nat.reduceAdd, Nat.reduceLeDiff, Nat.reduceBEq, zm, hS.len, triRows_len, Nat.add_assoc, Nat.reduceAdd, h0, hAl, hln] <;> exact rfl) ?_
   refine ow_op (by simp only [zl, zm, fillRows, List.replicate, snapVs, snaps, zs, zc, zf, hS.len, triRows_len, Nat.add_assoc, Nat.reduceAdd, h0, hAl, hln] <;> exact rfl) ?_
   refine ow_op (by simp only [zl, zm, appendD, appendRows, readRows_nils, readRows_sl, readRows_msl, List.isEmpty_cons, List.isEmpty_nil, reduceIte, hS.len, triRows_len, Nat.add_assoc, Nat.reduceAdd, h0, hAl, hln] <;> exact rfl) ?_
   refine ow_ml rfl ?_
   refine ow_nil ?_
   refine sk_n (by simp only [ze] <;> exact rfl) ?_
   refine cw_seq (cw_region ?_)
   refine ow_me rfl ?_
   refine ow_ml rfl ?_
   refine ow_nil ?_
   refine sk_n (by simp only [ze] <;> exact rfl) ?_
   refine cw_ret ?_
   refine ⟨_, by simp only [F10, resultD, resDs, resD, List.getD_cons_zero, List.getD_cons_succ, zd, rowsOf, partD, List.getElem?_cons_zero, List.getElem?_cons_succ, if_true, if_false, Bool.false_eq_true, List.take, List.drop, zm] <;> exact rfl, ?_⟩
   rw [keysF, if_pos hl0]
   exact leaveP_app (List.getElem?_concat_length ..) rfl
  ·
   refine cw_skip (sk_n rfl (cw_seq (cw_region ?_)))
   refine ow_me rfl ?_
   refine ow_ml rfl ?_
   refine ow_nil ?_
   refine sk_n (by simp only [ze] <;> exact rfl) ?_
   refine cw_ret ?_
   refine ⟨_, by simp only [F10, resultD, resDs, resD, List.getD_cons_zero, List.getD_cons_succ, zd, rowsOf, partD, List.getElem?_cons_zero, List.getElem?_cons_succ, if_true, if_false, Bool.false_eq_true, List.take, List.drop, zm] <;> exact rfl, ?_⟩
   rcases hA with ⟨h1, _⟩ | ⟨_, g, v, rfl, h2⟩
   ·
    exfalso; rw [h1] at hln; simp at hln; rw [← hln] at hcAF; simp at hcAF
   ·
    rw [keysF, if_neg (fun h => by subst h; simp at *; try omega), show l.take 4 = l.take i by rw [List.take_of_length_le (show l.length ≤ 4 by omega), List.take_of_length_le hge]]
    exact leaveP_app h2 rfl

end Go.Proofs.YtabgobmeibjeeaaGreatDoor

namespace Go.Proofs.YtabgobmeibjeeaaGreatDoor
set_option linter.unusedVariables false
set_option linter.unusedSimpArgs false
set_option maxRecDepth 10000

theorem checkN_run {d : Nat} (hd : 12 ≤ d) (S : St) (n : Nat) (h1 : 1 ≤ n) (h6 : n ≤ 6) : runF LP NN d 117 [.agg (shN n)] S = some (.int .i64 0, S, false) := by
  obtain ⟨d, rfl⟩ : ∃ d', d = d' + 12 := ⟨d - 12, by omega⟩
  obtain ⟨k, rfl⟩ : ∃ k, n = k + 1 := ⟨n - 1, by omega⟩
  exact tab_at (checkN_tab d S) k (by omega)
/-- a key of the law -/
def GK (k : Ke) : Prop := ∃ a n dn, (k = kT a n dn ∨ k = kN a n dn) ∧ 1 ≤ n ∧ a + n ≤ 6
theorem uckN {d : Nat} (hd : 14 ≤ d) (S : St) (n : Nat) (h1 : 1 ≤ n) (h6 : n ≤ 6) {x : D} {l : List UInt8} (hS : SlD 1 (bR l) x) (hl : l.length = n) : runF LP NN d 78 [.agg [.int .u8 4, .int .u8 0, .str (mkS (List.replicate n 57)), .int .i64 n, .int .i64 0, .bool false, .bool false, .bool false, .bool false, .bool false, .int .i64 n, x]] S = some (.int .i64 (if l.all isDig then 0 else 15), S, false) := by
  cases e : l.all isDig with
  | true => exact uCheck_true hd S 0 _ _ _ _ false false false false false 162 163 false l hS (by rw [bR_len, hl]) (fun d S h => of0_run h S 4 _ _ _ _ _ _ _ _) (fun d S h => (zonedU_run (by omega) S _ _ _ _ _ _ _ _ _ hS (by omega)).trans (by rw [e])) (fun d S h => checkN_run h S n h1 h6)
  | false => exact uCheck_false hd S 0 _ _ _ _ false false false false false 162 163 false l hS (by rw [bR_len, hl]) (fun d S h => of0_run h S 4 _ _ _ _ _ _ _ _) (fun d S h => (zonedU_run (by omega) S _ _ _ _ _ _ _ _ _ hS (by omega)).trans (by rw [e])) (fun d S h => checkN_run h S n h1 h6)
theorem getN {d : Nat} (hd : 14 ≤ d) (S : St) (n : Nat) (h1 : 1 ≤ n) (h6 : n ≤ 6) {x : D} {l : List UInt8} (hS : SlD 1 (bR l) x) (hl : l.length = n) (e : l.all isDig = true) : runF LP NN d 51 [.agg [.int .u8 4, .int .u8 0, .str (mkS (List.replicate n 57)), .int .i64 n, .int .i64 0, .bool false, .bool false, .bool false, .bool false, .bool false, .int .i64 n, x]] S = some (.tup [.agg [.bool false, .str (mkS (strip l)), .int .i64 0], .int .i64 0], S, false) := by
  refine (get_run hd S 0 _ _ _ false false false false false 162 163 false l hS (by rw [bR_len, hl]) (fun d S h => of0_run h S 4 _ _ _ _ _ _ _ _) (fun d S h => (zonedU_run (by omega) S _ _ _ _ _ _ _ _ _ hS (by omega)).trans (by rw [e])) (fun d S h => checkN_run h S n h1 h6) ?_ (by omega)).trans (by rw [Bool.false_and])
  have : l ≠ [] := by intro h; subst h; simp at hl; omega
  simp only [isNum, e, Bool.and_true, Bool.not_eq_true', beq_eq_false_iff_ne, ne_eq]
  exact this
theorem gk_ok {k : Ke} (h : GK k) : KOK 6 k := by
  obtain ⟨a, n, dn, rfl | rfl, h1, h2⟩ := h
  · exact ⟨h1, h2, rfl, .inl rfl⟩
  · refine ⟨h1, h2, rfl, .inr ⟨rfl, 15, .inr rfl, fun d S hd => ?_⟩⟩
    have hS : SlD 1 (bR (List.replicate n 0)) (.sl 1 (List.replicate n [.int .u8 0]) (some n)) := by
      have : bR (List.replicate n 0) = List.replicate n [.int .u8 0] := by simp [bR]
      rw [this]; exact .of _ _ _
    refine (uckN hd S n h1 (by omega) hS (by simp)).trans ?_
    have : (List.replicate n (0 : UInt8)).all isDig = false := by
      obtain ⟨k, rfl⟩ : ∃ k, n = k + 1 := ⟨n - 1, by omega⟩
      rw [List.replicate_succ, List.all_cons]; rfl
    rw [this]; rfl
theorem keysF_gk (l : List (Nat × Nat × Nat)) : ∀ k ∈ keysF l, GK k := by
  intro k hk
  unfold keysF at hk
  split at hk
  · simp at hk; subst hk; exact ⟨0, 6, false, .inl rfl, by omega, by omega⟩
  · simp only [List.mem_map] at hk
    obtain ⟨t, _, rfl⟩ := hk
    obtain ⟨h1, h2⟩ := kln_le t
    unfold keyOf
    split
    · exact ⟨_, _, _, .inr rfl, h1, h2⟩
    · exact ⟨_, _, _, .inl rfl, h1, h2⟩
theorem keysF_len (l : List (Nat × Nat × Nat)) : 0 < (keysF l).length ∧ (keysF l).length ≤ 4 := by
  unfold keysF
  split
  · simp
  · rename_i h
    have := List.length_pos_iff.2 h
    simp only [List.length_map, List.length_take]; omega
/-- a record of digits -/
def Rec (l : List UInt8) : Prop := l.length = 6 ∧ ∀ c ∈ l, isDig c = true
theorem digs_rec (r : Nat) : Rec (digs r) := ⟨digs_len r, digs_dig r⟩
theorem Rec.sub {l : List UInt8} (h : Rec l) (a n : Nat) : ((l.drop a).take n).all isDig = true := by
  rw [List.all_eq_true]
  exact fun c hc => h.2 c (List.mem_of_mem_drop (List.mem_of_mem_take hc))
theorem Rec.sublen {l : List UInt8} (h : Rec l) {a n : Nat} (hn : a + n ≤ 6) : ((l.drop a).take n).length = n := by
  rw [List.length_take, List.length_drop, h.1]; omega
theorem SlD.subB {l : List UInt8} {x : D} (h : SlD 1 (bR l) x) (a n : Nat) : SlD 1 (bR ((l.drop a).take n)) (subD a n x) := by
  rw [← bR_sub]; exact h.sub a n
section
variable {ks : List Ke} {x y z : D} {l m : List UInt8}
theorem valid_hyp (hg : ∀ k ∈ ks, GK k) (hR : SlD 1 (bR l) y) (hl : Rec l) : ∀ k ∈ ks, k.cat = 4 → ∀ (d : Nat) (S : St), 14 ≤ d → runF LP NN d 78 [.agg [.int .u8 k.cat, .int .u8 k.us, .str k.pic, .int .i64 k.dg, .int .i64 k.sc, .bool k.sg, .bool k.le, .bool k.se, .bool k.ju, .bool k.bl, .int .i64 k.sz, subD k.a k.n y]] S = some (.int .i64 0, S, false) := by
  intro k hk hc d S hd
  obtain ⟨a, n, dn, rfl | rfl, h1, h2⟩ := hg k hk
  · simp [kT] at hc
  · refine (uckN hd S n h1 (by omega) (hR.subB a n) (hl.sublen h2)).trans ?_
    rw [hl.sub a n]; rfl
theorem text_hyp (hg : ∀ k ∈ ks, GK k) (hR : SlD 1 (bR l) y) (hQ : SlD 1 (bR m) z) (hl : Rec l) (hm : Rec m) : ∀ k ∈ ks, k.cat ≠ 4 → ∀ (d : Nat) (S : St), 3 ≤ d → runF LP NN d 53 [subD k.a k.n y, subD k.a k.n z] S = some (.int .i64 (cmpT (k.sub l) (k.sub m)), S, false) := by
  intro k hk hc d S hd
  obtain ⟨a, n, dn, rfl | rfl, h1, h2⟩ := hg k hk
  · have e1 := hl.sublen h2
    have e2 := hm.sublen h2
    exact ccmp_run (l := (l.drop a).take n) (m := (m.drop a).take n) hd S (hR.subB a n) (hQ.subB a n) (by omega) (by omega)
  · simp [kN] at hc
theorem num_hyp (hg : ∀ k ∈ ks, GK k) (hR : SlD 1 (bR l) y) (hQ : SlD 1 (bR m) z) (hl : Rec l) (hm : Rec m) : ∀ k ∈ ks, k.cat = 4 → ∃ (na nb : Bool) (sa sb : ByteArray), (∀ (d : Nat) (S : St), 14 ≤ d → runF LP NN d 51 [.agg [.int .u8 k.cat, .int .u8 k.us, .str k.pic, .int .i64 k.dg, .int .i64 k.sc, .bool k.sg, .bool k.le, .bool k.se, .bool k.ju, .bool k.bl, .int .i64 k.sz, subD k.a k.n y]] S = some (.tup [.agg [.bool na, .str sa, .int .i64 0], .int .i64 0], S, false)) ∧ (∀ (d : Nat) (S : St), 14 ≤ d → runF LP NN d 51 [.agg [.int .u8 k.cat, .int .u8 k.us, .str k.pic, .int .i64 k.dg, .int .i64 k.sc, .bool k.sg, .bool k.le, .bool k.se, .bool k.ju, .bool k.bl, .int .i64 k.sz, subD k.a k.n z]] S = some (.tup [.agg [.bool nb, .str sb, .int .i64 0], .int .i64 0], S, false)) ∧ (∀ (d : Nat) (S : St), 8 ≤ d → runF LP NN d 52 [.agg [.bool na, .str sa, .int .i64 0], .agg [.bool nb, .str sb, .int .i64 0]] S = some (.tup [.int .i64 (cmpT (k.sub l) (k.sub m)), .int .i64 0], S, false)) := by
  intro k hk hc
  obtain ⟨a, n, dn, rfl | rfl, h1, h2⟩ := hg k hk
  · simp [kT] at hc
  · have e1 := hl.sublen h2
    have e2 := hm.sublen h2
    have n1 : ((l.drop a).take n) ≠ [] := by intro h; rw [h] at e1; simp at e1; omega
    have n2 : ((m.drop a).take n) ≠ [] := by intro h; rw [h] at e2; simp at e2; omega
    have m1 : isNum ((l.drop a).take n) = true := by
      simp only [isNum, hl.sub a n, Bool.and_true, Bool.not_eq_true', beq_eq_false_iff_ne, ne_eq]; exact n1
    have m2 : isNum ((m.drop a).take n) = true := by
      simp only [isNum, hm.sub a n, Bool.and_true, Bool.not_eq_true', beq_eq_false_iff_ne, ne_eq]; exact n2
    refine ⟨false, false, mkS (strip ((l.drop a).take n)), mkS (strip ((m.drop a).take n)), fun d S hd => getN hd S n h1 (by omega) (hR.subB a n) e1 (hl.sub a n), fun d S hd => getN hd S n h1 (by omega) (hQ.subB a n) e2 (hm.sub a n), fun d S hd => ?_⟩
    obtain ⟨a1, a2⟩ := strip_len _ n1
    obtain ⟨b1, b2⟩ := strip_len _ n2
    have N1 := Nrm.of false _ m1 (by omega)
    have N2 := Nrm.of false _ m2 (by omega)
    rw [Bool.false_and] at N1 N2
    refine (decCmp_run hd S false false _ _ N1 N2 (by omega) (by omega)).trans ?_
    have : cmpN false false (strip ((l.drop a).take n)) (strip ((m.drop a).take n)) = cmpT ((l.drop a).take n) ((m.drop a).take n) := by
      rw [cmpN, if_pos rfl, if_neg (by simp), cmpL_pad _ _ (by rw [e1, e2]) n1, cmpL_cmpT _ _ (by rw [e1, e2])]
    rw [this]; rfl
theorem compareR_run {d : Nat} (hd : 15 ≤ d) (S : St) (hS : SlD 14 (keRows ks) x) (hR : SlD 1 (bR l) y) (hQ : SlD 1 (bR m) z) (h8 : ks.length ≤ 8) (hg : ∀ k ∈ ks, GK k) (hl : Rec l) (hm : Rec m) : runF LP NN d 33 [x, y, z] S = some (.int .i64 (ordR ks l m), S, false) := by
  have f : ∀ k ∈ ks, k.a + k.n ≤ 6 := fun k hk => (gk_ok (hg k hk)).fit
  refine (compare_run hd S hS hR hQ h8 (by rw [bR_len, hl.1]; omega) (by rw [bR_len, hm.1]; omega) (fun k hk => by rw [bR_len, hl.1]; exact f k hk) (fun k hk => by rw [bR_len, hm.1]; exact f k hk) (fun k => cmpT (k.sub l) (k.sub m)) (text_hyp hg hR hQ hl hm) (num_hyp hg hR hQ hl hm)).trans ?_
  rw [firstC_lex ks l m (by rw [hl.1, hm.1])]; rfl
theorem orderR_run {d : Nat} (hd : 1 ≤ d) (S : St) (hS : SlD 14 (keRows ks) x) (hR : SlD 1 (bR l) y) (hQ : SlD 1 (bR m) z) (h8 : ks.length ≤ 8) (hg : ∀ k ∈ ks, GK k) (hl : Rec l) (hm : Rec m) : runF LP NN d 17 [x, y, z] S = some (.int .i64 (ordR ks l m), S, false) := by
  have f : ∀ k ∈ ks, k.a + k.n ≤ 6 := fun k hk => (gk_ok (hg k hk)).fit
  refine (order_run hd S hS hR hQ h8 (by rw [hl.1]; omega) (by rw [hl.1, hm.1]) (fun k hk => by rw [hl.1]; exact f k hk)).trans ?_
  rw [firstC_lex ks l m (by rw [hl.1, hm.1])]; rfl
theorem validR_run {d : Nat} (hd : 15 ≤ d) (S : St) (hS : SlD 14 (keRows ks) x) (hR : SlD 1 (bR l) y) (h8 : ks.length ≤ 8) (hg : ∀ k ∈ ks, GK k) (hl : Rec l) : runF LP NN d 44 [x, .int .i64 6, y] S = some (.int .i64 0, S, false) := by
  have e : (bR l).length = 6 := by rw [bR_len, hl.1]
  have := valid_run (d := d) hd S hS hR h8 (by rw [e]; omega) (by rw [e]; exact fun k hk => gk_ok (hg k hk)) (valid_hyp hg hR hl)
  rw [e] at this
  exact this
theorem ValidR_run {d : Nat} (hd : 18 ≤ d) (S : St) (hS : SlD 14 (keRows ks) x) (hR : SlD 1 (bR l) y) (hne : 0 < ks.length) (h8 : ks.length ≤ 8) (hg : ∀ k ∈ ks, GK k) (hl : Rec l) : runF LP NN d 30 [x, .int .i64 6, y] S = some (.int .i64 0, S, false) := by
  have e : (bR l).length = 6 := by rw [bR_len, hl.1]
  have := Valid_run (d := d) hd S hS hR h8 (by rw [e]; omega) (by rw [e]; exact fun k hk => gk_ok (hg k hk)) (valid_hyp hg hR hl) hne (by rw [e]; omega)
  rw [e] at this
  exact this
theorem CompareR_run {d : Nat} (hd : 19 ≤ d) (S : St) (hS : SlD 14 (keRows ks) x) (hR : SlD 1 (bR l) y) (hQ : SlD 1 (bR m) z) (hne : 0 < ks.length) (h8 : ks.length ≤ 8) (hg : ∀ k ∈ ks, GK k) (hl : Rec l) (hm : Rec m) : runF LP NN d 15 [x, .int .i64 6, y, z] S = some (.tup [.int .i64 (ordR ks l m), .int .i64 0], S, false) := by
  have f : ∀ k ∈ ks, k.a + k.n ≤ 6 := fun k hk => (gk_ok (hg k hk)).fit
  refine (Compare_run hd S 6 hS hR hQ h8 (by rw [bR_len, hl.1]; omega) (by rw [bR_len, hm.1]; omega) (fun k hk => by rw [bR_len, hl.1]; exact f k hk) (fun k hk => by rw [bR_len, hm.1]; exact f k hk) (fun k => cmpT (k.sub l) (k.sub m)) (text_hyp hg hR hQ hl hm) (num_hyp hg hR hQ hl hm) (fun d S hd => ValidR_run hd S hS hR hne h8 hg hl) (fun d S hd => ValidR_run hd S hS hQ hne h8 hg hm)).trans ?_
  rw [firstC_lex ks l m (by rw [hl.1, hm.1])]; rfl
end
theorem lives_run (d : Nat) (S : St) : runF LP NN (d + 30) 9 [] S = some (.bool true, S, false) := by kernel_rfl
end Go.Proofs.YtabgobmeibjeeaaGreatDoor

namespace Go.Proofs.YtabgobmeibjeeaaGreatDoor
set_option linter.unusedSimpArgs false
set_option linter.unusedVariables false
set_option maxRecDepth 10000

/-- the results so far -/
def fl (c : Nat → Nat → Int) (t : Nat) : List D := (List.range 9).map fun p => D.int .i64 (if p < t then c (p / 3) (p % 3) else 0)
theorem fl_len (c : Nat → Nat → Int) (t : Nat) : (fl c t).length = 9 := by simp [fl]
theorem fl_put (c : Nat → Nat → Int) (i j : Nat) (hi : i < 3) (hj : j < 3) : overlay (fl c (3 * i + j)) (3 * i + j) [.int .i64 (c i j)] = fl c (3 * i + j + 1) := by
 have e1 : i = 0 ∨ i = 1 ∨ i = 2 := by omega
 have e2 : j = 0 ∨ j = 1 ∨ j = 2 := by omega
 rcases e1 with rfl | rfl | rfl <;> rcases e2 with rfl | rfl | rfl <;> rfl
theorem fl_store {call : CallF} (c : Nat → Nat → Int) (o0 : AObj) (i j : Nat) (hi : i < 3) (hj : j < 3) : exOp call (.store 1) [.ptr 1 0 0 (i * 3 + j), .int .i64 (c i j)] ⟨[o0, ⟨40, 9, [fl c (3 * i + j)], 0, 0, false⟩], 0⟩ = some (.undef, ⟨[o0, ⟨40, 9, [fl c (3 * i + j + 1)], 0, 0, false⟩], 0⟩, true) := by
 have e : i * 3 + j = 3 * i + j := by omega
 rw [e]
 have h : decide (3 * i + j + 1 ≤ (fl c (3 * i + j)).length) = true := decide_eq_true (by rw [fl_len]; omega)
 simp only [exOp, aop, LOp.loud, lop, storeD, rowsOf, if_true, List.getElem?_cons_zero, List.getElem?_cons_succ, val_int, cells_int, List.length_cons, List.length_nil, h, fl_put c i j hi hj, setAt, Nat.zero_min, zn]
 rfl
theorem x3_at (X : Nat → Nat) (i : Nat) (hi : i < 3) : ([D.int .u32 (X 0), .int .u32 (X 1), .int .u32 (X 2)] : List D)[i]? = some (.int .u32 (X i)) := by
 have e1 : i = 0 ∨ i = 1 ∨ i = 2 := by omega
 rcases e1 with rfl | rfl | rfl <;> rfl
theorem fl9 (c : Nat → Nat → Int) : fl c 9 = [.int .i64 (c 0 0), .int .i64 (c 0 1), .int .i64 (c 0 2), .int .i64 (c 1 0), .int .i64 (c 1 1), .int .i64 (c 1 2), .int .i64 (c 2 0), .int .i64 (c 2 1), .int .i64 (c 2 2)] := rfl

theorem livesD {d : Nat} (hd : 30 ≤ d) (S : St) : runF LP NN d 9 [] S = some (.bool true, S, false) := by
 obtain ⟨d, rfl⟩ : ∃ d', d = d' + 30 := ⟨d - 30, by omega⟩
 exact lives_run d S
theorem a03 : (0 : Int) ≤ 0 ∧ (0 : Int) < ((3 : Nat) : Int) := by decide
theorem a13 : (0 : Int) ≤ 1 ∧ (1 : Int) < ((3 : Nat) : Int) := by decide

theorem lawCompare_run {d : Nat} (hd : 32 ≤ d) (S : St) {x : D} {l : List (Nat × Nat × Nat)} (hS : SlD 3 (triRows l) x) (hbd : ∀ t ∈ l, t.1 < 256 ∧ t.2.1 < 256 ∧ t.2.2 < 256) (hll : l.length ≤ 9223372036854775807) (X : Nat → Nat) (hX : ∀ i, X i < 4294967296) : runF LP NN d 4 [x, .agg [.int .u32 (X 0), .int .u32 (X 1), .int .u32 (X 2)]] S = some (.bool true, S, false) := by
 obtain ⟨c, hc⟩ : ∃ c : Nat → Nat → Int, c = fun i j => ordR (keysF l) (digs (X i)) (digs (X j)) := ⟨_, rfl⟩
 refine run_pure (F := F4) rfl (by simp only [LP, fnOf, snapVs, snaps, zs, Bool.false_eq_true, if_false, Option.map_some, List.map_cons, List.map_nil, hS.snapV, hS.freeV] <;> exact rfl) rfl (by simp only [LP, zf, List.all_cons, List.all_nil, Bool.and_true, Bool.true_and, hS.snapV, hS.freeV]; try rfl) (by simp only [F4, zv] <;> exact rfl) (by omega) ?_
 rintro d rfl
 refine cw_seq (cw_region ?_)
 refine ow_op (by simp only [zl, zm, zc] <;> exact rfl) ?_
 refine ow_mc ?_
 refine ow_nil ?_
 refine sk_n (by simp only [ze] <;> exact rfl) ?_
 refine cw_seq (cw_region ?_)
 refine ow_me rfl ?_
 refine ow_op (by simp only [zo]; exact kOf_run (by omega) _ hS hbd hll) ?_
 refine ow_ml rfl ?_
 refine ow_nil ?_
 refine sk_n (by simp only [ze] <;> exact rfl) ?_
 refine cw_seq (cw_region ?_)
 refine ow_op (by simp only [zl, zm] <;> exact rfl) ?_
 refine ow_nil ?_
 refine sk_n (by simp only [ze] <;> exact rfl) ?_
 refine cw_seq (cw_seq (cw_region ?_))
 refine ow_mc ?_
 refine ow_nil ?_
 refine sk_n (by simp only [ze] <;> exact rfl) ?_
 refine cw_block ?_
 refine cw_loop (fun n env S' => ∃ (i : Nat) (u7 u8 u9 u10 u11 u12 u13 : D), i ≤ 3 ∧ n = 3 - i ∧ S' = ⟨[⟨38, 3, [[.int .u32 (X 0), .int .u32 (X 1), .int .u32 (X 2)]], 0, 0, false⟩, ⟨40, 9, [fl c (3 * i)], 0, 0, false⟩], 0⟩ ∧ env = [x, .agg [.int .u32 (X 0), .int .u32 (X 1), .int .u32 (X 2)], .ptr 0 0 0 0, .bool false, .sl 14 (keRows (keysF l)) none, .ptr 1 0 0 0, .int .i64 i, u7, u8, u9, u10, u11, u12, u13]) (3) (by omega) (⟨0, _, _, _, _, _, _, _, by omega, by omega, rfl, rfl⟩) ?_
 rintro n env S' ⟨i, u7, u8, u9, u10, u11, u12, u13, hi, rfl, rfl, rfl⟩
 have h0 : (0 : Int) ≤ (i : Int) := by omega
 refine cw_seq (cw_seq (cw_region ?_))
 refine ow_me rfl ?_
 refine ow_op (by simp only [zo, binD, zb, Int.reduceEq, Int.reduceToNat, Int.reduceLT, h0] <;> exact rfl) ?_
 refine ow_nil ?_
 refine sk_n (by simp only [ze] <;> exact rfl) ?_
 refine cw_cond (by simp only [opd, zv, h0] <;> exact rfl) (fun hcA => ?_) (fun hcA => ?_)
 ·
  have hlt : i < 3 := by have := of_decide_eq_true hcA; omega
  have hw := wrap_nat i (by omega)
  have hai : (0 : Int) ≤ (i : Int) ∧ (i : Int) < ((3 : Nat) : Int) := by omega
  have hxi := x3_at X i hlt
  refine cw_skip (sk_n rfl (cw_seq (cw_block (cw_seq (cw_region ?_)))))
  refine ow_mc ?_
  refine ow_nil ?_
  refine sk_n (by simp only [ze] <;> exact rfl) ?_
  refine cw_block ?_
  refine cw_loop (fun n env S' => ∃ (j : Nat) (v8 v9 v10 v11 v12 v13 : D), j ≤ 3 ∧ n = 3 - j ∧ S' = ⟨[⟨38, 3, [[.int .u32 (X 0), .int .u32 (X 1), .int .u32 (X 2)]], 0, 0, false⟩, ⟨40, 9, [fl c (3 * i + j)], 0, 0, false⟩], 0⟩ ∧ env = [x, .agg [.int .u32 (X 0), .int .u32 (X 1), .int .u32 (X 2)], .ptr 0 0 0 0, .bool false, .sl 14 (keRows (keysF l)) none, .ptr 1 0 0 0, .int .i64 i, .int .i64 j, v8, v9, v10, v11, v12, v13]) (3) (by omega) (⟨0, _, _, _, _, _, _, by omega, by omega, rfl, rfl⟩) ?_
  rintro n env S' ⟨j, v8, v9, v10, v11, v12, v13, hj, rfl, rfl, rfl⟩
  have hj0 : (0 : Int) ≤ (j : Int) := by omega
  refine cw_seq (cw_seq (cw_region ?_))
  refine ow_me rfl ?_
  refine ow_op (by simp only [zo, binD, zb, Int.reduceEq, Int.reduceToNat, Int.reduceLT, h0, hw, hai, hxi, Int.toNat_natCast, Nat.mul_one, hj0] <;> exact rfl) ?_
  refine ow_nil ?_
  refine sk_n (by simp only [ze] <;> exact rfl) ?_
  refine cw_cond (by simp only [opd, zv, h0, hw, hai, hxi, Int.toNat_natCast, Nat.mul_one, hj0] <;> exact rfl) (fun hcATB => ?_) (fun hcATB => ?_)
  ·
   have hlj : j < 3 := by have := of_decide_eq_true hcATB; omega
   have hwj := wrap_nat j (by omega)
   have haj : (0 : Int) ≤ (j : Int) ∧ (j : Int) < ((3 : Nat) : Int) := by omega
   have hxj := x3_at X j hlj
   have hcij : ordR (keysF l) (digs (X i)) (digs (X j)) = c i j := by rw [hc]
   refine cw_skip (sk_n rfl (cw_seq (cw_block (cw_seq ?_))))
   refine cw_drawn (by simp only [newsVals, zw, Nat.reduceAdd] <;> exact rfl) (by simp only [zw, newsObj, St.eta] <;> exact rfl) ?_
   refine dw_me rfl rfl ?_
   refine dw_me rfl rfl ?_
   refine dw_quiet (by simp only [zo, aaddrD, zm, h0, hw, hai, hxi, Int.toNat_natCast, Nat.mul_one, hj0, hwj, haj, hxj, bne_self_eq_false] <;> exact rfl) rfl rfl ?_
   refine dw_op (by simp only [zl, zm, zd, partD, List.take, List.drop, h0, hw, hai, hxi, Int.toNat_natCast, Nat.mul_one, hj0, hwj, haj, hxj, bne_self_eq_false] <;> exact rfl) (by simp only [fpHere, zo, zq, plainV_agg, List.all_cons, List.all_nil, plain1_int, plain1_str, plain1_bool, plain1_nils, Bool.and_true, Bool.and_self, if_true] <;> exact rfl) rfl ?_
   first
    | refine dw_op (by simp only [zo, h0, hw, hai, hxi, Int.toNat_natCast, Nat.mul_one, hj0, hwj, haj, hxj, bne_self_eq_false]; exact rOf_run (by omega) _ (X i) (hX i)) (by simp only [fpHere, zo, zq, plainV_agg, List.all_cons, List.all_nil, plain1_int, plain1_str, plain1_bool, plain1_nils, Bool.and_true, Bool.and_self, if_true] <;> exact rfl) rfl ?_
    | refine dw_op (by simp only [zo, h0, hw, hai, hxi, Int.toNat_natCast, Nat.mul_one, hj0, hwj, haj, hxj, bne_self_eq_false]; exact rOf_run (by omega) _ (X j) (hX j)) (by simp only [fpHere, zo, zq, plainV_agg, List.all_cons, List.all_nil, plain1_int, plain1_str, plain1_bool, plain1_nils, Bool.and_true, Bool.and_self, if_true] <;> exact rfl) rfl ?_
   refine dw_me rfl rfl ?_
   refine dw_quiet (by simp only [zo, aaddrD, zm, h0, hw, hai, hxi, Int.toNat_natCast, Nat.mul_one, hj0, hwj, haj, hxj, bne_self_eq_false] <;> exact rfl) rfl rfl ?_
   refine dw_op (by simp only [zl, zm, zd, partD, List.take, List.drop, h0, hw, hai, hxi, Int.toNat_natCast, Nat.mul_one, hj0, hwj, haj, hxj, bne_self_eq_false] <;> exact rfl) (by simp only [fpHere, zo, zq, plainV_agg, List.all_cons, List.all_nil, plain1_int, plain1_str, plain1_bool, plain1_nils, Bool.and_true, Bool.and_self, if_true] <;> exact rfl) rfl ?_
   first
    | refine dw_op (by simp only [zo, h0, hw, hai, hxi, Int.toNat_natCast, Nat.mul_one, hj0, hwj, haj, hxj, bne_self_eq_false]; exact rOf_run (by omega) _ (X i) (hX i)) (by simp only [fpHere, zo, zq, plainV_agg, List.all_cons, List.all_nil, plain1_int, plain1_str, plain1_bool, plain1_nils, Bool.and_true, Bool.and_self, if_true] <;> exact rfl) rfl ?_
    | refine dw_op (by simp only [zo, h0, hw, hai, hxi, Int.toNat_natCast, Nat.mul_one, hj0, hwj, haj, hxj, bne_self_eq_false]; exact rOf_run (by omega) _ (X j) (hX j)) (by simp only [fpHere, zo, zq, plainV_agg, List.all_cons, List.all_nil, plain1_int, plain1_str, plain1_bool, plain1_nils, Bool.and_true, Bool.and_self, if_true] <;> exact rfl) rfl ?_
   refine dw_op (by simp only [zo, h0, hw, hai, hxi, Int.toNat_natCast, Nat.mul_one, hj0, hwj, haj, hxj, bne_self_eq_false]; exact (CompareR_run (by omega) _ (SlD.of _ _ _) (SlD.of _ _ _) (SlD.of _ _ _) (keysF_len l).1 (by have := (keysF_len l).2; omega) (keysF_gk l) (digs_rec (X i)) (digs_rec (X j))).trans (by rw [hcij] <;> exact rfl)) (by simp only [fpHere, zo, zq, plainV_agg, List.all_cons, List.all_nil, plain1_int, plain1_str, plain1_bool, plain1_nils, Bool.and_true, Bool.and_self, if_true] <;> exact rfl) rfl ?_
   refine dw_ml rfl rfl ?_
   refine dw_quiet (by simp only [zo, List.getElem?_cons_zero, List.getElem?_cons_succ, h0, hw, hai, hxi, Int.toNat_natCast, Nat.mul_one, hj0, hwj, haj, hxj, bne_self_eq_false] <;> exact rfl) rfl rfl ?_
   refine dw_quiet (by simp only [zo, List.getElem?_cons_zero, List.getElem?_cons_succ, h0, hw, hai, hxi, Int.toNat_natCast, Nat.mul_one, hj0, hwj, haj, hxj, bne_self_eq_false] <;> exact rfl) rfl rfl ?_
   refine dw_ml rfl rfl ?_
   refine dw_ml rfl rfl ?_
   refine dw_nil ?_
   refine sk_n (by simp only [ze] <;> exact rfl) ?_
   refine cw_seq (cw_seq ?_)
   refine cw_drawn (by simp only [newsVals, zw, Nat.reduceAdd] <;> exact rfl) (by simp only [zw, newsObj, St.eta] <;> exact rfl) ?_
   refine dw_me rfl rfl ?_
   refine dw_quiet (by simp only [zo, binD, zb, Int.reduceEq, Int.reduceToNat, Int.reduceLT, h0, hw, hai, hxi, Int.toNat_natCast, Nat.mul_one, hj0, hwj, haj, hxj, bne_self_eq_false] <;> exact rfl) rfl rfl ?_
   refine dw_ml rfl rfl ?_
   refine dw_know 0 (b := false) (by simp only [opd, zv, h0, hw, hai, hxi, Int.toNat_natCast, Nat.mul_one, hj0, hwj, haj, hxj, bne_self_eq_false] <;> rfl) (by simp only [zn] <;> exact rfl) ?_
   refine dw_on (by simp only [opd, zv]) ?_
   refine dw_me rfl rfl ?_
   refine dw_on (by simp only [opd, zv]) ?_
   refine dw_me rfl rfl ?_
   refine dw_on (by simp only [opd, zv]) ?_
   refine dw_me rfl rfl ?_
   refine dw_on (by simp only [opd, zv]) ?_
   refine dw_quiet (by simp only [zo, aaddrD, zm, h0, hw, hai, hxi, Int.toNat_natCast, Nat.mul_one, hj0, hwj, haj, hxj, bne_self_eq_false] <;> exact rfl) rfl rfl ?_
   refine dw_on (by simp only [opd, zv]) ?_
   refine dw_op (by simp only [zl, zm, zd, partD, List.take, List.drop, h0, hw, hai, hxi, Int.toNat_natCast, Nat.mul_one, hj0, hwj, haj, hxj, bne_self_eq_false] <;> exact rfl) (by simp only [fpHere, zo, zq, plainV_agg, List.all_cons, List.all_nil, plain1_int, plain1_str, plain1_bool, plain1_nils, Bool.and_true, Bool.and_self, if_true] <;> exact rfl) rfl ?_
   refine dw_on (by simp only [opd, zv]) ?_
   first
    | refine dw_op (by simp only [zo, h0, hw, hai, hxi, Int.toNat_natCast, Nat.mul_one, hj0, hwj, haj, hxj, bne_self_eq_false]; exact rOf_run (by omega) _ (X i) (hX i)) (by simp only [fpHere, zo, zq, plainV_agg, List.all_cons, List.all_nil, plain1_int, plain1_str, plain1_bool, plain1_nils, Bool.and_true, Bool.and_self, if_true] <;> exact rfl) rfl ?_
    | refine dw_op (by simp only [zo, h0, hw, hai, hxi, Int.toNat_natCast, Nat.mul_one, hj0, hwj, haj, hxj, bne_self_eq_false]; exact rOf_run (by omega) _ (X j) (hX j)) (by simp only [fpHere, zo, zq, plainV_agg, List.all_cons, List.all_nil, plain1_int, plain1_str, plain1_bool, plain1_nils, Bool.and_true, Bool.and_self, if_true] <;> exact rfl) rfl ?_
   refine dw_on (by simp only [opd, zv]) ?_
   refine dw_me rfl rfl ?_
   refine dw_on (by simp only [opd, zv]) ?_
   refine dw_quiet (by simp only [zo, aaddrD, zm, h0, hw, hai, hxi, Int.toNat_natCast, Nat.mul_one, hj0, hwj, haj, hxj, bne_self_eq_false] <;> exact rfl) rfl rfl ?_
   refine dw_on (by simp only [opd, zv]) ?_
   refine dw_op (by simp only [zl, zm, zd, partD, List.take, List.drop, h0, hw, hai, hxi, Int.toNat_natCast, Nat.mul_one, hj0, hwj, haj, hxj, bne_self_eq_false] <;> exact rfl) (by simp only [fpHere, zo, zq, plainV_agg, List.all_cons, List.all_nil, plain1_int, plain1_str, plain1_bool, plain1_nils, Bool.and_true, Bool.and_self, if_true] <;> exact rfl) rfl ?_
   refine dw_on (by simp only [opd, zv]) ?_
   first
    | refine dw_op (by simp only [zo, h0, hw, hai, hxi, Int.toNat_natCast, Nat.mul_one, hj0, hwj, haj, hxj, bne_self_eq_false]; exact rOf_run (by omega) _ (X i) (hX i)) (by simp only [fpHere, zo, zq, plainV_agg, List.all_cons, List.all_nil, plain1_int, plain1_str, plain1_bool, plain1_nils, Bool.and_true, Bool.and_self, if_true] <;> exact rfl) rfl ?_
    | refine dw_op (by simp only [zo, h0, hw, hai, hxi, Int.toNat_natCast, Nat.mul_one, hj0, hwj, haj, hxj, bne_self_eq_false]; exact rOf_run (by omega) _ (X j) (hX j)) (by simp only [fpHere, zo, zq, plainV_agg, List.all_cons, List.all_nil, plain1_int, plain1_str, plain1_bool, plain1_nils, Bool.and_true, Bool.and_self, if_true] <;> exact rfl) rfl ?_
   refine dw_on (by simp only [opd, zv]) ?_
   refine dw_op (by simp only [zo, h0, hw, hai, hxi, Int.toNat_natCast, Nat.mul_one, hj0, hwj, haj, hxj, bne_self_eq_false]; exact (orderR_run (by omega) _ (SlD.of _ _ _) (SlD.of _ _ _) (SlD.of _ _ _) (by have := (keysF_len l).2; omega) (keysF_gk l) (digs_rec (X i)) (digs_rec (X j))).trans (by rw [hcij] <;> exact rfl)) (by simp only [fpHere, zo, zq, plainV_agg, List.all_cons, List.all_nil, plain1_int, plain1_str, plain1_bool, plain1_nils, Bool.and_true, Bool.and_self, if_true] <;> exact rfl) rfl ?_
   refine dw_on (by simp only [opd, zv]) ?_
   refine dw_quiet (by simp only [zo, binD, zb, Int.reduceEq, Int.reduceToNat, Int.reduceLT, h0, hw, hai, hxi, Int.toNat_natCast, Nat.mul_one, hj0, hwj, haj, hxj, bne_self_eq_false] <;> exact rfl) rfl rfl ?_
   refine dw_quiet (by simp only [zo, h0, hw, hai, hxi, Int.toNat_natCast, Nat.mul_one, hj0, hwj, haj, hxj, bne_self_eq_false] <;> exact rfl) rfl rfl ?_
   refine dw_nil ?_
   refine sk_n (by simp only [ze] <;> exact rfl) ?_
   skip
   refine cw_false (by simp only [opd, zv, h0, hw, hai, hxi, Int.toNat_natCast, Nat.mul_one, hj0, hwj, haj, hxj, bne_self_eq_false] <;> rfl) ?_
   refine cw_skip (sk_n rfl (cw_region ?_))
   refine ow_me rfl ?_
   refine ow_me rfl ?_
   refine ow_me rfl ?_
   refine ow_op (by simp only [zo, aaddrD, zm, h0, hw, hai, hxi, Int.toNat_natCast, Nat.mul_one, hj0, hwj, haj, hxj, bne_self_eq_false] <;> exact rfl) ?_
   refine ow_op (by simp only [zo, aaddrD, zm, h0, hw, hai, hxi, Int.toNat_natCast, Nat.mul_one, hj0, hwj, haj, hxj, bne_self_eq_false] <;> exact rfl) ?_
   refine ow_op (by simp only [opd, zv]; exact fl_store c _ i j hlt hlj) ?_
   refine ow_nil (bk_n ?_)
   refine sk_n (by simp only [ze] <;> exact rfl) ?_
   refine cw_region ?_
   refine ow_me rfl ?_
   refine ow_op (by simp only [zo, binD, zb, Int.reduceEq, Int.reduceToNat, Int.reduceLT, h0, hw, hai, hxi, Int.toNat_natCast, Nat.mul_one, hj0, hwj, haj, hxj, bne_self_eq_false] <;> exact rfl) ?_
   refine ow_ml rfl ?_
   refine ow_nil ?_
   refine lk_n (by simp only [ze] <;> exact rfl) ?_
   exact ⟨3 - (j + 1), by omega, j + 1, _, _, _, _, _, _, by omega, rfl, rfl, rfl⟩
  ·
   have hjge : 3 ≤ j := by have := of_decide_eq_false hcATB; omega
   refine cw_exit (sk_e (lk_e (bk_e (bk_n (sk_n rfl (cw_region ?_))))))
   refine ow_me rfl ?_
   refine ow_op (by simp only [zo, binD, zb, Int.reduceEq, Int.reduceToNat, Int.reduceLT, h0, hw, hai, hxi, Int.toNat_natCast, Nat.mul_one, hj0] <;> exact rfl) ?_
   refine ow_ml rfl ?_
   refine ow_nil ?_
   refine lk_n (by simp only [ze] <;> exact rfl) ?_
   exact ⟨3 - (i + 1), by omega, i + 1, _, _, _, _, _, _, _, by omega, rfl, by rw [show 3 * (i + 1) = 3 * i + j by omega], rfl⟩
 ·
  obtain rfl : i = 3 := by have := of_decide_eq_false hcA; omega
  have hsw : c 0 1 = 0 - c 1 0 := by rw [hc]; exact lexI_swap _ _ (encs_len _ (by rw [digs_len, digs_len]))
  have hrg : c 1 0 = -1 ∨ c 1 0 = 0 ∨ c 1 0 = 1 := by rw [hc]; exact lexI_range _ _
  have hww : IntKind.i64.wrap (0 - c 1 0) = 0 - c 1 0 := by rcases hrg with h | h | h <;> rw [h] <;> rfl
  have h00 : c 0 0 = 0 := by rw [hc]; exact lexI_self _
  have htr : c 0 1 ≤ 0 → c 1 2 ≤ 0 → c 0 2 ≤ 0 := by rw [hc]; exact lexI_trans _ _ _ (encs_len _ (by rw [digs_len, digs_len])) (encs_len _ (by rw [digs_len, digs_len]))
  refine cw_exit (sk_e (lk_e (bk_e (sk_n rfl (cw_seq (cw_seq (cw_region ?_)))))))
  refine ow_op (by simp only [zo, aaddrD, zm, h0, fl9, a03, a13, Int.toNat_zero, Int.toNat_one, Nat.zero_mul, Nat.one_mul, Nat.reduceMul, Nat.reduceAdd, List.getElem?_cons_succ, List.getElem?_cons_zero] <;> exact rfl) ?_
  refine ow_op (by simp only [zo, aaddrD, zm, h0, fl9, a03, a13, Int.toNat_zero, Int.toNat_one, Nat.zero_mul, Nat.one_mul, Nat.reduceMul, Nat.reduceAdd, List.getElem?_cons_succ, List.getElem?_cons_zero] <;> exact rfl) ?_
  refine ow_op (by simp only [zl, zm, zd, partD, List.take, List.drop, h0, fl9, a03, a13, Int.toNat_zero, Int.toNat_one, Nat.zero_mul, Nat.one_mul, Nat.reduceMul, Nat.reduceAdd, List.getElem?_cons_succ, List.getElem?_cons_zero] <;> exact rfl) ?_
  refine ow_op (by simp only [zo, aaddrD, zm, h0, fl9, a03, a13, Int.toNat_zero, Int.toNat_one, Nat.zero_mul, Nat.one_mul, Nat.reduceMul, Nat.reduceAdd, List.getElem?_cons_succ, List.getElem?_cons_zero] <;> exact rfl) ?_
  refine ow_op (by simp only [zo, aaddrD, zm, h0, fl9, a03, a13, Int.toNat_zero, Int.toNat_one, Nat.zero_mul, Nat.one_mul, Nat.reduceMul, Nat.reduceAdd, List.getElem?_cons_succ, List.getElem?_cons_zero] <;> exact rfl) ?_
  refine ow_op (by simp only [zl, zm, zd, partD, List.take, List.drop, h0, fl9, a03, a13, Int.toNat_zero, Int.toNat_one, Nat.zero_mul, Nat.one_mul, Nat.reduceMul, Nat.reduceAdd, List.getElem?_cons_succ, List.getElem?_cons_zero] <;> exact rfl) ?_
  refine ow_op (by simp only [zo, unD, h0, fl9, a03, a13, Int.toNat_zero, Int.toNat_one, Nat.zero_mul, Nat.one_mul, Nat.reduceMul, Nat.reduceAdd, List.getElem?_cons_succ, List.getElem?_cons_zero] <;> exact rfl) ?_
  refine ow_op (by simp only [zo, binD, zb, Int.reduceEq, Int.reduceToNat, Int.reduceLT, h0, fl9, a03, a13, Int.toNat_zero, Int.toNat_one, Nat.zero_mul, Nat.one_mul, Nat.reduceMul, Nat.reduceAdd, List.getElem?_cons_succ, List.getElem?_cons_zero] <;> exact rfl) ?_
  refine ow_ml rfl ?_
  refine ow_split 0 (by simp only [opd, zv] <;> exact rfl) (by simp only [zn] <;> exact rfl) (by simp only [zn] <;> exact rfl) (fun hgAF => ?_) (fun hgAF => ?_)
  ·
   refine ow_off (b' := true) (by simp only [opd, zv]) rfl ?_
   refine ow_off (b' := true) (by simp only [opd, zv]) rfl ?_
   refine ow_off (b' := true) (by simp only [opd, zv]) rfl ?_
   refine ow_off (b' := true) (by simp only [opd, zv]) rfl ?_
   refine ow_op (by simp only [zo, h0, fl9, a03, a13, Int.toNat_zero, Int.toNat_one, Nat.zero_mul, Nat.one_mul, Nat.reduceMul, Nat.reduceAdd, List.getElem?_cons_succ, List.getElem?_cons_zero] <;> exact rfl) ?_
   refine ow_ml rfl ?_
   refine ow_off (b' := true) (by simp only [opd, zv]) rfl ?_
   refine ow_off (b' := true) (by simp only [opd, zv]) rfl ?_
   refine ow_off (b' := true) (by simp only [opd, zv]) rfl ?_
   refine ow_off (b' := true) (by simp only [opd, zv]) rfl ?_
   refine ow_off (b' := true) (by simp only [opd, zv]) rfl ?_
   refine ow_gone (by simp only [opd, zv]) ?_
   refine ow_gone (by simp only [opd, zv]) ?_
   refine ow_gone (by simp only [opd, zv]) ?_
   refine ow_gone (by simp only [opd, zv]) ?_
   refine ow_off (b' := true) (by simp only [opd, zv]) rfl ?_
   refine ow_off (b' := true) (by simp only [opd, zv]) rfl ?_
   refine ow_gone (by simp only [opd, zv]) ?_
   refine ow_gone (by simp only [opd, zv]) ?_
   refine ow_gone (by simp only [opd, zv]) ?_
   refine ow_gone (by simp only [opd, zv]) ?_
   refine ow_off (b' := true) (by simp only [opd, zv]) rfl ?_
   refine ow_op (by simp only [zo, h0, fl9, a03, a13, Int.toNat_zero, Int.toNat_one, Nat.zero_mul, Nat.one_mul, Nat.reduceMul, Nat.reduceAdd, List.getElem?_cons_succ, List.getElem?_cons_zero] <;> exact rfl) ?_
   refine ow_nil ?_
   refine sk_n (by simp only [ze] <;> exact rfl) ?_
   refine cw_true (by simp only [opd, zv, h0, fl9, a03, a13, Int.toNat_zero, Int.toNat_one, Nat.zero_mul, Nat.one_mul, Nat.reduceMul, Nat.reduceAdd, List.getElem?_cons_succ, List.getElem?_cons_zero]) ?_
   refine cw_seq (cw_region ?_)
   refine ow_mc ?_
   refine ow_nil ?_
   refine sk_n (by simp only [ze] <;> exact rfl) ?_
   refine cw_ret (sk_r ?_)
   refine ⟨_, by simp only [F4, resultD, resDs, resD, List.getD_cons_zero, List.getD_cons_succ, zd, rowsOf, partD, List.getElem?_cons_zero, List.getElem?_cons_succ, if_true, if_false, Bool.false_eq_true, List.take, List.drop, zm] <;> exact rfl, ?_⟩
   exfalso; rw [hww, hsw, bne_self_eq_false] at hgAF; simp at hgAF
  ·
   refine ow_on (by simp only [opd, zv]) ?_
   refine ow_op (by simp only [zo, aaddrD, zm, h0, fl9, a03, a13, Int.toNat_zero, Int.toNat_one, Nat.zero_mul, Nat.one_mul, Nat.reduceMul, Nat.reduceAdd, List.getElem?_cons_succ, List.getElem?_cons_zero] <;> exact rfl) ?_
   refine ow_on (by simp only [opd, zv]) ?_
   refine ow_op (by simp only [zo, aaddrD, zm, h0, fl9, a03, a13, Int.toNat_zero, Int.toNat_one, Nat.zero_mul, Nat.one_mul, Nat.reduceMul, Nat.reduceAdd, List.getElem?_cons_succ, List.getElem?_cons_zero] <;> exact rfl) ?_
   refine ow_on (by simp only [opd, zv]) ?_
   refine ow_op (by simp only [zl, zm, zd, partD, List.take, List.drop, h0, fl9, a03, a13, Int.toNat_zero, Int.toNat_one, Nat.zero_mul, Nat.one_mul, Nat.reduceMul, Nat.reduceAdd, List.getElem?_cons_succ, List.getElem?_cons_zero] <;> exact rfl) ?_
   refine ow_on (by simp only [opd, zv]) ?_
   refine ow_op (by simp only [zo, binD, zb, Int.reduceEq, Int.reduceToNat, Int.reduceLT, h0, fl9, a03, a13, Int.toNat_zero, Int.toNat_one, Nat.zero_mul, Nat.one_mul, Nat.reduceMul, Nat.reduceAdd, List.getElem?_cons_succ, List.getElem?_cons_zero] <;> exact rfl) ?_
   refine ow_op (by simp only [zo, h0, fl9, a03, a13, Int.toNat_zero, Int.toNat_one, Nat.zero_mul, Nat.one_mul, Nat.reduceMul, Nat.reduceAdd, List.getElem?_cons_succ, List.getElem?_cons_zero] <;> exact rfl) ?_
   refine ow_ml rfl ?_
   refine ow_split 0 (by simp only [opd, zv] <;> exact rfl) (by simp only [zn] <;> exact rfl) (by simp only [zn] <;> exact rfl) (fun hgAFF => ?_) (fun hgAFF => ?_)
   ·
    refine ow_off (b' := true) (by simp only [opd, zv]) rfl ?_
    refine ow_off (b' := true) (by simp only [opd, zv]) rfl ?_
    refine ow_off (b' := true) (by simp only [opd, zv]) rfl ?_
    refine ow_off (b' := true) (by simp only [opd, zv]) rfl ?_
    refine ow_off (b' := true) (by simp only [opd, zv]) rfl ?_
    refine ow_gone (by simp only [opd, zv]) ?_
    refine ow_gone (by simp only [opd, zv]) ?_
    refine ow_gone (by simp only [opd, zv]) ?_
    refine ow_gone (by simp only [opd, zv]) ?_
    refine ow_off (b' := true) (by simp only [opd, zv]) rfl ?_
    refine ow_off (b' := true) (by simp only [opd, zv]) rfl ?_
    refine ow_gone (by simp only [opd, zv]) ?_
    refine ow_gone (by simp only [opd, zv]) ?_
    refine ow_gone (by simp only [opd, zv]) ?_
    refine ow_gone (by simp only [opd, zv]) ?_
    refine ow_off (b' := true) (by simp only [opd, zv]) rfl ?_
    refine ow_op (by simp only [zo, h0, fl9, a03, a13, Int.toNat_zero, Int.toNat_one, Nat.zero_mul, Nat.one_mul, Nat.reduceMul, Nat.reduceAdd, List.getElem?_cons_succ, List.getElem?_cons_zero] <;> exact rfl) ?_
    refine ow_nil ?_
    refine sk_n (by simp only [ze] <;> exact rfl) ?_
    refine cw_true (by simp only [opd, zv, h0, fl9, a03, a13, Int.toNat_zero, Int.toNat_one, Nat.zero_mul, Nat.one_mul, Nat.reduceMul, Nat.reduceAdd, List.getElem?_cons_succ, List.getElem?_cons_zero]) ?_
    refine cw_seq (cw_region ?_)
    refine ow_mc ?_
    refine ow_nil ?_
    refine sk_n (by simp only [ze] <;> exact rfl) ?_
    refine cw_ret (sk_r ?_)
    refine ⟨_, by simp only [F4, resultD, resDs, resD, List.getD_cons_zero, List.getD_cons_succ, zd, rowsOf, partD, List.getElem?_cons_zero, List.getElem?_cons_succ, if_true, if_false, Bool.false_eq_true, List.take, List.drop, zm] <;> exact rfl, ?_⟩
    exfalso; rw [h00] at hgAFF; simp at hgAFF
   ·
    refine ow_on (by simp only [opd, zv]) ?_
    refine ow_op (by simp only [zo, aaddrD, zm, h0, fl9, a03, a13, Int.toNat_zero, Int.toNat_one, Nat.zero_mul, Nat.one_mul, Nat.reduceMul, Nat.reduceAdd, List.getElem?_cons_succ, List.getElem?_cons_zero] <;> exact rfl) ?_
    refine ow_on (by simp only [opd, zv]) ?_
    refine ow_op (by simp only [zo, aaddrD, zm, h0, fl9, a03, a13, Int.toNat_zero, Int.toNat_one, Nat.zero_mul, Nat.one_mul, Nat.reduceMul, Nat.reduceAdd, List.getElem?_cons_succ, List.getElem?_cons_zero] <;> exact rfl) ?_
    refine ow_on (by simp only [opd, zv]) ?_
    refine ow_op (by simp only [zl, zm, zd, partD, List.take, List.drop, h0, fl9, a03, a13, Int.toNat_zero, Int.toNat_one, Nat.zero_mul, Nat.one_mul, Nat.reduceMul, Nat.reduceAdd, List.getElem?_cons_succ, List.getElem?_cons_zero] <;> exact rfl) ?_
    refine ow_on (by simp only [opd, zv]) ?_
    refine ow_op (by simp only [zo, binD, zb, Int.reduceEq, Int.reduceToNat, Int.reduceLT, h0, fl9, a03, a13, Int.toNat_zero, Int.toNat_one, Nat.zero_mul, Nat.one_mul, Nat.reduceMul, Nat.reduceAdd, List.getElem?_cons_succ, List.getElem?_cons_zero] <;> exact rfl) ?_
    refine ow_on (by simp only [opd, zv]) ?_
    refine ow_ml rfl ?_
    refine ow_split 0 (by simp only [opd, zv] <;> exact rfl) (by simp only [zn] <;> exact rfl) (by simp only [zn] <;> exact rfl) (fun hgAFFF => ?_) (fun hgAFFF => ?_)
    ·
     refine ow_on (by simp only [opd, zv]) ?_
     refine ow_op (by simp only [zo, aaddrD, zm, h0, fl9, a03, a13, Int.toNat_zero, Int.toNat_one, Nat.zero_mul, Nat.one_mul, Nat.reduceMul, Nat.reduceAdd, List.getElem?_cons_succ, List.getElem?_cons_zero] <;> exact rfl) ?_
     refine ow_on (by simp only [opd, zv]) ?_
     refine ow_op (by simp only [zo, aaddrD, zm, h0, fl9, a03, a13, Int.toNat_zero, Int.toNat_one, Nat.zero_mul, Nat.one_mul, Nat.reduceMul, Nat.reduceAdd, List.getElem?_cons_succ, List.getElem?_cons_zero] <;> exact rfl) ?_
     refine ow_on (by simp only [opd, zv]) ?_
     refine ow_op (by simp only [zl, zm, zd, partD, List.take, List.drop, h0, fl9, a03, a13, Int.toNat_zero, Int.toNat_one, Nat.zero_mul, Nat.one_mul, Nat.reduceMul, Nat.reduceAdd, List.getElem?_cons_succ, List.getElem?_cons_zero] <;> exact rfl) ?_
     refine ow_on (by simp only [opd, zv]) ?_
     refine ow_op (by simp only [zo, binD, zb, Int.reduceEq, Int.reduceToNat, Int.reduceLT, h0, fl9, a03, a13, Int.toNat_zero, Int.toNat_one, Nat.zero_mul, Nat.one_mul, Nat.reduceMul, Nat.reduceAdd, List.getElem?_cons_succ, List.getElem?_cons_zero] <;> exact rfl) ?_
     refine ow_on (by simp only [opd, zv]) ?_
     refine ow_op (by simp only [zo, h0, fl9, a03, a13, Int.toNat_zero, Int.toNat_one, Nat.zero_mul, Nat.one_mul, Nat.reduceMul, Nat.reduceAdd, List.getElem?_cons_succ, List.getElem?_cons_zero] <;> exact rfl) ?_
     refine ow_on (by simp only [opd, zv]) ?_
     refine ow_ml rfl ?_
     refine ow_split 0 (by simp only [opd, zv] <;> exact rfl) (by simp only [zn] <;> exact rfl) (by simp only [zn] <;> exact rfl) (fun hgAFFFT => ?_) (fun hgAFFFT => ?_)
     ·
      refine ow_on (by simp only [opd, zv]) ?_
      refine ow_op (by simp only [zo, aaddrD, zm, h0, fl9, a03, a13, Int.toNat_zero, Int.toNat_one, Nat.zero_mul, Nat.one_mul, Nat.reduceMul, Nat.reduceAdd, List.getElem?_cons_succ, List.getElem?_cons_zero] <;> exact rfl) ?_
      refine ow_on (by simp only [opd, zv]) ?_
      refine ow_op (by simp only [zo, aaddrD, zm, h0, fl9, a03, a13, Int.toNat_zero, Int.toNat_one, Nat.zero_mul, Nat.one_mul, Nat.reduceMul, Nat.reduceAdd, List.getElem?_cons_succ, List.getElem?_cons_zero] <;> exact rfl) ?_
      refine ow_on (by simp only [opd, zv]) ?_
      refine ow_op (by simp only [zl, zm, zd, partD, List.take, List.drop, h0, fl9, a03, a13, Int.toNat_zero, Int.toNat_one, Nat.zero_mul, Nat.one_mul, Nat.reduceMul, Nat.reduceAdd, List.getElem?_cons_succ, List.getElem?_cons_zero] <;> exact rfl) ?_
      refine ow_on (by simp only [opd, zv]) ?_
      refine ow_op (by simp only [zo, binD, zb, Int.reduceEq, Int.reduceToNat, Int.reduceLT, h0, fl9, a03, a13, Int.toNat_zero, Int.toNat_one, Nat.zero_mul, Nat.one_mul, Nat.reduceMul, Nat.reduceAdd, List.getElem?_cons_succ, List.getElem?_cons_zero] <;> exact rfl) ?_
      refine ow_on (by simp only [opd, zv]) ?_
      refine ow_op (by simp only [zo, h0, fl9, a03, a13, Int.toNat_zero, Int.toNat_one, Nat.zero_mul, Nat.one_mul, Nat.reduceMul, Nat.reduceAdd, List.getElem?_cons_succ, List.getElem?_cons_zero] <;> exact rfl) ?_
      refine ow_op (by simp only [zo, h0, fl9, a03, a13, Int.toNat_zero, Int.toNat_one, Nat.zero_mul, Nat.one_mul, Nat.reduceMul, Nat.reduceAdd, List.getElem?_cons_succ, List.getElem?_cons_zero] <;> exact rfl) ?_
      refine ow_nil ?_
      refine sk_n (by simp only [ze] <;> exact rfl) ?_
      refine cw_cond (by simp only [opd, zv, h0, fl9, a03, a13, Int.toNat_zero, Int.toNat_one, Nat.zero_mul, Nat.one_mul, Nat.reduceMul, Nat.reduceAdd, List.getElem?_cons_succ, List.getElem?_cons_zero] <;> exact rfl) (fun hcAFFFTT => ?_) (fun hcAFFFTT => ?_)
      ·
       refine cw_seq (cw_region ?_)
       refine ow_mc ?_
       refine ow_nil ?_
       refine sk_n (by simp only [ze] <;> exact rfl) ?_
       refine cw_ret (sk_r ?_)
       refine ⟨_, by simp only [F4, resultD, resDs, resD, List.getD_cons_zero, List.getD_cons_succ, zd, rowsOf, partD, List.getElem?_cons_zero, List.getElem?_cons_succ, if_true, if_false, Bool.false_eq_true, List.take, List.drop, zm] <;> exact rfl, ?_⟩
       exfalso; have h1 := of_decide_eq_true hgAFFF; have h2 := of_decide_eq_true hgAFFFT; have h3 := of_decide_eq_true hcAFFFTT; have := htr h1 h2; omega
      ·
       refine cw_skip (sk_n rfl (cw_seq (cw_region ?_)))
       refine ow_op (by simp only [zo, h0, fl9, a03, a13, Int.toNat_zero, Int.toNat_one, Nat.zero_mul, Nat.one_mul, Nat.reduceMul, Nat.reduceAdd, List.getElem?_cons_succ, List.getElem?_cons_zero]; exact livesD (by omega) _) ?_
       refine ow_ml rfl ?_
       refine ow_nil ?_
       refine sk_n (by simp only [ze] <;> exact rfl) ?_
       refine cw_ret ?_
       refine ⟨_, by simp only [F4, resultD, resDs, resD, List.getD_cons_zero, List.getD_cons_succ, zd, rowsOf, partD, List.getElem?_cons_zero, List.getElem?_cons_succ, if_true, if_false, Bool.false_eq_true, List.take, List.drop, zm] <;> exact rfl, ?_⟩
       simp only [leaveP, leave, snapVs, snaps, zs, zf, zk]
     ·
      refine ow_off (b' := false) (by simp only [opd, zv]) rfl ?_
      refine ow_off (b' := false) (by simp only [opd, zv]) rfl ?_
      refine ow_off (b' := false) (by simp only [opd, zv]) rfl ?_
      refine ow_off (b' := false) (by simp only [opd, zv]) rfl ?_
      refine ow_on (by simp only [opd, zv]) ?_
      refine ow_op (by simp only [zo, h0, fl9, a03, a13, Int.toNat_zero, Int.toNat_one, Nat.zero_mul, Nat.one_mul, Nat.reduceMul, Nat.reduceAdd, List.getElem?_cons_succ, List.getElem?_cons_zero] <;> exact rfl) ?_
      refine ow_op (by simp only [zo, h0, fl9, a03, a13, Int.toNat_zero, Int.toNat_one, Nat.zero_mul, Nat.one_mul, Nat.reduceMul, Nat.reduceAdd, List.getElem?_cons_succ, List.getElem?_cons_zero] <;> exact rfl) ?_
      refine ow_nil ?_
      refine sk_n (by simp only [ze] <;> exact rfl) ?_
      refine cw_false (by simp only [opd, zv, h0, fl9, a03, a13, Int.toNat_zero, Int.toNat_one, Nat.zero_mul, Nat.one_mul, Nat.reduceMul, Nat.reduceAdd, List.getElem?_cons_succ, List.getElem?_cons_zero]) ?_
      refine cw_skip (sk_n rfl (cw_seq (cw_region ?_)))
      refine ow_op (by simp only [zo, h0, fl9, a03, a13, Int.toNat_zero, Int.toNat_one, Nat.zero_mul, Nat.one_mul, Nat.reduceMul, Nat.reduceAdd, List.getElem?_cons_succ, List.getElem?_cons_zero]; exact livesD (by omega) _) ?_
      refine ow_ml rfl ?_
      refine ow_nil ?_
      refine sk_n (by simp only [ze] <;> exact rfl) ?_
      refine cw_ret ?_
      refine ⟨_, by simp only [F4, resultD, resDs, resD, List.getD_cons_zero, List.getD_cons_succ, zd, rowsOf, partD, List.getElem?_cons_zero, List.getElem?_cons_succ, if_true, if_false, Bool.false_eq_true, List.take, List.drop, zm] <;> exact rfl, ?_⟩
      simp only [leaveP, leave, snapVs, snaps, zs, zf, zk]
    ·
     refine ow_off (b' := false) (by simp only [opd, zv]) rfl ?_
     refine ow_off (b' := false) (by simp only [opd, zv]) rfl ?_
     refine ow_off (b' := false) (by simp only [opd, zv]) rfl ?_
     refine ow_off (b' := false) (by simp only [opd, zv]) rfl ?_
     refine ow_on (by simp only [opd, zv]) ?_
     refine ow_op (by simp only [zo, h0, fl9, a03, a13, Int.toNat_zero, Int.toNat_one, Nat.zero_mul, Nat.one_mul, Nat.reduceMul, Nat.reduceAdd, List.getElem?_cons_succ, List.getElem?_cons_zero] <;> exact rfl) ?_
     refine ow_on (by simp only [opd, zv]) ?_
     refine ow_ml rfl ?_
     refine ow_off (b' := false) (by simp only [opd, zv]) rfl ?_
     refine ow_off (b' := false) (by simp only [opd, zv]) rfl ?_
     refine ow_off (b' := false) (by simp only [opd, zv]) rfl ?_
     refine ow_off (b' := false) (by simp only [opd, zv]) rfl ?_
     refine ow_on (by simp only [opd, zv]) ?_
     refine ow_op (by simp only [zo, h0, fl9, a03, a13, Int.toNat_zero, Int.toNat_one, Nat.zero_mul, Nat.one_mul, Nat.reduceMul, Nat.reduceAdd, List.getElem?_cons_succ, List.getElem?_cons_zero] <;> exact rfl) ?_
     refine ow_op (by simp only [zo, h0, fl9, a03, a13, Int.toNat_zero, Int.toNat_one, Nat.zero_mul, Nat.one_mul, Nat.reduceMul, Nat.reduceAdd, List.getElem?_cons_succ, List.getElem?_cons_zero] <;> exact rfl) ?_
     refine ow_nil ?_
     refine sk_n (by simp only [ze] <;> exact rfl) ?_
     refine cw_false (by simp only [opd, zv, h0, fl9, a03, a13, Int.toNat_zero, Int.toNat_one, Nat.zero_mul, Nat.one_mul, Nat.reduceMul, Nat.reduceAdd, List.getElem?_cons_succ, List.getElem?_cons_zero]) ?_
     refine cw_skip (sk_n rfl (cw_seq (cw_region ?_)))
     refine ow_op (by simp only [zo, h0, fl9, a03, a13, Int.toNat_zero, Int.toNat_one, Nat.zero_mul, Nat.one_mul, Nat.reduceMul, Nat.reduceAdd, List.getElem?_cons_succ, List.getElem?_cons_zero]; exact livesD (by omega) _) ?_
     refine ow_ml rfl ?_
     refine ow_nil ?_
     refine sk_n (by simp only [ze] <;> exact rfl) ?_
     refine cw_ret ?_
     refine ⟨_, by simp only [F4, resultD, resDs, resD, List.getD_cons_zero, List.getD_cons_succ, zd, rowsOf, partD, List.getElem?_cons_zero, List.getElem?_cons_succ, if_true, if_false, Bool.false_eq_true, List.take, List.drop, zm] <;> exact rfl, ?_⟩
     simp only [leaveP, leave, snapVs, snaps, zs, zf, zk]

end Go.Proofs.YtabgobmeibjeeaaGreatDoor

namespace Go.Proofs.YtabgobmeibjeeaaGreatDoor
open Go.ChangeShapes Go.WideShapes Go.ChangeAt Go.RowKit
set_option linter.unusedVariables false
set_option linter.unusedSimpArgs false
set_option maxRecDepth 100000

theorem own : ownKnob Tryz.prog.godebug = none := by kernel_rfl
theorem laidOut : laidOutB Tryz.prog = true := by kernel_rfl
theorem ty3 : Tryz.prog.underlying 3 = some (.int .i64) := by kernel_rfl
theorem ty4 : Tryz.prog.underlying 4 = some .bool := by kernel_rfl
theorem ty5 : Tryz.prog.underlying 5 = some (.int .u8) := by kernel_rfl
theorem ty23 : Tryz.prog.underlying 23 = some (.slice 83) := by kernel_rfl
theorem ty24 : Tryz.prog.underlying 24 = some (.slice 37) := by kernel_rfl
theorem ty37 : Tryz.prog.underlying 37 = some (.int .u32) := by kernel_rfl
theorem ty38 : Tryz.prog.underlying 38 = some (.array 3 37) := by kernel_rfl
theorem ty43 : Tryz.prog.underlying 43 = some (.slice 5) := by kernel_rfl
theorem ty47 : Tryz.prog.underlying 47 = some (.int .i16) := by kernel_rfl
theorem ty61 : Tryz.prog.underlying 61 = some (.slice 24) := by kernel_rfl
theorem ty83 : Tryz.prog.underlying 83 = some (.array 3 5) := by kernel_rfl
def laidL : List (String × DataW Unit) := Rows.sortsCompareRow.laid
theorem door_met (os : Os) (args : Array Value) : laidMetH Tryz.prog laidL ((World.laidAll Tryz.prog os laidL).forCall (fun _ _ => 0) ⟨#[], args, []⟩).memory := by
  rw [MakeChecks.laidMetH_plain _ _ _ (by kernel_rfl)]
  exact laidMet_laidAll _ (by kernel_rfl) (by kernel_rfl)

/-- an argument of several cells -/
theorem vr_agg {W : World} {ds : List D} {cs : Array Value} (h : VL W rho0 [] ds cs.toList) (hf : freeL ds) : VR W rho0 [] (.agg ds) (.agg cs) := by
  obtain ⟨l⟩ := cs
  refine VR.agg ds l ?_ ?_ (fun j d v h1 h2 => h.get h1 h2)
  · exact h.len
  · rw [List.all_eq_true]
    intro d hd
    have := hf d hd
    cases d <;> first | rfl | (simp [D.free] at this)
theorem okWide_array {P : Program} {w : World} {r : Reach} {base : Nat} {t : TypeId} {v : Value} {k : Nat} {e : TypeId} (ht : P.underlying t = some (.array k e)) (h : Value.okWide P w r base t v) : ∃ cs, v = .agg cs := by
  simp only [Value.okWide, ht] at h
  obtain ⟨cs, h1, _⟩ := h
  exact ⟨cs, h1⟩
/-- the keys -/
theorem keysArg {ds : List D} (h : Sh Tryz.prog 3 23 ds) : ∃ (x : D) (l : List (Nat × Nat × Nat)), ds = [x] ∧ SlD 3 (triRows l) x ∧ (∀ t ∈ l, t.1 < 256 ∧ t.2.1 < 256 ∧ t.2.2 < 256) ∧ l.length ≤ 9223372036854775807 := by
  have e1 : Tryz.prog.cellsOf 83 = 3 := by kernel_rfl
  obtain ⟨x, rows, rfl, hS, hm, hr⟩ := Sh.slice ty23 h
  rw [e1] at hS
  have key : ∀ r ∈ rows, ∃ a : {t : Nat × Nat × Nat // t.1 < 256 ∧ t.2.1 < 256 ∧ t.2.2 < 256}, r = [D.int .u8 (a.1.1 : Int), .int .u8 (a.1.2.1 : Int), .int .u8 (a.1.2.2 : Int)] := fun r hr' => by
    obtain ⟨parts, rfl, hp, hf⟩ := Sh.array ty83 (hr r hr')
    match parts, hp, hf with
    | [p0, p1, p2], _, hf =>
      obtain ⟨n0, rfl, w0⟩ := Sh.int ty5 (hf p0 (by simp))
      obtain ⟨n1, rfl, w1⟩ := Sh.int ty5 (hf p1 (by simp))
      obtain ⟨n2, rfl, w2⟩ := Sh.int ty5 (hf p2 (by simp))
      obtain ⟨m0, rfl, b0⟩ := u8_nat w0
      obtain ⟨m1, rfl, b1⟩ := u8_nat w1
      obtain ⟨m2, rfl, b2⟩ := u8_nat w2
      exact ⟨⟨(m0, m1, m2), b0, b1, b2⟩, rfl⟩
  obtain ⟨l, rfl⟩ := rows_of (f := fun a : {t : Nat × Nat × Nat // t.1 < 256 ∧ t.2.1 < 256 ∧ t.2.2 < 256} => [D.int .u8 (a.1.1 : Int), .int .u8 (a.1.2.1 : Int), .int .u8 (a.1.2.2 : Int)]) key
  refine ⟨x, l.map (·.1), rfl, ?_, ?_, ?_⟩
  · have : triRows (l.map (·.1)) = l.map fun a => [D.int .u8 (a.1.1 : Int), .int .u8 (a.1.2.1 : Int), .int .u8 (a.1.2.2 : Int)] := by simp [triRows]
    rw [this]; exact hS
  · intro t ht
    simp only [List.mem_map] at ht
    obtain ⟨a, _, rfl⟩ := ht
    exact a.2
  · simp only [List.length_map] at hm ⊢
    have : maxLen ≤ 9223372036854775807 := by decide
    omega
theorem u32_nat {n : Int} (h : (Lit.int .u32 n).wf = true) : ∃ m : Nat, n = m ∧ m < 4294967296 := by
  have b : 0 ≤ n ∧ n ≤ 4294967295 := by simpa [Lit.wf, IntKind.min, IntKind.max, IntKind.signed, IntKind.bits] using h
  exact ⟨n.toNat, by omega, by omega⟩
theorem i16_int {n : Int} (h : (Lit.int .i16 n).wf = true) : -32768 ≤ n ∧ n ≤ 32767 := by
  simpa [Lit.wf, IntKind.min, IntKind.max, IntKind.signed, IntKind.bits] using h
/-- three records -/
theorem threeArg {ds : List D} (h : Sh Tryz.prog 3 38 ds) : ∃ X : Nat → Nat, ds = [.int .u32 (X 0), .int .u32 (X 1), .int .u32 (X 2)] ∧ ∀ i, X i < 4294967296 := by
  obtain ⟨parts, rfl, hp, hf⟩ := Sh.array ty38 h
  match parts, hp, hf with
  | [p0, p1, p2], _, hf =>
    obtain ⟨n0, rfl, w0⟩ := Sh.int ty37 (hf p0 (by simp))
    obtain ⟨n1, rfl, w1⟩ := Sh.int ty37 (hf p1 (by simp))
    obtain ⟨n2, rfl, w2⟩ := Sh.int ty37 (hf p2 (by simp))
    obtain ⟨m0, rfl, b0⟩ := u32_nat w0
    obtain ⟨m1, rfl, b1⟩ := u32_nat w1
    obtain ⟨m2, rfl, b2⟩ := u32_nat w2
    refine ⟨fun i => if i = 0 then m0 else if i = 1 then m1 else m2, rfl, fun i => ?_⟩
    dsimp only
    split
    · exact b0
    · split
      · exact b1
      · exact b2
def numRows (l : List Nat) : List (List D) := l.map fun n : Nat => [.int .u32 (n : Int)]
theorem numRows_of {rows : List (List D)} (hr : ∀ r ∈ rows, Sh Tryz.prog 2 37 r) : ∃ l : List Nat, rows = numRows l ∧ ∀ n ∈ l, n < 4294967296 := by
  obtain ⟨l, rfl⟩ := rows_of (f := fun a : {n : Nat // n < 4294967296} => [D.int .u32 (a.1 : Int)]) (rows := rows) (fun r h => by
    obtain ⟨n0, rfl, w0⟩ := Sh.int ty37 (hr r h)
    obtain ⟨m0, rfl, b0⟩ := u32_nat w0
    exact ⟨⟨m0, b0⟩, rfl⟩)
  refine ⟨l.map (·.1), by simp [numRows, Function.comp_def], fun n hn => ?_⟩
  simp only [List.mem_map] at hn
  obtain ⟨a, _, rfl⟩ := hn
  exact a.2
/-- a list of records -/
theorem numsArg {ds : List D} (h : Sh Tryz.prog 3 24 ds) : ∃ (x : D) (l : List Nat), ds = [x] ∧ SlD 1 (numRows l) x ∧ (∀ n ∈ l, n < 4294967296) ∧ l.length ≤ 9223372036854775807 := by
  have e1 : Tryz.prog.cellsOf 37 = 1 := by kernel_rfl
  obtain ⟨x, rows, rfl, hS, hm, hr⟩ := Sh.slice ty24 h
  rw [e1] at hS
  obtain ⟨l, rfl, hl⟩ := numRows_of hr
  refine ⟨x, l, rfl, hS, hl, ?_⟩
  have : maxLen ≤ 9223372036854775807 := by decide
  simp only [numRows, List.length_map] at hm
  omega
end Go.Proofs.YtabgobmeibjeeaaGreatDoor

namespace Go.Proofs.YtabgobmeibjeeaaGreatDoor
set_option linter.unusedVariables false
set_option linter.unusedSimpArgs false
set_option maxRecDepth 10000

theorem loopN_mono {f : List D → St → Option (LExit × List D × St)} : ∀ {k : Nat} {env : List D} {S : St} {r : LExit × List D × St}, loopN f k env S = some r → loopN f (k + 1) env S = some r
  | 0, env, S, r, h => by simp [loopN] at h
  | k + 1, env, S, r, h => by
    rw [loopN] at h ⊢
    cases e : f env S with
    | none => rw [e] at h; simp at h
    | some x =>
      obtain ⟨ex, env1, S1⟩ := x
      rw [e] at h
      cases ex with
      | normal => exact loopN_mono h
      | ret => exact h
      | exit i => exact h
/-- a loop, unrolled: k rounds at most -/
def CL (call : CallF) (k : Nat) (c : LCode) (Q : LExit → List D → St → Prop) (env : List D) (S : St) : Prop := ∃ e env' S', loopN (exCode call NN c) k env S = some (e, env', S') ∧ Q e env' S'
theorem loopN_le {f : List D → St → Option (LExit × List D × St)} {k : Nat} {env : List D} {S : St} {r : LExit × List D × St} (h : loopN f k env S = some r) (j : Nat) : loopN f (k + j) env S = some r := by
  induction j with
  | zero => exact h
  | succ j ih => exact loopN_mono ih
section
variable {call : CallF} {Q : LExit → List D → St → Prop} {env env' : List D} {S : St} {c : LCode} {k : Nat}
/-- behind a round of a loop that is unrolled -/
def LuK (call : CallF) (k : Nat) (c : LCode) (Q : LExit → List D → St → Prop) : LExit → List D → St → Prop
  | .normal, env, S => CL call k c Q env S
  | e, env, S => Q e env S
theorem lu_n (h : env = env') (h2 : CL call k c Q env' S) : LuK call k c Q .normal env S := by subst h; exact h2
theorem lu_r (h : Q .ret env S) : LuK call k c Q .ret env S := h
theorem lu_e {i : Nat} (h : Q (.exit i) env S) : LuK call k c Q (.exit i) env S := h
theorem cl_step (h : CW call c (LuK call k c Q) env S) : CL call (k + 1) c Q env S := by
  obtain ⟨e, env', S', h1, h2⟩ := h
  unfold CL
  simp only [loopN, h1]
  cases e with
  | normal => exact h2
  | ret => exact ⟨_, _, _, rfl, h2⟩
  | exit i => exact ⟨_, _, _, rfl, h2⟩
theorem cw_unroll (h : CL call 1000 c Q env S) : CW call (.loop c) Q env S := by
  obtain ⟨e, env', S', h1, h2⟩ := h
  refine ⟨e, env', S', ?_, h2⟩
  simp only [exCode]
  have := loopN_le h1 (18446744073709551616 - 1000)
  exact this
end
theorem sadd (a b : List UInt8) (h : a.length + b.length ≤ 1000) : binD .add (.str (mkS a)) (.str (mkS b)) = some (.str (mkS (a ++ b))) := by
  simp only [binD, mkS_app, mkS_size]
  rw [if_neg (by rw [show IntKind.i64.max = 9223372036854775807 from rfl]; omega)]
/-- a digit as a letter -/
def dch (k : Nat) : UInt8 := UInt8.ofNat (48 + k)
theorem dch_dig {k : Nat} (h : k < 10) : isDig (dch k) = true := by
  unfold isDig dch
  rw [u8_of _ (by omega)]
  simp; omega
theorem plain_at {k : Nat} (h : k < 10) : ([48, 49, 50, 51, 52, 53, 54, 55, 56, 57].drop k).take (k + 1 - k) = [dch k] := by
  have : k = 0 ∨ k = 1 ∨ k = 2 ∨ k = 3 ∨ k = 4 ∨ k = 5 ∨ k = 6 ∨ k = 7 ∨ k = 8 ∨ k = 9 := by omega
  rcases this with rfl | rfl | rfl | rfl | rfl | rfl | rfl | rfl | rfl | rfl <;> rfl
end Go.Proofs.YtabgobmeibjeeaaGreatDoor

namespace Go.Proofs.YtabgobmeibjeeaaGreatDoor
set_option linter.unusedSimpArgs false
set_option linter.unusedVariables false
set_option maxRecDepth 10000
set_option maxHeartbeats 4000000

theorem parse3 (d : Nat) (S : St) : runF LP NN (d + 12) 18 [.str ⟨#[83, 57, 57, 57]⟩] S = some (.tup [.agg [.int .u8 4, .int .u8 0, .str ⟨#[83, 57, 57, 57]⟩, .int .i64 3, .int .i64 0, .bool true, .bool false, .bool false, .bool false, .bool false, .int .i64 3], .int .i64 0], S, false) := by kernel_rfl
theorem check30 (d : Nat) (S : St) : runF LP NN (d + 12) 117 [.agg [.int .u8 4, .int .u8 0, .str ⟨#[83, 57, 57, 57]⟩, .int .i64 3, .int .i64 0, .bool true, .bool false, .bool false, .bool false, .bool false, .int .i64 3]] S = some (.int .i64 0, S, false) := by kernel_rfl
theorem check31 (d : Nat) (S : St) : runF LP NN (d + 12) 117 [.agg [.int .u8 4, .int .u8 1, .str ⟨#[83, 57, 57, 57]⟩, .int .i64 3, .int .i64 0, .bool true, .bool false, .bool false, .bool false, .bool false, .int .i64 2]] S = some (.int .i64 0, S, false) := by kernel_rfl
theorem check32 (d : Nat) (S : St) : runF LP NN (d + 12) 117 [.agg [.int .u8 4, .int .u8 2, .str ⟨#[83, 57, 57, 57]⟩, .int .i64 3, .int .i64 0, .bool true, .bool false, .bool false, .bool false, .bool false, .int .i64 2]] S = some (.int .i64 0, S, false) := by kernel_rfl
theorem idx_pos (d : Nat) (S : St) : (List.range 10).map (fun k => (runF LP NN (d + 3) 91 [.str ⟨#[123, 65, 66, 67, 68, 69, 70, 71, 72, 73]⟩, .int .u8 (([123, 65, 66, 67, 68, 69, 70, 71, 72, 73] : List Nat).getD k 0 : Nat)] S, runF LP NN (d + 3) 91 [.str ⟨#[125, 74, 75, 76, 77, 78, 79, 80, 81, 82]⟩, .int .u8 (([123, 65, 66, 67, 68, 69, 70, 71, 72, 73] : List Nat).getD k 0 : Nat)] S)) = (List.range 10).map (fun k => (some (.int .i64 (k : Nat), S, false), some (.int .i64 (-1), S, false))) := by kernel_rfl
theorem idx_neg (d : Nat) (S : St) : (List.range 10).map (fun k => (runF LP NN (d + 3) 91 [.str ⟨#[123, 65, 66, 67, 68, 69, 70, 71, 72, 73]⟩, .int .u8 (([125, 74, 75, 76, 77, 78, 79, 80, 81, 82] : List Nat).getD k 0 : Nat)] S, runF LP NN (d + 3) 91 [.str ⟨#[125, 74, 75, 76, 77, 78, 79, 80, 81, 82]⟩, .int .u8 (([125, 74, 75, 76, 77, 78, 79, 80, 81, 82] : List Nat).getD k 0 : Nat)] S)) = (List.range 10).map (fun k => (some (.int .i64 (-1), S, false), some (.int .i64 (k : Nat), S, false))) := by kernel_rfl
/-- the letter of a digit with a sign -/
def sch (ng : Bool) (k : Nat) : UInt8 := UInt8.ofNat ((if ng then [125, 74, 75, 76, 77, 78, 79, 80, 81, 82] else [123, 65, 66, 67, 68, 69, 70, 71, 72, 73] : List Nat).getD k 0)

theorem mkS_d (l : List UInt8) : (⟨l.toArray⟩ : ByteArray) = mkS l := rfl
theorem plain_S' : (⟨#[48, 49, 50, 51, 52, 53, 54, 55, 56, 57]⟩ : ByteArray) = mkS [48, 49, 50, 51, 52, 53, 54, 55, 56, 57] := rfl

theorem zonedS_false {d : Nat} (hd : 5 ≤ d) (S : St) (a b k : Nat) (ha : a < 10) (hb : b < 10) (hk : k < 10) (C : UInt8) (cp : Option Nat) (hp : ∀ (d : Nat) (S : St), 3 ≤ d → runF LP NN d 91 [.str ⟨#[123, 65, 66, 67, 68, 69, 70, 71, 72, 73]⟩, .int .u8 C.toNat] S = some (.int .i64 ((k : Nat) : Int), S, false)) (hm : ∀ (d : Nat) (S : St), 3 ≤ d → runF LP NN d 91 [.str ⟨#[125, 74, 75, 76, 77, 78, 79, 80, 81, 82]⟩, .int .u8 C.toNat] S = some (.int .i64 (-1), S, false)) : runF LP NN d 162 [.agg [.int .u8 4, .int .u8 0, .str ⟨#[83, 57, 57, 57]⟩, .int .i64 3, .int .i64 0, .bool true, .bool false, .bool false, .bool false, .bool false, .int .i64 3], .sl 1 (bR [dch a, dch b, C]) cp] S = some (.tup [.agg [.bool false, .str (mkS [dch a, dch b, dch k])], .bool true], S, false) := by
 have hS : SlD 1 (bR [dch a, dch b, C]) (.sl 1 (bR [dch a, dch b, C]) cp) := .of _ _ _
 have hia := fun (S : St) => hS.iaddrN S .i64 (i := 2) (r := [.int .u8 C.toNat]) rfl
 have w2 : IntKind.i64.wrap (3 - 1) = ((2 : Nat) : Int) := by rfl
 have w3 : IntKind.i64.wrap (((2 : Nat) : Int) + 1) = ((3 : Nat) : Int) := by rfl
 have wk := wrap_nat k (by omega)
 have hk1 : (((k + 1 : Nat)) : Int) = ((k + 1 : Nat) : Int) := rfl
 have hmx : (if ((-1) : Int) > (((k : Nat) : Int) : Int) then ((-1) : Int) else (((k : Nat) : Int) : Int)) = ((k : Nat) : Int) := by split <;> omega
 have hall : (trimD [dch a, dch b, dch k] == []) = true := by rw [trimD_nil]; simp [dch_dig ha, dch_dig hb, dch_dig hk]
 have hng : decide (((-1) : Int) ≥ 0) = false := by first | rfl | exact decide_eq_true (by omega)
 refine run_pure (F := F162) rfl (by simp only [LP, fnOf, snapVs, snaps, zs, Bool.false_eq_true, if_false, Option.map_some, List.map_cons, List.map_nil] <;> exact rfl) rfl (by simp only [LP, zf, List.all_cons, List.all_nil, Bool.and_true, Bool.true_and]; try rfl) (by simp only [F162, zv] <;> exact rfl) (by omega) ?_
 rintro d rfl
 refine cw_seq (cw_region ?_)
 refine ow_op (by simp only [zl, zm, zc, hS.read, bytesOf_bR, Option.map_some, wk, w3, hmx, hia] <;> exact rfl) ?_
 refine ow_op (by simp only [zl, zm, hS.read, bytesOf_bR, Option.map_some, wk, w3, hmx, hia] <;> exact rfl) ?_
 refine ow_mc ?_
 refine ow_nil ?_
 refine sk_n (by simp only [ze] <;> exact rfl) ?_
 refine cw_seq (cw_region ?_)
 refine ow_me rfl ?_
 refine ow_op (by simp only [zl, zm, readRows_sl, mkS_d, hS.read, bytesOf_bR, Option.map_some, wk, w3, hmx, hia] <;> exact rfl) ?_
 refine ow_op (by simp only [zo, fillD, overlay, zc, List.take, List.drop, Nat.reduceAdd, Nat.reduceLeDiff, Nat.reduceBEq, zm, hS.read, bytesOf_bR, Option.map_some, wk, w3, hmx, hia] <;> exact rfl) ?_
 refine ow_op (by simp only [zl, zm, hS.read, bytesOf_bR, Option.map_some, wk, w3, hmx, hia] <;> exact rfl) ?_
 refine ow_op (by simp only [zl, zm, storeD, overlay, snapVs, snaps, zs, zc, zf, List.take, List.drop, hS.read, bytesOf_bR, Option.map_some, wk, w3, hmx, hia] <;> exact rfl) ?_
 refine ow_nil ?_
 refine sk_n (by simp only [ze] <;> exact rfl) ?_
 refine cw_seq (cw_seq (cw_region ?_))
 refine ow_op (by simp only [zl, zm, zd, partD, List.take, List.drop, hS.read, bytesOf_bR, Option.map_some, wk, w3, hmx, hia] <;> exact rfl) ?_
 refine ow_op (by simp only [zo, hS.read, bytesOf_bR, Option.map_some, wk, w3, hmx, hia]; exact (sign_run (by omega) _ _ _ _ _ _ _ _ _ _ _).trans (show _ = some (D.int .i64 ((2 : Nat) : Int), _, false) from rfl)) ?_
 refine ow_ml rfl ?_
 refine ow_nil ?_
 refine sk_n (by simp only [ze] <;> exact rfl) ?_
 refine cw_seq (cw_region ?_)
 refine ow_op (by simp only [zo, faddrD_ptr, faddrD_cptr, zm, hS.read, bytesOf_bR, Option.map_some, wk, w3, hmx, hia] <;> exact rfl) ?_
 refine ow_op (by simp only [zl, zm, zd, partD, List.take, List.drop, hS.read, bytesOf_bR, Option.map_some, wk, w3, hmx, hia] <;> exact rfl) ?_
 refine ow_nil ?_
 refine sk_n (by simp only [ze] <;> exact rfl) ?_
 skip
 refine cw_true (by simp only [opd, zv, hS.read, bytesOf_bR, Option.map_some, wk, w3, hmx, hia] <;> rfl) ?_
 refine cw_seq (cw_region ?_)
 refine ow_me rfl ?_
 refine ow_me rfl ?_
 refine ow_op (by simp only [zl, zm, iaddrD_sl, iaddrD_msl, Int.toNat_natCast, Int.toNat_zero, List.getElem?_map, Option.map_some, Int.le_refl, hS.read, bytesOf_bR, Option.map_some, wk, w3, hmx, hia] <;> exact rfl) ?_
 refine ow_op (by simp only [zl, zm, zd, partD, List.take, List.drop, hS.read, bytesOf_bR, Option.map_some, wk, w3, hmx, hia] <;> exact rfl) ?_
 refine ow_ml rfl ?_
 refine ow_nil ?_
 refine sk_n (by simp only [ze] <;> exact rfl) ?_
 refine cw_seq (cw_region ?_)
 refine ow_me rfl ?_
 first
  | refine ow_op (by simp only [zo, hS.read, bytesOf_bR, Option.map_some, wk, w3, hmx, hia]; exact hp _ _ (by omega)) ?_
  | refine ow_op (by simp only [zo, hS.read, bytesOf_bR, Option.map_some, wk, w3, hmx, hia]; exact hm _ _ (by omega)) ?_
 refine ow_me rfl ?_
 first
  | refine ow_op (by simp only [zo, hS.read, bytesOf_bR, Option.map_some, wk, w3, hmx, hia]; exact hp _ _ (by omega)) ?_
  | refine ow_op (by simp only [zo, hS.read, bytesOf_bR, Option.map_some, wk, w3, hmx, hia]; exact hm _ _ (by omega)) ?_
 refine ow_ml rfl ?_
 refine ow_ml rfl ?_
 refine ow_nil ?_
 refine sk_n (by simp only [ze] <;> exact rfl) ?_
 refine cw_seq (cw_region ?_)
 refine ow_me rfl ?_
 refine ow_me rfl ?_
 refine ow_op (by simp only [zo, foldD, maxD, hS.read, bytesOf_bR, Option.map_some, wk, w3, hmx, hia] <;> exact rfl) ?_
 refine ow_ml rfl ?_
 refine ow_nil ?_
 refine sk_n (by simp only [ze] <;> exact rfl) ?_
 refine cw_seq (cw_region ?_)
 refine ow_me rfl ?_
 refine ow_op (by simp only [zo, binD, zb, Int.reduceEq, Int.reduceToNat, Int.reduceLT, hS.read, bytesOf_bR, Option.map_some, wk, w3, hmx, hia] <;> exact rfl) ?_
 refine ow_nil ?_
 refine sk_n (by simp only [ze] <;> exact rfl) ?_
 skip
 refine cw_true (by simp only [opd, zv, hS.read, bytesOf_bR, Option.map_some, wk, w3, hmx, hia] <;> rfl) ?_
 refine cw_drawn (by simp only [newsVals, zw, Nat.reduceAdd] <;> exact rfl) (by simp only [zw, newsObj, St.eta] <;> exact rfl) ?_
 refine dw_me rfl rfl ?_
 refine dw_quiet (by simp only [zo, binD, zb, Int.reduceEq, Int.reduceToNat, Int.reduceLT, hS.read, bytesOf_bR, Option.map_some, wk, w3, hmx, hia] <;> exact rfl) rfl rfl ?_
 refine dw_quiet (by simp only [zo, faddrD_ptr, faddrD_cptr, zm, hS.read, bytesOf_bR, Option.map_some, wk, w3, hmx, hia] <;> exact rfl) rfl rfl ?_
 refine dw_op (by simp only [zl, zm, zd, partD, List.take, List.drop, hS.read, bytesOf_bR, Option.map_some, wk, w3, hmx, hia] <;> exact rfl) (by simp only [fpHere, zo, zq] <;> exact rfl) rfl ?_
 refine dw_me rfl rfl ?_
 refine dw_quiet (by simp only [opd, zv, exOp, aop, LOp.loud, Bool.false_eq_true, if_false, wk, w3, hmx]; rw [str_to _ [dch a, dch b, C] 2 _ rfl (by simp)]; exact rfl) rfl rfl ?_
 refine dw_me rfl rfl ?_
 refine dw_me rfl rfl ?_
 refine dw_quiet (by simp only [zo, binD, zb, Int.reduceEq, Int.reduceToNat, Int.reduceLT, hS.read, bytesOf_bR, Option.map_some, wk, w3, hmx, hia] <;> exact rfl) rfl rfl ?_
 refine dw_quiet (by simp only [opd, zv, exOp, aop, LOp.loud, Bool.false_eq_true, if_false, wk, w3, hmx]; rw [plain_S', str_mid _ [48, 49, 50, 51, 52, 53, 54, 55, 56, 57] k (k + 1) _ _ rfl hk1 (by omega) (by simp; omega), plain_at hk]; exact rfl) rfl rfl ?_
 refine dw_quiet (by simp only [opd, zv, exOp, aop, LOp.loud, pop, Bool.false_eq_true, if_false]; rw [sadd _ _ (by simp)]; exact rfl) rfl rfl ?_
 refine dw_quiet (by simp only [zo, faddrD_ptr, faddrD_cptr, zm, hS.read, bytesOf_bR, Option.map_some, wk, w3, hmx, hia] <;> exact rfl) rfl rfl ?_
 refine dw_op (by simp only [zl, zm, zd, partD, List.take, List.drop, hS.read, bytesOf_bR, Option.map_some, wk, w3, hmx, hia] <;> exact rfl) (by simp only [fpHere, zo, zq] <;> exact rfl) rfl ?_
 refine dw_me rfl rfl ?_
 refine dw_quiet (by simp only [zo, binD, zb, Int.reduceEq, Int.reduceToNat, Int.reduceLT, hS.read, bytesOf_bR, Option.map_some, wk, w3, hmx, hia] <;> exact rfl) rfl rfl ?_
 refine dw_quiet (by simp only [opd, zv, exOp, aop, LOp.loud, Bool.false_eq_true, if_false, wk, w3, hmx]; rw [str_from _ [dch a, dch b, C] 3 _ rfl (by simp)]; exact rfl) rfl rfl ?_
 refine dw_quiet (by simp only [opd, zv, exOp, aop, LOp.loud, pop, Bool.false_eq_true, if_false]; rw [sadd _ _ (by simp)]; exact rfl) rfl rfl ?_
 refine dw_quiet (by simp only [zo, fillD, overlay, zc, List.take, List.drop, Nat.reduceAdd, Nat.reduceLeDiff, Nat.reduceBEq, zm, hS.read, bytesOf_bR, Option.map_some, wk, w3, hmx, hia] <;> exact rfl) rfl rfl ?_
 refine dw_op (by simp only [zl, zm, storeD, overlay, snapVs, snaps, zs, zc, zf, List.take, List.drop, hS.read, bytesOf_bR, Option.map_some, wk, w3, hmx, hia] <;> exact rfl) (by simp only [fpHere, zo, zq] <;> exact rfl) rfl ?_
 refine dw_nil ?_
 refine sk_n (by simp only [ze] <;> exact rfl) ?_
 refine cw_seq ?_
 refine cw_drawn (by simp only [newsVals, zw, Nat.reduceAdd] <;> exact rfl) (by simp only [zw, newsObj, St.eta] <;> exact rfl) ?_
 refine dw_op (by simp only [zl, zm, zd, partD, List.take, List.drop, hS.read, bytesOf_bR, Option.map_some, wk, w3, hmx, hia] <;> exact rfl) (by simp only [fpHere, zo, zq] <;> exact rfl) rfl ?_
 refine dw_quiet (by simp only [zo, faddrD_ptr, faddrD_cptr, zm, hS.read, bytesOf_bR, Option.map_some, wk, w3, hmx, hia] <;> exact rfl) rfl rfl ?_
 refine dw_op (by simp only [zl, zm, zd, partD, List.take, List.drop, hS.read, bytesOf_bR, Option.map_some, wk, w3, hmx, hia] <;> exact rfl) (by simp only [fpHere, zo, zq] <;> exact rfl) rfl ?_
 refine dw_op (by simp only [zo, hS.read, bytesOf_bR, Option.map_some, wk, w3, hmx, hia]; exact trim_run (by omega) _ [dch a, dch b, dch k] (by simp)) (by simp only [fpHere, zo, zq] <;> exact rfl) rfl ?_
 refine dw_quiet (by simp only [zo, binD, zb, Int.reduceEq, Int.reduceToNat, Int.reduceLT, hS.read, bytesOf_bR, Option.map_some, wk, w3, hmx, hia] <;> exact rfl) rfl rfl ?_
 refine dw_op (by simp only [zl, zm, storeD, overlay, snapVs, snaps, zs, zc, zf, List.take, List.drop, hS.read, bytesOf_bR, Option.map_some, wk, w3, hmx, hia] <;> exact rfl) (by simp only [fpHere, zo, zq] <;> exact rfl) rfl ?_
 refine dw_ml rfl rfl ?_
 refine dw_nil ?_
 refine sk_n (by simp only [ze] <;> exact rfl) ?_
 refine cw_ret ?_
 refine ⟨_, by simp only [F162, resultD, resDs, resD, List.getD_cons_zero, List.getD_cons_succ, zd, rowsOf, partD, List.getElem?_cons_zero, List.getElem?_cons_succ, if_true, if_false, Bool.false_eq_true, List.take, List.drop, zm] <;> exact rfl, ?_⟩
 rw [mkS_toList, nil_toList, hall, hng]
 simp only [leaveP, leave, snapVs, snaps, zs, zf, zk]

theorem zonedS_true {d : Nat} (hd : 5 ≤ d) (S : St) (a b k : Nat) (ha : a < 10) (hb : b < 10) (hk : k < 10) (C : UInt8) (cp : Option Nat) (hp : ∀ (d : Nat) (S : St), 3 ≤ d → runF LP NN d 91 [.str ⟨#[123, 65, 66, 67, 68, 69, 70, 71, 72, 73]⟩, .int .u8 C.toNat] S = some (.int .i64 (-1), S, false)) (hm : ∀ (d : Nat) (S : St), 3 ≤ d → runF LP NN d 91 [.str ⟨#[125, 74, 75, 76, 77, 78, 79, 80, 81, 82]⟩, .int .u8 C.toNat] S = some (.int .i64 ((k : Nat) : Int), S, false)) : runF LP NN d 162 [.agg [.int .u8 4, .int .u8 0, .str ⟨#[83, 57, 57, 57]⟩, .int .i64 3, .int .i64 0, .bool true, .bool false, .bool false, .bool false, .bool false, .int .i64 3], .sl 1 (bR [dch a, dch b, C]) cp] S = some (.tup [.agg [.bool true, .str (mkS [dch a, dch b, dch k])], .bool true], S, false) := by
 have hS : SlD 1 (bR [dch a, dch b, C]) (.sl 1 (bR [dch a, dch b, C]) cp) := .of _ _ _
 have hia := fun (S : St) => hS.iaddrN S .i64 (i := 2) (r := [.int .u8 C.toNat]) rfl
 have w2 : IntKind.i64.wrap (3 - 1) = ((2 : Nat) : Int) := by rfl
 have w3 : IntKind.i64.wrap (((2 : Nat) : Int) + 1) = ((3 : Nat) : Int) := by rfl
 have wk := wrap_nat k (by omega)
 have hk1 : (((k + 1 : Nat)) : Int) = ((k + 1 : Nat) : Int) := rfl
 have hmx : (if (((k : Nat) : Int) : Int) > ((-1) : Int) then (((k : Nat) : Int) : Int) else ((-1) : Int)) = ((k : Nat) : Int) := by split <;> omega
 have hall : (trimD [dch a, dch b, dch k] == []) = true := by rw [trimD_nil]; simp [dch_dig ha, dch_dig hb, dch_dig hk]
 have hng : decide ((((k : Nat) : Int) : Int) ≥ 0) = true := by first | rfl | exact decide_eq_true (by omega)
 refine run_pure (F := F162) rfl (by simp only [LP, fnOf, snapVs, snaps, zs, Bool.false_eq_true, if_false, Option.map_some, List.map_cons, List.map_nil] <;> exact rfl) rfl (by simp only [LP, zf, List.all_cons, List.all_nil, Bool.and_true, Bool.true_and]; try rfl) (by simp only [F162, zv] <;> exact rfl) (by omega) ?_
 rintro d rfl
 refine cw_seq (cw_region ?_)
 refine ow_op (by simp only [zl, zm, zc, hS.read, bytesOf_bR, Option.map_some, wk, w3, hmx, hia] <;> exact rfl) ?_
 refine ow_op (by simp only [zl, zm, hS.read, bytesOf_bR, Option.map_some, wk, w3, hmx, hia] <;> exact rfl) ?_
 refine ow_mc ?_
 refine ow_nil ?_
 refine sk_n (by simp only [ze] <;> exact rfl) ?_
 refine cw_seq (cw_region ?_)
 refine ow_me rfl ?_
 refine ow_op (by simp only [zl, zm, readRows_sl, mkS_d, hS.read, bytesOf_bR, Option.map_some, wk, w3, hmx, hia] <;> exact rfl) ?_
 refine ow_op (by simp only [zo, fillD, overlay, zc, List.take, List.drop, Nat.reduceAdd, Nat.reduceLeDiff, Nat.reduceBEq, zm, hS.read, bytesOf_bR, Option.map_some, wk, w3, hmx, hia] <;> exact rfl) ?_
 refine ow_op (by simp only [zl, zm, hS.read, bytesOf_bR, Option.map_some, wk, w3, hmx, hia] <;> exact rfl) ?_
 refine ow_op (by simp only [zl, zm, storeD, overlay, snapVs, snaps, zs, zc, zf, List.take, List.drop, hS.read, bytesOf_bR, Option.map_some, wk, w3, hmx, hia] <;> exact rfl) ?_
 refine ow_nil ?_
 refine sk_n (by simp only [ze] <;> exact rfl) ?_
 refine cw_seq (cw_seq (cw_region ?_))
 refine ow_op (by simp only [zl, zm, zd, partD, List.take, List.drop, hS.read, bytesOf_bR, Option.map_some, wk, w3, hmx, hia] <;> exact rfl) ?_
 refine ow_op (by simp only [zo, hS.read, bytesOf_bR, Option.map_some, wk, w3, hmx, hia]; exact (sign_run (by omega) _ _ _ _ _ _ _ _ _ _ _).trans (show _ = some (D.int .i64 ((2 : Nat) : Int), _, false) from rfl)) ?_
 refine ow_ml rfl ?_
 refine ow_nil ?_
 refine sk_n (by simp only [ze] <;> exact rfl) ?_
 refine cw_seq (cw_region ?_)
 refine ow_op (by simp only [zo, faddrD_ptr, faddrD_cptr, zm, hS.read, bytesOf_bR, Option.map_some, wk, w3, hmx, hia] <;> exact rfl) ?_
 refine ow_op (by simp only [zl, zm, zd, partD, List.take, List.drop, hS.read, bytesOf_bR, Option.map_some, wk, w3, hmx, hia] <;> exact rfl) ?_
 refine ow_nil ?_
 refine sk_n (by simp only [ze] <;> exact rfl) ?_
 skip
 refine cw_true (by simp only [opd, zv, hS.read, bytesOf_bR, Option.map_some, wk, w3, hmx, hia] <;> rfl) ?_
 refine cw_seq (cw_region ?_)
 refine ow_me rfl ?_
 refine ow_me rfl ?_
 refine ow_op (by simp only [zl, zm, iaddrD_sl, iaddrD_msl, Int.toNat_natCast, Int.toNat_zero, List.getElem?_map, Option.map_some, Int.le_refl, hS.read, bytesOf_bR, Option.map_some, wk, w3, hmx, hia] <;> exact rfl) ?_
 refine ow_op (by simp only [zl, zm, zd, partD, List.take, List.drop, hS.read, bytesOf_bR, Option.map_some, wk, w3, hmx, hia] <;> exact rfl) ?_
 refine ow_ml rfl ?_
 refine ow_nil ?_
 refine sk_n (by simp only [ze] <;> exact rfl) ?_
 refine cw_seq (cw_region ?_)
 refine ow_me rfl ?_
 first
  | refine ow_op (by simp only [zo, hS.read, bytesOf_bR, Option.map_some, wk, w3, hmx, hia]; exact hp _ _ (by omega)) ?_
  | refine ow_op (by simp only [zo, hS.read, bytesOf_bR, Option.map_some, wk, w3, hmx, hia]; exact hm _ _ (by omega)) ?_
 refine ow_me rfl ?_
 first
  | refine ow_op (by simp only [zo, hS.read, bytesOf_bR, Option.map_some, wk, w3, hmx, hia]; exact hp _ _ (by omega)) ?_
  | refine ow_op (by simp only [zo, hS.read, bytesOf_bR, Option.map_some, wk, w3, hmx, hia]; exact hm _ _ (by omega)) ?_
 refine ow_ml rfl ?_
 refine ow_ml rfl ?_
 refine ow_nil ?_
 refine sk_n (by simp only [ze] <;> exact rfl) ?_
 refine cw_seq (cw_region ?_)
 refine ow_me rfl ?_
 refine ow_me rfl ?_
 refine ow_op (by simp only [zo, foldD, maxD, hS.read, bytesOf_bR, Option.map_some, wk, w3, hmx, hia] <;> exact rfl) ?_
 refine ow_ml rfl ?_
 refine ow_nil ?_
 refine sk_n (by simp only [ze] <;> exact rfl) ?_
 refine cw_seq (cw_region ?_)
 refine ow_me rfl ?_
 refine ow_op (by simp only [zo, binD, zb, Int.reduceEq, Int.reduceToNat, Int.reduceLT, hS.read, bytesOf_bR, Option.map_some, wk, w3, hmx, hia] <;> exact rfl) ?_
 refine ow_nil ?_
 refine sk_n (by simp only [ze] <;> exact rfl) ?_
 skip
 refine cw_true (by simp only [opd, zv, hS.read, bytesOf_bR, Option.map_some, wk, w3, hmx, hia] <;> rfl) ?_
 refine cw_drawn (by simp only [newsVals, zw, Nat.reduceAdd] <;> exact rfl) (by simp only [zw, newsObj, St.eta] <;> exact rfl) ?_
 refine dw_me rfl rfl ?_
 refine dw_quiet (by simp only [zo, binD, zb, Int.reduceEq, Int.reduceToNat, Int.reduceLT, hS.read, bytesOf_bR, Option.map_some, wk, w3, hmx, hia] <;> exact rfl) rfl rfl ?_
 refine dw_quiet (by simp only [zo, faddrD_ptr, faddrD_cptr, zm, hS.read, bytesOf_bR, Option.map_some, wk, w3, hmx, hia] <;> exact rfl) rfl rfl ?_
 refine dw_op (by simp only [zl, zm, zd, partD, List.take, List.drop, hS.read, bytesOf_bR, Option.map_some, wk, w3, hmx, hia] <;> exact rfl) (by simp only [fpHere, zo, zq] <;> exact rfl) rfl ?_
 refine dw_me rfl rfl ?_
 refine dw_quiet (by simp only [opd, zv, exOp, aop, LOp.loud, Bool.false_eq_true, if_false, wk, w3, hmx]; rw [str_to _ [dch a, dch b, C] 2 _ rfl (by simp)]; exact rfl) rfl rfl ?_
 refine dw_me rfl rfl ?_
 refine dw_me rfl rfl ?_
 refine dw_quiet (by simp only [zo, binD, zb, Int.reduceEq, Int.reduceToNat, Int.reduceLT, hS.read, bytesOf_bR, Option.map_some, wk, w3, hmx, hia] <;> exact rfl) rfl rfl ?_
 refine dw_quiet (by simp only [opd, zv, exOp, aop, LOp.loud, Bool.false_eq_true, if_false, wk, w3, hmx]; rw [plain_S', str_mid _ [48, 49, 50, 51, 52, 53, 54, 55, 56, 57] k (k + 1) _ _ rfl hk1 (by omega) (by simp; omega), plain_at hk]; exact rfl) rfl rfl ?_
 refine dw_quiet (by simp only [opd, zv, exOp, aop, LOp.loud, pop, Bool.false_eq_true, if_false]; rw [sadd _ _ (by simp)]; exact rfl) rfl rfl ?_
 refine dw_quiet (by simp only [zo, faddrD_ptr, faddrD_cptr, zm, hS.read, bytesOf_bR, Option.map_some, wk, w3, hmx, hia] <;> exact rfl) rfl rfl ?_
 refine dw_op (by simp only [zl, zm, zd, partD, List.take, List.drop, hS.read, bytesOf_bR, Option.map_some, wk, w3, hmx, hia] <;> exact rfl) (by simp only [fpHere, zo, zq] <;> exact rfl) rfl ?_
 refine dw_me rfl rfl ?_
 refine dw_quiet (by simp only [zo, binD, zb, Int.reduceEq, Int.reduceToNat, Int.reduceLT, hS.read, bytesOf_bR, Option.map_some, wk, w3, hmx, hia] <;> exact rfl) rfl rfl ?_
 refine dw_quiet (by simp only [opd, zv, exOp, aop, LOp.loud, Bool.false_eq_true, if_false, wk, w3, hmx]; rw [str_from _ [dch a, dch b, C] 3 _ rfl (by simp)]; exact rfl) rfl rfl ?_
 refine dw_quiet (by simp only [opd, zv, exOp, aop, LOp.loud, pop, Bool.false_eq_true, if_false]; rw [sadd _ _ (by simp)]; exact rfl) rfl rfl ?_
 refine dw_quiet (by simp only [zo, fillD, overlay, zc, List.take, List.drop, Nat.reduceAdd, Nat.reduceLeDiff, Nat.reduceBEq, zm, hS.read, bytesOf_bR, Option.map_some, wk, w3, hmx, hia] <;> exact rfl) rfl rfl ?_
 refine dw_op (by simp only [zl, zm, storeD, overlay, snapVs, snaps, zs, zc, zf, List.take, List.drop, hS.read, bytesOf_bR, Option.map_some, wk, w3, hmx, hia] <;> exact rfl) (by simp only [fpHere, zo, zq] <;> exact rfl) rfl ?_
 refine dw_nil ?_
 refine sk_n (by simp only [ze] <;> exact rfl) ?_
 refine cw_seq ?_
 refine cw_drawn (by simp only [newsVals, zw, Nat.reduceAdd] <;> exact rfl) (by simp only [zw, newsObj, St.eta] <;> exact rfl) ?_
 refine dw_op (by simp only [zl, zm, zd, partD, List.take, List.drop, hS.read, bytesOf_bR, Option.map_some, wk, w3, hmx, hia] <;> exact rfl) (by simp only [fpHere, zo, zq] <;> exact rfl) rfl ?_
 refine dw_quiet (by simp only [zo, faddrD_ptr, faddrD_cptr, zm, hS.read, bytesOf_bR, Option.map_some, wk, w3, hmx, hia] <;> exact rfl) rfl rfl ?_
 refine dw_op (by simp only [zl, zm, zd, partD, List.take, List.drop, hS.read, bytesOf_bR, Option.map_some, wk, w3, hmx, hia] <;> exact rfl) (by simp only [fpHere, zo, zq] <;> exact rfl) rfl ?_
 refine dw_op (by simp only [zo, hS.read, bytesOf_bR, Option.map_some, wk, w3, hmx, hia]; exact trim_run (by omega) _ [dch a, dch b, dch k] (by simp)) (by simp only [fpHere, zo, zq] <;> exact rfl) rfl ?_
 refine dw_quiet (by simp only [zo, binD, zb, Int.reduceEq, Int.reduceToNat, Int.reduceLT, hS.read, bytesOf_bR, Option.map_some, wk, w3, hmx, hia] <;> exact rfl) rfl rfl ?_
 refine dw_op (by simp only [zl, zm, storeD, overlay, snapVs, snaps, zs, zc, zf, List.take, List.drop, hS.read, bytesOf_bR, Option.map_some, wk, w3, hmx, hia] <;> exact rfl) (by simp only [fpHere, zo, zq] <;> exact rfl) rfl ?_
 refine dw_ml rfl rfl ?_
 refine dw_nil ?_
 refine sk_n (by simp only [ze] <;> exact rfl) ?_
 refine cw_ret ?_
 refine ⟨_, by simp only [F162, resultD, resDs, resD, List.getD_cons_zero, List.getD_cons_succ, zd, rowsOf, partD, List.getElem?_cons_zero, List.getElem?_cons_succ, if_true, if_false, Bool.false_eq_true, List.take, List.drop, zm] <;> exact rfl, ?_⟩
 rw [mkS_toList, nil_toList, hall, hng]
 simp only [leaveP, leave, snapVs, snaps, zs, zf, zk]

end Go.Proofs.YtabgobmeibjeeaaGreatDoor

namespace Go.Proofs.YtabgobmeibjeeaaGreatDoor
set_option linter.unusedSimpArgs false
set_option linter.unusedVariables false
set_option maxRecDepth 10000
set_option maxHeartbeats 4000000

theorem trim0 (d : Nat) (S : St) : runF LP NN (d + 4) 148 [.str ⟨#[]⟩, .str ⟨#[48]⟩] S = some (.str ⟨#[]⟩, S, false) := by kernel_rfl
theorem trim0_run {d : Nat} (hd : 4 ≤ d) (S : St) : runF LP NN d 148 [.str ⟨#[]⟩, .str ⟨#[48]⟩] S = some (.str ⟨#[]⟩, S, false) := by
 obtain ⟨d, rfl⟩ : ∃ d', d = d' + 4 := ⟨d - 4, by omega⟩
 exact trim0 d S
theorem w48 {k : Nat} (h : k < 10) : IntKind.u8.wrap (((k : Nat) : Int) + 48) = ((dch k).toNat : Int) := by
 unfold dch
 rw [u8_of _ (by omega)]
 simp only [IntKind.wrap, IntKind.signed, IntKind.bits, Bool.false_and, Bool.false_eq_true, if_false]; omega

theorem packed_12 {d : Nat} (hd : 5 ≤ d) (S : St) (a b c : Nat) (ha : a < 10) (hb : b < 10) (hc : c < 10) (X0 X1 : UInt8) (cp : Option Nat) (hs0 : ((X0.toNat : Nat) : Int).fdiv (2 ^ (min 4 IntKind.u8.bits)) = ((a : Nat) : Int)) (hb0 : IntKind.u8.wrap (((BitVec.ofInt IntKind.u8.bits ((X0.toNat : Nat) : Int) &&& BitVec.ofInt IntKind.u8.bits 15).toNat : Nat) : Int) = ((b : Nat) : Int)) (hs1 : ((X1.toNat : Nat) : Int).fdiv (2 ^ (min 4 IntKind.u8.bits)) = ((c : Nat) : Int)) (hb1 : IntKind.u8.wrap (((BitVec.ofInt IntKind.u8.bits ((X1.toNat : Nat) : Int) &&& BitVec.ofInt IntKind.u8.bits 15).toNat : Nat) : Int) = 12) : runF LP NN d 164 [.agg [.int .u8 4, .int .u8 1, .str ⟨#[83, 57, 57, 57]⟩, .int .i64 3, .int .i64 0, .bool true, .bool false, .bool false, .bool false, .bool false, .int .i64 2], .sl 1 [[.int .u8 X0.toNat], [.int .u8 X1.toNat]] cp] S = some (.tup [.agg [.bool false, .str (mkS [dch a, dch b, dch c])], .bool true], S, false) := by
 have n1 : decide (((a : Nat) : Int) > 9) = false := decide_eq_false (by omega)
 have n2 : decide (((b : Nat) : Int) > 9) = false := decide_eq_false (by omega)
 have n3 : decide (((c : Nat) : Int) > 9) = false := decide_eq_false (by omega)
 have a48 := w48 ha
 have b48 := w48 hb
 have c48 := w48 hc
 refine run_pure (F := F164) rfl (by simp only [LP, fnOf, snapVs, snaps, zs, Bool.false_eq_true, if_false, Option.map_some, List.map_cons, List.map_nil] <;> exact rfl) rfl (by simp only [LP, zf, List.all_cons, List.all_nil, Bool.and_true, Bool.true_and]; try rfl) (by simp only [F164, zv] <;> exact rfl) (by omega) ?_
 rintro d rfl
 refine cw_seq (cw_region ?_)
 refine ow_op (by simp only [zl, zm, zc, hs0, hs1, hb0, hb1, n1, n2, n3, a48, b48, c48, Int.toNat_natCast, Nat.reduceAdd, Nat.reduceSub, Nat.reduceMul, Nat.reduceLeDiff, Int.reduceToNat] <;> exact rfl) ?_
 refine ow_op (by simp only [zl, zm, hs0, hs1, hb0, hb1, n1, n2, n3, a48, b48, c48, Int.toNat_natCast, Nat.reduceAdd, Nat.reduceSub, Nat.reduceMul, Nat.reduceLeDiff, Int.reduceToNat] <;> exact rfl) ?_
 refine ow_mc ?_
 refine ow_nil ?_
 refine sk_n (by simp only [ze] <;> exact rfl) ?_
 refine cw_seq (cw_region ?_)
 refine ow_mc ?_
 refine ow_nil ?_
 refine sk_n (by simp only [ze] <;> exact rfl) ?_
 refine cw_seq (cw_seq (cw_region ?_))
 refine ow_me rfl ?_
 refine ow_op (by simp only [zo, lenD_str, lenD_nils, lenD_sl, lenD_msl, hs0, hs1, hb0, hb1, n1, n2, n3, a48, b48, c48, Int.toNat_natCast, Nat.reduceAdd, Nat.reduceSub, Nat.reduceMul, Nat.reduceLeDiff, Int.reduceToNat] <;> exact rfl) ?_
 refine ow_mc ?_
 refine ow_nil ?_
 refine sk_n (by simp only [ze] <;> exact rfl) ?_
 refine cw_block (cw_unroll ?_)
 refine cl_step ?_
 refine cw_seq (cw_region ?_)
 refine ow_op (by simp only [zo, binD, zb, Int.reduceEq, Int.reduceToNat, Int.reduceLT, hs0, hs1, hb0, hb1, n1, n2, n3, a48, b48, c48, Int.toNat_natCast, Nat.reduceAdd, Nat.reduceSub, Nat.reduceMul, Nat.reduceLeDiff, Int.reduceToNat] <;> exact rfl) ?_
 refine ow_nil ?_
 refine sk_n (by simp only [ze] <;> exact rfl) ?_
 refine cw_seq ?_
 skip
 refine cw_true (by simp only [opd, zv, hs0, hs1, hb0, hb1, n1, n2, n3, a48, b48, c48, Int.toNat_natCast, Nat.reduceAdd, Nat.reduceSub, Nat.reduceMul, Nat.reduceLeDiff, Int.reduceToNat] <;> rfl) ?_
 refine cw_skip (sk_n rfl (cw_seq (cw_block (cw_seq (cw_region ?_)))))
 refine ow_op (by simp only [zl, zm, iaddrD_sl, iaddrD_msl, Int.toNat_natCast, Int.toNat_zero, List.getElem?_map, Option.map_some, Int.le_refl, hs0, hs1, hb0, hb1, n1, n2, n3, a48, b48, c48, Int.toNat_natCast, Nat.reduceAdd, Nat.reduceSub, Nat.reduceMul, Nat.reduceLeDiff, Int.reduceToNat] <;> exact rfl) ?_
 refine ow_op (by simp only [zl, zm, zd, partD, List.take, List.drop, hs0, hs1, hb0, hb1, n1, n2, n3, a48, b48, c48, Int.toNat_natCast, Nat.reduceAdd, Nat.reduceSub, Nat.reduceMul, Nat.reduceLeDiff, Int.reduceToNat] <;> exact rfl) ?_
 refine ow_ml rfl ?_
 refine ow_nil ?_
 refine sk_n (by simp only [ze] <;> exact rfl) ?_
 refine cw_region ?_
 refine ow_me rfl ?_
 refine ow_me rfl ?_
 refine ow_op (by simp only [zo, binD, zb, Int.reduceEq, Int.reduceToNat, Int.reduceLT, hs0, hs1, hb0, hb1, n1, n2, n3, a48, b48, c48, Int.toNat_natCast, Nat.reduceAdd, Nat.reduceSub, Nat.reduceMul, Nat.reduceLeDiff, Int.reduceToNat] <;> exact rfl) ?_
 refine ow_me rfl ?_
 refine ow_op (by simp only [zo, binD, zb, Int.reduceEq, Int.reduceToNat, Int.reduceLT, hs0, hs1, hb0, hb1, n1, n2, n3, a48, b48, c48, Int.toNat_natCast, Nat.reduceAdd, Nat.reduceSub, Nat.reduceMul, Nat.reduceLeDiff, Int.reduceToNat] <;> exact rfl) ?_
 refine ow_op (by simp only [zl, zm, fillRows, List.replicate, snapVs, snaps, zs, zc, zf, hs0, hs1, hb0, hb1, n1, n2, n3, a48, b48, c48, Int.toNat_natCast, Nat.reduceAdd, Nat.reduceSub, Nat.reduceMul, Nat.reduceLeDiff, Int.reduceToNat] <;> exact rfl) ?_
 refine ow_op (by simp only [zl, zm, appendD, appendRows, readRows_nils, readRows_sl, readRows_msl, List.isEmpty_cons, List.isEmpty_nil, reduceIte, hs0, hs1, hb0, hb1, n1, n2, n3, a48, b48, c48, Int.toNat_natCast, Nat.reduceAdd, Nat.reduceSub, Nat.reduceMul, Nat.reduceLeDiff, Int.reduceToNat] <;> exact rfl) ?_
 refine ow_ml rfl ?_
 refine ow_nil (bk_n ?_)
 refine sk_n (by simp only [ze] <;> exact rfl) ?_
 refine cw_region ?_
 refine ow_op (by simp only [zo, binD, zb, Int.reduceEq, Int.reduceToNat, Int.reduceLT, hs0, hs1, hb0, hb1, n1, n2, n3, a48, b48, c48, Int.toNat_natCast, Nat.reduceAdd, Nat.reduceSub, Nat.reduceMul, Nat.reduceLeDiff, Int.reduceToNat] <;> exact rfl) ?_
 refine ow_ml rfl ?_
 refine ow_nil ?_
 refine lu_n (by simp only [ze] <;> exact rfl) ?_
 refine cl_step ?_
 refine cw_seq (cw_region ?_)
 refine ow_op (by simp only [zo, binD, zb, Int.reduceEq, Int.reduceToNat, Int.reduceLT, hs0, hs1, hb0, hb1, n1, n2, n3, a48, b48, c48, Int.toNat_natCast, Nat.reduceAdd, Nat.reduceSub, Nat.reduceMul, Nat.reduceLeDiff, Int.reduceToNat] <;> exact rfl) ?_
 refine ow_nil ?_
 refine sk_n (by simp only [ze] <;> exact rfl) ?_
 refine cw_seq ?_
 skip
 refine cw_true (by simp only [opd, zv, hs0, hs1, hb0, hb1, n1, n2, n3, a48, b48, c48, Int.toNat_natCast, Nat.reduceAdd, Nat.reduceSub, Nat.reduceMul, Nat.reduceLeDiff, Int.reduceToNat] <;> rfl) ?_
 refine cw_skip (sk_n rfl (cw_seq (cw_block (cw_seq (cw_region ?_)))))
 refine ow_op (by simp only [zl, zm, iaddrD_sl, iaddrD_msl, Int.toNat_natCast, Int.toNat_zero, List.getElem?_map, Option.map_some, Int.le_refl, hs0, hs1, hb0, hb1, n1, n2, n3, a48, b48, c48, Int.toNat_natCast, Nat.reduceAdd, Nat.reduceSub, Nat.reduceMul, Nat.reduceLeDiff, Int.reduceToNat] <;> exact rfl) ?_
 refine ow_op (by simp only [zl, zm, zd, partD, List.take, List.drop, hs0, hs1, hb0, hb1, n1, n2, n3, a48, b48, c48, Int.toNat_natCast, Nat.reduceAdd, Nat.reduceSub, Nat.reduceMul, Nat.reduceLeDiff, Int.reduceToNat] <;> exact rfl) ?_
 refine ow_ml rfl ?_
 refine ow_nil ?_
 refine sk_n (by simp only [ze] <;> exact rfl) ?_
 refine cw_region ?_
 refine ow_me rfl ?_
 refine ow_me rfl ?_
 refine ow_op (by simp only [zo, binD, zb, Int.reduceEq, Int.reduceToNat, Int.reduceLT, hs0, hs1, hb0, hb1, n1, n2, n3, a48, b48, c48, Int.toNat_natCast, Nat.reduceAdd, Nat.reduceSub, Nat.reduceMul, Nat.reduceLeDiff, Int.reduceToNat] <;> exact rfl) ?_
 refine ow_me rfl ?_
 refine ow_op (by simp only [zo, binD, zb, Int.reduceEq, Int.reduceToNat, Int.reduceLT, hs0, hs1, hb0, hb1, n1, n2, n3, a48, b48, c48, Int.toNat_natCast, Nat.reduceAdd, Nat.reduceSub, Nat.reduceMul, Nat.reduceLeDiff, Int.reduceToNat] <;> exact rfl) ?_
 refine ow_op (by simp only [zl, zm, fillRows, List.replicate, snapVs, snaps, zs, zc, zf, hs0, hs1, hb0, hb1, n1, n2, n3, a48, b48, c48, Int.toNat_natCast, Nat.reduceAdd, Nat.reduceSub, Nat.reduceMul, Nat.reduceLeDiff, Int.reduceToNat] <;> exact rfl) ?_
 refine ow_op (by simp only [zl, zm, appendD, appendRows, readRows_nils, readRows_sl, readRows_msl, List.isEmpty_cons, List.isEmpty_nil, reduceIte, hs0, hs1, hb0, hb1, n1, n2, n3, a48, b48, c48, Int.toNat_natCast, Nat.reduceAdd, Nat.reduceSub, Nat.reduceMul, Nat.reduceLeDiff, Int.reduceToNat] <;> exact rfl) ?_
 refine ow_ml rfl ?_
 refine ow_nil (bk_n ?_)
 refine sk_n (by simp only [ze] <;> exact rfl) ?_
 refine cw_region ?_
 refine ow_op (by simp only [zo, binD, zb, Int.reduceEq, Int.reduceToNat, Int.reduceLT, hs0, hs1, hb0, hb1, n1, n2, n3, a48, b48, c48, Int.toNat_natCast, Nat.reduceAdd, Nat.reduceSub, Nat.reduceMul, Nat.reduceLeDiff, Int.reduceToNat] <;> exact rfl) ?_
 refine ow_ml rfl ?_
 refine ow_nil ?_
 refine lu_n (by simp only [ze] <;> exact rfl) ?_
 refine cl_step ?_
 refine cw_seq (cw_region ?_)
 refine ow_op (by simp only [zo, binD, zb, Int.reduceEq, Int.reduceToNat, Int.reduceLT, hs0, hs1, hb0, hb1, n1, n2, n3, a48, b48, c48, Int.toNat_natCast, Nat.reduceAdd, Nat.reduceSub, Nat.reduceMul, Nat.reduceLeDiff, Int.reduceToNat] <;> exact rfl) ?_
 refine ow_nil ?_
 refine sk_n (by simp only [ze] <;> exact rfl) ?_
 refine cw_seq ?_
 skip
 refine cw_false (by simp only [opd, zv, hs0, hs1, hb0, hb1, n1, n2, n3, a48, b48, c48, Int.toNat_natCast, Nat.reduceAdd, Nat.reduceSub, Nat.reduceMul, Nat.reduceLeDiff, Int.reduceToNat] <;> rfl) ?_
 refine cw_exit (sk_e (lu_e (bk_e (sk_n rfl (cw_seq (cw_region ?_))))))
 refine ow_me rfl ?_
 refine ow_me rfl ?_
 refine ow_op (by simp only [zo, lenD_str, lenD_nils, lenD_sl, lenD_msl, hs0, hs1, hb0, hb1, n1, n2, n3, a48, b48, c48, Int.toNat_natCast, Nat.reduceAdd, Nat.reduceSub, Nat.reduceMul, Nat.reduceLeDiff, Int.reduceToNat] <;> exact rfl) ?_
 refine ow_op (by simp only [zo, binD, zb, Int.reduceEq, Int.reduceToNat, Int.reduceLT, hs0, hs1, hb0, hb1, n1, n2, n3, a48, b48, c48, Int.toNat_natCast, Nat.reduceAdd, Nat.reduceSub, Nat.reduceMul, Nat.reduceLeDiff, Int.reduceToNat] <;> exact rfl) ?_
 refine ow_op (by simp only [zl, zm, iaddrD_sl, iaddrD_msl, Int.toNat_natCast, Int.toNat_zero, List.getElem?_map, Option.map_some, Int.le_refl, hs0, hs1, hb0, hb1, n1, n2, n3, a48, b48, c48, Int.toNat_natCast, Nat.reduceAdd, Nat.reduceSub, Nat.reduceMul, Nat.reduceLeDiff, Int.reduceToNat] <;> exact rfl) ?_
 refine ow_op (by simp only [zl, zm, zd, partD, List.take, List.drop, hs0, hs1, hb0, hb1, n1, n2, n3, a48, b48, c48, Int.toNat_natCast, Nat.reduceAdd, Nat.reduceSub, Nat.reduceMul, Nat.reduceLeDiff, Int.reduceToNat] <;> exact rfl) ?_
 refine ow_ml rfl ?_
 refine ow_nil ?_
 refine sk_n (by simp only [ze] <;> exact rfl) ?_
 refine cw_seq (cw_region ?_)
 refine ow_me rfl ?_
 refine ow_me rfl ?_
 refine ow_op (by simp only [zo, lenD_str, lenD_nils, lenD_sl, lenD_msl, hs0, hs1, hb0, hb1, n1, n2, n3, a48, b48, c48, Int.toNat_natCast, Nat.reduceAdd, Nat.reduceSub, Nat.reduceMul, Nat.reduceLeDiff, Int.reduceToNat] <;> exact rfl) ?_
 refine ow_op (by simp only [zo, binD, zb, Int.reduceEq, Int.reduceToNat, Int.reduceLT, hs0, hs1, hb0, hb1, n1, n2, n3, a48, b48, c48, Int.toNat_natCast, Nat.reduceAdd, Nat.reduceSub, Nat.reduceMul, Nat.reduceLeDiff, Int.reduceToNat] <;> exact rfl) ?_
 refine ow_op (by simp only [zl, zm, sliceArgs, sliceD, boundsAt, boundsD, natOr, natOf, hs0, hs1, hb0, hb1, n1, n2, n3, a48, b48, c48, Int.toNat_natCast, Nat.reduceAdd, Nat.reduceSub, Nat.reduceMul, Nat.reduceLeDiff, Int.reduceToNat] <;> exact rfl) ?_
 refine ow_ml rfl ?_
 refine ow_nil ?_
 refine sk_n (by simp only [ze] <;> exact rfl) ?_
 refine cw_seq (cw_seq (cw_region ?_))
 refine ow_me rfl ?_
 refine ow_op (by simp only [zo, lenD_str, lenD_nils, lenD_sl, lenD_msl, hs0, hs1, hb0, hb1, n1, n2, n3, a48, b48, c48, Int.toNat_natCast, Nat.reduceAdd, Nat.reduceSub, Nat.reduceMul, Nat.reduceLeDiff, Int.reduceToNat] <;> exact rfl) ?_
 refine ow_mc ?_
 refine ow_nil ?_
 refine sk_n (by simp only [ze] <;> exact rfl) ?_
 refine cw_block (cw_unroll ?_)
 refine cl_step ?_
 refine cw_seq (cw_region ?_)
 refine ow_op (by simp only [zo, binD, zb, Int.reduceEq, Int.reduceToNat, Int.reduceLT, hs0, hs1, hb0, hb1, n1, n2, n3, a48, b48, c48, Int.toNat_natCast, Nat.reduceAdd, Nat.reduceSub, Nat.reduceMul, Nat.reduceLeDiff, Int.reduceToNat] <;> exact rfl) ?_
 refine ow_nil ?_
 refine sk_n (by simp only [ze] <;> exact rfl) ?_
 refine cw_seq ?_
 skip
 refine cw_true (by simp only [opd, zv, hs0, hs1, hb0, hb1, n1, n2, n3, a48, b48, c48, Int.toNat_natCast, Nat.reduceAdd, Nat.reduceSub, Nat.reduceMul, Nat.reduceLeDiff, Int.reduceToNat] <;> rfl) ?_
 refine cw_skip (sk_n rfl (cw_seq (cw_block (cw_seq (cw_region ?_)))))
 refine ow_me rfl ?_
 refine ow_ml rfl ?_
 refine ow_nil ?_
 refine sk_n (by simp only [ze] <;> exact rfl) ?_
 refine cw_seq (cw_seq (cw_region ?_))
 refine ow_me rfl ?_
 refine ow_me rfl ?_
 refine ow_op (by simp only [zl, zm, iaddrD_sl, iaddrD_msl, Int.toNat_natCast, Int.toNat_zero, List.getElem?_map, Option.map_some, Int.le_refl, hs0, hs1, hb0, hb1, n1, n2, n3, a48, b48, c48, Int.toNat_natCast, Nat.reduceAdd, Nat.reduceSub, Nat.reduceMul, Nat.reduceLeDiff, Int.reduceToNat] <;> exact rfl) ?_
 refine ow_op (by simp only [zl, zm, zd, partD, List.take, List.drop, hs0, hs1, hb0, hb1, n1, n2, n3, a48, b48, c48, Int.toNat_natCast, Nat.reduceAdd, Nat.reduceSub, Nat.reduceMul, Nat.reduceLeDiff, Int.reduceToNat] <;> exact rfl) ?_
 refine ow_op (by simp only [zo, binD, zb, Int.reduceEq, Int.reduceToNat, Int.reduceLT, hs0, hs1, hb0, hb1, n1, n2, n3, a48, b48, c48, Int.toNat_natCast, Nat.reduceAdd, Nat.reduceSub, Nat.reduceMul, Nat.reduceLeDiff, Int.reduceToNat] <;> exact rfl) ?_
 refine ow_nil ?_
 refine sk_n (by simp only [ze] <;> exact rfl) ?_
 skip
 refine cw_false (by simp only [opd, zv, hs0, hs1, hb0, hb1, n1, n2, n3, a48, b48, c48, Int.toNat_natCast, Nat.reduceAdd, Nat.reduceSub, Nat.reduceMul, Nat.reduceLeDiff, Int.reduceToNat] <;> rfl) ?_
 refine cw_skip (sk_n rfl (cw_region ?_))
 refine ow_me rfl ?_
 refine ow_me rfl ?_
 refine ow_op (by simp only [zl, zm, iaddrD_sl, iaddrD_msl, Int.toNat_natCast, Int.toNat_zero, List.getElem?_map, Option.map_some, Int.le_refl, hs0, hs1, hb0, hb1, n1, n2, n3, a48, b48, c48, Int.toNat_natCast, Nat.reduceAdd, Nat.reduceSub, Nat.reduceMul, Nat.reduceLeDiff, Int.reduceToNat] <;> exact rfl) ?_
 refine ow_op (by simp only [zl, zm, zd, partD, List.take, List.drop, hs0, hs1, hb0, hb1, n1, n2, n3, a48, b48, c48, Int.toNat_natCast, Nat.reduceAdd, Nat.reduceSub, Nat.reduceMul, Nat.reduceLeDiff, Int.reduceToNat] <;> exact rfl) ?_
 refine ow_op (by simp only [zo, binD, zb, Int.reduceEq, Int.reduceToNat, Int.reduceLT, hs0, hs1, hb0, hb1, n1, n2, n3, a48, b48, c48, Int.toNat_natCast, Nat.reduceAdd, Nat.reduceSub, Nat.reduceMul, Nat.reduceLeDiff, Int.reduceToNat] <;> exact rfl) ?_
 refine ow_op (by simp only [zl, zm, iaddrD_sl, iaddrD_msl, Int.toNat_natCast, Int.toNat_zero, List.getElem?_map, Option.map_some, Int.le_refl, hs0, hs1, hb0, hb1, n1, n2, n3, a48, b48, c48, Int.toNat_natCast, Nat.reduceAdd, Nat.reduceSub, Nat.reduceMul, Nat.reduceLeDiff, Int.reduceToNat] <;> exact rfl) ?_
 refine ow_op (by simp only [zl, zm, storeD, overlay, snapVs, snaps, zs, zc, zf, List.take, List.drop, hs0, hs1, hb0, hb1, n1, n2, n3, a48, b48, c48, Int.toNat_natCast, Nat.reduceAdd, Nat.reduceSub, Nat.reduceMul, Nat.reduceLeDiff, Int.reduceToNat] <;> exact rfl) ?_
 refine ow_nil (bk_n ?_)
 refine sk_n (by simp only [ze] <;> exact rfl) ?_
 refine cw_region ?_
 refine ow_op (by simp only [zo, binD, zb, Int.reduceEq, Int.reduceToNat, Int.reduceLT, hs0, hs1, hb0, hb1, n1, n2, n3, a48, b48, c48, Int.toNat_natCast, Nat.reduceAdd, Nat.reduceSub, Nat.reduceMul, Nat.reduceLeDiff, Int.reduceToNat] <;> exact rfl) ?_
 refine ow_ml rfl ?_
 refine ow_nil ?_
 refine lu_n (by simp only [ze] <;> exact rfl) ?_
 refine cl_step ?_
 refine cw_seq (cw_region ?_)
 refine ow_op (by simp only [zo, binD, zb, Int.reduceEq, Int.reduceToNat, Int.reduceLT, hs0, hs1, hb0, hb1, n1, n2, n3, a48, b48, c48, Int.toNat_natCast, Nat.reduceAdd, Nat.reduceSub, Nat.reduceMul, Nat.reduceLeDiff, Int.reduceToNat] <;> exact rfl) ?_
 refine ow_nil ?_
 refine sk_n (by simp only [ze] <;> exact rfl) ?_
 refine cw_seq ?_
 skip
 refine cw_true (by simp only [opd, zv, hs0, hs1, hb0, hb1, n1, n2, n3, a48, b48, c48, Int.toNat_natCast, Nat.reduceAdd, Nat.reduceSub, Nat.reduceMul, Nat.reduceLeDiff, Int.reduceToNat] <;> rfl) ?_
 refine cw_skip (sk_n rfl (cw_seq (cw_block (cw_seq (cw_region ?_)))))
 refine ow_me rfl ?_
 refine ow_ml rfl ?_
 refine ow_nil ?_
 refine sk_n (by simp only [ze] <;> exact rfl) ?_
 refine cw_seq (cw_seq (cw_region ?_))
 refine ow_me rfl ?_
 refine ow_me rfl ?_
 refine ow_op (by simp only [zl, zm, iaddrD_sl, iaddrD_msl, Int.toNat_natCast, Int.toNat_zero, List.getElem?_map, Option.map_some, Int.le_refl, hs0, hs1, hb0, hb1, n1, n2, n3, a48, b48, c48, Int.toNat_natCast, Nat.reduceAdd, Nat.reduceSub, Nat.reduceMul, Nat.reduceLeDiff, Int.reduceToNat] <;> exact rfl) ?_
 refine ow_op (by simp only [zl, zm, zd, partD, List.take, List.drop, hs0, hs1, hb0, hb1, n1, n2, n3, a48, b48, c48, Int.toNat_natCast, Nat.reduceAdd, Nat.reduceSub, Nat.reduceMul, Nat.reduceLeDiff, Int.reduceToNat] <;> exact rfl) ?_
 refine ow_op (by simp only [zo, binD, zb, Int.reduceEq, Int.reduceToNat, Int.reduceLT, hs0, hs1, hb0, hb1, n1, n2, n3, a48, b48, c48, Int.toNat_natCast, Nat.reduceAdd, Nat.reduceSub, Nat.reduceMul, Nat.reduceLeDiff, Int.reduceToNat] <;> exact rfl) ?_
 refine ow_nil ?_
 refine sk_n (by simp only [ze] <;> exact rfl) ?_
 skip
 refine cw_false (by simp only [opd, zv, hs0, hs1, hb0, hb1, n1, n2, n3, a48, b48, c48, Int.toNat_natCast, Nat.reduceAdd, Nat.reduceSub, Nat.reduceMul, Nat.reduceLeDiff, Int.reduceToNat] <;> rfl) ?_
 refine cw_skip (sk_n rfl (cw_region ?_))
 refine ow_me rfl ?_
 refine ow_me rfl ?_
 refine ow_op (by simp only [zl, zm, iaddrD_sl, iaddrD_msl, Int.toNat_natCast, Int.toNat_zero, List.getElem?_map, Option.map_some, Int.le_refl, hs0, hs1, hb0, hb1, n1, n2, n3, a48, b48, c48, Int.toNat_natCast, Nat.reduceAdd, Nat.reduceSub, Nat.reduceMul, Nat.reduceLeDiff, Int.reduceToNat] <;> exact rfl) ?_
 refine ow_op (by simp only [zl, zm, zd, partD, List.take, List.drop, hs0, hs1, hb0, hb1, n1, n2, n3, a48, b48, c48, Int.toNat_natCast, Nat.reduceAdd, Nat.reduceSub, Nat.reduceMul, Nat.reduceLeDiff, Int.reduceToNat] <;> exact rfl) ?_
 refine ow_op (by simp only [zo, binD, zb, Int.reduceEq, Int.reduceToNat, Int.reduceLT, hs0, hs1, hb0, hb1, n1, n2, n3, a48, b48, c48, Int.toNat_natCast, Nat.reduceAdd, Nat.reduceSub, Nat.reduceMul, Nat.reduceLeDiff, Int.reduceToNat] <;> exact rfl) ?_
 refine ow_op (by simp only [zl, zm, iaddrD_sl, iaddrD_msl, Int.toNat_natCast, Int.toNat_zero, List.getElem?_map, Option.map_some, Int.le_refl, hs0, hs1, hb0, hb1, n1, n2, n3, a48, b48, c48, Int.toNat_natCast, Nat.reduceAdd, Nat.reduceSub, Nat.reduceMul, Nat.reduceLeDiff, Int.reduceToNat] <;> exact rfl) ?_
 refine ow_op (by simp only [zl, zm, storeD, overlay, snapVs, snaps, zs, zc, zf, List.take, List.drop, hs0, hs1, hb0, hb1, n1, n2, n3, a48, b48, c48, Int.toNat_natCast, Nat.reduceAdd, Nat.reduceSub, Nat.reduceMul, Nat.reduceLeDiff, Int.reduceToNat] <;> exact rfl) ?_
 refine ow_nil (bk_n ?_)
 refine sk_n (by simp only [ze] <;> exact rfl) ?_
 refine cw_region ?_
 refine ow_op (by simp only [zo, binD, zb, Int.reduceEq, Int.reduceToNat, Int.reduceLT, hs0, hs1, hb0, hb1, n1, n2, n3, a48, b48, c48, Int.toNat_natCast, Nat.reduceAdd, Nat.reduceSub, Nat.reduceMul, Nat.reduceLeDiff, Int.reduceToNat] <;> exact rfl) ?_
 refine ow_ml rfl ?_
 refine ow_nil ?_
 refine lu_n (by simp only [ze] <;> exact rfl) ?_
 refine cl_step ?_
 refine cw_seq (cw_region ?_)
 refine ow_op (by simp only [zo, binD, zb, Int.reduceEq, Int.reduceToNat, Int.reduceLT, hs0, hs1, hb0, hb1, n1, n2, n3, a48, b48, c48, Int.toNat_natCast, Nat.reduceAdd, Nat.reduceSub, Nat.reduceMul, Nat.reduceLeDiff, Int.reduceToNat] <;> exact rfl) ?_
 refine ow_nil ?_
 refine sk_n (by simp only [ze] <;> exact rfl) ?_
 refine cw_seq ?_
 skip
 refine cw_true (by simp only [opd, zv, hs0, hs1, hb0, hb1, n1, n2, n3, a48, b48, c48, Int.toNat_natCast, Nat.reduceAdd, Nat.reduceSub, Nat.reduceMul, Nat.reduceLeDiff, Int.reduceToNat] <;> rfl) ?_
 refine cw_skip (sk_n rfl (cw_seq (cw_block (cw_seq (cw_region ?_)))))
 refine ow_me rfl ?_
 refine ow_ml rfl ?_
 refine ow_nil ?_
 refine sk_n (by simp only [ze] <;> exact rfl) ?_
 refine cw_seq (cw_seq (cw_region ?_))
 refine ow_me rfl ?_
 refine ow_me rfl ?_
 refine ow_op (by simp only [zl, zm, iaddrD_sl, iaddrD_msl, Int.toNat_natCast, Int.toNat_zero, List.getElem?_map, Option.map_some, Int.le_refl, hs0, hs1, hb0, hb1, n1, n2, n3, a48, b48, c48, Int.toNat_natCast, Nat.reduceAdd, Nat.reduceSub, Nat.reduceMul, Nat.reduceLeDiff, Int.reduceToNat] <;> exact rfl) ?_
 refine ow_op (by simp only [zl, zm, zd, partD, List.take, List.drop, hs0, hs1, hb0, hb1, n1, n2, n3, a48, b48, c48, Int.toNat_natCast, Nat.reduceAdd, Nat.reduceSub, Nat.reduceMul, Nat.reduceLeDiff, Int.reduceToNat] <;> exact rfl) ?_
 refine ow_op (by simp only [zo, binD, zb, Int.reduceEq, Int.reduceToNat, Int.reduceLT, hs0, hs1, hb0, hb1, n1, n2, n3, a48, b48, c48, Int.toNat_natCast, Nat.reduceAdd, Nat.reduceSub, Nat.reduceMul, Nat.reduceLeDiff, Int.reduceToNat] <;> exact rfl) ?_
 refine ow_nil ?_
 refine sk_n (by simp only [ze] <;> exact rfl) ?_
 skip
 refine cw_false (by simp only [opd, zv, hs0, hs1, hb0, hb1, n1, n2, n3, a48, b48, c48, Int.toNat_natCast, Nat.reduceAdd, Nat.reduceSub, Nat.reduceMul, Nat.reduceLeDiff, Int.reduceToNat] <;> rfl) ?_
 refine cw_skip (sk_n rfl (cw_region ?_))
 refine ow_me rfl ?_
 refine ow_me rfl ?_
 refine ow_op (by simp only [zl, zm, iaddrD_sl, iaddrD_msl, Int.toNat_natCast, Int.toNat_zero, List.getElem?_map, Option.map_some, Int.le_refl, hs0, hs1, hb0, hb1, n1, n2, n3, a48, b48, c48, Int.toNat_natCast, Nat.reduceAdd, Nat.reduceSub, Nat.reduceMul, Nat.reduceLeDiff, Int.reduceToNat] <;> exact rfl) ?_
 refine ow_op (by simp only [zl, zm, zd, partD, List.take, List.drop, hs0, hs1, hb0, hb1, n1, n2, n3, a48, b48, c48, Int.toNat_natCast, Nat.reduceAdd, Nat.reduceSub, Nat.reduceMul, Nat.reduceLeDiff, Int.reduceToNat] <;> exact rfl) ?_
 refine ow_op (by simp only [zo, binD, zb, Int.reduceEq, Int.reduceToNat, Int.reduceLT, hs0, hs1, hb0, hb1, n1, n2, n3, a48, b48, c48, Int.toNat_natCast, Nat.reduceAdd, Nat.reduceSub, Nat.reduceMul, Nat.reduceLeDiff, Int.reduceToNat] <;> exact rfl) ?_
 refine ow_op (by simp only [zl, zm, iaddrD_sl, iaddrD_msl, Int.toNat_natCast, Int.toNat_zero, List.getElem?_map, Option.map_some, Int.le_refl, hs0, hs1, hb0, hb1, n1, n2, n3, a48, b48, c48, Int.toNat_natCast, Nat.reduceAdd, Nat.reduceSub, Nat.reduceMul, Nat.reduceLeDiff, Int.reduceToNat] <;> exact rfl) ?_
 refine ow_op (by simp only [zl, zm, storeD, overlay, snapVs, snaps, zs, zc, zf, List.take, List.drop, hs0, hs1, hb0, hb1, n1, n2, n3, a48, b48, c48, Int.toNat_natCast, Nat.reduceAdd, Nat.reduceSub, Nat.reduceMul, Nat.reduceLeDiff, Int.reduceToNat] <;> exact rfl) ?_
 refine ow_nil (bk_n ?_)
 refine sk_n (by simp only [ze] <;> exact rfl) ?_
 refine cw_region ?_
 refine ow_op (by simp only [zo, binD, zb, Int.reduceEq, Int.reduceToNat, Int.reduceLT, hs0, hs1, hb0, hb1, n1, n2, n3, a48, b48, c48, Int.toNat_natCast, Nat.reduceAdd, Nat.reduceSub, Nat.reduceMul, Nat.reduceLeDiff, Int.reduceToNat] <;> exact rfl) ?_
 refine ow_ml rfl ?_
 refine ow_nil ?_
 refine lu_n (by simp only [ze] <;> exact rfl) ?_
 refine cl_step ?_
 refine cw_seq (cw_region ?_)
 refine ow_op (by simp only [zo, binD, zb, Int.reduceEq, Int.reduceToNat, Int.reduceLT, hs0, hs1, hb0, hb1, n1, n2, n3, a48, b48, c48, Int.toNat_natCast, Nat.reduceAdd, Nat.reduceSub, Nat.reduceMul, Nat.reduceLeDiff, Int.reduceToNat] <;> exact rfl) ?_
 refine ow_nil ?_
 refine sk_n (by simp only [ze] <;> exact rfl) ?_
 refine cw_seq ?_
 skip
 refine cw_false (by simp only [opd, zv, hs0, hs1, hb0, hb1, n1, n2, n3, a48, b48, c48, Int.toNat_natCast, Nat.reduceAdd, Nat.reduceSub, Nat.reduceMul, Nat.reduceLeDiff, Int.reduceToNat] <;> rfl) ?_
 refine cw_exit (sk_e (lu_e (bk_e (sk_n rfl (cw_seq (cw_region ?_))))))
 refine ow_me rfl ?_
 refine ow_op (by simp only [zo, binD, zb, Int.reduceEq, Int.reduceToNat, Int.reduceLT, hs0, hs1, hb0, hb1, n1, n2, n3, a48, b48, c48, Int.toNat_natCast, Nat.reduceAdd, Nat.reduceSub, Nat.reduceMul, Nat.reduceLeDiff, Int.reduceToNat] <;> exact rfl) ?_
 refine ow_ml rfl ?_
 refine ow_nil ?_
 refine sk_n (by simp only [ze] <;> exact rfl) ?_
 refine cw_seq (cw_seq (cw_region ?_))
 refine ow_op (by simp only [zo, faddrD_ptr, faddrD_cptr, zm, hs0, hs1, hb0, hb1, n1, n2, n3, a48, b48, c48, Int.toNat_natCast, Nat.reduceAdd, Nat.reduceSub, Nat.reduceMul, Nat.reduceLeDiff, Int.reduceToNat] <;> exact rfl) ?_
 refine ow_op (by simp only [zl, zm, zd, partD, List.take, List.drop, hs0, hs1, hb0, hb1, n1, n2, n3, a48, b48, c48, Int.toNat_natCast, Nat.reduceAdd, Nat.reduceSub, Nat.reduceMul, Nat.reduceLeDiff, Int.reduceToNat] <;> exact rfl) ?_
 refine ow_nil ?_
 refine sk_n (by simp only [ze] <;> exact rfl) ?_
 skip
 refine cw_true (by simp only [opd, zv, hs0, hs1, hb0, hb1, n1, n2, n3, a48, b48, c48, Int.toNat_natCast, Nat.reduceAdd, Nat.reduceSub, Nat.reduceMul, Nat.reduceLeDiff, Int.reduceToNat] <;> rfl) ?_
 refine cw_region ?_
 refine ow_me rfl ?_
 refine ow_op (by simp only [zo, binD, zb, Int.reduceEq, Int.reduceToNat, Int.reduceLT, hs0, hs1, hb0, hb1, n1, n2, n3, a48, b48, c48, Int.toNat_natCast, Nat.reduceAdd, Nat.reduceSub, Nat.reduceMul, Nat.reduceLeDiff, Int.reduceToNat] <;> exact rfl) ?_
 refine ow_ml rfl ?_
 refine ow_know 0 (b := true) (by simp only [opd, zv, hs0, hs1, hb0, hb1, n1, n2, n3, a48, b48, c48, Int.toNat_natCast, Nat.reduceAdd, Nat.reduceSub, Nat.reduceMul, Nat.reduceLeDiff, Int.reduceToNat] <;> rfl) (by simp only [zn] <;> exact rfl) ?_
 refine ow_off (b' := true) (by simp only [opd, zv]) rfl ?_
 refine ow_off (b' := true) (by simp only [opd, zv]) rfl ?_
 refine ow_op (by simp only [zo, hs0, hs1, hb0, hb1, n1, n2, n3, a48, b48, c48, Int.toNat_natCast, Nat.reduceAdd, Nat.reduceSub, Nat.reduceMul, Nat.reduceLeDiff, Int.reduceToNat] <;> exact rfl) ?_
 refine ow_ml rfl ?_
 refine ow_nil ?_
 refine sk_n (by simp only [ze] <;> exact rfl) ?_
 refine cw_seq (cw_region ?_)
 refine ow_me rfl ?_
 refine ow_op (by simp only [zo, lenD_str, lenD_nils, lenD_sl, lenD_msl, hs0, hs1, hb0, hb1, n1, n2, n3, a48, b48, c48, Int.toNat_natCast, Nat.reduceAdd, Nat.reduceSub, Nat.reduceMul, Nat.reduceLeDiff, Int.reduceToNat] <;> exact rfl) ?_
 refine ow_op (by simp only [zo, faddrD_ptr, faddrD_cptr, zm, hs0, hs1, hb0, hb1, n1, n2, n3, a48, b48, c48, Int.toNat_natCast, Nat.reduceAdd, Nat.reduceSub, Nat.reduceMul, Nat.reduceLeDiff, Int.reduceToNat] <;> exact rfl) ?_
 refine ow_op (by simp only [zl, zm, zd, partD, List.take, List.drop, hs0, hs1, hb0, hb1, n1, n2, n3, a48, b48, c48, Int.toNat_natCast, Nat.reduceAdd, Nat.reduceSub, Nat.reduceMul, Nat.reduceLeDiff, Int.reduceToNat] <;> exact rfl) ?_
 refine ow_op (by simp only [zo, binD, zb, Int.reduceEq, Int.reduceToNat, Int.reduceLT, hs0, hs1, hb0, hb1, n1, n2, n3, a48, b48, c48, Int.toNat_natCast, Nat.reduceAdd, Nat.reduceSub, Nat.reduceMul, Nat.reduceLeDiff, Int.reduceToNat] <;> exact rfl) ?_
 refine ow_ml rfl ?_
 refine ow_nil ?_
 refine sk_n (by simp only [ze] <;> exact rfl) ?_
 refine cw_seq ?_
 refine cw_drawn (by simp only [newsVals, zw, Nat.reduceAdd] <;> exact rfl) (by simp only [zw, newsObj, St.eta] <;> exact rfl) ?_
 refine dw_me rfl rfl ?_
 refine dw_quiet (by simp only [zo, binD, zb, Int.reduceEq, Int.reduceToNat, Int.reduceLT, hs0, hs1, hb0, hb1, n1, n2, n3, a48, b48, c48, Int.toNat_natCast, Nat.reduceAdd, Nat.reduceSub, Nat.reduceMul, Nat.reduceLeDiff, Int.reduceToNat] <;> exact rfl) rfl rfl ?_
 refine dw_me rfl rfl ?_
 refine dw_me rfl rfl ?_
 refine dw_op (by simp only [zl, zm, sliceArgs, sliceD, boundsAt, boundsD, natOr, natOf, hs0, hs1, hb0, hb1, n1, n2, n3, a48, b48, c48, Int.toNat_natCast, Nat.reduceAdd, Nat.reduceSub, Nat.reduceMul, Nat.reduceLeDiff, Int.reduceToNat] <;> exact rfl) (by simp only [fpHere, zo, zq] <;> exact rfl) rfl ?_
 refine dw_op (by simp only [zl, zm, readRows_nils, readRows_sl, readRows_msl, hs0, hs1, hb0, hb1, n1, n2, n3, a48, b48, c48, Int.toNat_natCast, Nat.reduceAdd, Nat.reduceSub, Nat.reduceMul, Nat.reduceLeDiff, Int.reduceToNat] <;> exact rfl) (by simp only [fpHere, zo, zq] <;> exact rfl) rfl ?_
 refine dw_quiet (by simp only [zo, fillD, overlay, zc, List.take, List.drop, Nat.reduceAdd, Nat.reduceLeDiff, Nat.reduceBEq, zm, hs0, hs1, hb0, hb1, n1, n2, n3, a48, b48, c48, Int.toNat_natCast, Nat.reduceAdd, Nat.reduceSub, Nat.reduceMul, Nat.reduceLeDiff, Int.reduceToNat] <;> exact rfl) rfl rfl ?_
 refine dw_me rfl rfl ?_
 refine dw_ml rfl rfl ?_
 refine dw_on (by simp only [opd, zv]) ?_
 refine dw_me rfl rfl ?_
 refine dw_on (by simp only [opd, zv]) ?_
 refine dw_me rfl rfl ?_
 refine dw_on (by simp only [opd, zv]) ?_
 refine dw_op (by simp only [zl, zm, sliceArgs, sliceD, boundsAt, boundsD, natOr, natOf, hs0, hs1, hb0, hb1, n1, n2, n3, a48, b48, c48, Int.toNat_natCast, Nat.reduceAdd, Nat.reduceSub, Nat.reduceMul, Nat.reduceLeDiff, Int.reduceToNat] <;> exact rfl) (by simp only [fpHere, zo, zq] <;> exact rfl) rfl ?_
 refine dw_on (by simp only [opd, zv]) ?_
 refine dw_op (by simp only [zl, zm, readRows_nils, readRows_sl, readRows_msl, hs0, hs1, hb0, hb1, n1, n2, n3, a48, b48, c48, Int.toNat_natCast, Nat.reduceAdd, Nat.reduceSub, Nat.reduceMul, Nat.reduceLeDiff, Int.reduceToNat] <;> exact rfl) (by simp only [fpHere, zo, zq] <;> exact rfl) rfl ?_
 refine dw_on (by simp only [opd, zv]) ?_
 refine dw_op (by simp only [zo, hs0, hs1, hb0, hb1, n1, n2, n3, a48, b48, c48, Int.toNat_natCast, Nat.reduceAdd, Nat.reduceSub, Nat.reduceMul, Nat.reduceLeDiff, Int.reduceToNat]; exact trim0_run (by omega) _) (by simp only [fpHere, zo, zq] <;> exact rfl) rfl ?_
 refine dw_on (by simp only [opd, zv]) ?_
 refine dw_quiet (by simp only [zo, binD, zb, Int.reduceEq, Int.reduceToNat, Int.reduceLT, hs0, hs1, hb0, hb1, n1, n2, n3, a48, b48, c48, Int.toNat_natCast, Nat.reduceAdd, Nat.reduceSub, Nat.reduceMul, Nat.reduceLeDiff, Int.reduceToNat] <;> exact rfl) rfl rfl ?_
 refine dw_quiet (by simp only [zo, hs0, hs1, hb0, hb1, n1, n2, n3, a48, b48, c48, Int.toNat_natCast, Nat.reduceAdd, Nat.reduceSub, Nat.reduceMul, Nat.reduceLeDiff, Int.reduceToNat] <;> exact rfl) rfl rfl ?_
 refine dw_op (by simp only [zl, zm, storeD, overlay, snapVs, snaps, zs, zc, zf, List.take, List.drop, hs0, hs1, hb0, hb1, n1, n2, n3, a48, b48, c48, Int.toNat_natCast, Nat.reduceAdd, Nat.reduceSub, Nat.reduceMul, Nat.reduceLeDiff, Int.reduceToNat] <;> exact rfl) (by simp only [fpHere, zo, zq] <;> exact rfl) rfl ?_
 refine dw_ml rfl rfl ?_
 refine dw_nil ?_
 refine sk_n (by simp only [ze] <;> exact rfl) ?_
 refine cw_ret ?_
 refine ⟨_, by simp only [F164, resultD, resDs, resD, List.getD_cons_zero, List.getD_cons_succ, zd, rowsOf, partD, List.getElem?_cons_zero, List.getElem?_cons_succ, if_true, if_false, Bool.false_eq_true, List.take, List.drop, zm] <;> exact rfl, ?_⟩
 simp only [leaveP, leave, snapVs, snaps, zs, zf, zk]
 rw [UInt8.ofNat_toNat, UInt8.ofNat_toNat, UInt8.ofNat_toNat]; rfl

theorem packed_13 {d : Nat} (hd : 5 ≤ d) (S : St) (a b c : Nat) (ha : a < 10) (hb : b < 10) (hc : c < 10) (X0 X1 : UInt8) (cp : Option Nat) (hs0 : ((X0.toNat : Nat) : Int).fdiv (2 ^ (min 4 IntKind.u8.bits)) = ((a : Nat) : Int)) (hb0 : IntKind.u8.wrap (((BitVec.ofInt IntKind.u8.bits ((X0.toNat : Nat) : Int) &&& BitVec.ofInt IntKind.u8.bits 15).toNat : Nat) : Int) = ((b : Nat) : Int)) (hs1 : ((X1.toNat : Nat) : Int).fdiv (2 ^ (min 4 IntKind.u8.bits)) = ((c : Nat) : Int)) (hb1 : IntKind.u8.wrap (((BitVec.ofInt IntKind.u8.bits ((X1.toNat : Nat) : Int) &&& BitVec.ofInt IntKind.u8.bits 15).toNat : Nat) : Int) = 13) : runF LP NN d 164 [.agg [.int .u8 4, .int .u8 1, .str ⟨#[83, 57, 57, 57]⟩, .int .i64 3, .int .i64 0, .bool true, .bool false, .bool false, .bool false, .bool false, .int .i64 2], .sl 1 [[.int .u8 X0.toNat], [.int .u8 X1.toNat]] cp] S = some (.tup [.agg [.bool true, .str (mkS [dch a, dch b, dch c])], .bool true], S, false) := by
 have n1 : decide (((a : Nat) : Int) > 9) = false := decide_eq_false (by omega)
 have n2 : decide (((b : Nat) : Int) > 9) = false := decide_eq_false (by omega)
 have n3 : decide (((c : Nat) : Int) > 9) = false := decide_eq_false (by omega)
 have a48 := w48 ha
 have b48 := w48 hb
 have c48 := w48 hc
 refine run_pure (F := F164) rfl (by simp only [LP, fnOf, snapVs, snaps, zs, Bool.false_eq_true, if_false, Option.map_some, List.map_cons, List.map_nil] <;> exact rfl) rfl (by simp only [LP, zf, List.all_cons, List.all_nil, Bool.and_true, Bool.true_and]; try rfl) (by simp only [F164, zv] <;> exact rfl) (by omega) ?_
 rintro d rfl
 refine cw_seq (cw_region ?_)
 refine ow_op (by simp only [zl, zm, zc, hs0, hs1, hb0, hb1, n1, n2, n3, a48, b48, c48, Int.toNat_natCast, Nat.reduceAdd, Nat.reduceSub, Nat.reduceMul, Nat.reduceLeDiff, Int.reduceToNat] <;> exact rfl) ?_
 refine ow_op (by simp only [zl, zm, hs0, hs1, hb0, hb1, n1, n2, n3, a48, b48, c48, Int.toNat_natCast, Nat.reduceAdd, Nat.reduceSub, Nat.reduceMul, Nat.reduceLeDiff, Int.reduceToNat] <;> exact rfl) ?_
 refine ow_mc ?_
 refine ow_nil ?_
 refine sk_n (by simp only [ze] <;> exact rfl) ?_
 refine cw_seq (cw_region ?_)
 refine ow_mc ?_
 refine ow_nil ?_
 refine sk_n (by simp only [ze] <;> exact rfl) ?_
 refine cw_seq (cw_seq (cw_region ?_))
 refine ow_me rfl ?_
 refine ow_op (by simp only [zo, lenD_str, lenD_nils, lenD_sl, lenD_msl, hs0, hs1, hb0, hb1, n1, n2, n3, a48, b48, c48, Int.toNat_natCast, Nat.reduceAdd, Nat.reduceSub, Nat.reduceMul, Nat.reduceLeDiff, Int.reduceToNat] <;> exact rfl) ?_
 refine ow_mc ?_
 refine ow_nil ?_
 refine sk_n (by simp only [ze] <;> exact rfl) ?_
 refine cw_block (cw_unroll ?_)
 refine cl_step ?_
 refine cw_seq (cw_region ?_)
 refine ow_op (by simp only [zo, binD, zb, Int.reduceEq, Int.reduceToNat, Int.reduceLT, hs0, hs1, hb0, hb1, n1, n2, n3, a48, b48, c48, Int.toNat_natCast, Nat.reduceAdd, Nat.reduceSub, Nat.reduceMul, Nat.reduceLeDiff, Int.reduceToNat] <;> exact rfl) ?_
 refine ow_nil ?_
 refine sk_n (by simp only [ze] <;> exact rfl) ?_
 refine cw_seq ?_
 skip
 refine cw_true (by simp only [opd, zv, hs0, hs1, hb0, hb1, n1, n2, n3, a48, b48, c48, Int.toNat_natCast, Nat.reduceAdd, Nat.reduceSub, Nat.reduceMul, Nat.reduceLeDiff, Int.reduceToNat] <;> rfl) ?_
 refine cw_skip (sk_n rfl (cw_seq (cw_block (cw_seq (cw_region ?_)))))
 refine ow_op (by simp only [zl, zm, iaddrD_sl, iaddrD_msl, Int.toNat_natCast, Int.toNat_zero, List.getElem?_map, Option.map_some, Int.le_refl, hs0, hs1, hb0, hb1, n1, n2, n3, a48, b48, c48, Int.toNat_natCast, Nat.reduceAdd, Nat.reduceSub, Nat.reduceMul, Nat.reduceLeDiff, Int.reduceToNat] <;> exact rfl) ?_
 refine ow_op (by simp only [zl, zm, zd, partD, List.take, List.drop, hs0, hs1, hb0, hb1, n1, n2, n3, a48, b48, c48, Int.toNat_natCast, Nat.reduceAdd, Nat.reduceSub, Nat.reduceMul, Nat.reduceLeDiff, Int.reduceToNat] <;> exact rfl) ?_
 refine ow_ml rfl ?_
 refine ow_nil ?_
 refine sk_n (by simp only [ze] <;> exact rfl) ?_
 refine cw_region ?_
 refine ow_me rfl ?_
 refine ow_me rfl ?_
 refine ow_op (by simp only [zo, binD, zb, Int.reduceEq, Int.reduceToNat, Int.reduceLT, hs0, hs1, hb0, hb1, n1, n2, n3, a48, b48, c48, Int.toNat_natCast, Nat.reduceAdd, Nat.reduceSub, Nat.reduceMul, Nat.reduceLeDiff, Int.reduceToNat] <;> exact rfl) ?_
 refine ow_me rfl ?_
 refine ow_op (by simp only [zo, binD, zb, Int.reduceEq, Int.reduceToNat, Int.reduceLT, hs0, hs1, hb0, hb1, n1, n2, n3, a48, b48, c48, Int.toNat_natCast, Nat.reduceAdd, Nat.reduceSub, Nat.reduceMul, Nat.reduceLeDiff, Int.reduceToNat] <;> exact rfl) ?_
 refine ow_op (by simp only [zl, zm, fillRows, List.replicate, snapVs, snaps, zs, zc, zf, hs0, hs1, hb0, hb1, n1, n2, n3, a48, b48, c48, Int.toNat_natCast, Nat.reduceAdd, Nat.reduceSub, Nat.reduceMul, Nat.reduceLeDiff, Int.reduceToNat] <;> exact rfl) ?_
 refine ow_op (by simp only [zl, zm, appendD, appendRows, readRows_nils, readRows_sl, readRows_msl, List.isEmpty_cons, List.isEmpty_nil, reduceIte, hs0, hs1, hb0, hb1, n1, n2, n3, a48, b48, c48, Int.toNat_natCast, Nat.reduceAdd, Nat.reduceSub, Nat.reduceMul, Nat.reduceLeDiff, Int.reduceToNat] <;> exact rfl) ?_
 refine ow_ml rfl ?_
 refine ow_nil (bk_n ?_)
 refine sk_n (by simp only [ze] <;> exact rfl) ?_
 refine cw_region ?_
 refine ow_op (by simp only [zo, binD, zb, Int.reduceEq, Int.reduceToNat, Int.reduceLT, hs0, hs1, hb0, hb1, n1, n2, n3, a48, b48, c48, Int.toNat_natCast, Nat.reduceAdd, Nat.reduceSub, Nat.reduceMul, Nat.reduceLeDiff, Int.reduceToNat] <;> exact rfl) ?_
 refine ow_ml rfl ?_
 refine ow_nil ?_
 refine lu_n (by simp only [ze] <;> exact rfl) ?_
 refine cl_step ?_
 refine cw_seq (cw_region ?_)
 refine ow_op (by simp only [zo, binD, zb, Int.reduceEq, Int.reduceToNat, Int.reduceLT, hs0, hs1, hb0, hb1, n1, n2, n3, a48, b48, c48, Int.toNat_natCast, Nat.reduceAdd, Nat.reduceSub, Nat.reduceMul, Nat.reduceLeDiff, Int.reduceToNat] <;> exact rfl) ?_
 refine ow_nil ?_
 refine sk_n (by simp only [ze] <;> exact rfl) ?_
 refine cw_seq ?_
 skip
 refine cw_true (by simp only [opd, zv, hs0, hs1, hb0, hb1, n1, n2, n3, a48, b48, c48, Int.toNat_natCast, Nat.reduceAdd, Nat.reduceSub, Nat.reduceMul, Nat.reduceLeDiff, Int.reduceToNat] <;> rfl) ?_
 refine cw_skip (sk_n rfl (cw_seq (cw_block (cw_seq (cw_region ?_)))))
 refine ow_op (by simp only [zl, zm, iaddrD_sl, iaddrD_msl, Int.toNat_natCast, Int.toNat_zero, List.getElem?_map, Option.map_some, Int.le_refl, hs0, hs1, hb0, hb1, n1, n2, n3, a48, b48, c48, Int.toNat_natCast, Nat.reduceAdd, Nat.reduceSub, Nat.reduceMul, Nat.reduceLeDiff, Int.reduceToNat] <;> exact rfl) ?_
 refine ow_op (by simp only [zl, zm, zd, partD, List.take, List.drop, hs0, hs1, hb0, hb1, n1, n2, n3, a48, b48, c48, Int.toNat_natCast, Nat.reduceAdd, Nat.reduceSub, Nat.reduceMul, Nat.reduceLeDiff, Int.reduceToNat] <;> exact rfl) ?_
 refine ow_ml rfl ?_
 refine ow_nil ?_
 refine sk_n (by simp only [ze] <;> exact rfl) ?_
 refine cw_region ?_
 refine ow_me rfl ?_
 refine ow_me rfl ?_
 refine ow_op (by simp only [zo, binD, zb, Int.reduceEq, Int.reduceToNat, Int.reduceLT, hs0, hs1, hb0, hb1, n1, n2, n3, a48, b48, c48, Int.toNat_natCast, Nat.reduceAdd, Nat.reduceSub, Nat.reduceMul, Nat.reduceLeDiff, Int.reduceToNat] <;> exact rfl) ?_
 refine ow_me rfl ?_
 refine ow_op (by simp only [zo, binD, zb, Int.reduceEq, Int.reduceToNat, Int.reduceLT, hs0, hs1, hb0, hb1, n1, n2, n3, a48, b48, c48, Int.toNat_natCast, Nat.reduceAdd, Nat.reduceSub, Nat.reduceMul, Nat.reduceLeDiff, Int.reduceToNat] <;> exact rfl) ?_
 refine ow_op (by simp only [zl, zm, fillRows, List.replicate, snapVs, snaps, zs, zc, zf, hs0, hs1, hb0, hb1, n1, n2, n3, a48, b48, c48, Int.toNat_natCast, Nat.reduceAdd, Nat.reduceSub, Nat.reduceMul, Nat.reduceLeDiff, Int.reduceToNat] <;> exact rfl) ?_
 refine ow_op (by simp only [zl, zm, appendD, appendRows, readRows_nils, readRows_sl, readRows_msl, List.isEmpty_cons, List.isEmpty_nil, reduceIte, hs0, hs1, hb0, hb1, n1, n2, n3, a48, b48, c48, Int.toNat_natCast, Nat.reduceAdd, Nat.reduceSub, Nat.reduceMul, Nat.reduceLeDiff, Int.reduceToNat] <;> exact rfl) ?_
 refine ow_ml rfl ?_
 refine ow_nil (bk_n ?_)
 refine sk_n (by simp only [ze] <;> exact rfl) ?_
 refine cw_region ?_
 refine ow_op (by simp only [zo, binD, zb, Int.reduceEq, Int.reduceToNat, Int.reduceLT, hs0, hs1, hb0, hb1, n1, n2, n3, a48, b48, c48, Int.toNat_natCast, Nat.reduceAdd, Nat.reduceSub, Nat.reduceMul, Nat.reduceLeDiff, Int.reduceToNat] <;> exact rfl) ?_
 refine ow_ml rfl ?_
 refine ow_nil ?_
 refine lu_n (by simp only [ze] <;> exact rfl) ?_
 refine cl_step ?_
 refine cw_seq (cw_region ?_)
 refine ow_op (by simp only [zo, binD, zb, Int.reduceEq, Int.reduceToNat, Int.reduceLT, hs0, hs1, hb0, hb1, n1, n2, n3, a48, b48, c48, Int.toNat_natCast, Nat.reduceAdd, Nat.reduceSub, Nat.reduceMul, Nat.reduceLeDiff, Int.reduceToNat] <;> exact rfl) ?_
 refine ow_nil ?_
 refine sk_n (by simp only [ze] <;> exact rfl) ?_
 refine cw_seq ?_
 skip
 refine cw_false (by simp only [opd, zv, hs0, hs1, hb0, hb1, n1, n2, n3, a48, b48, c48, Int.toNat_natCast, Nat.reduceAdd, Nat.reduceSub, Nat.reduceMul, Nat.reduceLeDiff, Int.reduceToNat] <;> rfl) ?_
 refine cw_exit (sk_e (lu_e (bk_e (sk_n rfl (cw_seq (cw_region ?_))))))
 refine ow_me rfl ?_
 refine ow_me rfl ?_
 refine ow_op (by simp only [zo, lenD_str, lenD_nils, lenD_sl, lenD_msl, hs0, hs1, hb0, hb1, n1, n2, n3, a48, b48, c48, Int.toNat_natCast, Nat.reduceAdd, Nat.reduceSub, Nat.reduceMul, Nat.reduceLeDiff, Int.reduceToNat] <;> exact rfl) ?_
 refine ow_op (by simp only [zo, binD, zb, Int.reduceEq, Int.reduceToNat, Int.reduceLT, hs0, hs1, hb0, hb1, n1, n2, n3, a48, b48, c48, Int.toNat_natCast, Nat.reduceAdd, Nat.reduceSub, Nat.reduceMul, Nat.reduceLeDiff, Int.reduceToNat] <;> exact rfl) ?_
 refine ow_op (by simp only [zl, zm, iaddrD_sl, iaddrD_msl, Int.toNat_natCast, Int.toNat_zero, List.getElem?_map, Option.map_some, Int.le_refl, hs0, hs1, hb0, hb1, n1, n2, n3, a48, b48, c48, Int.toNat_natCast, Nat.reduceAdd, Nat.reduceSub, Nat.reduceMul, Nat.reduceLeDiff, Int.reduceToNat] <;> exact rfl) ?_
 refine ow_op (by simp only [zl, zm, zd, partD, List.take, List.drop, hs0, hs1, hb0, hb1, n1, n2, n3, a48, b48, c48, Int.toNat_natCast, Nat.reduceAdd, Nat.reduceSub, Nat.reduceMul, Nat.reduceLeDiff, Int.reduceToNat] <;> exact rfl) ?_
 refine ow_ml rfl ?_
 refine ow_nil ?_
 refine sk_n (by simp only [ze] <;> exact rfl) ?_
 refine cw_seq (cw_region ?_)
 refine ow_me rfl ?_
 refine ow_me rfl ?_
 refine ow_op (by simp only [zo, lenD_str, lenD_nils, lenD_sl, lenD_msl, hs0, hs1, hb0, hb1, n1, n2, n3, a48, b48, c48, Int.toNat_natCast, Nat.reduceAdd, Nat.reduceSub, Nat.reduceMul, Nat.reduceLeDiff, Int.reduceToNat] <;> exact rfl) ?_
 refine ow_op (by simp only [zo, binD, zb, Int.reduceEq, Int.reduceToNat, Int.reduceLT, hs0, hs1, hb0, hb1, n1, n2, n3, a48, b48, c48, Int.toNat_natCast, Nat.reduceAdd, Nat.reduceSub, Nat.reduceMul, Nat.reduceLeDiff, Int.reduceToNat] <;> exact rfl) ?_
 refine ow_op (by simp only [zl, zm, sliceArgs, sliceD, boundsAt, boundsD, natOr, natOf, hs0, hs1, hb0, hb1, n1, n2, n3, a48, b48, c48, Int.toNat_natCast, Nat.reduceAdd, Nat.reduceSub, Nat.reduceMul, Nat.reduceLeDiff, Int.reduceToNat] <;> exact rfl) ?_
 refine ow_ml rfl ?_
 refine ow_nil ?_
 refine sk_n (by simp only [ze] <;> exact rfl) ?_
 refine cw_seq (cw_seq (cw_region ?_))
 refine ow_me rfl ?_
 refine ow_op (by simp only [zo, lenD_str, lenD_nils, lenD_sl, lenD_msl, hs0, hs1, hb0, hb1, n1, n2, n3, a48, b48, c48, Int.toNat_natCast, Nat.reduceAdd, Nat.reduceSub, Nat.reduceMul, Nat.reduceLeDiff, Int.reduceToNat] <;> exact rfl) ?_
 refine ow_mc ?_
 refine ow_nil ?_
 refine sk_n (by simp only [ze] <;> exact rfl) ?_
 refine cw_block (cw_unroll ?_)
 refine cl_step ?_
 refine cw_seq (cw_region ?_)
 refine ow_op (by simp only [zo, binD, zb, Int.reduceEq, Int.reduceToNat, Int.reduceLT, hs0, hs1, hb0, hb1, n1, n2, n3, a48, b48, c48, Int.toNat_natCast, Nat.reduceAdd, Nat.reduceSub, Nat.reduceMul, Nat.reduceLeDiff, Int.reduceToNat] <;> exact rfl) ?_
 refine ow_nil ?_
 refine sk_n (by simp only [ze] <;> exact rfl) ?_
 refine cw_seq ?_
 skip
 refine cw_true (by simp only [opd, zv, hs0, hs1, hb0, hb1, n1, n2, n3, a48, b48, c48, Int.toNat_natCast, Nat.reduceAdd, Nat.reduceSub, Nat.reduceMul, Nat.reduceLeDiff, Int.reduceToNat] <;> rfl) ?_
 refine cw_skip (sk_n rfl (cw_seq (cw_block (cw_seq (cw_region ?_)))))
 refine ow_me rfl ?_
 refine ow_ml rfl ?_
 refine ow_nil ?_
 refine sk_n (by simp only [ze] <;> exact rfl) ?_
 refine cw_seq (cw_seq (cw_region ?_))
 refine ow_me rfl ?_
 refine ow_me rfl ?_
 refine ow_op (by simp only [zl, zm, iaddrD_sl, iaddrD_msl, Int.toNat_natCast, Int.toNat_zero, List.getElem?_map, Option.map_some, Int.le_refl, hs0, hs1, hb0, hb1, n1, n2, n3, a48, b48, c48, Int.toNat_natCast, Nat.reduceAdd, Nat.reduceSub, Nat.reduceMul, Nat.reduceLeDiff, Int.reduceToNat] <;> exact rfl) ?_
 refine ow_op (by simp only [zl, zm, zd, partD, List.take, List.drop, hs0, hs1, hb0, hb1, n1, n2, n3, a48, b48, c48, Int.toNat_natCast, Nat.reduceAdd, Nat.reduceSub, Nat.reduceMul, Nat.reduceLeDiff, Int.reduceToNat] <;> exact rfl) ?_
 refine ow_op (by simp only [zo, binD, zb, Int.reduceEq, Int.reduceToNat, Int.reduceLT, hs0, hs1, hb0, hb1, n1, n2, n3, a48, b48, c48, Int.toNat_natCast, Nat.reduceAdd, Nat.reduceSub, Nat.reduceMul, Nat.reduceLeDiff, Int.reduceToNat] <;> exact rfl) ?_
 refine ow_nil ?_
 refine sk_n (by simp only [ze] <;> exact rfl) ?_
 skip
 refine cw_false (by simp only [opd, zv, hs0, hs1, hb0, hb1, n1, n2, n3, a48, b48, c48, Int.toNat_natCast, Nat.reduceAdd, Nat.reduceSub, Nat.reduceMul, Nat.reduceLeDiff, Int.reduceToNat] <;> rfl) ?_
 refine cw_skip (sk_n rfl (cw_region ?_))
 refine ow_me rfl ?_
 refine ow_me rfl ?_
 refine ow_op (by simp only [zl, zm, iaddrD_sl, iaddrD_msl, Int.toNat_natCast, Int.toNat_zero, List.getElem?_map, Option.map_some, Int.le_refl, hs0, hs1, hb0, hb1, n1, n2, n3, a48, b48, c48, Int.toNat_natCast, Nat.reduceAdd, Nat.reduceSub, Nat.reduceMul, Nat.reduceLeDiff, Int.reduceToNat] <;> exact rfl) ?_
 refine ow_op (by simp only [zl, zm, zd, partD, List.take, List.drop, hs0, hs1, hb0, hb1, n1, n2, n3, a48, b48, c48, Int.toNat_natCast, Nat.reduceAdd, Nat.reduceSub, Nat.reduceMul, Nat.reduceLeDiff, Int.reduceToNat] <;> exact rfl) ?_
 refine ow_op (by simp only [zo, binD, zb, Int.reduceEq, Int.reduceToNat, Int.reduceLT, hs0, hs1, hb0, hb1, n1, n2, n3, a48, b48, c48, Int.toNat_natCast, Nat.reduceAdd, Nat.reduceSub, Nat.reduceMul, Nat.reduceLeDiff, Int.reduceToNat] <;> exact rfl) ?_
 refine ow_op (by simp only [zl, zm, iaddrD_sl, iaddrD_msl, Int.toNat_natCast, Int.toNat_zero, List.getElem?_map, Option.map_some, Int.le_refl, hs0, hs1, hb0, hb1, n1, n2, n3, a48, b48, c48, Int.toNat_natCast, Nat.reduceAdd, Nat.reduceSub, Nat.reduceMul, Nat.reduceLeDiff, Int.reduceToNat] <;> exact rfl) ?_
 refine ow_op (by simp only [zl, zm, storeD, overlay, snapVs, snaps, zs, zc, zf, List.take, List.drop, hs0, hs1, hb0, hb1, n1, n2, n3, a48, b48, c48, Int.toNat_natCast, Nat.reduceAdd, Nat.reduceSub, Nat.reduceMul, Nat.reduceLeDiff, Int.reduceToNat] <;> exact rfl) ?_
 refine ow_nil (bk_n ?_)
 refine sk_n (by simp only [ze] <;> exact rfl) ?_
 refine cw_region ?_
 refine ow_op (by simp only [zo, binD, zb, Int.reduceEq, Int.reduceToNat, Int.reduceLT, hs0, hs1, hb0, hb1, n1, n2, n3, a48, b48, c48, Int.toNat_natCast, Nat.reduceAdd, Nat.reduceSub, Nat.reduceMul, Nat.reduceLeDiff, Int.reduceToNat] <;> exact rfl) ?_
 refine ow_ml rfl ?_
 refine ow_nil ?_
 refine lu_n (by simp only [ze] <;> exact rfl) ?_
 refine cl_step ?_
 refine cw_seq (cw_region ?_)
 refine ow_op (by simp only [zo, binD, zb, Int.reduceEq, Int.reduceToNat, Int.reduceLT, hs0, hs1, hb0, hb1, n1, n2, n3, a48, b48, c48, Int.toNat_natCast, Nat.reduceAdd, Nat.reduceSub, Nat.reduceMul, Nat.reduceLeDiff, Int.reduceToNat] <;> exact rfl) ?_
 refine ow_nil ?_
 refine sk_n (by simp only [ze] <;> exact rfl) ?_
 refine cw_seq ?_
 skip
 refine cw_true (by simp only [opd, zv, hs0, hs1, hb0, hb1, n1, n2, n3, a48, b48, c48, Int.toNat_natCast, Nat.reduceAdd, Nat.reduceSub, Nat.reduceMul, Nat.reduceLeDiff, Int.reduceToNat] <;> rfl) ?_
 refine cw_skip (sk_n rfl (cw_seq (cw_block (cw_seq (cw_region ?_)))))
 refine ow_me rfl ?_
 refine ow_ml rfl ?_
 refine ow_nil ?_
 refine sk_n (by simp only [ze] <;> exact rfl) ?_
 refine cw_seq (cw_seq (cw_region ?_))
 refine ow_me rfl ?_
 refine ow_me rfl ?_
 refine ow_op (by simp only [zl, zm, iaddrD_sl, iaddrD_msl, Int.toNat_natCast, Int.toNat_zero, List.getElem?_map, Option.map_some, Int.le_refl, hs0, hs1, hb0, hb1, n1, n2, n3, a48, b48, c48, Int.toNat_natCast, Nat.reduceAdd, Nat.reduceSub, Nat.reduceMul, Nat.reduceLeDiff, Int.reduceToNat] <;> exact rfl) ?_
 refine ow_op (by simp only [zl, zm, zd, partD, List.take, List.drop, hs0, hs1, hb0, hb1, n1, n2, n3, a48, b48, c48, Int.toNat_natCast, Nat.reduceAdd, Nat.reduceSub, Nat.reduceMul, Nat.reduceLeDiff, Int.reduceToNat] <;> exact rfl) ?_
 refine ow_op (by simp only [zo, binD, zb, Int.reduceEq, Int.reduceToNat, Int.reduceLT, hs0, hs1, hb0, hb1, n1, n2, n3, a48, b48, c48, Int.toNat_natCast, Nat.reduceAdd, Nat.reduceSub, Nat.reduceMul, Nat.reduceLeDiff, Int.reduceToNat] <;> exact rfl) ?_
 refine ow_nil ?_
 refine sk_n (by simp only [ze] <;> exact rfl) ?_
 skip
 refine cw_false (by simp only [opd, zv, hs0, hs1, hb0, hb1, n1, n2, n3, a48, b48, c48, Int.toNat_natCast, Nat.reduceAdd, Nat.reduceSub, Nat.reduceMul, Nat.reduceLeDiff, Int.reduceToNat] <;> rfl) ?_
 refine cw_skip (sk_n rfl (cw_region ?_))
 refine ow_me rfl ?_
 refine ow_me rfl ?_
 refine ow_op (by simp only [zl, zm, iaddrD_sl, iaddrD_msl, Int.toNat_natCast, Int.toNat_zero, List.getElem?_map, Option.map_some, Int.le_refl, hs0, hs1, hb0, hb1, n1, n2, n3, a48, b48, c48, Int.toNat_natCast, Nat.reduceAdd, Nat.reduceSub, Nat.reduceMul, Nat.reduceLeDiff, Int.reduceToNat] <;> exact rfl) ?_
 refine ow_op (by simp only [zl, zm, zd, partD, List.take, List.drop, hs0, hs1, hb0, hb1, n1, n2, n3, a48, b48, c48, Int.toNat_natCast, Nat.reduceAdd, Nat.reduceSub, Nat.reduceMul, Nat.reduceLeDiff, Int.reduceToNat] <;> exact rfl) ?_
 refine ow_op (by simp only [zo, binD, zb, Int.reduceEq, Int.reduceToNat, Int.reduceLT, hs0, hs1, hb0, hb1, n1, n2, n3, a48, b48, c48, Int.toNat_natCast, Nat.reduceAdd, Nat.reduceSub, Nat.reduceMul, Nat.reduceLeDiff, Int.reduceToNat] <;> exact rfl) ?_
 refine ow_op (by simp only [zl, zm, iaddrD_sl, iaddrD_msl, Int.toNat_natCast, Int.toNat_zero, List.getElem?_map, Option.map_some, Int.le_refl, hs0, hs1, hb0, hb1, n1, n2, n3, a48, b48, c48, Int.toNat_natCast, Nat.reduceAdd, Nat.reduceSub, Nat.reduceMul, Nat.reduceLeDiff, Int.reduceToNat] <;> exact rfl) ?_
 refine ow_op (by simp only [zl, zm, storeD, overlay, snapVs, snaps, zs, zc, zf, List.take, List.drop, hs0, hs1, hb0, hb1, n1, n2, n3, a48, b48, c48, Int.toNat_natCast, Nat.reduceAdd, Nat.reduceSub, Nat.reduceMul, Nat.reduceLeDiff, Int.reduceToNat] <;> exact rfl) ?_
 refine ow_nil (bk_n ?_)
 refine sk_n (by simp only [ze] <;> exact rfl) ?_
 refine cw_region ?_
 refine ow_op (by simp only [zo, binD, zb, Int.reduceEq, Int.reduceToNat, Int.reduceLT, hs0, hs1, hb0, hb1, n1, n2, n3, a48, b48, c48, Int.toNat_natCast, Nat.reduceAdd, Nat.reduceSub, Nat.reduceMul, Nat.reduceLeDiff, Int.reduceToNat] <;> exact rfl) ?_
 refine ow_ml rfl ?_
 refine ow_nil ?_
 refine lu_n (by simp only [ze] <;> exact rfl) ?_
 refine cl_step ?_
 refine cw_seq (cw_region ?_)
 refine ow_op (by simp only [zo, binD, zb, Int.reduceEq, Int.reduceToNat, Int.reduceLT, hs0, hs1, hb0, hb1, n1, n2, n3, a48, b48, c48, Int.toNat_natCast, Nat.reduceAdd, Nat.reduceSub, Nat.reduceMul, Nat.reduceLeDiff, Int.reduceToNat] <;> exact rfl) ?_
 refine ow_nil ?_
 refine sk_n (by simp only [ze] <;> exact rfl) ?_
 refine cw_seq ?_
 skip
 refine cw_true (by simp only [opd, zv, hs0, hs1, hb0, hb1, n1, n2, n3, a48, b48, c48, Int.toNat_natCast, Nat.reduceAdd, Nat.reduceSub, Nat.reduceMul, Nat.reduceLeDiff, Int.reduceToNat] <;> rfl) ?_
 refine cw_skip (sk_n rfl (cw_seq (cw_block (cw_seq (cw_region ?_)))))
 refine ow_me rfl ?_
 refine ow_ml rfl ?_
 refine ow_nil ?_
 refine sk_n (by simp only [ze] <;> exact rfl) ?_
 refine cw_seq (cw_seq (cw_region ?_))
 refine ow_me rfl ?_
 refine ow_me rfl ?_
 refine ow_op (by simp only [zl, zm, iaddrD_sl, iaddrD_msl, Int.toNat_natCast, Int.toNat_zero, List.getElem?_map, Option.map_some, Int.le_refl, hs0, hs1, hb0, hb1, n1, n2, n3, a48, b48, c48, Int.toNat_natCast, Nat.reduceAdd, Nat.reduceSub, Nat.reduceMul, Nat.reduceLeDiff, Int.reduceToNat] <;> exact rfl) ?_
 refine ow_op (by simp only [zl, zm, zd, partD, List.take, List.drop, hs0, hs1, hb0, hb1, n1, n2, n3, a48, b48, c48, Int.toNat_natCast, Nat.reduceAdd, Nat.reduceSub, Nat.reduceMul, Nat.reduceLeDiff, Int.reduceToNat] <;> exact rfl) ?_
 refine ow_op (by simp only [zo, binD, zb, Int.reduceEq, Int.reduceToNat, Int.reduceLT, hs0, hs1, hb0, hb1, n1, n2, n3, a48, b48, c48, Int.toNat_natCast, Nat.reduceAdd, Nat.reduceSub, Nat.reduceMul, Nat.reduceLeDiff, Int.reduceToNat] <;> exact rfl) ?_
 refine ow_nil ?_
 refine sk_n (by simp only [ze] <;> exact rfl) ?_
 skip
 refine cw_false (by simp only [opd, zv, hs0, hs1, hb0, hb1, n1, n2, n3, a48, b48, c48, Int.toNat_natCast, Nat.reduceAdd, Nat.reduceSub, Nat.reduceMul, Nat.reduceLeDiff, Int.reduceToNat] <;> rfl) ?_
 refine cw_skip (sk_n rfl (cw_region ?_))
 refine ow_me rfl ?_
 refine ow_me rfl ?_
 refine ow_op (by simp only [zl, zm, iaddrD_sl, iaddrD_msl, Int.toNat_natCast, Int.toNat_zero, List.getElem?_map, Option.map_some, Int.le_refl, hs0, hs1, hb0, hb1, n1, n2, n3, a48, b48, c48, Int.toNat_natCast, Nat.reduceAdd, Nat.reduceSub, Nat.reduceMul, Nat.reduceLeDiff, Int.reduceToNat] <;> exact rfl) ?_
 refine ow_op (by simp only [zl, zm, zd, partD, List.take, List.drop, hs0, hs1, hb0, hb1, n1, n2, n3, a48, b48, c48, Int.toNat_natCast, Nat.reduceAdd, Nat.reduceSub, Nat.reduceMul, Nat.reduceLeDiff, Int.reduceToNat] <;> exact rfl) ?_
 refine ow_op (by simp only [zo, binD, zb, Int.reduceEq, Int.reduceToNat, Int.reduceLT, hs0, hs1, hb0, hb1, n1, n2, n3, a48, b48, c48, Int.toNat_natCast, Nat.reduceAdd, Nat.reduceSub, Nat.reduceMul, Nat.reduceLeDiff, Int.reduceToNat] <;> exact rfl) ?_
 refine ow_op (by simp only [zl, zm, iaddrD_sl, iaddrD_msl, Int.toNat_natCast, Int.toNat_zero, List.getElem?_map, Option.map_some, Int.le_refl, hs0, hs1, hb0, hb1, n1, n2, n3, a48, b48, c48, Int.toNat_natCast, Nat.reduceAdd, Nat.reduceSub, Nat.reduceMul, Nat.reduceLeDiff, Int.reduceToNat] <;> exact rfl) ?_
 refine ow_op (by simp only [zl, zm, storeD, overlay, snapVs, snaps, zs, zc, zf, List.take, List.drop, hs0, hs1, hb0, hb1, n1, n2, n3, a48, b48, c48, Int.toNat_natCast, Nat.reduceAdd, Nat.reduceSub, Nat.reduceMul, Nat.reduceLeDiff, Int.reduceToNat] <;> exact rfl) ?_
 refine ow_nil (bk_n ?_)
 refine sk_n (by simp only [ze] <;> exact rfl) ?_
 refine cw_region ?_
 refine ow_op (by simp only [zo, binD, zb, Int.reduceEq, Int.reduceToNat, Int.reduceLT, hs0, hs1, hb0, hb1, n1, n2, n3, a48, b48, c48, Int.toNat_natCast, Nat.reduceAdd, Nat.reduceSub, Nat.reduceMul, Nat.reduceLeDiff, Int.reduceToNat] <;> exact rfl) ?_
 refine ow_ml rfl ?_
 refine ow_nil ?_
 refine lu_n (by simp only [ze] <;> exact rfl) ?_
 refine cl_step ?_
 refine cw_seq (cw_region ?_)
 refine ow_op (by simp only [zo, binD, zb, Int.reduceEq, Int.reduceToNat, Int.reduceLT, hs0, hs1, hb0, hb1, n1, n2, n3, a48, b48, c48, Int.toNat_natCast, Nat.reduceAdd, Nat.reduceSub, Nat.reduceMul, Nat.reduceLeDiff, Int.reduceToNat] <;> exact rfl) ?_
 refine ow_nil ?_
 refine sk_n (by simp only [ze] <;> exact rfl) ?_
 refine cw_seq ?_
 skip
 refine cw_false (by simp only [opd, zv, hs0, hs1, hb0, hb1, n1, n2, n3, a48, b48, c48, Int.toNat_natCast, Nat.reduceAdd, Nat.reduceSub, Nat.reduceMul, Nat.reduceLeDiff, Int.reduceToNat] <;> rfl) ?_
 refine cw_exit (sk_e (lu_e (bk_e (sk_n rfl (cw_seq (cw_region ?_))))))
 refine ow_me rfl ?_
 refine ow_op (by simp only [zo, binD, zb, Int.reduceEq, Int.reduceToNat, Int.reduceLT, hs0, hs1, hb0, hb1, n1, n2, n3, a48, b48, c48, Int.toNat_natCast, Nat.reduceAdd, Nat.reduceSub, Nat.reduceMul, Nat.reduceLeDiff, Int.reduceToNat] <;> exact rfl) ?_
 refine ow_ml rfl ?_
 refine ow_nil ?_
 refine sk_n (by simp only [ze] <;> exact rfl) ?_
 refine cw_seq (cw_seq (cw_region ?_))
 refine ow_op (by simp only [zo, faddrD_ptr, faddrD_cptr, zm, hs0, hs1, hb0, hb1, n1, n2, n3, a48, b48, c48, Int.toNat_natCast, Nat.reduceAdd, Nat.reduceSub, Nat.reduceMul, Nat.reduceLeDiff, Int.reduceToNat] <;> exact rfl) ?_
 refine ow_op (by simp only [zl, zm, zd, partD, List.take, List.drop, hs0, hs1, hb0, hb1, n1, n2, n3, a48, b48, c48, Int.toNat_natCast, Nat.reduceAdd, Nat.reduceSub, Nat.reduceMul, Nat.reduceLeDiff, Int.reduceToNat] <;> exact rfl) ?_
 refine ow_nil ?_
 refine sk_n (by simp only [ze] <;> exact rfl) ?_
 skip
 refine cw_true (by simp only [opd, zv, hs0, hs1, hb0, hb1, n1, n2, n3, a48, b48, c48, Int.toNat_natCast, Nat.reduceAdd, Nat.reduceSub, Nat.reduceMul, Nat.reduceLeDiff, Int.reduceToNat] <;> rfl) ?_
 refine cw_region ?_
 refine ow_me rfl ?_
 refine ow_op (by simp only [zo, binD, zb, Int.reduceEq, Int.reduceToNat, Int.reduceLT, hs0, hs1, hb0, hb1, n1, n2, n3, a48, b48, c48, Int.toNat_natCast, Nat.reduceAdd, Nat.reduceSub, Nat.reduceMul, Nat.reduceLeDiff, Int.reduceToNat] <;> exact rfl) ?_
 refine ow_ml rfl ?_
 refine ow_know 0 (b := false) (by simp only [opd, zv, hs0, hs1, hb0, hb1, n1, n2, n3, a48, b48, c48, Int.toNat_natCast, Nat.reduceAdd, Nat.reduceSub, Nat.reduceMul, Nat.reduceLeDiff, Int.reduceToNat] <;> rfl) (by simp only [zn] <;> exact rfl) ?_
 refine ow_on (by simp only [opd, zv]) ?_
 refine ow_me rfl ?_
 refine ow_on (by simp only [opd, zv]) ?_
 refine ow_op (by simp only [zo, binD, zb, Int.reduceEq, Int.reduceToNat, Int.reduceLT, hs0, hs1, hb0, hb1, n1, n2, n3, a48, b48, c48, Int.toNat_natCast, Nat.reduceAdd, Nat.reduceSub, Nat.reduceMul, Nat.reduceLeDiff, Int.reduceToNat] <;> exact rfl) ?_
 refine ow_op (by simp only [zo, hs0, hs1, hb0, hb1, n1, n2, n3, a48, b48, c48, Int.toNat_natCast, Nat.reduceAdd, Nat.reduceSub, Nat.reduceMul, Nat.reduceLeDiff, Int.reduceToNat] <;> exact rfl) ?_
 refine ow_ml rfl ?_
 refine ow_nil ?_
 refine sk_n (by simp only [ze] <;> exact rfl) ?_
 refine cw_seq (cw_region ?_)
 refine ow_me rfl ?_
 refine ow_op (by simp only [zo, lenD_str, lenD_nils, lenD_sl, lenD_msl, hs0, hs1, hb0, hb1, n1, n2, n3, a48, b48, c48, Int.toNat_natCast, Nat.reduceAdd, Nat.reduceSub, Nat.reduceMul, Nat.reduceLeDiff, Int.reduceToNat] <;> exact rfl) ?_
 refine ow_op (by simp only [zo, faddrD_ptr, faddrD_cptr, zm, hs0, hs1, hb0, hb1, n1, n2, n3, a48, b48, c48, Int.toNat_natCast, Nat.reduceAdd, Nat.reduceSub, Nat.reduceMul, Nat.reduceLeDiff, Int.reduceToNat] <;> exact rfl) ?_
 refine ow_op (by simp only [zl, zm, zd, partD, List.take, List.drop, hs0, hs1, hb0, hb1, n1, n2, n3, a48, b48, c48, Int.toNat_natCast, Nat.reduceAdd, Nat.reduceSub, Nat.reduceMul, Nat.reduceLeDiff, Int.reduceToNat] <;> exact rfl) ?_
 refine ow_op (by simp only [zo, binD, zb, Int.reduceEq, Int.reduceToNat, Int.reduceLT, hs0, hs1, hb0, hb1, n1, n2, n3, a48, b48, c48, Int.toNat_natCast, Nat.reduceAdd, Nat.reduceSub, Nat.reduceMul, Nat.reduceLeDiff, Int.reduceToNat] <;> exact rfl) ?_
 refine ow_ml rfl ?_
 refine ow_nil ?_
 refine sk_n (by simp only [ze] <;> exact rfl) ?_
 refine cw_seq ?_
 refine cw_drawn (by simp only [newsVals, zw, Nat.reduceAdd] <;> exact rfl) (by simp only [zw, newsObj, St.eta] <;> exact rfl) ?_
 refine dw_me rfl rfl ?_
 refine dw_quiet (by simp only [zo, binD, zb, Int.reduceEq, Int.reduceToNat, Int.reduceLT, hs0, hs1, hb0, hb1, n1, n2, n3, a48, b48, c48, Int.toNat_natCast, Nat.reduceAdd, Nat.reduceSub, Nat.reduceMul, Nat.reduceLeDiff, Int.reduceToNat] <;> exact rfl) rfl rfl ?_
 refine dw_me rfl rfl ?_
 refine dw_me rfl rfl ?_
 refine dw_op (by simp only [zl, zm, sliceArgs, sliceD, boundsAt, boundsD, natOr, natOf, hs0, hs1, hb0, hb1, n1, n2, n3, a48, b48, c48, Int.toNat_natCast, Nat.reduceAdd, Nat.reduceSub, Nat.reduceMul, Nat.reduceLeDiff, Int.reduceToNat] <;> exact rfl) (by simp only [fpHere, zo, zq] <;> exact rfl) rfl ?_
 refine dw_op (by simp only [zl, zm, readRows_nils, readRows_sl, readRows_msl, hs0, hs1, hb0, hb1, n1, n2, n3, a48, b48, c48, Int.toNat_natCast, Nat.reduceAdd, Nat.reduceSub, Nat.reduceMul, Nat.reduceLeDiff, Int.reduceToNat] <;> exact rfl) (by simp only [fpHere, zo, zq] <;> exact rfl) rfl ?_
 refine dw_quiet (by simp only [zo, fillD, overlay, zc, List.take, List.drop, Nat.reduceAdd, Nat.reduceLeDiff, Nat.reduceBEq, zm, hs0, hs1, hb0, hb1, n1, n2, n3, a48, b48, c48, Int.toNat_natCast, Nat.reduceAdd, Nat.reduceSub, Nat.reduceMul, Nat.reduceLeDiff, Int.reduceToNat] <;> exact rfl) rfl rfl ?_
 refine dw_me rfl rfl ?_
 refine dw_ml rfl rfl ?_
 refine dw_know 0 (b := true) (by simp only [opd, zv, hs0, hs1, hb0, hb1, n1, n2, n3, a48, b48, c48, Int.toNat_natCast, Nat.reduceAdd, Nat.reduceSub, Nat.reduceMul, Nat.reduceLeDiff, Int.reduceToNat] <;> rfl) (by simp only [zn] <;> exact rfl) ?_
 refine dw_on (by simp only [opd, zv]) ?_
 refine dw_me rfl rfl ?_
 refine dw_on (by simp only [opd, zv]) ?_
 refine dw_me rfl rfl ?_
 refine dw_on (by simp only [opd, zv]) ?_
 refine dw_op (by simp only [zl, zm, sliceArgs, sliceD, boundsAt, boundsD, natOr, natOf, hs0, hs1, hb0, hb1, n1, n2, n3, a48, b48, c48, Int.toNat_natCast, Nat.reduceAdd, Nat.reduceSub, Nat.reduceMul, Nat.reduceLeDiff, Int.reduceToNat] <;> exact rfl) (by simp only [fpHere, zo, zq] <;> exact rfl) rfl ?_
 refine dw_on (by simp only [opd, zv]) ?_
 refine dw_op (by simp only [zl, zm, readRows_nils, readRows_sl, readRows_msl, hs0, hs1, hb0, hb1, n1, n2, n3, a48, b48, c48, Int.toNat_natCast, Nat.reduceAdd, Nat.reduceSub, Nat.reduceMul, Nat.reduceLeDiff, Int.reduceToNat] <;> exact rfl) (by simp only [fpHere, zo, zq] <;> exact rfl) rfl ?_
 refine dw_on (by simp only [opd, zv]) ?_
 refine dw_op (by simp only [zo, hs0, hs1, hb0, hb1, n1, n2, n3, a48, b48, c48, Int.toNat_natCast, Nat.reduceAdd, Nat.reduceSub, Nat.reduceMul, Nat.reduceLeDiff, Int.reduceToNat]; exact trim0_run (by omega) _) (by simp only [fpHere, zo, zq] <;> exact rfl) rfl ?_
 refine dw_on (by simp only [opd, zv]) ?_
 refine dw_quiet (by simp only [zo, binD, zb, Int.reduceEq, Int.reduceToNat, Int.reduceLT, hs0, hs1, hb0, hb1, n1, n2, n3, a48, b48, c48, Int.toNat_natCast, Nat.reduceAdd, Nat.reduceSub, Nat.reduceMul, Nat.reduceLeDiff, Int.reduceToNat] <;> exact rfl) rfl rfl ?_
 refine dw_quiet (by simp only [zo, hs0, hs1, hb0, hb1, n1, n2, n3, a48, b48, c48, Int.toNat_natCast, Nat.reduceAdd, Nat.reduceSub, Nat.reduceMul, Nat.reduceLeDiff, Int.reduceToNat] <;> exact rfl) rfl rfl ?_
 refine dw_op (by simp only [zl, zm, storeD, overlay, snapVs, snaps, zs, zc, zf, List.take, List.drop, hs0, hs1, hb0, hb1, n1, n2, n3, a48, b48, c48, Int.toNat_natCast, Nat.reduceAdd, Nat.reduceSub, Nat.reduceMul, Nat.reduceLeDiff, Int.reduceToNat] <;> exact rfl) (by simp only [fpHere, zo, zq] <;> exact rfl) rfl ?_
 refine dw_ml rfl rfl ?_
 refine dw_nil ?_
 refine sk_n (by simp only [ze] <;> exact rfl) ?_
 refine cw_ret ?_
 refine ⟨_, by simp only [F164, resultD, resDs, resD, List.getD_cons_zero, List.getD_cons_succ, zd, rowsOf, partD, List.getElem?_cons_zero, List.getElem?_cons_succ, if_true, if_false, Bool.false_eq_true, List.take, List.drop, zm] <;> exact rfl, ?_⟩
 simp only [leaveP, leave, snapVs, snaps, zs, zf, zk]
 rw [UInt8.ofNat_toNat, UInt8.ofNat_toNat, UInt8.ofNat_toNat]; rfl

end Go.Proofs.YtabgobmeibjeeaaGreatDoor

namespace Go.Proofs.YtabgobmeibjeeaaGreatDoor
set_option linter.unusedVariables false
set_option linter.unusedSimpArgs false

theorem u64w (n : Nat) (h : n < 18446744073709551616) : IntKind.u64.wrap ((n : Nat) : Int) = ((n : Nat) : Int) := by
  simp only [IntKind.wrap, IntKind.signed, IntKind.bits, Bool.false_and, Bool.false_eq_true, if_false]; omega
theorem bor_w (w p q : Nat) (hw : w = 64) (hq : q < 256) (hp : p < 65536) : (BitVec.ofInt w ((p * 256 : Nat) : Int) ||| BitVec.ofInt w ((q : Nat) : Int)).toNat = p * 256 + q := by
  subst hw
  rw [BitVec.ofInt_natCast, BitVec.ofInt_natCast, BitVec.toNat_or, BitVec.toNat_ofNat, BitVec.toNat_ofNat, Nat.mod_eq_of_lt (by omega), Nat.mod_eq_of_lt (by omega)]
  have := Nat.shiftLeft_add_eq_or_of_lt (i := 8) (show q < 2 ^ 8 by omega) p
  rw [Nat.shiftLeft_eq] at this
  exact this.symm
theorem band_w (w n : Nat) (hw : w = 64) (h : n < 18446744073709551616) : (BitVec.ofInt w ((n : Nat) : Int) &&& BitVec.ofInt w ((65535 : Nat) : Int)).toNat = n % 65536 := by
  subst hw
  rw [BitVec.ofInt_natCast, BitVec.ofInt_natCast, BitVec.toNat_and, BitVec.toNat_ofNat, BitVec.toNat_ofNat, Nat.mod_eq_of_lt (by omega), Nat.mod_eq_of_lt (by omega)]
  exact Nat.and_two_pow_sub_one_eq_mod n 16
theorem bor (p q : Nat) (hq : q < 256) (hp : p < 65536) : IntKind.u64.wrap (((BitVec.ofInt IntKind.u64.bits ((p * 256 : Nat) : Int) ||| BitVec.ofInt IntKind.u64.bits ((q : Nat) : Int)).toNat : Nat) : Int) = ((p * 256 + q : Nat) : Int) := by
  rw [bor_w IntKind.u64.bits p q rfl hq hp, u64w _ (by omega)]
theorem band (n : Nat) (h : n < 18446744073709551616) : IntKind.u64.wrap (((BitVec.ofInt IntKind.u64.bits ((n : Nat) : Int) &&& BitVec.ofInt IntKind.u64.bits ((65535 : Nat) : Int)).toNat : Nat) : Int) = ((n % 65536 : Nat) : Int) := by
  rw [band_w IntKind.u64.bits n rfl h, u64w _ (by omega)]
theorem str_midU (z : Nat) (l : List UInt8) (a b : Nat) (h : a ≤ b) (h' : b ≤ l.length) : pop (.slice true z true true false) [.str (mkS l), .int .u64 (a : Nat), .int .u64 (b : Nat)] = some (.str (mkS ((l.drop a).take (b - a)))) := by
  simp only [pop, sliceArgs, boundsD, natOr, natOf, mkS_size]
  rw [if_pos (by omega), if_pos (by omega)]
  simp only [Int.toNat_natCast]
  rw [if_pos ⟨h, h'⟩]
  simp only [Option.map_some, mkS_extract]
end Go.Proofs.YtabgobmeibjeeaaGreatDoor

namespace Go.Proofs.YtabgobmeibjeeaaGreatDoor
set_option linter.unusedSimpArgs false
set_option linter.unusedVariables false
set_option maxRecDepth 10000
set_option maxHeartbeats 4000000

theorem binary_false {d : Nat} (hd : 1 ≤ d) (S : St) (M : Nat) (X0 X1 : UInt8) (cp : Option Nat) (hM : M = X0.toNat * 256 + X1.toNat) (hM9 : M ≤ 999) : runF LP NN d 166 [.agg [.int .u8 4, .int .u8 2, .str ⟨#[83, 57, 57, 57]⟩, .int .i64 3, .int .i64 0, .bool true, .bool false, .bool false, .bool false, .bool false, .int .i64 2], .sl 1 [[.int .u8 X0.toNat], [.int .u8 X1.toNat]] cp] S = some (.tup [.agg [.bool false, .str (mkS [dch (M / 10 / 10 % 10), dch (M / 10 % 10), dch (M % 10)])], .bool true], S, false) := by
 have hX0 := X0.toNat_lt
 have hX1 := X1.toNat_lt
 have z0 : IntKind.u64.wrap (0 * 2 ^ (min 8 IntKind.u64.bits)) = 0 := by rfl
 have c0 := u64w X0.toNat (by omega)
 have c1 := u64w X1.toNat (by omega)
 have o0 : IntKind.u64.wrap (((BitVec.ofInt IntKind.u64.bits 0 ||| BitVec.ofInt IntKind.u64.bits ((X0.toNat : Nat) : Int)).toNat : Nat) : Int) = ((X0.toNat : Nat) : Int) := by
  have := bor 0 X0.toNat hX0 (by omega)
  rw [Nat.zero_mul, Nat.zero_add] at this
  exact this
 have s1 : IntKind.u64.wrap (((X0.toNat : Nat) : Int) * 2 ^ (min 8 IntKind.u64.bits)) = ((X0.toNat * 256 : Nat) : Int) := by
  rw [show ((X0.toNat : Nat) : Int) * 2 ^ (min 8 IntKind.u64.bits) = ((X0.toNat * 256 : Nat) : Int) by rw [show min 8 IntKind.u64.bits = 8 from rfl]; omega, u64w _ (by omega)]
 have o1 := bor X0.toNat X1.toNat hX1 (by omega)
 have i0 := u64w (M % 10 + 1) (by omega)
 have m0 : ((M : Nat) : Int).tmod 10 = ((M % 10 : Nat) : Int) := by rw [Int.tmod_eq_emod_of_nonneg (by omega)]; omega
 have m1 : ((M / 10 : Nat) : Int).tmod 10 = ((M / 10 % 10 : Nat) : Int) := by rw [Int.tmod_eq_emod_of_nonneg (by omega)]; omega
 have m2 : ((M / 10 / 10 : Nat) : Int).tmod 10 = ((M / 10 / 10 % 10 : Nat) : Int) := by rw [Int.tmod_eq_emod_of_nonneg (by omega)]; omega
 have q0 : IntKind.u64.wrap (((M : Nat) : Int).tdiv 10) = ((M / 10 : Nat) : Int) := by rw [Int.tdiv_eq_ediv_of_nonneg (by omega), show ((M : Nat) : Int) / 10 = ((M / 10 : Nat) : Int) by omega, u64w _ (by omega)]
 have q1 : IntKind.u64.wrap (((M / 10 : Nat) : Int).tdiv 10) = ((M / 10 / 10 : Nat) : Int) := by rw [Int.tdiv_eq_ediv_of_nonneg (by omega), show ((M / 10 : Nat) : Int) / 10 = ((M / 10 / 10 : Nat) : Int) by omega, u64w _ (by omega)]
 have q2 : IntKind.u64.wrap (((M / 10 / 10 : Nat) : Int).tdiv 10) = 0 := by rw [Int.tdiv_eq_ediv_of_nonneg (by omega), show ((M / 10 / 10 : Nat) : Int) / 10 = ((0 : Nat) : Int) by omega, u64w _ (by omega)]; rfl
 have i0 : IntKind.u64.wrap (((M % 10 : Nat) : Int) + 1) = ((M % 10 + 1 : Nat) : Int) := u64w (M % 10 + 1) (by omega)
 have i1 : IntKind.u64.wrap (((M / 10 % 10 : Nat) : Int) + 1) = ((M / 10 % 10 + 1 : Nat) : Int) := u64w (M / 10 % 10 + 1) (by omega)
 have i2 : IntKind.u64.wrap (((M / 10 / 10 % 10 : Nat) : Int) + 1) = ((M / 10 / 10 % 10 + 1 : Nat) : Int) := u64w (M / 10 / 10 % 10 + 1) (by omega)
 have e0 : ((0 : Int) == 0) = true := rfl
 have hng : decide (((X0.toNat : Nat) : Int) ≥ 128) = false := decide_eq_false (by omega)
 rw [← hM] at o1
 refine run_pure (F := F166) rfl (by simp only [LP, fnOf, snapVs, snaps, zs, Bool.false_eq_true, if_false, Option.map_some, List.map_cons, List.map_nil] <;> exact rfl) rfl (by simp only [LP, zf, List.all_cons, List.all_nil, Bool.and_true, Bool.true_and]; try rfl) (by simp only [F166, zv] <;> exact rfl) (by omega) ?_
 rintro d rfl
 refine cw_seq (cw_region ?_)
 refine ow_op (by simp only [zl, zm, zc, z0, c0, o0, s1, c1, o1, hng, m0, m1, m2, q0, q1, q2, i0, i1, i2, e0] <;> exact rfl) ?_
 refine ow_op (by simp only [zl, zm, z0, c0, o0, s1, c1, o1, hng, m0, m1, m2, q0, q1, q2, i0, i1, i2, e0] <;> exact rfl) ?_
 refine ow_mc ?_
 refine ow_nil ?_
 refine sk_n (by simp only [ze] <;> exact rfl) ?_
 refine cw_seq (cw_region ?_)
 refine ow_mc ?_
 refine ow_nil ?_
 refine sk_n (by simp only [ze] <;> exact rfl) ?_
 refine cw_seq (cw_seq (cw_region ?_))
 refine ow_me rfl ?_
 refine ow_op (by simp only [zo, lenD_str, lenD_nils, lenD_sl, lenD_msl, z0, c0, o0, s1, c1, o1, hng, m0, m1, m2, q0, q1, q2, i0, i1, i2, e0] <;> exact rfl) ?_
 refine ow_mc ?_
 refine ow_nil ?_
 refine sk_n (by simp only [ze] <;> exact rfl) ?_
 refine cw_block (cw_unroll ?_)
 refine cl_step ?_
 refine cw_seq (cw_region ?_)
 refine ow_op (by simp only [zo, binD, zb, Int.reduceEq, Int.reduceToNat, Int.reduceLT, z0, c0, o0, s1, c1, o1, hng, m0, m1, m2, q0, q1, q2, i0, i1, i2, e0] <;> exact rfl) ?_
 refine ow_nil ?_
 refine sk_n (by simp only [ze] <;> exact rfl) ?_
 refine cw_seq ?_
 skip
 refine cw_true (by simp only [opd, zv, z0, c0, o0, s1, c1, o1, hng, m0, m1, m2, q0, q1, q2, i0, i1, i2, e0] <;> rfl) ?_
 refine cw_skip (sk_n rfl (cw_seq (cw_block (cw_seq (cw_region ?_)))))
 refine ow_op (by simp only [zl, zm, iaddrD_sl, iaddrD_msl, Int.toNat_natCast, Int.toNat_zero, List.getElem?_map, Option.map_some, Int.le_refl, z0, c0, o0, s1, c1, o1, hng, m0, m1, m2, q0, q1, q2, i0, i1, i2, e0] <;> exact rfl) ?_
 refine ow_op (by simp only [zl, zm, zd, partD, List.take, List.drop, z0, c0, o0, s1, c1, o1, hng, m0, m1, m2, q0, q1, q2, i0, i1, i2, e0] <;> exact rfl) ?_
 refine ow_ml rfl ?_
 refine ow_nil ?_
 refine sk_n (by simp only [ze] <;> exact rfl) ?_
 refine cw_region ?_
 refine ow_me rfl ?_
 refine ow_op (by simp only [zo, binD, zb, Int.reduceEq, Int.reduceToNat, Int.reduceLT, z0, c0, o0, s1, c1, o1, hng, m0, m1, m2, q0, q1, q2, i0, i1, i2, e0] <;> exact rfl) ?_
 refine ow_me rfl ?_
 refine ow_op (by simp only [zo, z0, c0, o0, s1, c1, o1, hng, m0, m1, m2, q0, q1, q2, i0, i1, i2, e0] <;> exact rfl) ?_
 refine ow_op (by simp only [zo, binD, zb, Int.reduceEq, Int.reduceToNat, Int.reduceLT, z0, c0, o0, s1, c1, o1, hng, m0, m1, m2, q0, q1, q2, i0, i1, i2, e0] <;> exact rfl) ?_
 refine ow_ml rfl ?_
 refine ow_nil (bk_n ?_)
 refine sk_n (by simp only [ze] <;> exact rfl) ?_
 refine cw_region ?_
 refine ow_op (by simp only [zo, binD, zb, Int.reduceEq, Int.reduceToNat, Int.reduceLT, z0, c0, o0, s1, c1, o1, hng, m0, m1, m2, q0, q1, q2, i0, i1, i2, e0] <;> exact rfl) ?_
 refine ow_ml rfl ?_
 refine ow_nil ?_
 refine lu_n (by simp only [ze] <;> exact rfl) ?_
 refine cl_step ?_
 refine cw_seq (cw_region ?_)
 refine ow_op (by simp only [zo, binD, zb, Int.reduceEq, Int.reduceToNat, Int.reduceLT, z0, c0, o0, s1, c1, o1, hng, m0, m1, m2, q0, q1, q2, i0, i1, i2, e0] <;> exact rfl) ?_
 refine ow_nil ?_
 refine sk_n (by simp only [ze] <;> exact rfl) ?_
 refine cw_seq ?_
 skip
 refine cw_true (by simp only [opd, zv, z0, c0, o0, s1, c1, o1, hng, m0, m1, m2, q0, q1, q2, i0, i1, i2, e0] <;> rfl) ?_
 refine cw_skip (sk_n rfl (cw_seq (cw_block (cw_seq (cw_region ?_)))))
 refine ow_op (by simp only [zl, zm, iaddrD_sl, iaddrD_msl, Int.toNat_natCast, Int.toNat_zero, List.getElem?_map, Option.map_some, Int.le_refl, z0, c0, o0, s1, c1, o1, hng, m0, m1, m2, q0, q1, q2, i0, i1, i2, e0] <;> exact rfl) ?_
 refine ow_op (by simp only [zl, zm, zd, partD, List.take, List.drop, z0, c0, o0, s1, c1, o1, hng, m0, m1, m2, q0, q1, q2, i0, i1, i2, e0] <;> exact rfl) ?_
 refine ow_ml rfl ?_
 refine ow_nil ?_
 refine sk_n (by simp only [ze] <;> exact rfl) ?_
 refine cw_region ?_
 refine ow_me rfl ?_
 refine ow_op (by simp only [zo, binD, zb, Int.reduceEq, Int.reduceToNat, Int.reduceLT, z0, c0, o0, s1, c1, o1, hng, m0, m1, m2, q0, q1, q2, i0, i1, i2, e0] <;> exact rfl) ?_
 refine ow_me rfl ?_
 refine ow_op (by simp only [zo, z0, c0, o0, s1, c1, o1, hng, m0, m1, m2, q0, q1, q2, i0, i1, i2, e0] <;> exact rfl) ?_
 refine ow_op (by simp only [zo, binD, zb, Int.reduceEq, Int.reduceToNat, Int.reduceLT, z0, c0, o0, s1, c1, o1, hng, m0, m1, m2, q0, q1, q2, i0, i1, i2, e0] <;> exact rfl) ?_
 refine ow_ml rfl ?_
 refine ow_nil (bk_n ?_)
 refine sk_n (by simp only [ze] <;> exact rfl) ?_
 refine cw_region ?_
 refine ow_op (by simp only [zo, binD, zb, Int.reduceEq, Int.reduceToNat, Int.reduceLT, z0, c0, o0, s1, c1, o1, hng, m0, m1, m2, q0, q1, q2, i0, i1, i2, e0] <;> exact rfl) ?_
 refine ow_ml rfl ?_
 refine ow_nil ?_
 refine lu_n (by simp only [ze] <;> exact rfl) ?_
 refine cl_step ?_
 refine cw_seq (cw_region ?_)
 refine ow_op (by simp only [zo, binD, zb, Int.reduceEq, Int.reduceToNat, Int.reduceLT, z0, c0, o0, s1, c1, o1, hng, m0, m1, m2, q0, q1, q2, i0, i1, i2, e0] <;> exact rfl) ?_
 refine ow_nil ?_
 refine sk_n (by simp only [ze] <;> exact rfl) ?_
 refine cw_seq ?_
 skip
 refine cw_false (by simp only [opd, zv, z0, c0, o0, s1, c1, o1, hng, m0, m1, m2, q0, q1, q2, i0, i1, i2, e0] <;> rfl) ?_
 refine cw_exit (sk_e (lu_e (bk_e (sk_n rfl (cw_seq (cw_region ?_))))))
 refine ow_op (by simp only [zo, faddrD_ptr, faddrD_cptr, zm, z0, c0, o0, s1, c1, o1, hng, m0, m1, m2, q0, q1, q2, i0, i1, i2, e0] <;> exact rfl) ?_
 refine ow_op (by simp only [zl, zm, zd, partD, List.take, List.drop, z0, c0, o0, s1, c1, o1, hng, m0, m1, m2, q0, q1, q2, i0, i1, i2, e0] <;> exact rfl) ?_
 refine ow_ml rfl ?_
 refine ow_know 0 (b := true) (by simp only [opd, zv, z0, c0, o0, s1, c1, o1, hng, m0, m1, m2, q0, q1, q2, i0, i1, i2, e0] <;> rfl) (by simp only [zn] <;> exact rfl) ?_
 refine ow_on (by simp only [opd, zv]) ?_
 refine ow_me rfl ?_
 refine ow_on (by simp only [opd, zv]) ?_
 refine ow_op (by simp only [zl, zm, iaddrD_sl, iaddrD_msl, Int.toNat_natCast, Int.toNat_zero, List.getElem?_map, Option.map_some, Int.le_refl, z0, c0, o0, s1, c1, o1, hng, m0, m1, m2, q0, q1, q2, i0, i1, i2, e0] <;> exact rfl) ?_
 refine ow_on (by simp only [opd, zv]) ?_
 refine ow_op (by simp only [zl, zm, zd, partD, List.take, List.drop, z0, c0, o0, s1, c1, o1, hng, m0, m1, m2, q0, q1, q2, i0, i1, i2, e0] <;> exact rfl) ?_
 refine ow_on (by simp only [opd, zv]) ?_
 refine ow_op (by simp only [zo, binD, zb, Int.reduceEq, Int.reduceToNat, Int.reduceLT, z0, c0, o0, s1, c1, o1, hng, m0, m1, m2, q0, q1, q2, i0, i1, i2, e0] <;> exact rfl) ?_
 refine ow_op (by simp only [zo, z0, c0, o0, s1, c1, o1, hng, m0, m1, m2, q0, q1, q2, i0, i1, i2, e0] <;> exact rfl) ?_
 refine ow_ml rfl ?_
 refine ow_nil ?_
 refine sk_n (by simp only [ze] <;> exact rfl) ?_
 refine cw_seq (cw_seq (cw_region ?_))
 refine ow_me rfl ?_
 refine ow_nil ?_
 refine sk_n (by simp only [ze] <;> exact rfl) ?_
 skip
 refine cw_false (by simp only [opd, zv, z0, c0, o0, s1, c1, o1, hng, m0, m1, m2, q0, q1, q2, i0, i1, i2, e0] <;> rfl) ?_
 refine cw_skip (sk_n rfl (cw_seq (cw_region ?_)))
 refine ow_mc ?_
 refine ow_nil ?_
 refine sk_n (by simp only [ze] <;> exact rfl) ?_
 refine cw_seq (cw_seq (cw_region ?_))
 refine ow_op (by simp only [zo, faddrD_ptr, faddrD_cptr, zm, z0, c0, o0, s1, c1, o1, hng, m0, m1, m2, q0, q1, q2, i0, i1, i2, e0] <;> exact rfl) ?_
 refine ow_op (by simp only [zl, zm, zd, partD, List.take, List.drop, z0, c0, o0, s1, c1, o1, hng, m0, m1, m2, q0, q1, q2, i0, i1, i2, e0] <;> exact rfl) ?_
 refine ow_mc ?_
 refine ow_nil ?_
 refine sk_n (by simp only [ze] <;> exact rfl) ?_
 refine cw_block (cw_unroll ?_)
 refine cl_step ?_
 refine cw_seq (cw_region ?_)
 refine ow_op (by simp only [zo, binD, zb, Int.reduceEq, Int.reduceToNat, Int.reduceLT, z0, c0, o0, s1, c1, o1, hng, m0, m1, m2, q0, q1, q2, i0, i1, i2, e0] <;> exact rfl) ?_
 refine ow_nil ?_
 refine sk_n (by simp only [ze] <;> exact rfl) ?_
 refine cw_seq ?_
 skip
 refine cw_true (by simp only [opd, zv, z0, c0, o0, s1, c1, o1, hng, m0, m1, m2, q0, q1, q2, i0, i1, i2, e0] <;> rfl) ?_
 refine cw_skip (sk_n rfl (cw_seq (cw_block (cw_seq (cw_region ?_)))))
 refine ow_me rfl ?_
 refine ow_op (by simp only [zo, binD, zb, Int.reduceEq, Int.reduceToNat, Int.reduceLT, z0, c0, o0, s1, c1, o1, hng, m0, m1, m2, q0, q1, q2, i0, i1, i2, e0] <;> exact rfl) ?_
 refine ow_me rfl ?_
 refine ow_op (by simp only [zo, binD, zb, Int.reduceEq, Int.reduceToNat, Int.reduceLT, z0, c0, o0, s1, c1, o1, hng, m0, m1, m2, q0, q1, q2, i0, i1, i2, e0] <;> exact rfl) ?_
 refine ow_op (by simp only [zo, binD, zb, Int.reduceEq, Int.reduceToNat, Int.reduceLT, z0, c0, o0, s1, c1, o1, hng, m0, m1, m2, q0, q1, q2, i0, i1, i2, e0] <;> exact rfl) ?_
 refine ow_op (by simp only [opd, zv, exOp, aop, LOp.loud, Bool.false_eq_true, if_false]; rw [plain_S', str_midU _ [48, 49, 50, 51, 52, 53, 54, 55, 56, 57] (M % 10) (M % 10 + 1) (by omega) (by simp; omega), plain_at (by omega)]; exact rfl) ?_
 refine ow_me rfl ?_
 refine ow_op (by simp only [opd, zv, exOp, aop, LOp.loud, pop, Bool.false_eq_true, if_false, mkS_nil]; rw [sadd _ _ (by simp)]; exact rfl) ?_
 refine ow_ml rfl ?_
 refine ow_nil ?_
 refine sk_n (by simp only [ze] <;> exact rfl) ?_
 refine cw_region ?_
 refine ow_me rfl ?_
 refine ow_op (by simp only [zo, binD, zb, Int.reduceEq, Int.reduceToNat, Int.reduceLT, z0, c0, o0, s1, c1, o1, hng, m0, m1, m2, q0, q1, q2, i0, i1, i2, e0] <;> exact rfl) ?_
 refine ow_ml rfl ?_
 refine ow_nil (bk_n ?_)
 refine sk_n (by simp only [ze] <;> exact rfl) ?_
 refine cw_region ?_
 refine ow_op (by simp only [zo, binD, zb, Int.reduceEq, Int.reduceToNat, Int.reduceLT, z0, c0, o0, s1, c1, o1, hng, m0, m1, m2, q0, q1, q2, i0, i1, i2, e0] <;> exact rfl) ?_
 refine ow_ml rfl ?_
 refine ow_nil ?_
 refine lu_n (by simp only [ze] <;> exact rfl) ?_
 refine cl_step ?_
 refine cw_seq (cw_region ?_)
 refine ow_op (by simp only [zo, binD, zb, Int.reduceEq, Int.reduceToNat, Int.reduceLT, z0, c0, o0, s1, c1, o1, hng, m0, m1, m2, q0, q1, q2, i0, i1, i2, e0] <;> exact rfl) ?_
 refine ow_nil ?_
 refine sk_n (by simp only [ze] <;> exact rfl) ?_
 refine cw_seq ?_
 skip
 refine cw_true (by simp only [opd, zv, z0, c0, o0, s1, c1, o1, hng, m0, m1, m2, q0, q1, q2, i0, i1, i2, e0] <;> rfl) ?_
 refine cw_skip (sk_n rfl (cw_seq (cw_block (cw_seq (cw_region ?_)))))
 refine ow_me rfl ?_
 refine ow_op (by simp only [zo, binD, zb, Int.reduceEq, Int.reduceToNat, Int.reduceLT, z0, c0, o0, s1, c1, o1, hng, m0, m1, m2, q0, q1, q2, i0, i1, i2, e0] <;> exact rfl) ?_
 refine ow_me rfl ?_
 refine ow_op (by simp only [zo, binD, zb, Int.reduceEq, Int.reduceToNat, Int.reduceLT, z0, c0, o0, s1, c1, o1, hng, m0, m1, m2, q0, q1, q2, i0, i1, i2, e0] <;> exact rfl) ?_
 refine ow_op (by simp only [zo, binD, zb, Int.reduceEq, Int.reduceToNat, Int.reduceLT, z0, c0, o0, s1, c1, o1, hng, m0, m1, m2, q0, q1, q2, i0, i1, i2, e0] <;> exact rfl) ?_
 refine ow_op (by simp only [opd, zv, exOp, aop, LOp.loud, Bool.false_eq_true, if_false]; rw [plain_S', str_midU _ [48, 49, 50, 51, 52, 53, 54, 55, 56, 57] (M / 10 % 10) (M / 10 % 10 + 1) (by omega) (by simp; omega), plain_at (by omega)]; exact rfl) ?_
 refine ow_me rfl ?_
 refine ow_op (by simp only [opd, zv, exOp, aop, LOp.loud, pop, Bool.false_eq_true, if_false, mkS_nil]; rw [sadd _ _ (by simp)]; exact rfl) ?_
 refine ow_ml rfl ?_
 refine ow_nil ?_
 refine sk_n (by simp only [ze] <;> exact rfl) ?_
 refine cw_region ?_
 refine ow_me rfl ?_
 refine ow_op (by simp only [zo, binD, zb, Int.reduceEq, Int.reduceToNat, Int.reduceLT, z0, c0, o0, s1, c1, o1, hng, m0, m1, m2, q0, q1, q2, i0, i1, i2, e0] <;> exact rfl) ?_
 refine ow_ml rfl ?_
 refine ow_nil (bk_n ?_)
 refine sk_n (by simp only [ze] <;> exact rfl) ?_
 refine cw_region ?_
 refine ow_op (by simp only [zo, binD, zb, Int.reduceEq, Int.reduceToNat, Int.reduceLT, z0, c0, o0, s1, c1, o1, hng, m0, m1, m2, q0, q1, q2, i0, i1, i2, e0] <;> exact rfl) ?_
 refine ow_ml rfl ?_
 refine ow_nil ?_
 refine lu_n (by simp only [ze] <;> exact rfl) ?_
 refine cl_step ?_
 refine cw_seq (cw_region ?_)
 refine ow_op (by simp only [zo, binD, zb, Int.reduceEq, Int.reduceToNat, Int.reduceLT, z0, c0, o0, s1, c1, o1, hng, m0, m1, m2, q0, q1, q2, i0, i1, i2, e0] <;> exact rfl) ?_
 refine ow_nil ?_
 refine sk_n (by simp only [ze] <;> exact rfl) ?_
 refine cw_seq ?_
 skip
 refine cw_true (by simp only [opd, zv, z0, c0, o0, s1, c1, o1, hng, m0, m1, m2, q0, q1, q2, i0, i1, i2, e0] <;> rfl) ?_
 refine cw_skip (sk_n rfl (cw_seq (cw_block (cw_seq (cw_region ?_)))))
 refine ow_me rfl ?_
 refine ow_op (by simp only [zo, binD, zb, Int.reduceEq, Int.reduceToNat, Int.reduceLT, z0, c0, o0, s1, c1, o1, hng, m0, m1, m2, q0, q1, q2, i0, i1, i2, e0] <;> exact rfl) ?_
 refine ow_me rfl ?_
 refine ow_op (by simp only [zo, binD, zb, Int.reduceEq, Int.reduceToNat, Int.reduceLT, z0, c0, o0, s1, c1, o1, hng, m0, m1, m2, q0, q1, q2, i0, i1, i2, e0] <;> exact rfl) ?_
 refine ow_op (by simp only [zo, binD, zb, Int.reduceEq, Int.reduceToNat, Int.reduceLT, z0, c0, o0, s1, c1, o1, hng, m0, m1, m2, q0, q1, q2, i0, i1, i2, e0] <;> exact rfl) ?_
 refine ow_op (by simp only [opd, zv, exOp, aop, LOp.loud, Bool.false_eq_true, if_false]; rw [plain_S', str_midU _ [48, 49, 50, 51, 52, 53, 54, 55, 56, 57] (M / 10 / 10 % 10) (M / 10 / 10 % 10 + 1) (by omega) (by simp; omega), plain_at (by omega)]; exact rfl) ?_
 refine ow_me rfl ?_
 refine ow_op (by simp only [opd, zv, exOp, aop, LOp.loud, pop, Bool.false_eq_true, if_false, mkS_nil]; rw [sadd _ _ (by simp)]; exact rfl) ?_
 refine ow_ml rfl ?_
 refine ow_nil ?_
 refine sk_n (by simp only [ze] <;> exact rfl) ?_
 refine cw_region ?_
 refine ow_me rfl ?_
 refine ow_op (by simp only [zo, binD, zb, Int.reduceEq, Int.reduceToNat, Int.reduceLT, z0, c0, o0, s1, c1, o1, hng, m0, m1, m2, q0, q1, q2, i0, i1, i2, e0] <;> exact rfl) ?_
 refine ow_ml rfl ?_
 refine ow_nil (bk_n ?_)
 refine sk_n (by simp only [ze] <;> exact rfl) ?_
 refine cw_region ?_
 refine ow_op (by simp only [zo, binD, zb, Int.reduceEq, Int.reduceToNat, Int.reduceLT, z0, c0, o0, s1, c1, o1, hng, m0, m1, m2, q0, q1, q2, i0, i1, i2, e0] <;> exact rfl) ?_
 refine ow_ml rfl ?_
 refine ow_nil ?_
 refine lu_n (by simp only [ze] <;> exact rfl) ?_
 refine cl_step ?_
 refine cw_seq (cw_region ?_)
 refine ow_op (by simp only [zo, binD, zb, Int.reduceEq, Int.reduceToNat, Int.reduceLT, z0, c0, o0, s1, c1, o1, hng, m0, m1, m2, q0, q1, q2, i0, i1, i2, e0] <;> exact rfl) ?_
 refine ow_nil ?_
 refine sk_n (by simp only [ze] <;> exact rfl) ?_
 refine cw_seq ?_
 skip
 refine cw_false (by simp only [opd, zv, z0, c0, o0, s1, c1, o1, hng, m0, m1, m2, q0, q1, q2, i0, i1, i2, e0] <;> rfl) ?_
 refine cw_exit (sk_e (lu_e (bk_e (sk_n rfl (cw_seq (cw_region ?_))))))
 refine ow_me rfl ?_
 refine ow_me rfl ?_
 refine ow_op (by simp only [zo, fillD, overlay, zc, List.take, List.drop, Nat.reduceAdd, Nat.reduceLeDiff, Nat.reduceBEq, zm, z0, c0, o0, s1, c1, o1, hng, m0, m1, m2, q0, q1, q2, i0, i1, i2, e0] <;> exact rfl) ?_
 refine ow_me rfl ?_
 refine ow_op (by simp only [zo, binD, zb, Int.reduceEq, Int.reduceToNat, Int.reduceLT, z0, c0, o0, s1, c1, o1, hng, m0, m1, m2, q0, q1, q2, i0, i1, i2, e0] <;> exact rfl) ?_
 refine ow_op (by simp only [zl, zm, storeD, overlay, snapVs, snaps, zs, zc, zf, List.take, List.drop, z0, c0, o0, s1, c1, o1, hng, m0, m1, m2, q0, q1, q2, i0, i1, i2, e0] <;> exact rfl) ?_
 refine ow_ml rfl ?_
 refine ow_nil ?_
 refine sk_n (by simp only [ze] <;> exact rfl) ?_
 refine cw_ret ?_
 refine ⟨_, by simp only [F166, resultD, resDs, resD, List.getD_cons_zero, List.getD_cons_succ, zd, rowsOf, partD, List.getElem?_cons_zero, List.getElem?_cons_succ, if_true, if_false, Bool.false_eq_true, List.take, List.drop, zm] <;> exact rfl, ?_⟩
 simp only [leaveP, leave, snapVs, snaps, zs, zf, zk]

theorem binary_true {d : Nat} (hd : 1 ≤ d) (S : St) (M : Nat) (X0 X1 : UInt8) (cp : Option Nat) (hM : M + (X0.toNat * 256 + X1.toNat) = 65536) (hM9 : M ≤ 999) (hM1 : 1 ≤ M) : runF LP NN d 166 [.agg [.int .u8 4, .int .u8 2, .str ⟨#[83, 57, 57, 57]⟩, .int .i64 3, .int .i64 0, .bool true, .bool false, .bool false, .bool false, .bool false, .int .i64 2], .sl 1 [[.int .u8 X0.toNat], [.int .u8 X1.toNat]] cp] S = some (.tup [.agg [.bool true, .str (mkS [dch (M / 10 / 10 % 10), dch (M / 10 % 10), dch (M % 10)])], .bool true], S, false) := by
 have hX0 := X0.toNat_lt
 have hX1 := X1.toNat_lt
 have z0 : IntKind.u64.wrap (0 * 2 ^ (min 8 IntKind.u64.bits)) = 0 := by rfl
 have c0 := u64w X0.toNat (by omega)
 have c1 := u64w X1.toNat (by omega)
 have o0 : IntKind.u64.wrap (((BitVec.ofInt IntKind.u64.bits 0 ||| BitVec.ofInt IntKind.u64.bits ((X0.toNat : Nat) : Int)).toNat : Nat) : Int) = ((X0.toNat : Nat) : Int) := by
  have := bor 0 X0.toNat hX0 (by omega)
  rw [Nat.zero_mul, Nat.zero_add] at this
  exact this
 have s1 : IntKind.u64.wrap (((X0.toNat : Nat) : Int) * 2 ^ (min 8 IntKind.u64.bits)) = ((X0.toNat * 256 : Nat) : Int) := by
  rw [show ((X0.toNat : Nat) : Int) * 2 ^ (min 8 IntKind.u64.bits) = ((X0.toNat * 256 : Nat) : Int) by rw [show min 8 IntKind.u64.bits = 8 from rfl]; omega, u64w _ (by omega)]
 have o1 := bor X0.toNat X1.toNat hX1 (by omega)
 have i0 := u64w (M % 10 + 1) (by omega)
 have m0 : ((M : Nat) : Int).tmod 10 = ((M % 10 : Nat) : Int) := by rw [Int.tmod_eq_emod_of_nonneg (by omega)]; omega
 have m1 : ((M / 10 : Nat) : Int).tmod 10 = ((M / 10 % 10 : Nat) : Int) := by rw [Int.tmod_eq_emod_of_nonneg (by omega)]; omega
 have m2 : ((M / 10 / 10 : Nat) : Int).tmod 10 = ((M / 10 / 10 % 10 : Nat) : Int) := by rw [Int.tmod_eq_emod_of_nonneg (by omega)]; omega
 have q0 : IntKind.u64.wrap (((M : Nat) : Int).tdiv 10) = ((M / 10 : Nat) : Int) := by rw [Int.tdiv_eq_ediv_of_nonneg (by omega), show ((M : Nat) : Int) / 10 = ((M / 10 : Nat) : Int) by omega, u64w _ (by omega)]
 have q1 : IntKind.u64.wrap (((M / 10 : Nat) : Int).tdiv 10) = ((M / 10 / 10 : Nat) : Int) := by rw [Int.tdiv_eq_ediv_of_nonneg (by omega), show ((M / 10 : Nat) : Int) / 10 = ((M / 10 / 10 : Nat) : Int) by omega, u64w _ (by omega)]
 have q2 : IntKind.u64.wrap (((M / 10 / 10 : Nat) : Int).tdiv 10) = 0 := by rw [Int.tdiv_eq_ediv_of_nonneg (by omega), show ((M / 10 / 10 : Nat) : Int) / 10 = ((0 : Nat) : Int) by omega, u64w _ (by omega)]; rfl
 have i0 : IntKind.u64.wrap (((M % 10 : Nat) : Int) + 1) = ((M % 10 + 1 : Nat) : Int) := u64w (M % 10 + 1) (by omega)
 have i1 : IntKind.u64.wrap (((M / 10 % 10 : Nat) : Int) + 1) = ((M / 10 % 10 + 1 : Nat) : Int) := u64w (M / 10 % 10 + 1) (by omega)
 have i2 : IntKind.u64.wrap (((M / 10 / 10 % 10 : Nat) : Int) + 1) = ((M / 10 / 10 % 10 + 1 : Nat) : Int) := u64w (M / 10 / 10 % 10 + 1) (by omega)
 have e0 : ((0 : Int) == 0) = true := rfl
 have hng : decide (((X0.toNat : Nat) : Int) ≥ 128) = true := decide_eq_true (by omega)
 have g0 : IntKind.u64.wrap (0 - ((X0.toNat * 256 + X1.toNat : Nat) : Int)) = ((18446744073709551616 - (X0.toNat * 256 + X1.toNat) : Nat) : Int) := by
  simp only [IntKind.wrap, IntKind.signed, IntKind.bits, Bool.false_and, Bool.false_eq_true, if_false]; omega
 have hlen : ([[.int .u8 X0.toNat], [.int .u8 X1.toNat]] : List (List D)).length = 2 := rfl
 have g1 : IntKind.i64.wrap (8 * ((2 : Nat) : Int)) = 16 := by rfl
 have g2 : IntKind.u64.wrap (1 * 2 ^ (min 16 IntKind.u64.bits)) = 65536 := by rfl
 have g3 : IntKind.u64.wrap (65536 - 1) = ((65535 : Nat) : Int) := by rfl
 have g4 := band (18446744073709551616 - (X0.toNat * 256 + X1.toNat)) (by omega)
 rw [show (18446744073709551616 - (X0.toNat * 256 + X1.toNat)) % 65536 = M by omega] at g4
 refine run_pure (F := F166) rfl (by simp only [LP, fnOf, snapVs, snaps, zs, Bool.false_eq_true, if_false, Option.map_some, List.map_cons, List.map_nil] <;> exact rfl) rfl (by simp only [LP, zf, List.all_cons, List.all_nil, Bool.and_true, Bool.true_and]; try rfl) (by simp only [F166, zv] <;> exact rfl) (by omega) ?_
 rintro d rfl
 refine cw_seq (cw_region ?_)
 refine ow_op (by simp only [zl, zm, zc, z0, c0, o0, s1, c1, o1, hng, m0, m1, m2, q0, q1, q2, i0, i1, i2, e0, hlen, g0, g1, g2, g3, g4] <;> exact rfl) ?_
 refine ow_op (by simp only [zl, zm, z0, c0, o0, s1, c1, o1, hng, m0, m1, m2, q0, q1, q2, i0, i1, i2, e0, hlen, g0, g1, g2, g3, g4] <;> exact rfl) ?_
 refine ow_mc ?_
 refine ow_nil ?_
 refine sk_n (by simp only [ze] <;> exact rfl) ?_
 refine cw_seq (cw_region ?_)
 refine ow_mc ?_
 refine ow_nil ?_
 refine sk_n (by simp only [ze] <;> exact rfl) ?_
 refine cw_seq (cw_seq (cw_region ?_))
 refine ow_me rfl ?_
 refine ow_op (by simp only [zo, lenD_str, lenD_nils, lenD_sl, lenD_msl, z0, c0, o0, s1, c1, o1, hng, m0, m1, m2, q0, q1, q2, i0, i1, i2, e0, hlen, g0, g1, g2, g3, g4] <;> exact rfl) ?_
 refine ow_mc ?_
 refine ow_nil ?_
 refine sk_n (by simp only [ze] <;> exact rfl) ?_
 refine cw_block (cw_unroll ?_)
 refine cl_step ?_
 refine cw_seq (cw_region ?_)
 refine ow_op (by simp only [zo, binD, zb, Int.reduceEq, Int.reduceToNat, Int.reduceLT, z0, c0, o0, s1, c1, o1, hng, m0, m1, m2, q0, q1, q2, i0, i1, i2, e0, hlen, g0, g1, g2, g3, g4] <;> exact rfl) ?_
 refine ow_nil ?_
 refine sk_n (by simp only [ze] <;> exact rfl) ?_
 refine cw_seq ?_
 skip
 refine cw_true (by simp only [opd, zv, z0, c0, o0, s1, c1, o1, hng, m0, m1, m2, q0, q1, q2, i0, i1, i2, e0, hlen, g0, g1, g2, g3, g4] <;> rfl) ?_
 refine cw_skip (sk_n rfl (cw_seq (cw_block (cw_seq (cw_region ?_)))))
 refine ow_op (by simp only [zl, zm, iaddrD_sl, iaddrD_msl, Int.toNat_natCast, Int.toNat_zero, List.getElem?_map, Option.map_some, Int.le_refl, z0, c0, o0, s1, c1, o1, hng, m0, m1, m2, q0, q1, q2, i0, i1, i2, e0, hlen, g0, g1, g2, g3, g4] <;> exact rfl) ?_
 refine ow_op (by simp only [zl, zm, zd, partD, List.take, List.drop, z0, c0, o0, s1, c1, o1, hng, m0, m1, m2, q0, q1, q2, i0, i1, i2, e0, hlen, g0, g1, g2, g3, g4] <;> exact rfl) ?_
 refine ow_ml rfl ?_
 refine ow_nil ?_
 refine sk_n (by simp only [ze] <;> exact rfl) ?_
 refine cw_region ?_
 refine ow_me rfl ?_
 refine ow_op (by simp only [zo, binD, zb, Int.reduceEq, Int.reduceToNat, Int.reduceLT, z0, c0, o0, s1, c1, o1, hng, m0, m1, m2, q0, q1, q2, i0, i1, i2, e0, hlen, g0, g1, g2, g3, g4] <;> exact rfl) ?_
 refine ow_me rfl ?_
 refine ow_op (by simp only [zo, z0, c0, o0, s1, c1, o1, hng, m0, m1, m2, q0, q1, q2, i0, i1, i2, e0, hlen, g0, g1, g2, g3, g4] <;> exact rfl) ?_
 refine ow_op (by simp only [zo, binD, zb, Int.reduceEq, Int.reduceToNat, Int.reduceLT, z0, c0, o0, s1, c1, o1, hng, m0, m1, m2, q0, q1, q2, i0, i1, i2, e0, hlen, g0, g1, g2, g3, g4] <;> exact rfl) ?_
 refine ow_ml rfl ?_
 refine ow_nil (bk_n ?_)
 refine sk_n (by simp only [ze] <;> exact rfl) ?_
 refine cw_region ?_
 refine ow_op (by simp only [zo, binD, zb, Int.reduceEq, Int.reduceToNat, Int.reduceLT, z0, c0, o0, s1, c1, o1, hng, m0, m1, m2, q0, q1, q2, i0, i1, i2, e0, hlen, g0, g1, g2, g3, g4] <;> exact rfl) ?_
 refine ow_ml rfl ?_
 refine ow_nil ?_
 refine lu_n (by simp only [ze] <;> exact rfl) ?_
 refine cl_step ?_
 refine cw_seq (cw_region ?_)
 refine ow_op (by simp only [zo, binD, zb, Int.reduceEq, Int.reduceToNat, Int.reduceLT, z0, c0, o0, s1, c1, o1, hng, m0, m1, m2, q0, q1, q2, i0, i1, i2, e0, hlen, g0, g1, g2, g3, g4] <;> exact rfl) ?_
 refine ow_nil ?_
 refine sk_n (by simp only [ze] <;> exact rfl) ?_
 refine cw_seq ?_
 skip
 refine cw_true (by simp only [opd, zv, z0, c0, o0, s1, c1, o1, hng, m0, m1, m2, q0, q1, q2, i0, i1, i2, e0, hlen, g0, g1, g2, g3, g4] <;> rfl) ?_
 refine cw_skip (sk_n rfl (cw_seq (cw_block (cw_seq (cw_region ?_)))))
 refine ow_op (by simp only [zl, zm, iaddrD_sl, iaddrD_msl, Int.toNat_natCast, Int.toNat_zero, List.getElem?_map, Option.map_some, Int.le_refl, z0, c0, o0, s1, c1, o1, hng, m0, m1, m2, q0, q1, q2, i0, i1, i2, e0, hlen, g0, g1, g2, g3, g4] <;> exact rfl) ?_
 refine ow_op (by simp only [zl, zm, zd, partD, List.take, List.drop, z0, c0, o0, s1, c1, o1, hng, m0, m1, m2, q0, q1, q2, i0, i1, i2, e0, hlen, g0, g1, g2, g3, g4] <;> exact rfl) ?_
 refine ow_ml rfl ?_
 refine ow_nil ?_
 refine sk_n (by simp only [ze] <;> exact rfl) ?_
 refine cw_region ?_
 refine ow_me rfl ?_
 refine ow_op (by simp only [zo, binD, zb, Int.reduceEq, Int.reduceToNat, Int.reduceLT, z0, c0, o0, s1, c1, o1, hng, m0, m1, m2, q0, q1, q2, i0, i1, i2, e0, hlen, g0, g1, g2, g3, g4] <;> exact rfl) ?_
 refine ow_me rfl ?_
 refine ow_op (by simp only [zo, z0, c0, o0, s1, c1, o1, hng, m0, m1, m2, q0, q1, q2, i0, i1, i2, e0, hlen, g0, g1, g2, g3, g4] <;> exact rfl) ?_
 refine ow_op (by simp only [zo, binD, zb, Int.reduceEq, Int.reduceToNat, Int.reduceLT, z0, c0, o0, s1, c1, o1, hng, m0, m1, m2, q0, q1, q2, i0, i1, i2, e0, hlen, g0, g1, g2, g3, g4] <;> exact rfl) ?_
 refine ow_ml rfl ?_
 refine ow_nil (bk_n ?_)
 refine sk_n (by simp only [ze] <;> exact rfl) ?_
 refine cw_region ?_
 refine ow_op (by simp only [zo, binD, zb, Int.reduceEq, Int.reduceToNat, Int.reduceLT, z0, c0, o0, s1, c1, o1, hng, m0, m1, m2, q0, q1, q2, i0, i1, i2, e0, hlen, g0, g1, g2, g3, g4] <;> exact rfl) ?_
 refine ow_ml rfl ?_
 refine ow_nil ?_
 refine lu_n (by simp only [ze] <;> exact rfl) ?_
 refine cl_step ?_
 refine cw_seq (cw_region ?_)
 refine ow_op (by simp only [zo, binD, zb, Int.reduceEq, Int.reduceToNat, Int.reduceLT, z0, c0, o0, s1, c1, o1, hng, m0, m1, m2, q0, q1, q2, i0, i1, i2, e0, hlen, g0, g1, g2, g3, g4] <;> exact rfl) ?_
 refine ow_nil ?_
 refine sk_n (by simp only [ze] <;> exact rfl) ?_
 refine cw_seq ?_
 skip
 refine cw_false (by simp only [opd, zv, z0, c0, o0, s1, c1, o1, hng, m0, m1, m2, q0, q1, q2, i0, i1, i2, e0, hlen, g0, g1, g2, g3, g4] <;> rfl) ?_
 refine cw_exit (sk_e (lu_e (bk_e (sk_n rfl (cw_seq (cw_region ?_))))))
 refine ow_op (by simp only [zo, faddrD_ptr, faddrD_cptr, zm, z0, c0, o0, s1, c1, o1, hng, m0, m1, m2, q0, q1, q2, i0, i1, i2, e0, hlen, g0, g1, g2, g3, g4] <;> exact rfl) ?_
 refine ow_op (by simp only [zl, zm, zd, partD, List.take, List.drop, z0, c0, o0, s1, c1, o1, hng, m0, m1, m2, q0, q1, q2, i0, i1, i2, e0, hlen, g0, g1, g2, g3, g4] <;> exact rfl) ?_
 refine ow_ml rfl ?_
 refine ow_know 0 (b := true) (by simp only [opd, zv, z0, c0, o0, s1, c1, o1, hng, m0, m1, m2, q0, q1, q2, i0, i1, i2, e0, hlen, g0, g1, g2, g3, g4] <;> rfl) (by simp only [zn] <;> exact rfl) ?_
 refine ow_on (by simp only [opd, zv]) ?_
 refine ow_me rfl ?_
 refine ow_on (by simp only [opd, zv]) ?_
 refine ow_op (by simp only [zl, zm, iaddrD_sl, iaddrD_msl, Int.toNat_natCast, Int.toNat_zero, List.getElem?_map, Option.map_some, Int.le_refl, z0, c0, o0, s1, c1, o1, hng, m0, m1, m2, q0, q1, q2, i0, i1, i2, e0, hlen, g0, g1, g2, g3, g4] <;> exact rfl) ?_
 refine ow_on (by simp only [opd, zv]) ?_
 refine ow_op (by simp only [zl, zm, zd, partD, List.take, List.drop, z0, c0, o0, s1, c1, o1, hng, m0, m1, m2, q0, q1, q2, i0, i1, i2, e0, hlen, g0, g1, g2, g3, g4] <;> exact rfl) ?_
 refine ow_on (by simp only [opd, zv]) ?_
 refine ow_op (by simp only [zo, binD, zb, Int.reduceEq, Int.reduceToNat, Int.reduceLT, z0, c0, o0, s1, c1, o1, hng, m0, m1, m2, q0, q1, q2, i0, i1, i2, e0, hlen, g0, g1, g2, g3, g4] <;> exact rfl) ?_
 refine ow_op (by simp only [zo, z0, c0, o0, s1, c1, o1, hng, m0, m1, m2, q0, q1, q2, i0, i1, i2, e0, hlen, g0, g1, g2, g3, g4] <;> exact rfl) ?_
 refine ow_ml rfl ?_
 refine ow_nil ?_
 refine sk_n (by simp only [ze] <;> exact rfl) ?_
 refine cw_seq (cw_seq (cw_region ?_))
 refine ow_me rfl ?_
 refine ow_nil ?_
 refine sk_n (by simp only [ze] <;> exact rfl) ?_
 skip
 refine cw_true (by simp only [opd, zv, z0, c0, o0, s1, c1, o1, hng, m0, m1, m2, q0, q1, q2, i0, i1, i2, e0, hlen, g0, g1, g2, g3, g4] <;> rfl) ?_
 refine cw_seq (cw_region ?_)
 refine ow_me rfl ?_
 refine ow_op (by simp only [zo, unD, z0, c0, o0, s1, c1, o1, hng, m0, m1, m2, q0, q1, q2, i0, i1, i2, e0, hlen, g0, g1, g2, g3, g4] <;> exact rfl) ?_
 refine ow_ml rfl ?_
 refine ow_nil ?_
 refine sk_n (by simp only [ze] <;> exact rfl) ?_
 refine cw_seq (cw_region ?_)
 refine ow_me rfl ?_
 refine ow_op (by simp only [zo, lenD_str, lenD_nils, lenD_sl, lenD_msl, z0, c0, o0, s1, c1, o1, hng, m0, m1, m2, q0, q1, q2, i0, i1, i2, e0, hlen, g0, g1, g2, g3, g4] <;> exact rfl) ?_
 refine ow_op (by simp only [zo, binD, zb, Int.reduceEq, Int.reduceToNat, Int.reduceLT, z0, c0, o0, s1, c1, o1, hng, m0, m1, m2, q0, q1, q2, i0, i1, i2, e0, hlen, g0, g1, g2, g3, g4] <;> exact rfl) ?_
 refine ow_nil ?_
 refine sk_n (by simp only [ze] <;> exact rfl) ?_
 skip
 refine cw_true (by simp only [opd, zv, z0, c0, o0, s1, c1, o1, hng, m0, m1, m2, q0, q1, q2, i0, i1, i2, e0, hlen, g0, g1, g2, g3, g4] <;> rfl) ?_
 refine cw_region ?_
 refine ow_me rfl ?_
 refine ow_me rfl ?_
 refine ow_op (by simp only [zo, lenD_str, lenD_nils, lenD_sl, lenD_msl, z0, c0, o0, s1, c1, o1, hng, m0, m1, m2, q0, q1, q2, i0, i1, i2, e0, hlen, g0, g1, g2, g3, g4] <;> exact rfl) ?_
 refine ow_op (by simp only [zo, binD, zb, Int.reduceEq, Int.reduceToNat, Int.reduceLT, z0, c0, o0, s1, c1, o1, hng, m0, m1, m2, q0, q1, q2, i0, i1, i2, e0, hlen, g0, g1, g2, g3, g4] <;> exact rfl) ?_
 refine ow_op (by simp only [zo, binD, zb, Int.reduceEq, Int.reduceToNat, Int.reduceLT, z0, c0, o0, s1, c1, o1, hng, m0, m1, m2, q0, q1, q2, i0, i1, i2, e0, hlen, g0, g1, g2, g3, g4] <;> exact rfl) ?_
 refine ow_op (by simp only [zo, binD, zb, Int.reduceEq, Int.reduceToNat, Int.reduceLT, z0, c0, o0, s1, c1, o1, hng, m0, m1, m2, q0, q1, q2, i0, i1, i2, e0, hlen, g0, g1, g2, g3, g4] <;> exact rfl) ?_
 refine ow_op (by simp only [zo, binD, zb, Int.reduceEq, Int.reduceToNat, Int.reduceLT, z0, c0, o0, s1, c1, o1, hng, m0, m1, m2, q0, q1, q2, i0, i1, i2, e0, hlen, g0, g1, g2, g3, g4] <;> exact rfl) ?_
 refine ow_ml rfl ?_
 refine ow_nil ?_
 refine sk_n (by simp only [ze] <;> exact rfl) ?_
 refine cw_seq (cw_region ?_)
 refine ow_mc ?_
 refine ow_nil ?_
 refine sk_n (by simp only [ze] <;> exact rfl) ?_
 refine cw_seq (cw_seq (cw_region ?_))
 refine ow_op (by simp only [zo, faddrD_ptr, faddrD_cptr, zm, z0, c0, o0, s1, c1, o1, hng, m0, m1, m2, q0, q1, q2, i0, i1, i2, e0, hlen, g0, g1, g2, g3, g4] <;> exact rfl) ?_
 refine ow_op (by simp only [zl, zm, zd, partD, List.take, List.drop, z0, c0, o0, s1, c1, o1, hng, m0, m1, m2, q0, q1, q2, i0, i1, i2, e0, hlen, g0, g1, g2, g3, g4] <;> exact rfl) ?_
 refine ow_mc ?_
 refine ow_nil ?_
 refine sk_n (by simp only [ze] <;> exact rfl) ?_
 refine cw_block (cw_unroll ?_)
 refine cl_step ?_
 refine cw_seq (cw_region ?_)
 refine ow_op (by simp only [zo, binD, zb, Int.reduceEq, Int.reduceToNat, Int.reduceLT, z0, c0, o0, s1, c1, o1, hng, m0, m1, m2, q0, q1, q2, i0, i1, i2, e0, hlen, g0, g1, g2, g3, g4] <;> exact rfl) ?_
 refine ow_nil ?_
 refine sk_n (by simp only [ze] <;> exact rfl) ?_
 refine cw_seq ?_
 skip
 refine cw_true (by simp only [opd, zv, z0, c0, o0, s1, c1, o1, hng, m0, m1, m2, q0, q1, q2, i0, i1, i2, e0, hlen, g0, g1, g2, g3, g4] <;> rfl) ?_
 refine cw_skip (sk_n rfl (cw_seq (cw_block (cw_seq (cw_region ?_)))))
 refine ow_me rfl ?_
 refine ow_op (by simp only [zo, binD, zb, Int.reduceEq, Int.reduceToNat, Int.reduceLT, z0, c0, o0, s1, c1, o1, hng, m0, m1, m2, q0, q1, q2, i0, i1, i2, e0, hlen, g0, g1, g2, g3, g4] <;> exact rfl) ?_
 refine ow_me rfl ?_
 refine ow_op (by simp only [zo, binD, zb, Int.reduceEq, Int.reduceToNat, Int.reduceLT, z0, c0, o0, s1, c1, o1, hng, m0, m1, m2, q0, q1, q2, i0, i1, i2, e0, hlen, g0, g1, g2, g3, g4] <;> exact rfl) ?_
 refine ow_op (by simp only [zo, binD, zb, Int.reduceEq, Int.reduceToNat, Int.reduceLT, z0, c0, o0, s1, c1, o1, hng, m0, m1, m2, q0, q1, q2, i0, i1, i2, e0, hlen, g0, g1, g2, g3, g4] <;> exact rfl) ?_
 refine ow_op (by simp only [opd, zv, exOp, aop, LOp.loud, Bool.false_eq_true, if_false]; rw [plain_S', str_midU _ [48, 49, 50, 51, 52, 53, 54, 55, 56, 57] (M % 10) (M % 10 + 1) (by omega) (by simp; omega), plain_at (by omega)]; exact rfl) ?_
 refine ow_me rfl ?_
 refine ow_op (by simp only [opd, zv, exOp, aop, LOp.loud, pop, Bool.false_eq_true, if_false, mkS_nil]; rw [sadd _ _ (by simp)]; exact rfl) ?_
 refine ow_ml rfl ?_
 refine ow_nil ?_
 refine sk_n (by simp only [ze] <;> exact rfl) ?_
 refine cw_region ?_
 refine ow_me rfl ?_
 refine ow_op (by simp only [zo, binD, zb, Int.reduceEq, Int.reduceToNat, Int.reduceLT, z0, c0, o0, s1, c1, o1, hng, m0, m1, m2, q0, q1, q2, i0, i1, i2, e0, hlen, g0, g1, g2, g3, g4] <;> exact rfl) ?_
 refine ow_ml rfl ?_
 refine ow_nil (bk_n ?_)
 refine sk_n (by simp only [ze] <;> exact rfl) ?_
 refine cw_region ?_
 refine ow_op (by simp only [zo, binD, zb, Int.reduceEq, Int.reduceToNat, Int.reduceLT, z0, c0, o0, s1, c1, o1, hng, m0, m1, m2, q0, q1, q2, i0, i1, i2, e0, hlen, g0, g1, g2, g3, g4] <;> exact rfl) ?_
 refine ow_ml rfl ?_
 refine ow_nil ?_
 refine lu_n (by simp only [ze] <;> exact rfl) ?_
 refine cl_step ?_
 refine cw_seq (cw_region ?_)
 refine ow_op (by simp only [zo, binD, zb, Int.reduceEq, Int.reduceToNat, Int.reduceLT, z0, c0, o0, s1, c1, o1, hng, m0, m1, m2, q0, q1, q2, i0, i1, i2, e0, hlen, g0, g1, g2, g3, g4] <;> exact rfl) ?_
 refine ow_nil ?_
 refine sk_n (by simp only [ze] <;> exact rfl) ?_
 refine cw_seq ?_
 skip
 refine cw_true (by simp only [opd, zv, z0, c0, o0, s1, c1, o1, hng, m0, m1, m2, q0, q1, q2, i0, i1, i2, e0, hlen, g0, g1, g2, g3, g4] <;> rfl) ?_
 refine cw_skip (sk_n rfl (cw_seq (cw_block (cw_seq (cw_region ?_)))))
 refine ow_me rfl ?_
 refine ow_op (by simp only [zo, binD, zb, Int.reduceEq, Int.reduceToNat, Int.reduceLT, z0, c0, o0, s1, c1, o1, hng, m0, m1, m2, q0, q1, q2, i0, i1, i2, e0, hlen, g0, g1, g2, g3, g4] <;> exact rfl) ?_
 refine ow_me rfl ?_
 refine ow_op (by simp only [zo, binD, zb, Int.reduceEq, Int.reduceToNat, Int.reduceLT, z0, c0, o0, s1, c1, o1, hng, m0, m1, m2, q0, q1, q2, i0, i1, i2, e0, hlen, g0, g1, g2, g3, g4] <;> exact rfl) ?_
 refine ow_op (by simp only [zo, binD, zb, Int.reduceEq, Int.reduceToNat, Int.reduceLT, z0, c0, o0, s1, c1, o1, hng, m0, m1, m2, q0, q1, q2, i0, i1, i2, e0, hlen, g0, g1, g2, g3, g4] <;> exact rfl) ?_
 refine ow_op (by simp only [opd, zv, exOp, aop, LOp.loud, Bool.false_eq_true, if_false]; rw [plain_S', str_midU _ [48, 49, 50, 51, 52, 53, 54, 55, 56, 57] (M / 10 % 10) (M / 10 % 10 + 1) (by omega) (by simp; omega), plain_at (by omega)]; exact rfl) ?_
 refine ow_me rfl ?_
 refine ow_op (by simp only [opd, zv, exOp, aop, LOp.loud, pop, Bool.false_eq_true, if_false, mkS_nil]; rw [sadd _ _ (by simp)]; exact rfl) ?_
 refine ow_ml rfl ?_
 refine ow_nil ?_
 refine sk_n (by simp only [ze] <;> exact rfl) ?_
 refine cw_region ?_
 refine ow_me rfl ?_
 refine ow_op (by simp only [zo, binD, zb, Int.reduceEq, Int.reduceToNat, Int.reduceLT, z0, c0, o0, s1, c1, o1, hng, m0, m1, m2, q0, q1, q2, i0, i1, i2, e0, hlen, g0, g1, g2, g3, g4] <;> exact rfl) ?_
 refine ow_ml rfl ?_
 refine ow_nil (bk_n ?_)
 refine sk_n (by simp only [ze] <;> exact rfl) ?_
 refine cw_region ?_
 refine ow_op (by simp only [zo, binD, zb, Int.reduceEq, Int.reduceToNat, Int.reduceLT, z0, c0, o0, s1, c1, o1, hng, m0, m1, m2, q0, q1, q2, i0, i1, i2, e0, hlen, g0, g1, g2, g3, g4] <;> exact rfl) ?_
 refine ow_ml rfl ?_
 refine ow_nil ?_
 refine lu_n (by simp only [ze] <;> exact rfl) ?_
 refine cl_step ?_
 refine cw_seq (cw_region ?_)
 refine ow_op (by simp only [zo, binD, zb, Int.reduceEq, Int.reduceToNat, Int.reduceLT, z0, c0, o0, s1, c1, o1, hng, m0, m1, m2, q0, q1, q2, i0, i1, i2, e0, hlen, g0, g1, g2, g3, g4] <;> exact rfl) ?_
 refine ow_nil ?_
 refine sk_n (by simp only [ze] <;> exact rfl) ?_
 refine cw_seq ?_
 skip
 refine cw_true (by simp only [opd, zv, z0, c0, o0, s1, c1, o1, hng, m0, m1, m2, q0, q1, q2, i0, i1, i2, e0, hlen, g0, g1, g2, g3, g4] <;> rfl) ?_
 refine cw_skip (sk_n rfl (cw_seq (cw_block (cw_seq (cw_region ?_)))))
 refine ow_me rfl ?_
 refine ow_op (by simp only [zo, binD, zb, Int.reduceEq, Int.reduceToNat, Int.reduceLT, z0, c0, o0, s1, c1, o1, hng, m0, m1, m2, q0, q1, q2, i0, i1, i2, e0, hlen, g0, g1, g2, g3, g4] <;> exact rfl) ?_
 refine ow_me rfl ?_
 refine ow_op (by simp only [zo, binD, zb, Int.reduceEq, Int.reduceToNat, Int.reduceLT, z0, c0, o0, s1, c1, o1, hng, m0, m1, m2, q0, q1, q2, i0, i1, i2, e0, hlen, g0, g1, g2, g3, g4] <;> exact rfl) ?_
 refine ow_op (by simp only [zo, binD, zb, Int.reduceEq, Int.reduceToNat, Int.reduceLT, z0, c0, o0, s1, c1, o1, hng, m0, m1, m2, q0, q1, q2, i0, i1, i2, e0, hlen, g0, g1, g2, g3, g4] <;> exact rfl) ?_
 refine ow_op (by simp only [opd, zv, exOp, aop, LOp.loud, Bool.false_eq_true, if_false]; rw [plain_S', str_midU _ [48, 49, 50, 51, 52, 53, 54, 55, 56, 57] (M / 10 / 10 % 10) (M / 10 / 10 % 10 + 1) (by omega) (by simp; omega), plain_at (by omega)]; exact rfl) ?_
 refine ow_me rfl ?_
 refine ow_op (by simp only [opd, zv, exOp, aop, LOp.loud, pop, Bool.false_eq_true, if_false, mkS_nil]; rw [sadd _ _ (by simp)]; exact rfl) ?_
 refine ow_ml rfl ?_
 refine ow_nil ?_
 refine sk_n (by simp only [ze] <;> exact rfl) ?_
 refine cw_region ?_
 refine ow_me rfl ?_
 refine ow_op (by simp only [zo, binD, zb, Int.reduceEq, Int.reduceToNat, Int.reduceLT, z0, c0, o0, s1, c1, o1, hng, m0, m1, m2, q0, q1, q2, i0, i1, i2, e0, hlen, g0, g1, g2, g3, g4] <;> exact rfl) ?_
 refine ow_ml rfl ?_
 refine ow_nil (bk_n ?_)
 refine sk_n (by simp only [ze] <;> exact rfl) ?_
 refine cw_region ?_
 refine ow_op (by simp only [zo, binD, zb, Int.reduceEq, Int.reduceToNat, Int.reduceLT, z0, c0, o0, s1, c1, o1, hng, m0, m1, m2, q0, q1, q2, i0, i1, i2, e0, hlen, g0, g1, g2, g3, g4] <;> exact rfl) ?_
 refine ow_ml rfl ?_
 refine ow_nil ?_
 refine lu_n (by simp only [ze] <;> exact rfl) ?_
 refine cl_step ?_
 refine cw_seq (cw_region ?_)
 refine ow_op (by simp only [zo, binD, zb, Int.reduceEq, Int.reduceToNat, Int.reduceLT, z0, c0, o0, s1, c1, o1, hng, m0, m1, m2, q0, q1, q2, i0, i1, i2, e0, hlen, g0, g1, g2, g3, g4] <;> exact rfl) ?_
 refine ow_nil ?_
 refine sk_n (by simp only [ze] <;> exact rfl) ?_
 refine cw_seq ?_
 skip
 refine cw_false (by simp only [opd, zv, z0, c0, o0, s1, c1, o1, hng, m0, m1, m2, q0, q1, q2, i0, i1, i2, e0, hlen, g0, g1, g2, g3, g4] <;> rfl) ?_
 refine cw_exit (sk_e (lu_e (bk_e (sk_n rfl (cw_seq (cw_region ?_))))))
 refine ow_me rfl ?_
 refine ow_me rfl ?_
 refine ow_op (by simp only [zo, fillD, overlay, zc, List.take, List.drop, Nat.reduceAdd, Nat.reduceLeDiff, Nat.reduceBEq, zm, z0, c0, o0, s1, c1, o1, hng, m0, m1, m2, q0, q1, q2, i0, i1, i2, e0, hlen, g0, g1, g2, g3, g4] <;> exact rfl) ?_
 refine ow_me rfl ?_
 refine ow_op (by simp only [zo, binD, zb, Int.reduceEq, Int.reduceToNat, Int.reduceLT, z0, c0, o0, s1, c1, o1, hng, m0, m1, m2, q0, q1, q2, i0, i1, i2, e0, hlen, g0, g1, g2, g3, g4] <;> exact rfl) ?_
 refine ow_op (by simp only [zl, zm, storeD, overlay, snapVs, snaps, zs, zc, zf, List.take, List.drop, z0, c0, o0, s1, c1, o1, hng, m0, m1, m2, q0, q1, q2, i0, i1, i2, e0, hlen, g0, g1, g2, g3, g4] <;> exact rfl) ?_
 refine ow_ml rfl ?_
 refine ow_nil ?_
 refine sk_n (by simp only [ze] <;> exact rfl) ?_
 refine cw_ret ?_
 refine ⟨_, by simp only [F166, resultD, resDs, resD, List.getD_cons_zero, List.getD_cons_succ, zd, rowsOf, partD, List.getElem?_cons_zero, List.getElem?_cons_succ, if_true, if_false, Bool.false_eq_true, List.take, List.drop, zm] <;> exact rfl, ?_⟩
 simp only [leaveP, leave, snapVs, snaps, zs, zf, zk]

end Go.Proofs.YtabgobmeibjeeaaGreatDoor

namespace Go.Proofs.YtabgobmeibjeeaaGreatDoor
set_option linter.unusedVariables false
set_option linter.unusedSimpArgs false
set_option maxRecDepth 10000

/-- the digits of a number up to 999 -/
def dg3 (M : Nat) : List UInt8 := [dch (M / 100 % 10), dch (M / 10 % 10), dch (M % 10)]
/-- the bytes: zoned, packed, binary -/
def zB (x : Int) : List UInt8 := [dch (x.natAbs / 100 % 10), dch (x.natAbs / 10 % 10), sch (decide (x < 0)) (x.natAbs % 10)]
def pB (x : Int) : List UInt8 := [UInt8.ofNat (16 * (x.natAbs / 100 % 10) + x.natAbs / 10 % 10), UInt8.ofNat (16 * (x.natAbs % 10) + (if x < 0 then 13 else 12))]
def bN (x : Int) : Nat := if x < 0 then 65536 - x.natAbs else x.natAbs
def bB (x : Int) : List UInt8 := [UInt8.ofNat (bN x / 256), UInt8.ofNat (bN x % 256)]
theorem dg3_num (M : Nat) : isNum (dg3 M) = true := by
  have e : (dg3 M).all isDig = true := by
    simp only [dg3, List.all_cons, List.all_nil, dch_dig (show M / 100 % 10 < 10 by omega), dch_dig (show M / 10 % 10 < 10 by omega), dch_dig (show M % 10 < 10 by omega), Bool.and_self]
  simp only [isNum, e, Bool.and_true]
  rfl
theorem dch_nat {k : Nat} (h : k < 10) : (dch k).toNat = 48 + k := u8_of _ (by omega)
theorem cmpI_lt {a b : Int} (h : a < b) : cmpI a b = -1 := by rw [cmpI, if_pos h]
theorem cmpI_gt {a b : Int} (h : b < a) : cmpI a b = 1 := by rw [cmpI, if_neg (by omega), if_pos h]
theorem cmpI_eq {a b : Int} (h : a = b) : cmpI a b = 0 := by rw [cmpI, if_neg (by omega), if_neg (by omega)]
theorem dg3_cmp (M N : Nat) (hM : M ≤ 999) (hN : N ≤ 999) : cmpT (dg3 M) (dg3 N) = cmpI M N := by
  have a0 := dch_nat (show M / 100 % 10 < 10 by omega)
  have a1 := dch_nat (show M / 10 % 10 < 10 by omega)
  have a2 := dch_nat (show M % 10 < 10 by omega)
  have b0 := dch_nat (show N / 100 % 10 < 10 by omega)
  have b1 := dch_nat (show N / 10 % 10 < 10 by omega)
  have b2 := dch_nat (show N % 10 < 10 by omega)
  simp only [dg3, cmpT, a0, a1, a2, b0, b1, b2]
  have k0 : ((48 + M / 100 % 10 : Nat) : Int) = 48 + ((M / 100 % 10 : Nat) : Int) := by omega
  rcases Nat.lt_trichotomy (M / 100 % 10) (N / 100 % 10) with h0 | h0 | h0
  · rw [cmpI_lt (show ((48 + M / 100 % 10 : Nat) : Int) < ((48 + N / 100 % 10 : Nat) : Int) by omega), cmpI_lt (show ((M : Nat) : Int) < ((N : Nat) : Int) by omega)]; rfl
  · rw [cmpI_eq (show ((48 + M / 100 % 10 : Nat) : Int) = ((48 + N / 100 % 10 : Nat) : Int) by omega)]
    rcases Nat.lt_trichotomy (M / 10 % 10) (N / 10 % 10) with h1 | h1 | h1
    · rw [cmpI_lt (show ((48 + M / 10 % 10 : Nat) : Int) < ((48 + N / 10 % 10 : Nat) : Int) by omega), cmpI_lt (show ((M : Nat) : Int) < ((N : Nat) : Int) by omega)]; rfl
    · rw [cmpI_eq (show ((48 + M / 10 % 10 : Nat) : Int) = ((48 + N / 10 % 10 : Nat) : Int) by omega)]
      rcases Nat.lt_trichotomy (M % 10) (N % 10) with h2 | h2 | h2
      · rw [cmpI_lt (show ((48 + M % 10 : Nat) : Int) < ((48 + N % 10 : Nat) : Int) by omega), cmpI_lt (show ((M : Nat) : Int) < ((N : Nat) : Int) by omega)]; rfl
      · rw [cmpI_eq (show ((48 + M % 10 : Nat) : Int) = ((48 + N % 10 : Nat) : Int) by omega), cmpI_eq (show ((M : Nat) : Int) = ((N : Nat) : Int) by omega)]; rfl
      · rw [cmpI_gt (show ((48 + N % 10 : Nat) : Int) < ((48 + M % 10 : Nat) : Int) by omega), cmpI_gt (show ((N : Nat) : Int) < ((M : Nat) : Int) by omega)]; rfl
    · rw [cmpI_gt (show ((48 + N / 10 % 10 : Nat) : Int) < ((48 + M / 10 % 10 : Nat) : Int) by omega), cmpI_gt (show ((N : Nat) : Int) < ((M : Nat) : Int) by omega)]; rfl
  · rw [cmpI_gt (show ((48 + N / 100 % 10 : Nat) : Int) < ((48 + M / 100 % 10 : Nat) : Int) by omega), cmpI_gt (show ((N : Nat) : Int) < ((M : Nat) : Int) by omega)]; rfl
theorem nz_dg3 {M : Nat} (h : 1 ≤ M) (h9 : M ≤ 999) : nz (dg3 M) = true := by
  have a0 := dch_nat (show M / 100 % 10 < 10 by omega)
  have a1 := dch_nat (show M / 10 % 10 < 10 by omega)
  have a2 := dch_nat (show M % 10 < 10 by omega)
  simp only [nz, strip0, bne_iff_ne, ne_eq]
  rw [dropWhile_all]
  simp only [dg3, List.all_cons, List.all_nil, Bool.and_true, Bool.and_eq_true, beq_iff_eq]
  rintro ⟨h1, h2, h3⟩
  have e1 := congrArg UInt8.toNat h1
  have e2 := congrArg UInt8.toNat h2
  have e3 := congrArg UInt8.toNat h3
  rw [a0] at e1
  rw [a1] at e2
  rw [a2] at e3
  have : (48 : UInt8).toNat = 48 := rfl
  omega
theorem cmpL_dg3 (M N : Nat) (hM : M ≤ 999) (hN : N ≤ 999) : cmpL (pad (max (strip (dg3 M)).length (strip (dg3 N)).length) (strip (dg3 M))) (pad (max (strip (dg3 M)).length (strip (dg3 N)).length) (strip (dg3 N))) = cmpI M N := by
  rw [cmpL_pad (dg3 M) (dg3 N) rfl (by simp [dg3]), cmpL_cmpT (dg3 M) (dg3 N) rfl, dg3_cmp M N hM hN]
/-- the order of the numbers -/
theorem cmp_num (x y : Int) (hx : -999 ≤ x ∧ x ≤ 999) (hy : -999 ≤ y ∧ y ≤ 999) : cmpN (decide (x < 0) && nz (dg3 x.natAbs)) (decide (y < 0) && nz (dg3 y.natAbs)) (strip (dg3 x.natAbs)) (strip (dg3 y.natAbs)) = cmpI x y := by
  have key : ∀ a b : Int, a < b ∨ a = b ∨ b < a := fun a b => by omega
  by_cases h1 : x < 0
  · by_cases h2 : y < 0
    · rw [decide_eq_true h1, decide_eq_true h2, nz_dg3 (by omega) (by omega), nz_dg3 (by omega) (by omega)]
      rw [cmpN, if_pos rfl, if_pos (show (true && true) = true from rfl), Nat.max_comm, cmpL_dg3 _ _ (by omega) (by omega)]
      rcases key x y with h | h | h
      · rw [cmpI_lt h, cmpI_lt (by omega)]
      · rw [cmpI_eq h, cmpI_eq (by omega)]
      · rw [cmpI_gt h, cmpI_gt (by omega)]
    · rw [decide_eq_true h1, decide_eq_false h2, nz_dg3 (by omega) (by omega), Bool.false_and, Bool.and_true]
      rw [cmpN, if_neg (by simp), if_pos rfl, cmpI_lt (by omega)]
  · by_cases h2 : y < 0
    · rw [decide_eq_false h1, decide_eq_true h2, nz_dg3 (M := y.natAbs) (by omega) (by omega), Bool.false_and, Bool.and_true]
      rw [cmpN, if_neg (by simp), if_neg (by simp), cmpI_gt (by omega)]
    · rw [decide_eq_false h1, decide_eq_false h2, Bool.false_and, Bool.false_and]
      rw [cmpN, if_pos rfl, if_neg (by simp), cmpL_dg3 _ _ (by omega) (by omega)]
      rcases key x y with h | h | h
      · rw [cmpI_lt h, cmpI_lt (by omega)]
      · rw [cmpI_eq h, cmpI_eq (by omega)]
      · rw [cmpI_gt h, cmpI_gt (by omega)]
end Go.Proofs.YtabgobmeibjeeaaGreatDoor

namespace Go.Proofs.YtabgobmeibjeeaaGreatDoor
set_option linter.unusedSimpArgs false
set_option linter.unusedVariables false
set_option maxRecDepth 10000
set_option maxHeartbeats 4000000

theorem i64q (M k : Nat) (hk : 0 < k) (h : M ≤ 999) : IntKind.i64.wrap (((M : Nat) : Int).tdiv ((k : Nat) : Int)) = ((M / k : Nat) : Int) := by
 rw [Int.tdiv_eq_ediv_of_nonneg (by omega), ← Int.natCast_ediv, IntKind.wrap_i64]
 have h2 : M / k ≤ M := Nat.div_le_self M k
 generalize M / k = q at h2 ⊢
 omega
theorem u8w (n : Nat) (h : n < 256) : IntKind.u8.wrap ((n : Nat) : Int) = ((n : Nat) : Int) := by
 simp only [IntKind.wrap, IntKind.signed, IntKind.bits, Bool.false_and, Bool.false_eq_true, if_false]; omega
theorem w48' {k : Nat} (h : k < 10) : IntKind.u8.wrap (48 + ((k : Nat) : Int)) = ((dch k).toNat : Int) := by
 rw [Int.add_comm]; exact w48 h
theorem sch_at (ng : Bool) {k : Nat} (h : k < 10) : (if ng then (⟨#[125, 74, 75, 76, 77, 78, 79, 80, 81, 82]⟩ : ByteArray) else ⟨#[123, 65, 66, 67, 68, 69, 70, 71, 72, 73]⟩)[k]? = some (sch ng k) := by
 have : k = 0 ∨ k = 1 ∨ k = 2 ∨ k = 3 ∨ k = 4 ∨ k = 5 ∨ k = 6 ∨ k = 7 ∨ k = 8 ∨ k = 9 := by omega
 cases ng <;> rcases this with rfl | rfl | rfl | rfl | rfl | rfl | rfl | rfl | rfl | rfl <;> rfl
theorem nib_or : ∀ a < 10, ∀ b < 16, IntKind.u8.wrap (((BitVec.ofInt IntKind.u8.bits ((16 * a : Nat) : Int) ||| BitVec.ofInt IntKind.u8.bits ((b : Nat) : Int)).toNat : Nat) : Int) = (((UInt8.ofNat (16 * a + b)).toNat : Nat) : Int) := by decide +kernel
theorem nib_shl : ∀ a < 10, IntKind.u8.wrap (((a : Nat) : Int) * 2 ^ (min 4 IntKind.u8.bits)) = ((16 * a : Nat) : Int) := by decide +kernel
theorem nib_hi : ∀ a < 10, ∀ b < 16, (((UInt8.ofNat (16 * a + b)).toNat : Nat) : Int).fdiv (2 ^ (min 4 IntKind.u8.bits)) = ((a : Nat) : Int) := by decide +kernel
theorem nib_lo : ∀ a < 10, ∀ b < 16, IntKind.u8.wrap (((BitVec.ofInt IntKind.u8.bits (((UInt8.ofNat (16 * a + b)).toNat : Nat) : Int) &&& BitVec.ofInt IntKind.u8.bits 15).toNat : Nat) : Int) = ((b : Nat) : Int) := by decide +kernel

theorem zonedL_false {d : Nat} (hd : 1 ≤ d) (S : St) (M : Nat) (h9 : M ≤ 999) : runF LP NN d 19 [.int .i64 ((M : Nat) : Int)] S = some (.sl 1 (bR [dch (M / 100), dch (M / 10 % 10), sch false (M % 10)]) (some 3), S, false) := by
 have hneg : IntKind.i64.wrap (0 - ((M : Nat) : Int)) = -((M : Nat) : Int) := by rw [IntKind.wrap_i64]; omega
 have hmx : (if -((M : Nat) : Int) > ((M : Nat) : Int) then -((M : Nat) : Int) else ((M : Nat) : Int)) = ((M : Nat) : Int) := by split <;> omega
 have q1 : IntKind.i64.wrap (((M : Nat) : Int).tdiv 100) = ((M / 100 : Nat) : Int) := i64q M 100 (by omega) h9
 have q2 : IntKind.i64.wrap (((M : Nat) : Int).tdiv 10) = ((M / 10 : Nat) : Int) := i64q M 10 (by omega) h9
 have r0 : ((M : Nat) : Int).tmod 10 = ((M % 10 : Nat) : Int) := by rw [Int.tmod_eq_emod_of_nonneg (by omega)]; omega
 have r1 : ((M / 10 : Nat) : Int).tmod 10 = ((M / 10 % 10 : Nat) : Int) := by rw [Int.tmod_eq_emod_of_nonneg (by omega)]; omega
 have u1 := u8w (M / 100) (by omega)
 have u2 := u8w (M / 10 % 10) (by omega)
 have u3 := u8w (M % 10) (by omega)
 have hlt : decide (((M : Nat) : Int) < 0) = false := by first | exact decide_eq_false (by omega) | exact decide_eq_true (by omega)
 have hd3 : M / 100 = M / 100 % 10 := by omega
 have d1 := w48' (k := M / 100) (by omega)
 have d2 := w48' (k := M / 10 % 10) (by omega)
 have hix : (⟨#[123, 65, 66, 67, 68, 69, 70, 71, 72, 73]⟩ : ByteArray)[M % 10]? = some (sch false (M % 10)) := sch_at false (by omega)
 have h0 : (0 : Int) ≤ ((M % 10 : Nat) : Int) := by omega
 refine run_pure (F := F19) rfl (by simp only [LP, fnOf, snapVs, snaps, zs, Bool.false_eq_true, if_false, Option.map_some, List.map_cons, List.map_nil] <;> exact rfl) rfl (by simp only [LP, zf, List.all_cons, List.all_nil, Bool.and_true, Bool.true_and]; try rfl) (by simp only [F19, zv] <;> exact rfl) (by omega) ?_
 rintro d rfl
 refine cw_seq (cw_region ?_)
 refine ow_mc ?_
 refine ow_nil ?_
 refine sk_n (by simp only [ze] <;> exact rfl) ?_
 refine cw_seq (cw_region ?_)
 refine ow_me rfl ?_
 refine ow_me rfl ?_
 refine ow_op (by simp only [zo, unD, hneg, hmx, q1, q2, r0, r1, u1, u2, u3, hlt, d1, d2, hix, h0, Int.toNat_natCast] <;> exact rfl) ?_
 refine ow_op (by simp only [zo, foldD, maxD, hneg, hmx, q1, q2, r0, r1, u1, u2, u3, hlt, d1, d2, hix, h0, Int.toNat_natCast] <;> exact rfl) ?_
 refine ow_ml rfl ?_
 refine ow_nil ?_
 refine sk_n (by simp only [ze] <;> exact rfl) ?_
 refine cw_seq (cw_region ?_)
 refine ow_me rfl ?_
 refine ow_op (by simp only [zo, binD, zb, Int.reduceEq, Int.reduceToNat, Int.reduceLT, hneg, hmx, q1, q2, r0, r1, u1, u2, u3, hlt, d1, d2, hix, h0, Int.toNat_natCast] <;> exact rfl) ?_
 refine ow_op (by simp only [zo, hneg, hmx, q1, q2, r0, r1, u1, u2, u3, hlt, d1, d2, hix, h0, Int.toNat_natCast] <;> exact rfl) ?_
 refine ow_op (by simp only [zo, binD, zb, Int.reduceEq, Int.reduceToNat, Int.reduceLT, hneg, hmx, q1, q2, r0, r1, u1, u2, u3, hlt, d1, d2, hix, h0, Int.toNat_natCast] <;> exact rfl) ?_
 refine ow_me rfl ?_
 refine ow_op (by simp only [zo, binD, zb, Int.reduceEq, Int.reduceToNat, Int.reduceLT, hneg, hmx, q1, q2, r0, r1, u1, u2, u3, hlt, d1, d2, hix, h0, Int.toNat_natCast] <;> exact rfl) ?_
 refine ow_op (by simp only [zo, binD, zb, Int.reduceEq, Int.reduceToNat, Int.reduceLT, hneg, hmx, q1, q2, r0, r1, u1, u2, u3, hlt, d1, d2, hix, h0, Int.toNat_natCast] <;> exact rfl) ?_
 refine ow_op (by simp only [zo, hneg, hmx, q1, q2, r0, r1, u1, u2, u3, hlt, d1, d2, hix, h0, Int.toNat_natCast] <;> exact rfl) ?_
 refine ow_op (by simp only [zo, binD, zb, Int.reduceEq, Int.reduceToNat, Int.reduceLT, hneg, hmx, q1, q2, r0, r1, u1, u2, u3, hlt, d1, d2, hix, h0, Int.toNat_natCast] <;> exact rfl) ?_
 refine ow_op (by simp only [zl, zm, fillRows, List.replicate, snapVs, snaps, zs, zc, zf, hneg, hmx, q1, q2, r0, r1, u1, u2, u3, hlt, d1, d2, hix, h0, Int.toNat_natCast] <;> exact rfl) ?_
 refine ow_ml rfl ?_
 refine ow_nil ?_
 refine sk_n (by simp only [ze] <;> exact rfl) ?_
 refine cw_seq (cw_seq (cw_region ?_))
 refine ow_me rfl ?_
 refine ow_op (by simp only [zo, binD, zb, Int.reduceEq, Int.reduceToNat, Int.reduceLT, hneg, hmx, q1, q2, r0, r1, u1, u2, u3, hlt, d1, d2, hix, h0, Int.toNat_natCast] <;> exact rfl) ?_
 refine ow_nil ?_
 refine sk_n (by simp only [ze] <;> exact rfl) ?_
 skip
 refine cw_false (by simp only [opd, zv, hneg, hmx, q1, q2, r0, r1, u1, u2, u3, hlt, d1, d2, hix, h0, Int.toNat_natCast] <;> rfl) ?_
 refine cw_region ?_
 refine ow_me rfl ?_
 refine ow_me rfl ?_
 refine ow_op (by simp only [zo, binD, zb, Int.reduceEq, Int.reduceToNat, Int.reduceLT, hneg, hmx, q1, q2, r0, r1, u1, u2, u3, hlt, d1, d2, hix, h0, Int.toNat_natCast] <;> exact rfl) ?_
 refine ow_op (by simp only [zo, indexD, zm, hneg, hmx, q1, q2, r0, r1, u1, u2, u3, hlt, d1, d2, hix, h0, Int.toNat_natCast] <;> exact rfl) ?_
 refine ow_op (by simp only [zl, zm, iaddrD_sl, iaddrD_msl, Int.toNat_natCast, Int.toNat_zero, List.getElem?_map, Option.map_some, Int.le_refl, hneg, hmx, q1, q2, r0, r1, u1, u2, u3, hlt, d1, d2, hix, h0, Int.toNat_natCast] <;> exact rfl) ?_
 refine ow_op (by simp only [zl, zm, storeD, overlay, snapVs, snaps, zs, zc, zf, List.take, List.drop, hneg, hmx, q1, q2, r0, r1, u1, u2, u3, hlt, d1, d2, hix, h0, Int.toNat_natCast] <;> exact rfl) ?_
 refine ow_nil ?_
 refine sk_n (by simp only [ze] <;> exact rfl) ?_
 refine cw_seq (cw_region ?_)
 refine ow_me rfl ?_
 refine ow_ml rfl ?_
 refine ow_nil ?_
 refine sk_n (by simp only [ze] <;> exact rfl) ?_
 refine cw_ret ?_
 refine ⟨_, by simp only [F19, resultD, resDs, resD, List.getD_cons_zero, List.getD_cons_succ, zd, rowsOf, partD, List.getElem?_cons_zero, List.getElem?_cons_succ, if_true, if_false, Bool.false_eq_true, List.take, List.drop, zm] <;> exact rfl, ?_⟩
 simp only [leaveP, leave, snapVs, snaps, zs, zf, zk]
 rfl

theorem packedL_false {d : Nat} (hd : 1 ≤ d) (S : St) (M : Nat) (h9 : M ≤ 999) : runF LP NN d 20 [.int .i64 ((M : Nat) : Int)] S = some (.sl 1 [[.int .u8 (UInt8.ofNat (16 * (M / 100) + M / 10 % 10)).toNat], [.int .u8 (UInt8.ofNat (16 * (M % 10) + 12)).toNat]] (some 2), S, false) := by
 have hneg : IntKind.i64.wrap (0 - ((M : Nat) : Int)) = -((M : Nat) : Int) := by rw [IntKind.wrap_i64]; omega
 have hmx : (if -((M : Nat) : Int) > ((M : Nat) : Int) then -((M : Nat) : Int) else ((M : Nat) : Int)) = ((M : Nat) : Int) := by split <;> omega
 have q1 : IntKind.i64.wrap (((M : Nat) : Int).tdiv 100) = ((M / 100 : Nat) : Int) := i64q M 100 (by omega) h9
 have q2 : IntKind.i64.wrap (((M : Nat) : Int).tdiv 10) = ((M / 10 : Nat) : Int) := i64q M 10 (by omega) h9
 have r0 : ((M : Nat) : Int).tmod 10 = ((M % 10 : Nat) : Int) := by rw [Int.tmod_eq_emod_of_nonneg (by omega)]; omega
 have r1 : ((M / 10 : Nat) : Int).tmod 10 = ((M / 10 % 10 : Nat) : Int) := by rw [Int.tmod_eq_emod_of_nonneg (by omega)]; omega
 have u1 := u8w (M / 100) (by omega)
 have u2 := u8w (M / 10 % 10) (by omega)
 have u3 := u8w (M % 10) (by omega)
 have hlt : decide (((M : Nat) : Int) < 0) = false := by first | exact decide_eq_false (by omega) | exact decide_eq_true (by omega)
 have hd3 : M / 100 = M / 100 % 10 := by omega
 have s1 := nib_shl (M / 100) (by omega)
 have s2 := nib_shl (M % 10) (by omega)
 have o1 := nib_or (M / 100) (by omega) (M / 10 % 10) (by omega)
 have o2 : IntKind.u8.wrap (((BitVec.ofInt IntKind.u8.bits ((16 * (M % 10) : Nat) : Int) ||| BitVec.ofInt IntKind.u8.bits 12).toNat : Nat) : Int) = (((UInt8.ofNat (16 * (M % 10) + 12)).toNat : Nat) : Int) := nib_or (M % 10) (by omega) 12 (by omega)
 refine run_pure (F := F20) rfl (by simp only [LP, fnOf, snapVs, snaps, zs, Bool.false_eq_true, if_false, Option.map_some, List.map_cons, List.map_nil] <;> exact rfl) rfl (by simp only [LP, zf, List.all_cons, List.all_nil, Bool.and_true, Bool.true_and]; try rfl) (by simp only [F20, zv] <;> exact rfl) (by omega) ?_
 rintro d rfl
 refine cw_seq (cw_region ?_)
 refine ow_mc ?_
 refine ow_nil ?_
 refine sk_n (by simp only [ze] <;> exact rfl) ?_
 refine cw_seq (cw_region ?_)
 refine ow_me rfl ?_
 refine ow_me rfl ?_
 refine ow_op (by simp only [zo, unD, hneg, hmx, q1, q2, r0, r1, u1, u2, u3, hlt, s1, s2, o1, o2] <;> exact rfl) ?_
 refine ow_op (by simp only [zo, foldD, maxD, hneg, hmx, q1, q2, r0, r1, u1, u2, u3, hlt, s1, s2, o1, o2] <;> exact rfl) ?_
 refine ow_ml rfl ?_
 refine ow_nil ?_
 refine sk_n (by simp only [ze] <;> exact rfl) ?_
 refine cw_seq (cw_region ?_)
 refine ow_mc ?_
 refine ow_nil ?_
 refine sk_n (by simp only [ze] <;> exact rfl) ?_
 refine cw_seq (cw_seq (cw_region ?_))
 refine ow_me rfl ?_
 refine ow_op (by simp only [zo, binD, zb, Int.reduceEq, Int.reduceToNat, Int.reduceLT, hneg, hmx, q1, q2, r0, r1, u1, u2, u3, hlt, s1, s2, o1, o2] <;> exact rfl) ?_
 refine ow_nil ?_
 refine sk_n (by simp only [ze] <;> exact rfl) ?_
 skip
 refine cw_false (by simp only [opd, zv, hneg, hmx, q1, q2, r0, r1, u1, u2, u3, hlt, s1, s2, o1, o2] <;> rfl) ?_
 refine cw_skip (sk_n rfl (cw_seq (cw_region ?_)))
 refine ow_me rfl ?_
 refine ow_op (by simp only [zo, binD, zb, Int.reduceEq, Int.reduceToNat, Int.reduceLT, hneg, hmx, q1, q2, r0, r1, u1, u2, u3, hlt, s1, s2, o1, o2] <;> exact rfl) ?_
 refine ow_op (by simp only [zo, hneg, hmx, q1, q2, r0, r1, u1, u2, u3, hlt, s1, s2, o1, o2] <;> exact rfl) ?_
 refine ow_op (by simp only [zo, binD, zb, Int.reduceEq, Int.reduceToNat, Int.reduceLT, hneg, hmx, q1, q2, r0, r1, u1, u2, u3, hlt, s1, s2, o1, o2] <;> exact rfl) ?_
 refine ow_me rfl ?_
 refine ow_op (by simp only [zo, binD, zb, Int.reduceEq, Int.reduceToNat, Int.reduceLT, hneg, hmx, q1, q2, r0, r1, u1, u2, u3, hlt, s1, s2, o1, o2] <;> exact rfl) ?_
 refine ow_op (by simp only [zo, binD, zb, Int.reduceEq, Int.reduceToNat, Int.reduceLT, hneg, hmx, q1, q2, r0, r1, u1, u2, u3, hlt, s1, s2, o1, o2] <;> exact rfl) ?_
 refine ow_op (by simp only [zo, hneg, hmx, q1, q2, r0, r1, u1, u2, u3, hlt, s1, s2, o1, o2] <;> exact rfl) ?_
 refine ow_op (by simp only [zo, binD, zb, Int.reduceEq, Int.reduceToNat, Int.reduceLT, hneg, hmx, q1, q2, r0, r1, u1, u2, u3, hlt, s1, s2, o1, o2] <;> exact rfl) ?_
 refine ow_me rfl ?_
 refine ow_op (by simp only [zo, binD, zb, Int.reduceEq, Int.reduceToNat, Int.reduceLT, hneg, hmx, q1, q2, r0, r1, u1, u2, u3, hlt, s1, s2, o1, o2] <;> exact rfl) ?_
 refine ow_op (by simp only [zo, hneg, hmx, q1, q2, r0, r1, u1, u2, u3, hlt, s1, s2, o1, o2] <;> exact rfl) ?_
 refine ow_op (by simp only [zo, binD, zb, Int.reduceEq, Int.reduceToNat, Int.reduceLT, hneg, hmx, q1, q2, r0, r1, u1, u2, u3, hlt, s1, s2, o1, o2] <;> exact rfl) ?_
 refine ow_me rfl ?_
 refine ow_op (by simp only [zo, binD, zb, Int.reduceEq, Int.reduceToNat, Int.reduceLT, hneg, hmx, q1, q2, r0, r1, u1, u2, u3, hlt, s1, s2, o1, o2] <;> exact rfl) ?_
 refine ow_op (by simp only [zl, zm, fillRows, List.replicate, snapVs, snaps, zs, zc, zf, hneg, hmx, q1, q2, r0, r1, u1, u2, u3, hlt, s1, s2, o1, o2] <;> exact rfl) ?_
 refine ow_ml rfl ?_
 refine ow_nil ?_
 refine sk_n (by simp only [ze] <;> exact rfl) ?_
 refine cw_ret ?_
 refine ⟨_, by simp only [F20, resultD, resDs, resD, List.getD_cons_zero, List.getD_cons_succ, zd, rowsOf, partD, List.getElem?_cons_zero, List.getElem?_cons_succ, if_true, if_false, Bool.false_eq_true, List.take, List.drop, zm] <;> exact rfl, ?_⟩
 simp only [leaveP, leave, snapVs, snaps, zs, zf, zk]

theorem zonedL_true {d : Nat} (hd : 1 ≤ d) (S : St) (M : Nat) (h9 : M ≤ 999) (h1 : 1 ≤ M) : runF LP NN d 19 [.int .i64 (-((M : Nat) : Int))] S = some (.sl 1 (bR [dch (M / 100), dch (M / 10 % 10), sch true (M % 10)]) (some 3), S, false) := by
 have hneg : IntKind.i64.wrap (0 - (-((M : Nat) : Int))) = -(-((M : Nat) : Int)) := by rw [IntKind.wrap_i64]; omega
 have hmx : (if -(-((M : Nat) : Int)) > (-((M : Nat) : Int)) then -(-((M : Nat) : Int)) else (-((M : Nat) : Int))) = ((M : Nat) : Int) := by split <;> omega
 have q1 : IntKind.i64.wrap (((M : Nat) : Int).tdiv 100) = ((M / 100 : Nat) : Int) := i64q M 100 (by omega) h9
 have q2 : IntKind.i64.wrap (((M : Nat) : Int).tdiv 10) = ((M / 10 : Nat) : Int) := i64q M 10 (by omega) h9
 have r0 : ((M : Nat) : Int).tmod 10 = ((M % 10 : Nat) : Int) := by rw [Int.tmod_eq_emod_of_nonneg (by omega)]; omega
 have r1 : ((M / 10 : Nat) : Int).tmod 10 = ((M / 10 % 10 : Nat) : Int) := by rw [Int.tmod_eq_emod_of_nonneg (by omega)]; omega
 have u1 := u8w (M / 100) (by omega)
 have u2 := u8w (M / 10 % 10) (by omega)
 have u3 := u8w (M % 10) (by omega)
 have hlt : decide ((-((M : Nat) : Int)) < 0) = true := by first | exact decide_eq_false (by omega) | exact decide_eq_true (by omega)
 have hd3 : M / 100 = M / 100 % 10 := by omega
 have d1 := w48' (k := M / 100) (by omega)
 have d2 := w48' (k := M / 10 % 10) (by omega)
 have hix : (⟨#[125, 74, 75, 76, 77, 78, 79, 80, 81, 82]⟩ : ByteArray)[M % 10]? = some (sch true (M % 10)) := sch_at true (by omega)
 have h0 : (0 : Int) ≤ ((M % 10 : Nat) : Int) := by omega
 refine run_pure (F := F19) rfl (by simp only [LP, fnOf, snapVs, snaps, zs, Bool.false_eq_true, if_false, Option.map_some, List.map_cons, List.map_nil] <;> exact rfl) rfl (by simp only [LP, zf, List.all_cons, List.all_nil, Bool.and_true, Bool.true_and]; try rfl) (by simp only [F19, zv] <;> exact rfl) (by omega) ?_
 rintro d rfl
 refine cw_seq (cw_region ?_)
 refine ow_mc ?_
 refine ow_nil ?_
 refine sk_n (by simp only [ze] <;> exact rfl) ?_
 refine cw_seq (cw_region ?_)
 refine ow_me rfl ?_
 refine ow_me rfl ?_
 refine ow_op (by simp only [zo, unD, hneg, hmx, q1, q2, r0, r1, u1, u2, u3, hlt, d1, d2, hix, h0, Int.toNat_natCast] <;> exact rfl) ?_
 refine ow_op (by simp only [zo, foldD, maxD, hneg, hmx, q1, q2, r0, r1, u1, u2, u3, hlt, d1, d2, hix, h0, Int.toNat_natCast] <;> exact rfl) ?_
 refine ow_ml rfl ?_
 refine ow_nil ?_
 refine sk_n (by simp only [ze] <;> exact rfl) ?_
 refine cw_seq (cw_region ?_)
 refine ow_me rfl ?_
 refine ow_op (by simp only [zo, binD, zb, Int.reduceEq, Int.reduceToNat, Int.reduceLT, hneg, hmx, q1, q2, r0, r1, u1, u2, u3, hlt, d1, d2, hix, h0, Int.toNat_natCast] <;> exact rfl) ?_
 refine ow_op (by simp only [zo, hneg, hmx, q1, q2, r0, r1, u1, u2, u3, hlt, d1, d2, hix, h0, Int.toNat_natCast] <;> exact rfl) ?_
 refine ow_op (by simp only [zo, binD, zb, Int.reduceEq, Int.reduceToNat, Int.reduceLT, hneg, hmx, q1, q2, r0, r1, u1, u2, u3, hlt, d1, d2, hix, h0, Int.toNat_natCast] <;> exact rfl) ?_
 refine ow_me rfl ?_
 refine ow_op (by simp only [zo, binD, zb, Int.reduceEq, Int.reduceToNat, Int.reduceLT, hneg, hmx, q1, q2, r0, r1, u1, u2, u3, hlt, d1, d2, hix, h0, Int.toNat_natCast] <;> exact rfl) ?_
 refine ow_op (by simp only [zo, binD, zb, Int.reduceEq, Int.reduceToNat, Int.reduceLT, hneg, hmx, q1, q2, r0, r1, u1, u2, u3, hlt, d1, d2, hix, h0, Int.toNat_natCast] <;> exact rfl) ?_
 refine ow_op (by simp only [zo, hneg, hmx, q1, q2, r0, r1, u1, u2, u3, hlt, d1, d2, hix, h0, Int.toNat_natCast] <;> exact rfl) ?_
 refine ow_op (by simp only [zo, binD, zb, Int.reduceEq, Int.reduceToNat, Int.reduceLT, hneg, hmx, q1, q2, r0, r1, u1, u2, u3, hlt, d1, d2, hix, h0, Int.toNat_natCast] <;> exact rfl) ?_
 refine ow_op (by simp only [zl, zm, fillRows, List.replicate, snapVs, snaps, zs, zc, zf, hneg, hmx, q1, q2, r0, r1, u1, u2, u3, hlt, d1, d2, hix, h0, Int.toNat_natCast] <;> exact rfl) ?_
 refine ow_ml rfl ?_
 refine ow_nil ?_
 refine sk_n (by simp only [ze] <;> exact rfl) ?_
 refine cw_seq (cw_seq (cw_region ?_))
 refine ow_me rfl ?_
 refine ow_op (by simp only [zo, binD, zb, Int.reduceEq, Int.reduceToNat, Int.reduceLT, hneg, hmx, q1, q2, r0, r1, u1, u2, u3, hlt, d1, d2, hix, h0, Int.toNat_natCast] <;> exact rfl) ?_
 refine ow_nil ?_
 refine sk_n (by simp only [ze] <;> exact rfl) ?_
 skip
 refine cw_true (by simp only [opd, zv, hneg, hmx, q1, q2, r0, r1, u1, u2, u3, hlt, d1, d2, hix, h0, Int.toNat_natCast] <;> rfl) ?_
 refine cw_region ?_
 refine ow_me rfl ?_
 refine ow_me rfl ?_
 refine ow_op (by simp only [zo, binD, zb, Int.reduceEq, Int.reduceToNat, Int.reduceLT, hneg, hmx, q1, q2, r0, r1, u1, u2, u3, hlt, d1, d2, hix, h0, Int.toNat_natCast] <;> exact rfl) ?_
 refine ow_op (by simp only [zo, indexD, zm, hneg, hmx, q1, q2, r0, r1, u1, u2, u3, hlt, d1, d2, hix, h0, Int.toNat_natCast] <;> exact rfl) ?_
 refine ow_op (by simp only [zl, zm, iaddrD_sl, iaddrD_msl, Int.toNat_natCast, Int.toNat_zero, List.getElem?_map, Option.map_some, Int.le_refl, hneg, hmx, q1, q2, r0, r1, u1, u2, u3, hlt, d1, d2, hix, h0, Int.toNat_natCast] <;> exact rfl) ?_
 refine ow_op (by simp only [zl, zm, storeD, overlay, snapVs, snaps, zs, zc, zf, List.take, List.drop, hneg, hmx, q1, q2, r0, r1, u1, u2, u3, hlt, d1, d2, hix, h0, Int.toNat_natCast] <;> exact rfl) ?_
 refine ow_nil ?_
 refine sk_n (by simp only [ze] <;> exact rfl) ?_
 refine cw_seq (cw_region ?_)
 refine ow_me rfl ?_
 refine ow_ml rfl ?_
 refine ow_nil ?_
 refine sk_n (by simp only [ze] <;> exact rfl) ?_
 refine cw_ret ?_
 refine ⟨_, by simp only [F19, resultD, resDs, resD, List.getD_cons_zero, List.getD_cons_succ, zd, rowsOf, partD, List.getElem?_cons_zero, List.getElem?_cons_succ, if_true, if_false, Bool.false_eq_true, List.take, List.drop, zm] <;> exact rfl, ?_⟩
 simp only [leaveP, leave, snapVs, snaps, zs, zf, zk]
 rfl

theorem packedL_true {d : Nat} (hd : 1 ≤ d) (S : St) (M : Nat) (h9 : M ≤ 999) (h1 : 1 ≤ M) : runF LP NN d 20 [.int .i64 (-((M : Nat) : Int))] S = some (.sl 1 [[.int .u8 (UInt8.ofNat (16 * (M / 100) + M / 10 % 10)).toNat], [.int .u8 (UInt8.ofNat (16 * (M % 10) + 13)).toNat]] (some 2), S, false) := by
 have hneg : IntKind.i64.wrap (0 - (-((M : Nat) : Int))) = -(-((M : Nat) : Int)) := by rw [IntKind.wrap_i64]; omega
 have hmx : (if -(-((M : Nat) : Int)) > (-((M : Nat) : Int)) then -(-((M : Nat) : Int)) else (-((M : Nat) : Int))) = ((M : Nat) : Int) := by split <;> omega
 have q1 : IntKind.i64.wrap (((M : Nat) : Int).tdiv 100) = ((M / 100 : Nat) : Int) := i64q M 100 (by omega) h9
 have q2 : IntKind.i64.wrap (((M : Nat) : Int).tdiv 10) = ((M / 10 : Nat) : Int) := i64q M 10 (by omega) h9
 have r0 : ((M : Nat) : Int).tmod 10 = ((M % 10 : Nat) : Int) := by rw [Int.tmod_eq_emod_of_nonneg (by omega)]; omega
 have r1 : ((M / 10 : Nat) : Int).tmod 10 = ((M / 10 % 10 : Nat) : Int) := by rw [Int.tmod_eq_emod_of_nonneg (by omega)]; omega
 have u1 := u8w (M / 100) (by omega)
 have u2 := u8w (M / 10 % 10) (by omega)
 have u3 := u8w (M % 10) (by omega)
 have hlt : decide ((-((M : Nat) : Int)) < 0) = true := by first | exact decide_eq_false (by omega) | exact decide_eq_true (by omega)
 have hd3 : M / 100 = M / 100 % 10 := by omega
 have s1 := nib_shl (M / 100) (by omega)
 have s2 := nib_shl (M % 10) (by omega)
 have o1 := nib_or (M / 100) (by omega) (M / 10 % 10) (by omega)
 have o2 : IntKind.u8.wrap (((BitVec.ofInt IntKind.u8.bits ((16 * (M % 10) : Nat) : Int) ||| BitVec.ofInt IntKind.u8.bits 13).toNat : Nat) : Int) = (((UInt8.ofNat (16 * (M % 10) + 13)).toNat : Nat) : Int) := nib_or (M % 10) (by omega) 13 (by omega)
 refine run_pure (F := F20) rfl (by simp only [LP, fnOf, snapVs, snaps, zs, Bool.false_eq_true, if_false, Option.map_some, List.map_cons, List.map_nil] <;> exact rfl) rfl (by simp only [LP, zf, List.all_cons, List.all_nil, Bool.and_true, Bool.true_and]; try rfl) (by simp only [F20, zv] <;> exact rfl) (by omega) ?_
 rintro d rfl
 refine cw_seq (cw_region ?_)
 refine ow_mc ?_
 refine ow_nil ?_
 refine sk_n (by simp only [ze] <;> exact rfl) ?_
 refine cw_seq (cw_region ?_)
 refine ow_me rfl ?_
 refine ow_me rfl ?_
 refine ow_op (by simp only [zo, unD, hneg, hmx, q1, q2, r0, r1, u1, u2, u3, hlt, s1, s2, o1, o2] <;> exact rfl) ?_
 refine ow_op (by simp only [zo, foldD, maxD, hneg, hmx, q1, q2, r0, r1, u1, u2, u3, hlt, s1, s2, o1, o2] <;> exact rfl) ?_
 refine ow_ml rfl ?_
 refine ow_nil ?_
 refine sk_n (by simp only [ze] <;> exact rfl) ?_
 refine cw_seq (cw_region ?_)
 refine ow_mc ?_
 refine ow_nil ?_
 refine sk_n (by simp only [ze] <;> exact rfl) ?_
 refine cw_seq (cw_seq (cw_region ?_))
 refine ow_me rfl ?_
 refine ow_op (by simp only [zo, binD, zb, Int.reduceEq, Int.reduceToNat, Int.reduceLT, hneg, hmx, q1, q2, r0, r1, u1, u2, u3, hlt, s1, s2, o1, o2] <;> exact rfl) ?_
 refine ow_nil ?_
 refine sk_n (by simp only [ze] <;> exact rfl) ?_
 skip
 refine cw_true (by simp only [opd, zv, hneg, hmx, q1, q2, r0, r1, u1, u2, u3, hlt, s1, s2, o1, o2] <;> rfl) ?_
 refine cw_region ?_
 refine ow_mc ?_
 refine ow_nil ?_
 refine sk_n (by simp only [ze] <;> exact rfl) ?_
 refine cw_seq (cw_region ?_)
 refine ow_me rfl ?_
 refine ow_op (by simp only [zo, binD, zb, Int.reduceEq, Int.reduceToNat, Int.reduceLT, hneg, hmx, q1, q2, r0, r1, u1, u2, u3, hlt, s1, s2, o1, o2] <;> exact rfl) ?_
 refine ow_op (by simp only [zo, hneg, hmx, q1, q2, r0, r1, u1, u2, u3, hlt, s1, s2, o1, o2] <;> exact rfl) ?_
 refine ow_op (by simp only [zo, binD, zb, Int.reduceEq, Int.reduceToNat, Int.reduceLT, hneg, hmx, q1, q2, r0, r1, u1, u2, u3, hlt, s1, s2, o1, o2] <;> exact rfl) ?_
 refine ow_me rfl ?_
 refine ow_op (by simp only [zo, binD, zb, Int.reduceEq, Int.reduceToNat, Int.reduceLT, hneg, hmx, q1, q2, r0, r1, u1, u2, u3, hlt, s1, s2, o1, o2] <;> exact rfl) ?_
 refine ow_op (by simp only [zo, binD, zb, Int.reduceEq, Int.reduceToNat, Int.reduceLT, hneg, hmx, q1, q2, r0, r1, u1, u2, u3, hlt, s1, s2, o1, o2] <;> exact rfl) ?_
 refine ow_op (by simp only [zo, hneg, hmx, q1, q2, r0, r1, u1, u2, u3, hlt, s1, s2, o1, o2] <;> exact rfl) ?_
 refine ow_op (by simp only [zo, binD, zb, Int.reduceEq, Int.reduceToNat, Int.reduceLT, hneg, hmx, q1, q2, r0, r1, u1, u2, u3, hlt, s1, s2, o1, o2] <;> exact rfl) ?_
 refine ow_me rfl ?_
 refine ow_op (by simp only [zo, binD, zb, Int.reduceEq, Int.reduceToNat, Int.reduceLT, hneg, hmx, q1, q2, r0, r1, u1, u2, u3, hlt, s1, s2, o1, o2] <;> exact rfl) ?_
 refine ow_op (by simp only [zo, hneg, hmx, q1, q2, r0, r1, u1, u2, u3, hlt, s1, s2, o1, o2] <;> exact rfl) ?_
 refine ow_op (by simp only [zo, binD, zb, Int.reduceEq, Int.reduceToNat, Int.reduceLT, hneg, hmx, q1, q2, r0, r1, u1, u2, u3, hlt, s1, s2, o1, o2] <;> exact rfl) ?_
 refine ow_me rfl ?_
 refine ow_op (by simp only [zo, binD, zb, Int.reduceEq, Int.reduceToNat, Int.reduceLT, hneg, hmx, q1, q2, r0, r1, u1, u2, u3, hlt, s1, s2, o1, o2] <;> exact rfl) ?_
 refine ow_op (by simp only [zl, zm, fillRows, List.replicate, snapVs, snaps, zs, zc, zf, hneg, hmx, q1, q2, r0, r1, u1, u2, u3, hlt, s1, s2, o1, o2] <;> exact rfl) ?_
 refine ow_ml rfl ?_
 refine ow_nil ?_
 refine sk_n (by simp only [ze] <;> exact rfl) ?_
 refine cw_ret ?_
 refine ⟨_, by simp only [F20, resultD, resDs, resD, List.getD_cons_zero, List.getD_cons_succ, zd, rowsOf, partD, List.getElem?_cons_zero, List.getElem?_cons_succ, if_true, if_false, Bool.false_eq_true, List.take, List.drop, zm] <;> exact rfl, ?_⟩
 simp only [leaveP, leave, snapVs, snaps, zs, zf, zk]

end Go.Proofs.YtabgobmeibjeeaaGreatDoor

namespace Go.Proofs.YtabgobmeibjeeaaGreatDoor
set_option linter.unusedVariables false
set_option linter.unusedSimpArgs false
set_option maxRecDepth 10000
set_option maxHeartbeats 4000000

def sh3 (us sz : Int) : List D := [.int .u8 4, .int .u8 us, .str ⟨#[83, 57, 57, 57]⟩, .int .i64 3, .int .i64 0, .bool true, .bool false, .bool false, .bool false, .bool false, .int .i64 sz]
theorem d100 {x : Int} (h : -999 ≤ x ∧ x ≤ 999) : x.natAbs / 100 % 10 = x.natAbs / 100 := by omega
theorem zonedX {d : Nat} (hd : 1 ≤ d) (S : St) (x : Int) (h : -999 ≤ x ∧ x ≤ 999) : runF LP NN d 19 [.int .i64 x] S = some (.sl 1 (bR (zB x)) (some 3), S, false) := by
  unfold zB
  rw [d100 h]
  by_cases hx : x < 0
  · have e : x = -((x.natAbs : Nat) : Int) := by omega
    have := zonedL_true (d := d) hd S x.natAbs (by omega) (by omega)
    rw [← e] at this
    rw [decide_eq_true hx]; exact this
  · have e : x = ((x.natAbs : Nat) : Int) := by omega
    have := zonedL_false (d := d) hd S x.natAbs (by omega)
    rw [← e] at this
    rw [decide_eq_false hx]; exact this
theorem packedX {d : Nat} (hd : 1 ≤ d) (S : St) (x : Int) (h : -999 ≤ x ∧ x ≤ 999) : runF LP NN d 20 [.int .i64 x] S = some (.sl 1 (bR (pB x)) (some 2), S, false) := by
  unfold pB
  rw [d100 h]
  by_cases hx : x < 0
  · have e : x = -((x.natAbs : Nat) : Int) := by omega
    have := packedL_true (d := d) hd S x.natAbs (by omega) (by omega)
    rw [← e] at this
    rw [if_pos hx]; exact this
  · have e : x = ((x.natAbs : Nat) : Int) := by omega
    have := packedL_false (d := d) hd S x.natAbs (by omega)
    rw [← e] at this
    rw [if_neg hx]; exact this
/-! what is read -/
theorem u8l (l : List Nat) (k : Nat) (h : ∀ v ∈ l, v < 256) : (UInt8.ofNat (l.getD k 0)).toNat = l.getD k 0 := by
  refine u8_of _ ?_
  by_cases hk : k < l.length
  · rw [List.getD_eq_getElem?_getD, List.getElem?_eq_getElem hk]; exact h _ (List.getElem_mem hk)
  · rw [List.getD_eq_getElem?_getD, List.getElem?_eq_none (by omega)]; decide
theorem readZ {d : Nat} (hd : 6 ≤ d) (S : St) (x : Int) (h : -999 ≤ x ∧ x ≤ 999) (cp : Option Nat) : runF LP NN d 162 [.agg (sh3 0 3), .sl 1 (bR (zB x)) cp] S = some (.tup [.agg [.bool (decide (x < 0)), .str (mkS (dg3 x.natAbs))], .bool true], S, false) := by
  have hk : x.natAbs % 10 < 10 := by omega
  unfold zB dg3
  by_cases hx : x < 0
  · rw [decide_eq_true hx]
    have e : (sch true (x.natAbs % 10)).toNat = ([125, 74, 75, 76, 77, 78, 79, 80, 81, 82] : List Nat).getD (x.natAbs % 10) 0 := u8l _ _ (by decide)
    refine zonedS_true (by omega) S _ _ _ (by omega) (by omega) hk _ cp ?_ ?_
    · intro d S hd
      obtain ⟨d, rfl⟩ : ∃ d', d = d' + 3 := ⟨d - 3, by omega⟩
      rw [e]; exact congrArg Prod.fst (tab_at (idx_neg d S) _ hk)
    · intro d S hd
      obtain ⟨d, rfl⟩ : ∃ d', d = d' + 3 := ⟨d - 3, by omega⟩
      rw [e]; exact congrArg Prod.snd (tab_at (idx_neg d S) _ hk)
  · rw [decide_eq_false hx]
    have e : (sch false (x.natAbs % 10)).toNat = ([123, 65, 66, 67, 68, 69, 70, 71, 72, 73] : List Nat).getD (x.natAbs % 10) 0 := u8l _ _ (by decide)
    refine zonedS_false (by omega) S _ _ _ (by omega) (by omega) hk _ cp ?_ ?_
    · intro d S hd
      obtain ⟨d, rfl⟩ : ∃ d', d = d' + 3 := ⟨d - 3, by omega⟩
      rw [e]; exact congrArg Prod.fst (tab_at (idx_pos d S) _ hk)
    · intro d S hd
      obtain ⟨d, rfl⟩ : ∃ d', d = d' + 3 := ⟨d - 3, by omega⟩
      rw [e]; exact congrArg Prod.snd (tab_at (idx_pos d S) _ hk)
theorem readP {d : Nat} (hd : 6 ≤ d) (S : St) (x : Int) (h : -999 ≤ x ∧ x ≤ 999) (cp : Option Nat) : runF LP NN d 164 [.agg (sh3 1 2), .sl 1 (bR (pB x)) cp] S = some (.tup [.agg [.bool (decide (x < 0)), .str (mkS (dg3 x.natAbs))], .bool true], S, false) := by
  have h1 : x.natAbs / 100 % 10 < 10 := by omega
  have h2 : x.natAbs / 10 % 10 < 10 := by omega
  have h3 : x.natAbs % 10 < 10 := by omega
  unfold pB dg3
  by_cases hx : x < 0
  · rw [decide_eq_true hx, if_pos hx]
    exact packed_13 (by omega) S _ _ _ h1 h2 h3 _ _ cp (nib_hi _ h1 _ (by omega)) (nib_lo _ h1 _ (by omega)) (nib_hi _ h3 13 (by omega)) (nib_lo _ h3 13 (by omega))
  · rw [decide_eq_false hx, if_neg hx]
    exact packed_12 (by omega) S _ _ _ h1 h2 h3 _ _ cp (nib_hi _ h1 _ (by omega)) (nib_lo _ h1 _ (by omega)) (nib_hi _ h3 12 (by omega)) (nib_lo _ h3 12 (by omega))
theorem readB {d : Nat} (hd : 6 ≤ d) (S : St) (x : Int) (h : -999 ≤ x ∧ x ≤ 999) (cp : Option Nat) : runF LP NN d 166 [.agg (sh3 2 2), .sl 1 (bR (bB x)) cp] S = some (.tup [.agg [.bool (decide (x < 0)), .str (mkS (dg3 x.natAbs))], .bool true], S, false) := by
  have e1 : (UInt8.ofNat (bN x / 256)).toNat = bN x / 256 := u8_of _ (by unfold bN; split <;> omega)
  have e2 : (UInt8.ofNat (bN x % 256)).toNat = bN x % 256 := u8_of _ (by omega)
  have e3 : dg3 x.natAbs = [dch (x.natAbs / 10 / 10 % 10), dch (x.natAbs / 10 % 10), dch (x.natAbs % 10)] := by
    unfold dg3; rw [show x.natAbs / 100 = x.natAbs / 10 / 10 by omega]
  rw [e3]
  unfold bB
  by_cases hx : x < 0
  · rw [decide_eq_true hx]
    exact binary_true (by omega) S _ _ _ cp (by rw [e1, e2]; unfold bN; rw [if_pos hx]; omega) (by omega) (by omega)
  · rw [decide_eq_false hx]
    exact binary_false (by omega) S _ _ _ cp (by rw [e1, e2]; unfold bN; rw [if_neg hx]; omega) (by omega)
/-! the key -/
def kS (us : Int) (sz : Nat) (dn : Bool) : Ke := ⟨⟨4, us, ⟨#[83, 57, 57, 57]⟩, 3, 0, true, false, false, false, false, sz⟩, 0, sz, dn⟩
theorem zero0 (d : Nat) (S : St) : runF LP NN (d + 14) 78 [.agg (sh3 0 3 ++ [.sl 1 [[.int .u8 0], [.int .u8 0], [.int .u8 0]] (some 3)])] S = some (.int .i64 15, S, false) := by kernel_rfl
theorem zero1 (d : Nat) (S : St) : runF LP NN (d + 14) 78 [.agg (sh3 1 2 ++ [.sl 1 [[.int .u8 0], [.int .u8 0]] (some 2)])] S = some (.int .i64 15, S, false) := by kernel_rfl
theorem zero2 (d : Nat) (S : St) : runF LP NN (d + 14) 78 [.agg (sh3 2 2 ++ [.sl 1 [[.int .u8 0], [.int .u8 0]] (some 2)])] S = some (.int .i64 0, S, false) := by kernel_rfl
section
variable {us : Int} {sz : Nat} {fr fw : FuncId} {B : Int → List UInt8}
/-- a usage: how its bytes are read -/
structure Us (us : Int) (sz : Nat) (fr fw : FuncId) (B : Int → List UInt8) : Prop where
  pos : 1 ≤ sz
  le : sz ≤ 3
  len : ∀ x, (B x).length = sz
  ho : ∀ (d : Nat) (S : St), 2 ≤ d → runF LP NN d 120 [.agg (sh3 us sz)] S = some (.agg [.fn fr [], .fn fw []], S, false)
  hc : ∀ (d : Nat) (S : St), 12 ≤ d → runF LP NN d 117 [.agg (sh3 us sz)] S = some (.int .i64 0, S, false)
  hr : ∀ (x : Int), -999 ≤ x ∧ x ≤ 999 → ∀ (cp : Option Nat) (d : Nat) (S : St), 6 ≤ d → runF LP NN d fr [.agg (sh3 us sz), .sl 1 (bR (B x)) cp] S = some (.tup [.agg [.bool (decide (x < 0)), .str (mkS (dg3 x.natAbs))], .bool true], S, false)
  hz : ∃ e : Int, (e = 0 ∨ e = 15) ∧ ∀ (d : Nat) (S : St), 14 ≤ d → runF LP NN d 78 [.agg (sh3 us sz ++ [.sl 1 (List.replicate sz [.int .u8 0]) (some sz)])] S = some (.int .i64 e, S, false)
theorem us0 : Us 0 3 162 163 zB where
  pos := by omega
  le := by omega
  len _ := rfl
  ho d S h := of0_run h S 4 _ _ _ _ _ _ _ _
  hc d S h := by
    obtain ⟨d, rfl⟩ : ∃ d', d = d' + 12 := ⟨d - 12, by omega⟩
    exact check30 d S
  hr x hx cp d S h := readZ h S x hx cp
  hz := ⟨15, .inr rfl, fun d S h => by
    obtain ⟨d, rfl⟩ : ∃ d', d = d' + 14 := ⟨d - 14, by omega⟩
    exact zero0 d S⟩
theorem us1 : Us 1 2 164 165 pB where
  pos := by omega
  le := by omega
  len _ := rfl
  ho d S h := of1_run h S 4 _ _ _ _ _ _ _ _
  hc d S h := by
    obtain ⟨d, rfl⟩ : ∃ d', d = d' + 12 := ⟨d - 12, by omega⟩
    exact check31 d S
  hr x hx cp d S h := readP h S x hx cp
  hz := ⟨15, .inr rfl, fun d S h => by
    obtain ⟨d, rfl⟩ : ∃ d', d = d' + 14 := ⟨d - 14, by omega⟩
    exact zero1 d S⟩
theorem us2 : Us 2 2 166 167 bB where
  pos := by omega
  le := by omega
  len _ := rfl
  ho d S h := of2_run h S 4 _ _ _ _ _ _ _ _
  hc d S h := by
    obtain ⟨d, rfl⟩ : ∃ d', d = d' + 12 := ⟨d - 12, by omega⟩
    exact check32 d S
  hr x hx cp d S h := readB h S x hx cp
  hz := ⟨0, .inl rfl, fun d S h => by
    obtain ⟨d, rfl⟩ : ∃ d', d = d' + 14 := ⟨d - 14, by omega⟩
    exact zero2 d S⟩
theorem Us.ok (h : Us us sz fr fw B) (dn : Bool) : KOK sz (kS us sz dn) := ⟨h.pos, by show 0 + sz ≤ sz; omega, rfl, .inr ⟨rfl, h.hz⟩⟩
/-- the field of the key -/
theorem Us.sub (h : Us us sz fr fw B) (x : Int) (c : Option Nat) : ∃ c', subD 0 sz (.sl 1 (bR (B x)) c) = .sl 1 (bR (B x)) c' := by
  have hS := (SlD.of 1 (bR (B x)) c).subB 0 sz
  rw [List.drop_zero, List.take_of_length_le (by rw [h.len]; exact Nat.le_refl _)] at hS
  rcases hS with ⟨_, h0⟩ | ⟨c', e⟩
  · have h1 := congrArg List.length h0
    rw [bR_len, h.len] at h1
    simp at h1
    have := h.pos; omega
  · exact ⟨c', e⟩
theorem Us.check (h : Us us sz fr fw B) {x : Int} (hx : -999 ≤ x ∧ x ≤ 999) (dn : Bool) (c : Option Nat) : ∀ k ∈ [kS us sz dn], k.cat = 4 → ∀ (d : Nat) (S : St), 14 ≤ d → runF LP NN d 78 [.agg [.int .u8 k.cat, .int .u8 k.us, .str k.pic, .int .i64 k.dg, .int .i64 k.sc, .bool k.sg, .bool k.le, .bool k.se, .bool k.ju, .bool k.bl, .int .i64 k.sz, subD k.a k.n (.sl 1 (bR (B x)) c)]] S = some (.int .i64 0, S, false) := by
  intro k hk _ d S hd
  simp only [List.mem_singleton] at hk
  subst hk
  obtain ⟨c', e⟩ := h.sub x c
  simp only [kS]
  rw [e]
  exact uCheck_true hd S us _ _ _ _ true false false false false fr fw (decide (x < 0)) (dg3 x.natAbs) (.of 1 (bR (B x)) c') (by rw [bR_len, h.len]) h.ho (fun d S hd => h.hr x hx c' d S hd) h.hc
theorem Us.cmp (h : Us us sz fr fw B) {x y : Int} (hx : -999 ≤ x ∧ x ≤ 999) (hy : -999 ≤ y ∧ y ≤ 999) (dn : Bool) {kx : D} (hS : SlD 14 (keRows [kS us sz dn]) kx) (c1 c2 : Option Nat) {d : Nat} (hd : 19 ≤ d) (S : St) : runF LP NN d 15 [kx, .int .i64 (sz : Nat), .sl 1 (bR (B x)) c1, .sl 1 (bR (B y)) c2] S = some (.tup [.int .i64 (firstC [(cmpI x y, dn)]), .int .i64 0], S, false) := by
  have hle := h.le
  have l1 : (bR (B x)).length = sz := by rw [bR_len, h.len]
  have l2 : (bR (B y)).length = sz := by rw [bR_len, h.len]
  have hok : ∀ k ∈ [kS us sz dn], KOK sz k := fun k hk => by
    simp only [List.mem_singleton] at hk; subst hk; exact h.ok dn
  have v : ∀ (z : Int), -999 ≤ z ∧ z ≤ 999 → ∀ (c : Option Nat) (d : Nat) (S : St), 18 ≤ d → runF LP NN d 30 [kx, .int .i64 (sz : Nat), .sl 1 (bR (B z)) c] S = some (.int .i64 0, S, false) := by
    intro z hz c d S hd
    have lz : (bR (B z)).length = sz := by rw [bR_len, h.len]
    have := Valid_run (d := d) hd S hS (.of 1 (bR (B z)) c) (by simp) (by rw [lz]; omega) (by rw [lz]; exact hok) (h.check hz dn c) (by simp) (by rw [lz]; exact h.pos)
    rw [lz] at this
    exact this
  have key := Compare_run hd S (sz : Nat) hS (.of 1 (bR (B x)) c1) (.of 1 (bR (B y)) c2) (by simp) (by rw [l1]; omega) (by rw [l2]; omega) (fun k hk => by rw [l1]; exact (hok k hk).fit) (fun k hk => by rw [l2]; exact (hok k hk).fit) (fun _ => cmpI x y) (by
    intro k hk hc
    simp only [List.mem_singleton] at hk; subst hk
    exact absurd rfl hc) (by
    intro k hk _
    simp only [List.mem_singleton] at hk; subst hk
    obtain ⟨c1', e1⟩ := h.sub x c1
    obtain ⟨c2', e2⟩ := h.sub y c2
    simp only [kS]
    rw [e1, e2]
    refine ⟨decide (x < 0) && nz (dg3 x.natAbs), decide (y < 0) && nz (dg3 y.natAbs), mkS (strip (dg3 x.natAbs)), mkS (strip (dg3 y.natAbs)), ?_, ?_, ?_⟩
    · intro d S hd
      exact get_run hd S us _ _ _ true false false false false fr fw (decide (x < 0)) (dg3 x.natAbs) (.of 1 (bR (B x)) c1') (by rw [l1]) h.ho (fun d S hd => h.hr x hx c1' d S hd) h.hc (dg3_num _) (by simp [dg3])
    · intro d S hd
      exact get_run hd S us _ _ _ true false false false false fr fw (decide (y < 0)) (dg3 y.natAbs) (.of 1 (bR (B y)) c2') (by rw [l2]) h.ho (fun d S hd => h.hr y hy c2' d S hd) h.hc (dg3_num _) (by simp [dg3])
    · intro d S hd
      have a1 := strip_len (dg3 x.natAbs) (by simp [dg3])
      have a2 := strip_len (dg3 y.natAbs) (by simp [dg3])
      have b1 : (dg3 x.natAbs).length = 3 := rfl
      have b2 : (dg3 y.natAbs).length = 3 := rfl
      have := decCmp_run hd S _ _ _ _ (Nrm.of (decide (x < 0)) (dg3 x.natAbs) (dg3_num _) (by omega)) (Nrm.of (decide (y < 0)) (dg3 y.natAbs) (dg3_num _) (by omega)) (by omega) (by omega)
      rw [cmp_num x y hx hy] at this
      exact this) (fun d S hd => v x hx c1 d S hd) (fun d S hd => v y hy c2 d S hd)
  exact key
end
end Go.Proofs.YtabgobmeibjeeaaGreatDoor

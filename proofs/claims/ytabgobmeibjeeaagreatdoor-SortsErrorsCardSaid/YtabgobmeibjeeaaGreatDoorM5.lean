/- Proved here: parts of the proof, joined (S2, S3, S4, S5, S6, S7, S8, S9, S10, S11, S12, S13, S14, S15, S16, S17, S18, S19, S20, SP, S21, S22, S23, S24, S25, S26, S27, S28, S29, S30, S31, S36, S55, S56, S57): an abstract machine, its soundness, what functions of the program compute in it; no condition. -/
import Derived.Test.YtabgobmeibjeeaaGreatDoorTie
import Derived.WalkKit
import Derived.ProofKit
import Derived.OpenShut
import Derived.ShutString
import Derived.ChangeOld
import Derived.Below
import Derived.LaidMore
import Derived.Lay
import Derived.SevenTiedAt
import Derived.Stop.Joined
import Derived.Test.YtabgobmeibjeeaaGreatDoorM4
namespace Go.Proofs.YtabgobmeibjeeaaGreatDoor
set_option linter.unusedSimpArgs false
set_option linter.unusedVariables false
set_option maxRecDepth 10000

theorem m48 : (⟨#[48]⟩ : ByteArray) = mkS [48] := rfl
theorem trimL0_run {d : Nat} (hd : 2 ≤ d) (S : St) (l : List UInt8) (hl : l.length ≤ 1000000) : runF LP NN d 64 [.str (mkS l), .str ⟨#[48]⟩] S = some (.str (mkS (strip0 l)), S, false) := by
 refine run_pure (F := F64) rfl (by simp only [LP, fnOf, snapVs, snaps, zs, zm, zv] <;> exact rfl) rfl (by simp only [LP, zf, zm]; try rfl) (by simp only [F64, zv] <;> exact rfl) (by omega) ?_
 rintro d rfl
 refine cw_seq (cw_region ?_)
 refine ow_mc ?_
 refine ow_nil ?_
 refine sk_n (by simp only [ze] <;> exact rfl) ?_
 refine cw_seq (cw_seq (cw_region ?_))
 refine ow_me rfl ?_
 refine ow_op (by simp only [zo, binD, zb, Int.reduceEq, Int.reduceToNat, Int.reduceLT, mkS_toList, mkS_size, mkS_get, List.length_cons, List.length_nil, List.getElem?_cons_zero, nil_toList, m48] <;> exact rfl) ?_
 refine ow_ml rfl ?_
 refine ow_split 0 (by simp only [opd, zv] <;> exact rfl) (by simp only [zn] <;> exact rfl) (by simp only [zn] <;> exact rfl) (fun hg => ?_) (fun hg => ?_)
 ·
  refine ow_off rfl rfl ?_
  refine ow_off rfl rfl ?_
  refine ow_op (by simp only [zo, mkS_toList, mkS_size, mkS_get, List.length_cons, List.length_nil, List.getElem?_cons_zero, nil_toList, m48] <;> exact rfl) ?_
  refine ow_nil ?_
  refine sk_n (by simp only [ze] <;> exact rfl) ?_
  refine cw_true (by simp only [opd, zv, mkS_toList, mkS_size, mkS_get, List.length_cons, List.length_nil, List.getElem?_cons_zero, nil_toList, m48]) ?_
  refine cw_seq (cw_region ?_)
  refine ow_me rfl ?_
  refine ow_ml rfl ?_
  refine ow_nil ?_
  refine sk_n (by simp only [ze] <;> exact rfl) ?_
  refine cw_ret (sk_r ?_)
  refine ⟨_, by simp only [F64, resultD, resDs, resD, zg, zd, rowsOf, partD, List.take, List.drop, zm] <;> exact rfl, ?_⟩
  obtain rfl := (eqNil l).1 hg
  rfl
 ·
  refine ow_on rfl ?_
  refine ow_me rfl ?_
  refine ow_on rfl ?_
  refine ow_op (by simp only [zo, binD, zb, Int.reduceEq, Int.reduceToNat, Int.reduceLT, mkS_toList, mkS_size, mkS_get, List.length_cons, List.length_nil, List.getElem?_cons_zero, nil_toList, m48] <;> exact rfl) ?_
  refine ow_op (by simp only [zo, mkS_toList, mkS_size, mkS_get, List.length_cons, List.length_nil, List.getElem?_cons_zero, nil_toList, m48] <;> exact rfl) ?_
  refine ow_nil ?_
  refine sk_n (by simp only [ze] <;> exact rfl) ?_
  skip
  refine cw_false (by simp only [opd, zv, mkS_toList, mkS_size, mkS_get, List.length_cons, List.length_nil, List.getElem?_cons_zero, nil_toList, m48] <;> rfl) ?_
  refine cw_skip (sk_n rfl (cw_seq (cw_seq (cw_region ?_))))
  refine ow_me rfl ?_
  refine ow_op (by simp only [zo, lenD_str, lenD_nils, lenD_sl, lenD_msl, mkS_toList, mkS_size, mkS_get, List.length_cons, List.length_nil, List.getElem?_cons_zero, nil_toList, m48] <;> exact rfl) ?_
  refine ow_op (by simp only [zo, binD, zb, Int.reduceEq, Int.reduceToNat, Int.reduceLT, mkS_toList, mkS_size, mkS_get, List.length_cons, List.length_nil, List.getElem?_cons_zero, nil_toList, m48] <;> exact rfl) ?_
  refine ow_ml rfl ?_
  refine ow_know 0 (b := true) (by simp only [opd, zv, mkS_toList, mkS_size, mkS_get, List.length_cons, List.length_nil, List.getElem?_cons_zero, nil_toList, m48] <;> rfl) (by simp only [zn] <;> exact rfl) ?_
  refine ow_on rfl ?_
  refine ow_me rfl ?_
  refine ow_on rfl ?_
  refine ow_op (by simp only [zo, indexD, zm, mkS_toList, mkS_size, mkS_get, List.length_cons, List.length_nil, List.getElem?_cons_zero, nil_toList, m48] <;> exact rfl) ?_
  refine ow_on rfl ?_
  refine ow_op (by simp only [zo, binD, zb, Int.reduceEq, Int.reduceToNat, Int.reduceLT, mkS_toList, mkS_size, mkS_get, List.length_cons, List.length_nil, List.getElem?_cons_zero, nil_toList, m48] <;> exact rfl) ?_
  refine ow_op (by simp only [zo, mkS_toList, mkS_size, mkS_get, List.length_cons, List.length_nil, List.getElem?_cons_zero, nil_toList, m48] <;> exact rfl) ?_
  refine ow_nil ?_
  refine sk_n (by simp only [ze] <;> exact rfl) ?_
  skip
  refine cw_true (by simp only [opd, zv, mkS_toList, mkS_size, mkS_get, List.length_cons, List.length_nil, List.getElem?_cons_zero, nil_toList, m48] <;> rfl) ?_
  refine cw_seq (cw_region ?_)
  refine ow_me rfl ?_
  refine ow_me rfl ?_
  refine ow_op (by simp only [zo, indexD, zm, mkS_toList, mkS_size, mkS_get, List.length_cons, List.length_nil, List.getElem?_cons_zero, nil_toList, m48] <;> exact rfl) ?_
  refine ow_op (by simp only [zo, mkS_toList, mkS_size, mkS_get, List.length_cons, List.length_nil, List.getElem?_cons_zero, nil_toList, m48]; exact trimLB_run (by omega) _ l hl) ?_
  refine ow_ml rfl ?_
  refine ow_nil ?_
  refine sk_n (by simp only [ze] <;> exact rfl) ?_
  refine cw_ret (sk_r ?_)
  refine ⟨_, by simp only [F64, resultD, resDs, resD, zg, zd, rowsOf, partD, List.take, List.drop, zm] <;> exact rfl, ?_⟩
  rfl

def digOb : AObj := ⟨158, 256, [digTab], 0, 0, false⟩
theorem c256 (c : UInt8) : (0 : Int) ≤ (c.toNat : Int) ∧ (c.toNat : Int) < ((256 : Nat) : Int) := by have := c.toNat_lt; omega
theorem cont_run {d : Nat} (hd : 1 ≤ d) (S : St) (g : Nat) (hcap : S.heap[g]? = some digOb) (c : UInt8) : runF LP NN d 136 [.ptr g 0 0 0, .int .u8 c.toNat] S = some (.bool (isDig c), S, false) := by
 refine run_at (F := F136) rfl (by simp only [LP, fnOf, snapVs, snaps, zs, zm, zv] <;> exact rfl) rfl (by simp only [LP, zf, zm]; try rfl) (by simp only [F136, zv] <;> exact rfl) (by omega) ?_
 rintro d rfl
 refine cw_seq (cw_region ?_)
 refine ow_mc ?_
 refine ow_nil ?_
 refine sk_n (by simp only [ze] <;> exact rfl) ?_
 refine cw_seq (cw_region ?_)
 refine ow_me rfl ?_
 refine ow_me rfl ?_
 refine ow_op (by simp only [zo, hcap, digOb, Int.toNat_natCast, Nat.zero_add, Nat.mul_one, digTab_at, c256 c, and_self] <;> exact rfl) ?_
 refine ow_op (by simp only [zo, aaddrD, zm, hcap, digOb, Int.toNat_natCast, Nat.zero_add, Nat.mul_one, digTab_at, c256 c, and_self] <;> exact rfl) ?_
 refine ow_op (by simp only [zl, zm, zd, partD, List.take, List.drop, hcap, digOb, Int.toNat_natCast, Nat.zero_add, Nat.mul_one, digTab_at, c256 c, and_self] <;> exact rfl) ?_
 refine ow_ml rfl ?_
 refine ow_nil ?_
 refine sk_n (by simp only [ze] <;> exact rfl) ?_
 refine cw_ret ?_
 refine ⟨_, by simp only [F136, resultD, resDs, resD, zg, zd, rowsOf, partD, List.take, List.drop, zm] <;> exact rfl, ?_⟩
 simp [leave, LP, snapR, snapV, snap, D.freeR, D.freeV, D.free, D.free0]

theorem trimLA_run {d : Nat} (hd : 2 ≤ d) (S : St) (g : Nat) (hcap : S.heap[g]? = some digOb) (l : List UInt8) (hl : l.length ≤ 1000000) : runF LP NN d 101 [.str (mkS l), .ptr g 0 0 0] S = some (.str (mkS (l.dropWhile isDig)), S, false) := by
 refine run_at (F := F101) rfl (by simp only [LP, fnOf, snapVs, snaps, zs, zm, zv] <;> exact rfl) rfl (by simp only [LP, zf, zm]; try rfl) (by simp only [F101, zv] <;> exact rfl) (by omega) ?_
 rintro d rfl
 refine cw_seq (cw_region ?_)
 refine ow_mc ?_
 refine ow_nil ?_
 refine sk_n (by simp only [ze] <;> exact rfl) ?_
 refine cw_seq (cw_block ?_)
 refine cw_loop (fun n env S' => ∃ (l' : List UInt8) (u3 u4 : D), l'.dropWhile isDig = l.dropWhile isDig ∧ l'.length = n ∧ S' = ⟨S.heap, S.heap.length⟩ ∧ env = [.str (mkS l'), .ptr g 0 0 0, .str ⟨#[]⟩, u3, u4]) (l.length) (by omega) (⟨l, _, _, rfl, rfl, rfl, rfl⟩) ?_
 rintro n env S' ⟨l', u3, u4, hl', rfl, rfl, rfl⟩
 refine cw_seq (cw_seq (cw_region ?_))
 refine ow_me rfl ?_
 refine ow_op (by simp only [zo, lenD_str, lenD_nils, lenD_sl, lenD_msl, mkS_size, mkS_get] <;> exact rfl) ?_
 refine ow_op (by simp only [zo, binD, zb, Int.reduceEq, Int.reduceToNat, Int.reduceLT, mkS_size, mkS_get] <;> exact rfl) ?_
 refine ow_nil ?_
 refine sk_n (by simp only [ze] <;> exact rfl) ?_
 refine cw_cond (by simp only [opd, zv, mkS_size, mkS_get] <;> exact rfl) (fun hcA => ?_) (fun hcA => ?_)
 ·
  obtain ⟨c, l'', rfl⟩ : ∃ c l'', l' = c :: l'' := by
   cases l' with
   | nil => simp at hcA
   | cons c l => exact ⟨c, l, rfl⟩
  rename List UInt8 => l'
  refine cw_skip (sk_n rfl (cw_block (cw_seq (cw_seq (cw_region ?_)))))
  refine ow_me rfl ?_
  refine ow_me rfl ?_
  refine ow_op (by simp only [zo, indexD, zm, mkS_size, mkS_get, List.getElem?_cons_zero] <;> exact rfl) ?_
  refine ow_op (by simp only [zo, mkS_size, mkS_get, List.getElem?_cons_zero]; exact cont_run (by omega) ⟨S.heap, S.heap.length⟩ g hcap c) ?_
  refine ow_op (by simp only [zo, unD, mkS_size, mkS_get, List.getElem?_cons_zero] <;> exact rfl) ?_
  refine ow_nil ?_
  refine sk_n (by simp only [ze] <;> exact rfl) ?_
  refine cw_cond (by simp only [opd, zv, mkS_size, mkS_get, List.getElem?_cons_zero] <;> exact rfl) (fun hcAT => ?_) (fun hcAT => ?_)
  ·
   refine cw_exit (sk_e (bk_o rfl (lk_e (bk_e (sk_n rfl (cw_seq (cw_region ?_)))))))
   refine ow_me rfl ?_
   refine ow_ml rfl ?_
   refine ow_nil ?_
   refine sk_n (by simp only [ze] <;> exact rfl) ?_
   refine cw_ret ?_
   refine ⟨_, by simp only [F101, resultD, resDs, resD, zg, zd, rowsOf, partD, List.take, List.drop, zm] <;> exact rfl, ?_⟩
   rw [← hl', List.dropWhile_cons, if_neg (by simpa using hcAT)]
   simp [leave, LP, snapR, snapV, snap, D.freeR, D.freeV, D.free, D.free0]
  ·
   refine cw_skip (sk_n rfl (cw_region ?_))
   refine ow_me rfl ?_
   refine ow_op (by simp only [opd, zv, exOp, aop, LOp.loud, Bool.false_eq_true, if_false, mkS_size]; rw [str_from _ _ 1 1 rfl (by simp)]; exact rfl) ?_
   refine ow_ml rfl ?_
   refine ow_nil (bk_n ?_)
   refine lk_n (by simp only [ze] <;> exact rfl) ?_
   exact ⟨l'.length, by simp, l', _, _, by rw [← hl', List.dropWhile_cons, if_pos (by simpa using hcAT)], rfl, rfl, rfl⟩
 ·
  obtain rfl : l' = [] := by
   cases l' with
   | nil => rfl
   | cons c l => have := of_decide_eq_false hcA; simp at this
  refine cw_exit (sk_e (lk_e (bk_e (sk_n rfl (cw_seq (cw_region ?_))))))
  refine ow_me rfl ?_
  refine ow_ml rfl ?_
  refine ow_nil ?_
  refine sk_n (by simp only [ze] <;> exact rfl) ?_
  refine cw_ret ?_
  refine ⟨_, by simp only [F101, resultD, resDs, resD, zg, zd, rowsOf, partD, List.take, List.drop, zm] <;> exact rfl, ?_⟩
  rw [← hl']
  simp [leave, LP, snapR, snapV, snap, D.freeR, D.freeV, D.free, D.free0]

theorem trimRA_run {d : Nat} (hd : 2 ≤ d) (S : St) (g : Nat) (hcap : S.heap[g]? = some digOb) (l : List UInt8) (hl : l.length ≤ 1000000) : runF LP NN d 105 [.str (mkS l), .ptr g 0 0 0] S = some (.str (mkS (rtrim l)), S, false) := by
 refine run_at (F := F105) rfl (by simp only [LP, fnOf, snapVs, snaps, zs, zm, zv] <;> exact rfl) rfl (by simp only [LP, zf, zm]; try rfl) (by simp only [F105, zv] <;> exact rfl) (by omega) ?_
 rintro d rfl
 refine cw_seq (cw_region ?_)
 refine ow_mc ?_
 refine ow_nil ?_
 refine sk_n (by simp only [ze] <;> exact rfl) ?_
 refine cw_seq (cw_block ?_)
 refine cw_loop (fun n env S' => ∃ (l' : List UInt8) (u3 u4 : D), rtrim l' = rtrim l ∧ l'.length = n ∧ n ≤ l.length ∧ S' = ⟨S.heap, S.heap.length⟩ ∧ env = [.str (mkS l'), .ptr g 0 0 0, .str ⟨#[]⟩, u3, u4]) (l.length) (by omega) (⟨l, _, _, rfl, rfl, by omega, rfl, rfl⟩) ?_
 rintro n env S' ⟨l', u3, u4, hl', rfl, hle, rfl, rfl⟩
 refine cw_seq (cw_seq (cw_region ?_))
 refine ow_me rfl ?_
 refine ow_op (by simp only [zo, lenD_str, lenD_nils, lenD_sl, lenD_msl, mkS_size, mkS_get] <;> exact rfl) ?_
 refine ow_op (by simp only [zo, binD, zb, Int.reduceEq, Int.reduceToNat, Int.reduceLT, mkS_size, mkS_get] <;> exact rfl) ?_
 refine ow_nil ?_
 refine sk_n (by simp only [ze] <;> exact rfl) ?_
 refine cw_cond (by simp only [opd, zv, mkS_size, mkS_get] <;> exact rfl) (fun hcA => ?_) (fun hcA => ?_)
 ·
  obtain ⟨l'', c, rfl⟩ : ∃ l'' c, l' = l'' ++ [c] := by
   rcases List.eq_nil_or_concat l' with h | ⟨a, b, h⟩
   ·
    subst h; simp at hcA
   ·
    exact ⟨a, b, by simpa using h⟩
  rename List UInt8 => l'
  have hw : IntKind.i64.wrap (((l' ++ [c]).length : Nat) - 1 : Int) = (l'.length : Int) := by rw [IntKind.wrap_i64]; simp at hle ⊢; omega
  have hix : (l' ++ [c])[l'.length]? = some c := by simp
  have h0 : (0 : Int) ≤ (l'.length : Int) := by omega
  refine cw_skip (sk_n rfl (cw_block (cw_seq (cw_seq (cw_region ?_)))))
  refine ow_me rfl ?_
  refine ow_me rfl ?_
  refine ow_me rfl ?_
  refine ow_op (by simp only [zo, lenD_str, lenD_nils, lenD_sl, lenD_msl, mkS_size, mkS_get, hw, hix, h0, Int.toNat_natCast] <;> exact rfl) ?_
  refine ow_op (by simp only [zo, binD, zb, Int.reduceEq, Int.reduceToNat, Int.reduceLT, mkS_size, mkS_get, hw, hix, h0, Int.toNat_natCast] <;> exact rfl) ?_
  refine ow_op (by simp only [zo, indexD, zm, mkS_size, mkS_get, hw, hix, h0, Int.toNat_natCast] <;> exact rfl) ?_
  refine ow_op (by simp only [zo, mkS_size, mkS_get, hw, hix, h0, Int.toNat_natCast]; exact cont_run (by omega) ⟨S.heap, S.heap.length⟩ g hcap c) ?_
  refine ow_op (by simp only [zo, unD, mkS_size, mkS_get, hw, hix, h0, Int.toNat_natCast] <;> exact rfl) ?_
  refine ow_nil ?_
  refine sk_n (by simp only [ze] <;> exact rfl) ?_
  refine cw_cond (by simp only [opd, zv, mkS_size, mkS_get, hw, hix, h0, Int.toNat_natCast] <;> exact rfl) (fun hcAT => ?_) (fun hcAT => ?_)
  ·
   refine cw_exit (sk_e (bk_o rfl (lk_e (bk_e (sk_n rfl (cw_seq (cw_region ?_)))))))
   refine ow_me rfl ?_
   refine ow_ml rfl ?_
   refine ow_nil ?_
   refine sk_n (by simp only [ze] <;> exact rfl) ?_
   refine cw_ret ?_
   refine ⟨_, by simp only [F105, resultD, resDs, resD, zg, zd, rowsOf, partD, List.take, List.drop, zm] <;> exact rfl, ?_⟩
   rw [← hl', rtrim_snoc, if_neg (by simpa using hcAT)]
   simp [leave, LP, snapR, snapV, snap, D.freeR, D.freeV, D.free, D.free0]
  ·
   refine cw_skip (sk_n rfl (cw_region ?_))
   refine ow_me rfl ?_
   refine ow_me rfl ?_
   refine ow_op (by simp only [zo, lenD_str, lenD_nils, lenD_sl, lenD_msl, mkS_size, mkS_get, hw, hix, h0, Int.toNat_natCast] <;> exact rfl) ?_
   refine ow_op (by simp only [zo, binD, zb, Int.reduceEq, Int.reduceToNat, Int.reduceLT, mkS_size, mkS_get, hw, hix, h0, Int.toNat_natCast] <;> exact rfl) ?_
   refine ow_op (by simp only [opd, zv, exOp, aop, LOp.loud, Bool.false_eq_true, if_false]; rw [str_to _ (l' ++ [c]) l'.length _ rfl (by simp), List.take_left]; exact rfl) ?_
   refine ow_ml rfl ?_
   refine ow_nil (bk_n ?_)
   refine lk_n (by simp only [ze] <;> exact rfl) ?_
   exact ⟨l'.length, by simp, l', _, _, by rw [← hl', rtrim_snoc, if_pos (by simpa using hcAT)], rfl, by simp at hle; omega, rfl, rfl⟩
 ·
  obtain rfl : l' = [] := by
   cases l' with
   | nil => rfl
   | cons c l => have := of_decide_eq_false hcA; simp at this
  refine cw_exit (sk_e (lk_e (bk_e (sk_n rfl (cw_seq (cw_region ?_))))))
  refine ow_me rfl ?_
  refine ow_ml rfl ?_
  refine ow_nil ?_
  refine sk_n (by simp only [ze] <;> exact rfl) ?_
  refine cw_ret ?_
  refine ⟨_, by simp only [F105, resultD, resDs, resD, zg, zd, rowsOf, partD, List.take, List.drop, zm] <;> exact rfl, ?_⟩
  rw [← hl', show rtrim [] = [] from rfl]
  simp [leave, LP, snapR, snapV, snap, D.freeR, D.freeV, D.free, D.free0]

theorem aset_run {d : Nat} (hd : 1 ≤ d) (S : St) : runF LP NN d 100 [.str ⟨#[48, 49, 50, 51, 52, 53, 54, 55, 56, 57]⟩] S = some (.tup [.agg digTab, .bool true], S, false) := by
 obtain ⟨d, rfl⟩ : ∃ d', d = d' + 1 := ⟨d - 1, by omega⟩
 kernel_rfl

theorem plain_S : (⟨#[48, 49, 50, 51, 52, 53, 54, 55, 56, 57]⟩ : ByteArray) = mkS [48, 49, 50, 51, 52, 53, 54, 55, 56, 57] := rfl
theorem trim_run {d : Nat} (hd : 4 ≤ d) (S : St) (l : List UInt8) (hl : l.length ≤ 1000000) : runF LP NN d 148 [.str (mkS l), .str ⟨#[48, 49, 50, 51, 52, 53, 54, 55, 56, 57]⟩] S = some (.str (mkS (trimD l)), S, false) := by
 refine run_pure (F := F148) rfl (by simp only [LP, fnOf, snapVs, snaps, zs, zm, zv] <;> exact rfl) rfl (by simp only [LP, zf, zm]; try rfl) (by simp only [F148, zv] <;> exact rfl) (by omega) ?_
 rintro d rfl
 refine cw_seq (cw_region ?_)
 refine ow_mc ?_
 refine ow_nil ?_
 refine sk_n (by simp only [ze] <;> exact rfl) ?_
 refine cw_seq (cw_seq (cw_region ?_))
 refine ow_me rfl ?_
 refine ow_op (by simp only [zo, binD, zb, Int.reduceEq, Int.reduceToNat, Int.reduceLT, mkS_toList, nil_toList, plain_S] <;> exact rfl) ?_
 refine ow_ml rfl ?_
 refine ow_split 0 (by simp only [opd, zv] <;> exact rfl) (by simp only [zn] <;> exact rfl) (by simp only [zn] <;> exact rfl) (fun hg => ?_) (fun hg => ?_)
 ·
  refine ow_off rfl rfl ?_
  refine ow_off rfl rfl ?_
  refine ow_op (by simp only [zo, mkS_toList, nil_toList, plain_S] <;> exact rfl) ?_
  refine ow_nil ?_
  refine sk_n (by simp only [ze] <;> exact rfl) ?_
  refine cw_true (by simp only [opd, zv, mkS_toList, nil_toList, plain_S]) ?_
  refine cw_seq (cw_region ?_)
  refine ow_me rfl ?_
  refine ow_ml rfl ?_
  refine ow_nil ?_
  refine sk_n (by simp only [ze] <;> exact rfl) ?_
  refine cw_ret (sk_r ?_)
  refine ⟨_, by simp only [F148, resultD, resDs, resD, zg, zd, rowsOf, partD, List.take, List.drop, zm] <;> exact rfl, ?_⟩
  obtain rfl := (eqNil l).1 hg
  rfl
 ·
  refine ow_on rfl ?_
  refine ow_me rfl ?_
  refine ow_on rfl ?_
  refine ow_op (by simp only [zo, binD, zb, Int.reduceEq, Int.reduceToNat, Int.reduceLT, mkS_toList, nil_toList, plain_S] <;> exact rfl) ?_
  refine ow_op (by simp only [zo, mkS_toList, nil_toList, plain_S] <;> exact rfl) ?_
  refine ow_nil ?_
  refine sk_n (by simp only [ze] <;> exact rfl) ?_
  skip
  refine cw_false (by simp only [opd, zv, mkS_toList, nil_toList, plain_S] <;> rfl) ?_
  refine cw_skip (sk_n rfl (cw_seq (cw_seq (cw_region ?_))))
  refine ow_me rfl ?_
  refine ow_op (by simp only [zo, lenD_str, lenD_nils, lenD_sl, lenD_msl, mkS_toList, nil_toList, plain_S] <;> exact rfl) ?_
  refine ow_op (by simp only [zo, binD, zb, Int.reduceEq, Int.reduceToNat, Int.reduceLT, mkS_toList, nil_toList, plain_S] <;> exact rfl) ?_
  refine ow_ml rfl ?_
  refine ow_know 0 (b := false) (by simp only [opd, zv, mkS_toList, nil_toList, plain_S] <;> rfl) (by simp only [zn] <;> exact rfl) ?_
  refine ow_off rfl rfl ?_
  refine ow_off rfl rfl ?_
  refine ow_off rfl rfl ?_
  refine ow_op (by simp only [zo, mkS_toList, nil_toList, plain_S] <;> exact rfl) ?_
  refine ow_nil ?_
  refine sk_n (by simp only [ze] <;> exact rfl) ?_
  refine cw_false (by simp only [opd, zv, mkS_toList, nil_toList, plain_S]) ?_
  refine cw_skip (sk_n rfl (cw_seq (cw_seq (cw_region ?_))))
  refine ow_me rfl ?_
  refine ow_op (by simp only [zo, mkS_toList, nil_toList, plain_S]; exact aset_run (by omega) _) ?_
  refine ow_ml rfl ?_
  refine ow_op (by simp only [zo, List.getElem?_cons_zero, List.getElem?_cons_succ, mkS_toList, nil_toList, plain_S] <;> exact rfl) ?_
  refine ow_op (by simp only [zo, List.getElem?_cons_zero, List.getElem?_cons_succ, mkS_toList, nil_toList, plain_S] <;> exact rfl) ?_
  refine ow_op (show _ = some (D.ptr 0 0 0 0, (⟨[⟨158, 256, [List.replicate 256 (.bool false)], 0, 0, false⟩], 0⟩ : St), true) by kernel_rfl) ?_
  refine ow_op (show _ = some (D.undef, (⟨[digOb], 0⟩ : St), true) by kernel_rfl) ?_
  refine ow_ml rfl ?_
  refine ow_nil ?_
  refine sk_n (by simp only [ze] <;> exact rfl) ?_
  refine cw_seq (cw_region ?_)
  refine ow_me rfl ?_
  refine ow_nil ?_
  refine sk_n (by simp only [ze] <;> exact rfl) ?_
  skip
  refine cw_true (by simp only [opd, zv, mkS_toList, nil_toList, plain_S] <;> rfl) ?_
  refine cw_seq (cw_region ?_)
  refine ow_me rfl ?_
  refine ow_op (by simp only [zo, mkS_toList, nil_toList, plain_S]; exact trimRA_run (by omega) ⟨[digOb], 0⟩ 0 rfl l hl) ?_
  refine ow_op (by simp only [zo, mkS_toList, nil_toList, plain_S]; exact trimLA_run (by omega) ⟨[digOb], 0⟩ 0 rfl (rtrim l) (by rw [rtrim, List.length_reverse]; have := (List.dropWhile_suffix isDig (l := l.reverse)).length_le; rw [List.length_reverse] at this; omega)) ?_
  refine ow_ml rfl ?_
  refine ow_nil ?_
  refine sk_n (by simp only [ze] <;> exact rfl) ?_
  refine cw_ret (sk_r ?_)
  refine ⟨_, by simp only [F148, resultD, resDs, resD, zg, zd, rowsOf, partD, List.take, List.drop, zm] <;> exact rfl, ?_⟩
  rfl

end Go.Proofs.YtabgobmeibjeeaaGreatDoor

namespace Go.Proofs.YtabgobmeibjeeaaGreatDoor
set_option linter.unusedSimpArgs false
set_option linter.unusedVariables false
set_option maxRecDepth 10000

def isNum (l : List UInt8) : Bool := !(l == []) && l.all isDig
theorem number_run {d : Nat} (hd : 5 ≤ d) (S : St) (l : List UInt8) (hl : l.length ≤ 1000000) : runF LP NN d 121 [.str (mkS l)] S = some (.bool (isNum l), S, false) := by
 refine run_pure (F := F121) rfl (by simp only [LP, fnOf, snapVs, snaps, zs, zm, zv] <;> exact rfl) rfl (by simp only [LP, zf, zm]; try rfl) (by simp only [F121, zv] <;> exact rfl) (by omega) ?_
 rintro d rfl
 refine cw_seq (cw_region ?_)
 refine ow_mc ?_
 refine ow_nil ?_
 refine sk_n (by simp only [ze] <;> exact rfl) ?_
 refine cw_seq (cw_region ?_)
 refine ow_me rfl ?_
 refine ow_op (by simp only [zo, binD, zb, Int.reduceEq, Int.reduceToNat, Int.reduceLT, zx] <;> exact rfl) ?_
 refine ow_ml rfl ?_
 refine ow_split 0 (by simp only [opd, zv] <;> exact rfl) (by simp only [zn] <;> exact rfl) (by simp only [zn] <;> exact rfl) (fun hg => ?_) (fun hg => ?_)
 ·
  refine ow_on rfl ?_
  refine ow_me rfl ?_
  refine ow_on rfl ?_
  refine ow_op (by simp only [zo, zx]; exact trim_run (by omega) _ l hl) ?_
  refine ow_on rfl ?_
  refine ow_op (by simp only [zo, binD, zb, Int.reduceEq, Int.reduceToNat, Int.reduceLT, zx] <;> exact rfl) ?_
  refine ow_op (by simp only [zo, zx] <;> exact rfl) ?_
  refine ow_ml rfl ?_
  refine ow_nil ?_
  refine sk_n (by simp only [ze] <;> exact rfl) ?_
  refine cw_ret ?_
  refine ⟨_, by simp only [F121, resultD, resDs, resD, zg, zd, rowsOf, partD, List.take, List.drop, zm] <;> exact rfl, ?_⟩
  rw [isNum, show (!(l == [])) = true from hg, Bool.true_and, trimD_nil]; rfl
 ·
  refine ow_off rfl rfl ?_
  refine ow_off rfl rfl ?_
  refine ow_off rfl rfl ?_
  refine ow_op (by simp only [zo, zx] <;> exact rfl) ?_
  refine ow_ml rfl ?_
  refine ow_nil ?_
  refine sk_n (by simp only [ze] <;> exact rfl) ?_
  refine cw_ret ?_
  refine ⟨_, by simp only [F121, resultD, resDs, resD, zg, zd, rowsOf, partD, List.take, List.drop, zm] <;> exact rfl, ?_⟩
  rw [isNum, show (!(l == [])) = false from hg]; rfl

def decD (neg : Bool) (l : List UInt8) : D := .agg [.bool neg, .str (mkS l), .int .i64 0]
theorem normal_run {d : Nat} (hd : 3 ≤ d) (S : St) (neg : Bool) (l : List UInt8) (hl : l.length ≤ 62) : runF LP NN d 122 [.bool neg, .str (mkS l), .int .i64 0] S = some (.tup [.agg [.bool (neg && nz l), .str (mkS (strip l)), .int .i64 0], .int .i64 0], S, false) := by
 refine run_pure (F := F122) rfl (by simp only [LP, fnOf, snapVs, snaps, zs, zm, zv] <;> exact rfl) rfl (by simp only [LP, zf, zm]; try rfl) (by simp only [F122, zv] <;> exact rfl) (by omega) ?_
 rintro d rfl
 refine cw_seq (cw_region ?_)
 refine ow_op (by simp only [zl, zm, zx] <;> exact rfl) ?_
 refine ow_mc ?_
 refine ow_nil ?_
 refine sk_n (by simp only [ze] <;> exact rfl) ?_
 refine cw_seq (cw_region ?_)
 refine ow_me rfl ?_
 refine ow_op (by simp only [zo, zx]; exact trimL0_run (by omega) _ l (by omega)) ?_
 refine ow_ml rfl ?_
 refine ow_nil ?_
 refine sk_n (by simp only [ze] <;> exact rfl) ?_
 refine cw_seq (cw_seq (cw_region ?_))
 refine ow_me rfl ?_
 refine ow_op (by simp only [zo, binD, zb, Int.reduceEq, Int.reduceToNat, Int.reduceLT, zx] <;> exact rfl) ?_
 refine ow_nil ?_
 refine sk_n (by simp only [ze] <;> exact rfl) ?_
 refine cw_cond (by simp only [opd, zv, zx] <;> exact rfl) (fun hc => ?_) (fun hc => ?_)
 ·
  refine cw_seq (cw_region ?_)
  refine ow_op (by simp only [zo, fillD, overlay, zc, List.take, List.drop, Nat.reduceAdd, Nat.reduceLeDiff, Nat.reduceBEq, zm, zx] <;> exact rfl) ?_
  refine ow_op (by simp only [zl, zm, storeD, overlay, snapVs, snaps, zs, zc, zf, List.take, List.drop, zx] <;> exact rfl) ?_
  refine ow_mc ?_
  refine ow_nil ?_
  refine sk_n (by simp only [ze] <;> exact rfl) ?_
  refine cw_ret (sk_r ?_)
  refine ⟨_, by simp only [F122, resultD, resDs, resD, zg, zd, rowsOf, partD, List.take, List.drop, zm] <;> exact rfl, ?_⟩
  have h0 : strip0 l = [] := (eqNil _).1 hc
  rw [nz, strip, if_pos h0, h0, bne_self_eq_false, Bool.and_false]; rfl
 ·
  refine cw_skip (sk_n rfl (cw_seq (cw_block ?_)))
  refine cw_loop (fun n env S' => ∃ u5 u6 u7 u8 : D, S' = ⟨[⟨102, 3, [[.bool false, .str ⟨#[]⟩, .int .i64 0]], 0, 0, false⟩], 0⟩ ∧ env = [.bool neg, .str (mkS (strip0 l)), .int .i64 0, .ptr 0 0 0 0, .int .i64 0, u5, u6, u7, u8]) (1) (by omega) (⟨_, _, _, _, rfl, rfl⟩) ?_
  rintro n env S' ⟨u5, u6, u7, u8, rfl, rfl⟩
  refine cw_seq (cw_seq (cw_region ?_))
  refine ow_me rfl ?_
  refine ow_op (by simp only [zo, binD, zb, Int.reduceEq, Int.reduceToNat, Int.reduceLT, zx] <;> exact rfl) ?_
  refine ow_ml rfl ?_
  refine ow_know 0 (b := false) (by simp only [opd, zv, zx] <;> rfl) (by simp only [zn] <;> exact rfl) ?_
  refine ow_off rfl rfl ?_
  refine ow_off rfl rfl ?_
  refine ow_op (by simp only [zo, zx] <;> exact rfl) ?_
  refine ow_nil ?_
  refine sk_n (by simp only [ze] <;> exact rfl) ?_
  refine cw_false (by simp only [opd, zv, zx]) ?_
  refine cw_exit (sk_e (lk_e (bk_e (sk_n rfl (cw_seq (cw_seq (cw_region ?_)))))))
  refine ow_me rfl ?_
  refine ow_op (by simp only [zo, binD, zb, Int.reduceEq, Int.reduceToNat, Int.reduceLT, zx] <;> exact rfl) ?_
  refine ow_nil ?_
  refine sk_n (by simp only [ze] <;> exact rfl) ?_
  skip
  refine cw_false (by simp only [opd, zv, zx] <;> rfl) ?_
  refine cw_skip (sk_n rfl (cw_seq (cw_seq (cw_region ?_))))
  refine ow_me rfl ?_
  refine ow_op (by simp only [zo, lenD_str, lenD_nils, lenD_sl, lenD_msl, zx] <;> exact rfl) ?_
  refine ow_me rfl ?_
  refine ow_op (by simp only [zo, foldD, maxD, zx] <;> exact rfl) ?_
  refine ow_op (by simp only [zo, binD, zb, Int.reduceEq, Int.reduceToNat, Int.reduceLT, zx] <;> exact rfl) ?_
  refine ow_nil ?_
  refine sk_n (by simp only [ze] <;> exact rfl) ?_
  have hlen : (strip0 l).length ≤ 62 := by obtain ⟨k, hk⟩ := strip0_suffix l; have := congrArg List.length hk; simp at this; omega
  refine cw_false (by simp only [opd, zv, zx] <;> (rw [decide_eq_false_iff_not.2]; split <;> omega)) ?_
  refine cw_skip (sk_n rfl (cw_seq (cw_region ?_)))
  refine ow_me rfl ?_
  refine ow_me rfl ?_
  refine ow_me rfl ?_
  refine ow_op (by simp only [zo, fillD, overlay, zc, List.take, List.drop, Nat.reduceAdd, Nat.reduceLeDiff, Nat.reduceBEq, zm, zx] <;> exact rfl) ?_
  refine ow_op (by simp only [zl, zm, storeD, overlay, snapVs, snaps, zs, zc, zf, List.take, List.drop, zx] <;> exact rfl) ?_
  refine ow_mc ?_
  refine ow_nil ?_
  refine sk_n (by simp only [ze] <;> exact rfl) ?_
  refine cw_ret ?_
  refine ⟨_, by simp only [F122, resultD, resDs, resD, zg, zd, rowsOf, partD, List.take, List.drop, zm] <;> exact rfl, ?_⟩
  have h0 : ¬ strip0 l = [] := fun h => by rw [h] at hc; simp at hc
  rw [nz, strip, if_neg h0, show (strip0 l != []) = true by simpa using h0, Bool.and_true]; rfl

theorem big_len {l : List UInt8} (h : l.length ≤ 62) : decide ((l.length : Int) > 1000) = false := decide_eq_false (by omega)
theorem decNew_run {d : Nat} (hd : 6 ≤ d) (S : St) (neg : Bool) (l : List UInt8) (hl : l.length ≤ 62) (hnum : isNum l = true) : runF LP NN d 82 [.bool neg, .str (mkS l), .int .i64 0] S = some (.tup [.agg [.bool (neg && nz l), .str (mkS (strip l)), .int .i64 0], .int .i64 0], S, false) := by
 refine run_pure (F := F82) rfl (by simp only [LP, fnOf, snapVs, snaps, zs, zm, zv] <;> exact rfl) rfl (by simp only [LP, zf, zm]; try rfl) (by simp only [F82, zv] <;> exact rfl) (by omega) ?_
 rintro d rfl
 refine cw_seq (cw_region ?_)
 refine ow_op (by simp only [zl, zm, zx, hnum, Bool.not_true, big_len hl] <;> exact rfl) ?_
 refine ow_mc ?_
 refine ow_nil ?_
 refine sk_n (by simp only [ze] <;> exact rfl) ?_
 refine cw_seq (cw_seq (cw_region ?_))
 refine ow_me rfl ?_
 refine ow_op (by simp only [zo, zx, hnum, Bool.not_true, big_len hl]; exact number_run (by omega) _ l (by omega)) ?_
 refine ow_op (by simp only [zo, unD, zx, hnum, Bool.not_true, big_len hl] <;> exact rfl) ?_
 refine ow_ml rfl ?_
 refine ow_know 0 (b := false) (by simp only [opd, zv, zx, hnum, Bool.not_true, big_len hl] <;> rfl) (by simp only [zn] <;> exact rfl) ?_
 refine ow_on rfl ?_
 refine ow_me rfl ?_
 refine ow_on rfl ?_
 refine ow_op (by simp only [zo, lenD_str, lenD_nils, lenD_sl, lenD_msl, zx, hnum, Bool.not_true, big_len hl] <;> exact rfl) ?_
 refine ow_on rfl ?_
 refine ow_op (by simp only [zo, binD, zb, Int.reduceEq, Int.reduceToNat, Int.reduceLT, zx, hnum, Bool.not_true, big_len hl] <;> exact rfl) ?_
 refine ow_op (by simp only [zo, zx, hnum, Bool.not_true, big_len hl] <;> exact rfl) ?_
 refine ow_ml rfl ?_
 refine ow_know 0 (b := false) (by simp only [opd, zv, zx, hnum, Bool.not_true, big_len hl] <;> rfl) (by simp only [zn] <;> exact rfl) ?_
 refine ow_on rfl ?_
 refine ow_me rfl ?_
 refine ow_on rfl ?_
 refine ow_op (by simp only [zo, binD, zb, Int.reduceEq, Int.reduceToNat, Int.reduceLT, zx, hnum, Bool.not_true, big_len hl] <;> exact rfl) ?_
 refine ow_op (by simp only [zo, zx, hnum, Bool.not_true, big_len hl] <;> exact rfl) ?_
 refine ow_ml rfl ?_
 refine ow_know 0 (b := false) (by simp only [opd, zv, zx, hnum, Bool.not_true, big_len hl] <;> rfl) (by simp only [zn] <;> exact rfl) ?_
 refine ow_on rfl ?_
 refine ow_me rfl ?_
 refine ow_on rfl ?_
 refine ow_op (by simp only [zo, binD, zb, Int.reduceEq, Int.reduceToNat, Int.reduceLT, zx, hnum, Bool.not_true, big_len hl] <;> exact rfl) ?_
 refine ow_op (by simp only [zo, zx, hnum, Bool.not_true, big_len hl] <;> exact rfl) ?_
 refine ow_nil ?_
 refine sk_n (by simp only [ze] <;> exact rfl) ?_
 skip
 refine cw_false (by simp only [opd, zv, zx, hnum, Bool.not_true, big_len hl] <;> rfl) ?_
 refine cw_skip (sk_n rfl (cw_seq (cw_region ?_)))
 refine ow_me rfl ?_
 refine ow_me rfl ?_
 refine ow_me rfl ?_
 refine ow_op (by simp only [zo, zx, hnum, Bool.not_true, big_len hl]; exact normal_run (by omega) _ neg l hl) ?_
 refine ow_op (by simp only [zo, List.getElem?_cons_zero, List.getElem?_cons_succ, zx, hnum, Bool.not_true, big_len hl] <;> exact rfl) ?_
 refine ow_op (by simp only [zo, List.getElem?_cons_zero, List.getElem?_cons_succ, zx, hnum, Bool.not_true, big_len hl] <;> exact rfl) ?_
 refine ow_op (by simp only [zl, zm, storeD, overlay, snapVs, snaps, zs, zc, zf, List.take, List.drop, zx, hnum, Bool.not_true, big_len hl] <;> exact rfl) ?_
 refine ow_ml rfl ?_
 refine ow_nil ?_
 refine sk_n (by simp only [ze] <;> exact rfl) ?_
 refine cw_ret ?_
 refine ⟨_, by simp only [F82, resultD, resDs, resD, zg, zd, rowsOf, partD, List.take, List.drop, zm] <;> exact rfl, ?_⟩
 simp only [leaveP, leave, snapVs, snaps, zs, zf, zk]

end Go.Proofs.YtabgobmeibjeeaaGreatDoor

namespace Go.Proofs.YtabgobmeibjeeaaGreatDoor
set_option linter.unusedSimpArgs false
set_option linter.unusedVariables false
set_option maxRecDepth 10000

structure Nrm (neg : Bool) (l : List UInt8) : Prop where
 num : isNum l = true
 len : l.length ≤ 62
 st : strip l = l
 sg : (neg && nz l) = neg
theorem strip0_strip (l : List UInt8) : strip0 (strip l) = strip0 l := by
 unfold strip
 split
 ·
  rename_i h; rw [h]; rfl
 ·
  exact strip0_strip0 l
theorem Nrm.of (neg : Bool) (l : List UInt8) (h1 : isNum l = true) (h2 : l.length ≤ 62) : Nrm (neg && nz l) (strip l) := by
 simp only [isNum, Bool.and_eq_true, Bool.not_eq_true', beq_eq_false_iff_ne, ne_eq] at h1
 obtain ⟨a, b⟩ := strip_len l h1.1
 refine ⟨?_, by omega, strip_idem l, ?_⟩
 ·
  simp only [isNum, Bool.and_eq_true, Bool.not_eq_true', beq_eq_false_iff_ne, ne_eq]
  exact ⟨fun e => by rw [e] at b; simp at b, strip_dig l h1.2⟩
 ·
  unfold nz
  rw [strip0_strip]
  cases neg <;> simp
theorem ba_self (s : ByteArray) : (s == s) = true := by
 first
  | exact beq_self_eq_true s
  | (cases s with | mk a => show (a == a) = true; simp)
  | (cases s with | mk a => show decide _ = true; simp)
theorem big62 {l : List UInt8} (h : l.length ≤ 62) : decide ((l.length : Int) > 62) = false := decide_eq_false (by omega)
theorem rep_tab (d : Nat) (S : St) : (List.range 7).map (fun k => runF LP NN (d + 4) 57 [.str ⟨#[48]⟩, .int .i64 ((k : Nat) : Int)] S) = (List.range 7).map (fun k => some (.str (mkS (List.replicate k 48)), S, false)) := by kernel_rfl
theorem rep_run {d : Nat} (hd : 4 ≤ d) (S : St) (k : Nat) (hk : k < 7) : runF LP NN d 57 [.str ⟨#[48]⟩, .int .i64 (k : Int)] S = some (.str (mkS (List.replicate k 48)), S, false) := by
 obtain ⟨d, rfl⟩ : ∃ d', d = d' + 4 := ⟨d - 4, by omega⟩
 exact tab_at (rep_tab d S) k hk

theorem decCheck_run {d : Nat} (hd : 6 ≤ d) (S : St) (neg : Bool) (l : List UInt8) (h : Nrm neg l) : runF LP NN d 123 [.agg [.bool neg, .str (mkS l), .int .i64 0]] S = some (.int .i64 0, S, false) := by
 refine run_pure (F := F123) rfl (by simp only [LP, fnOf, snapVs, snaps, zs, zm, zv] <;> exact rfl) rfl (by simp only [LP, zf, zm]; try rfl) (by simp only [F123, zv] <;> exact rfl) (by omega) ?_
 rintro d rfl
 refine cw_seq (cw_region ?_)
 refine ow_op (by simp only [zl, zm, zc, zx, h.num, Bool.not_true, big62 h.len] <;> exact rfl) ?_
 refine ow_mc ?_
 refine ow_nil ?_
 refine sk_n (by simp only [ze] <;> exact rfl) ?_
 refine cw_seq (cw_seq (cw_region ?_))
 refine ow_op (by simp only [zo, zr, zm, zx, h.num, Bool.not_true, big62 h.len] <;> exact rfl) ?_
 refine ow_op (by simp only [zl, zm, zd, partD, List.take, List.drop, zx, h.num, Bool.not_true, big62 h.len] <;> exact rfl) ?_
 refine ow_op (by simp only [zo, zx, h.num, Bool.not_true, big62 h.len]; exact number_run (by omega) _ l (by have := h.len; omega)) ?_
 refine ow_op (by simp only [zo, unD, zx, h.num, Bool.not_true, big62 h.len] <;> exact rfl) ?_
 refine ow_ml rfl ?_
 refine ow_know 0 (b := false) (by simp only [opd, zv, zx, h.num, Bool.not_true, big62 h.len] <;> rfl) (by simp only [zn] <;> exact rfl) ?_
 refine ow_on rfl ?_
 refine ow_op (by simp only [zo, zr, zm, zx, h.num, Bool.not_true, big62 h.len] <;> exact rfl) ?_
 refine ow_on rfl ?_
 refine ow_op (by simp only [zl, zm, zd, partD, List.take, List.drop, zx, h.num, Bool.not_true, big62 h.len] <;> exact rfl) ?_
 refine ow_on rfl ?_
 refine ow_op (by simp only [zo, lenD_str, lenD_nils, lenD_sl, lenD_msl, zx, h.num, Bool.not_true, big62 h.len] <;> exact rfl) ?_
 refine ow_on rfl ?_
 refine ow_op (by simp only [zo, binD, zb, Int.reduceEq, Int.reduceToNat, Int.reduceLT, zx, h.num, Bool.not_true, big62 h.len] <;> exact rfl) ?_
 refine ow_op (by simp only [zo, zx, h.num, Bool.not_true, big62 h.len] <;> exact rfl) ?_
 refine ow_ml rfl ?_
 refine ow_know 0 (b := false) (by simp only [opd, zv, zx, h.num, Bool.not_true, big62 h.len] <;> rfl) (by simp only [zn] <;> exact rfl) ?_
 refine ow_on rfl ?_
 refine ow_op (by simp only [zo, zr, zm, zx, h.num, Bool.not_true, big62 h.len] <;> exact rfl) ?_
 refine ow_on rfl ?_
 refine ow_op (by simp only [zl, zm, zd, partD, List.take, List.drop, zx, h.num, Bool.not_true, big62 h.len] <;> exact rfl) ?_
 refine ow_on rfl ?_
 refine ow_op (by simp only [zo, binD, zb, Int.reduceEq, Int.reduceToNat, Int.reduceLT, zx, h.num, Bool.not_true, big62 h.len] <;> exact rfl) ?_
 refine ow_op (by simp only [zo, zx, h.num, Bool.not_true, big62 h.len] <;> exact rfl) ?_
 refine ow_ml rfl ?_
 refine ow_know 0 (b := false) (by simp only [opd, zv, zx, h.num, Bool.not_true, big62 h.len] <;> rfl) (by simp only [zn] <;> exact rfl) ?_
 refine ow_on rfl ?_
 refine ow_op (by simp only [zo, zr, zm, zx, h.num, Bool.not_true, big62 h.len] <;> exact rfl) ?_
 refine ow_on rfl ?_
 refine ow_op (by simp only [zl, zm, zd, partD, List.take, List.drop, zx, h.num, Bool.not_true, big62 h.len] <;> exact rfl) ?_
 refine ow_on rfl ?_
 refine ow_op (by simp only [zo, binD, zb, Int.reduceEq, Int.reduceToNat, Int.reduceLT, zx, h.num, Bool.not_true, big62 h.len] <;> exact rfl) ?_
 refine ow_op (by simp only [zo, zx, h.num, Bool.not_true, big62 h.len] <;> exact rfl) ?_
 refine ow_nil ?_
 refine sk_n (by simp only [ze] <;> exact rfl) ?_
 skip
 refine cw_false (by simp only [opd, zv, zx, h.num, Bool.not_true, big62 h.len] <;> rfl) ?_
 refine cw_skip (sk_n rfl (cw_seq (cw_seq (cw_region ?_))))
 refine ow_op (by simp only [zo, zr, zm, zx, h.num, Bool.not_true, big62 h.len] <;> exact rfl) ?_
 refine ow_op (by simp only [zl, zm, zd, partD, List.take, List.drop, zx, h.num, Bool.not_true, big62 h.len] <;> exact rfl) ?_
 refine ow_op (by simp only [zo, zr, zm, zx, h.num, Bool.not_true, big62 h.len] <;> exact rfl) ?_
 refine ow_op (by simp only [zl, zm, zd, partD, List.take, List.drop, zx, h.num, Bool.not_true, big62 h.len] <;> exact rfl) ?_
 refine ow_op (by simp only [zo, zr, zm, zx, h.num, Bool.not_true, big62 h.len] <;> exact rfl) ?_
 refine ow_op (by simp only [zl, zm, zd, partD, List.take, List.drop, zx, h.num, Bool.not_true, big62 h.len] <;> exact rfl) ?_
 refine ow_op (by simp only [zo, zx, h.num, Bool.not_true, big62 h.len]; exact normal_run (by omega) _ neg l h.len) ?_
 refine ow_ml rfl ?_
 refine ow_op (by simp only [zo, List.getElem?_cons_zero, List.getElem?_cons_succ, zx, h.num, Bool.not_true, big62 h.len] <;> exact rfl) ?_
 refine ow_op (by simp only [zo, List.getElem?_cons_zero, List.getElem?_cons_succ, zx, h.num, Bool.not_true, big62 h.len] <;> exact rfl) ?_
 refine ow_op (by simp only [zl, zm, zx, h.num, Bool.not_true, big62 h.len] <;> exact rfl) ?_
 refine ow_op (by simp only [zl, zm, storeD, overlay, snapVs, snaps, zs, zc, zf, List.take, List.drop, zx, h.num, Bool.not_true, big62 h.len] <;> exact rfl) ?_
 refine ow_ml rfl ?_
 refine ow_nil ?_
 refine sk_n (by simp only [ze] <;> exact rfl) ?_
 refine cw_seq (cw_region ?_)
 refine ow_me rfl ?_
 refine ow_op (by simp only [zo, binD, zb, Int.reduceEq, Int.reduceToNat, Int.reduceLT, zx, h.num, Bool.not_true, big62 h.len] <;> exact rfl) ?_
 refine ow_ml rfl ?_
 refine ow_know 0 (b := false) (by simp only [opd, zv, zx, h.num, Bool.not_true, big62 h.len] <;> rfl) (by simp only [zn] <;> exact rfl) ?_
 refine ow_on rfl ?_
 refine ow_op (by simp only [zl, zm, zd, partD, List.take, List.drop, zx, h.num, Bool.not_true, big62 h.len] <;> exact rfl) ?_
 refine ow_on rfl ?_
 refine ow_op (by simp only [zl, zm, zd, partD, List.take, List.drop, zx, h.num, Bool.not_true, big62 h.len] <;> exact rfl) ?_
 refine ow_on rfl ?_
 refine ow_op (by simp only [zo, eqCells, eqCell, isKey, h.sg, h.st, beq_self_eq_true, Bool.and_self, if_true, Option.map_some, bne_self_eq_false, ba_self, zx, h.num, Bool.not_true, big62 h.len] <;> exact rfl) ?_
 refine ow_op (by simp only [zo, zx, h.num, Bool.not_true, big62 h.len] <;> exact rfl) ?_
 refine ow_nil ?_
 refine sk_n (by simp only [ze] <;> exact rfl) ?_
 skip
 refine cw_false (by simp only [opd, zv, zx, h.num, Bool.not_true, big62 h.len] <;> rfl) ?_
 refine cw_skip (sk_n rfl (cw_seq (cw_region ?_)))
 refine ow_mc ?_
 refine ow_nil ?_
 refine sk_n (by simp only [ze] <;> exact rfl) ?_
 refine cw_ret ?_
 refine ⟨_, by simp only [F123, resultD, resDs, resD, zg, zd, rowsOf, partD, List.take, List.drop, zm] <;> exact rfl, ?_⟩
 rfl

theorem both_run {d : Nat} (hd : 7 ≤ d) (S : St) (na nb : Bool) (a b : List UInt8) (ha : Nrm na a) (hb : Nrm nb b) : runF LP NN d 83 [.agg [.bool na, .str (mkS a), .int .i64 0], .agg [.bool nb, .str (mkS b), .int .i64 0]] S = some (.int .i64 0, S, false) := by
 refine run_pure (F := F83) rfl (by simp only [LP, fnOf, snapVs, snaps, zs, zm, zv] <;> exact rfl) rfl (by simp only [LP, zf, zm]; try rfl) (by simp only [F83, zv] <;> exact rfl) (by omega) ?_
 rintro d rfl
 refine cw_seq (cw_region ?_)
 refine ow_op (by simp only [zl, zm, zc] <;> exact rfl) ?_
 refine ow_op (by simp only [zl, zm, zc] <;> exact rfl) ?_
 refine ow_mc ?_
 refine ow_nil ?_
 refine sk_n (by simp only [ze] <;> exact rfl) ?_
 refine cw_seq ?_
 refine cw_drawn (by simp only [newsVals, zw, Nat.reduceAdd] <;> exact rfl) (by simp only [zw, newsObj, St.eta] <;> exact rfl) ?_
 refine dw_op (by simp only [zl, zm, zd, partD, List.take, List.drop] <;> exact rfl) (by simp only [fpHere, zo, zq] <;> exact rfl) rfl ?_
 first
  | refine dw_op (by simp only [zo]; exact decCheck_run (by omega) _ na a ha) (by simp only [fpHere, zo, zq] <;> exact rfl) rfl ?_
  | refine dw_op (by simp only [zo]; exact decCheck_run (by omega) _ nb b hb) (by simp only [fpHere, zo, zq] <;> exact rfl) rfl ?_
 refine dw_op (by simp only [zl, zm, zd, partD, List.take, List.drop] <;> exact rfl) (by simp only [fpHere, zo, zq] <;> exact rfl) rfl ?_
 first
  | refine dw_op (by simp only [zo]; exact decCheck_run (by omega) _ na a ha) (by simp only [fpHere, zo, zq] <;> exact rfl) rfl ?_
  | refine dw_op (by simp only [zo]; exact decCheck_run (by omega) _ nb b hb) (by simp only [fpHere, zo, zq] <;> exact rfl) rfl ?_
 refine dw_quiet (by simp only [zo, foldD, maxD] <;> exact rfl) rfl rfl ?_
 refine dw_ml rfl rfl ?_
 refine dw_nil ?_
 refine sk_n (by simp only [ze] <;> exact rfl) ?_
 refine cw_ret ?_
 refine ⟨_, by simp only [F83, resultD, resDs, resD, zg, zd, rowsOf, partD, List.take, List.drop, zm] <;> exact rfl, ?_⟩
 rfl

theorem padded_run {d : Nat} (hd : 5 ≤ d) (S : St) (l : List UInt8) (n : Nat) (hn : n - l.length < 7) (h62 : l.length ≤ 62) : runF LP NN d 124 [.str (mkS l), .int .i64 n] S = some (.str (mkS (pad n l)), S, false) := by
 have hk : IntKind.i64.wrap ((n : Int) - (l.length : Int)) = (n : Int) - (l.length : Int) := by rw [IntKind.wrap_i64]; omega
 have hmx : (if (0 : Int) > (n : Int) - (l.length : Int) then (0 : Int) else (n : Int) - (l.length : Int)) = ((n - l.length : Nat) : Int) := by split <;> omega
 refine run_pure (F := F124) rfl (by simp only [LP, fnOf, snapVs, snaps, zs, zm, zv] <;> exact rfl) rfl (by simp only [LP, zf, zm]; try rfl) (by simp only [F124, zv] <;> exact rfl) (by omega) ?_
 rintro d rfl
 refine cw_seq (cw_region ?_)
 refine ow_mc ?_
 refine ow_nil ?_
 refine sk_n (by simp only [ze] <;> exact rfl) ?_
 refine cw_seq (cw_region ?_)
 refine ow_me rfl ?_
 refine ow_me rfl ?_
 refine ow_op (by simp only [zo, lenD_str, lenD_nils, lenD_sl, lenD_msl, zx, hk, hmx] <;> exact rfl) ?_
 refine ow_op (by simp only [zo, binD, zb, Int.reduceEq, Int.reduceToNat, Int.reduceLT, zx, hk, hmx] <;> exact rfl) ?_
 refine ow_op (by simp only [zo, foldD, maxD, zx, hk, hmx] <;> exact rfl) ?_
 refine ow_op (by simp only [zo, zx, hk, hmx]; exact rep_run (by omega) _ (n - l.length) hn) ?_
 refine ow_me rfl ?_
 refine ow_op (by simp only [zo, binD, zb, Int.reduceEq, Int.reduceToNat, Int.reduceLT, mkS_app, mkS_size]; rw [if_neg (by rw [show IntKind.i64.max = 9223372036854775807 from rfl]; simp; omega)]; exact rfl) ?_
 refine ow_ml rfl ?_
 refine ow_nil ?_
 refine sk_n (by simp only [ze] <;> exact rfl) ?_
 refine cw_ret ?_
 refine ⟨_, by simp only [F124, resultD, resDs, resD, zg, zd, rowsOf, partD, List.take, List.drop, zm] <;> exact rfl, ?_⟩
 rfl

end Go.Proofs.YtabgobmeibjeeaaGreatDoor

namespace Go.Proofs.YtabgobmeibjeeaaGreatDoor
set_option linter.unusedSimpArgs false
set_option linter.unusedVariables false
set_option maxRecDepth 10000

theorem aligned_run {d : Nat} (hd : 6 ≤ d) (S : St) (na nb : Bool) (a b : List UInt8) (ha : Nrm na a) (hb : Nrm nb b) (h1 : a.length < b.length + 7) (h2 : b.length < a.length + 7) : runF LP NN d 84 [.agg [.bool na, .str (mkS a), .int .i64 0], .agg [.bool nb, .str (mkS b), .int .i64 0]] S = some (.tup [.str (mkS (pad (max a.length b.length) a)), .str (mkS (pad (max a.length b.length) b)), .int .i64 0], S, false) := by
 have hm : (if (b.length : Int) > (a.length : Int) then (b.length : Int) else (a.length : Int)) = ((max a.length b.length : Nat) : Int) := by split <;> omega
 refine run_pure (F := F84) rfl (by simp only [LP, fnOf, snapVs, snaps, zs, zm, zv] <;> exact rfl) rfl (by simp only [LP, zf, zm]; try rfl) (by simp only [F84, zv] <;> exact rfl) (by omega) ?_
 rintro d rfl
 refine cw_seq (cw_region ?_)
 refine ow_op (by simp only [zl, zm, zc, zx, hm] <;> exact rfl) ?_
 refine ow_op (by simp only [zl, zm, zc, zx, hm] <;> exact rfl) ?_
 refine ow_mc ?_
 refine ow_mc ?_
 refine ow_mc ?_
 refine ow_nil ?_
 refine sk_n (by simp only [ze] <;> exact rfl) ?_
 refine cw_seq (cw_region ?_)
 refine ow_op (by simp only [zo, zr, zm, zx, hm] <;> exact rfl) ?_
 refine ow_op (by simp only [zl, zm, zd, partD, List.take, List.drop, zx, hm] <;> exact rfl) ?_
 refine ow_op (by simp only [zo, zr, zm, zx, hm] <;> exact rfl) ?_
 refine ow_op (by simp only [zl, zm, zd, partD, List.take, List.drop, zx, hm] <;> exact rfl) ?_
 refine ow_op (by simp only [zo, foldD, maxD, zx, hm] <;> exact rfl) ?_
 refine ow_ml rfl ?_
 refine ow_nil ?_
 refine sk_n (by simp only [ze] <;> exact rfl) ?_
 refine cw_seq ?_
 refine cw_drawn (by simp only [newsVals, zw, Nat.reduceAdd] <;> exact rfl) (by simp only [zw, newsObj, St.eta] <;> exact rfl) ?_
 refine dw_quiet (by simp only [zo, zr, zm, zx, hm] <;> exact rfl) rfl rfl ?_
 refine dw_op (by simp only [zl, zm, zd, partD, List.take, List.drop, zx, hm] <;> exact rfl) (by simp only [fpHere, zo, zq] <;> exact rfl) rfl ?_
 refine dw_me rfl rfl ?_
 refine dw_quiet (by simp only [zo, zr, zm, zx, hm] <;> exact rfl) rfl rfl ?_
 refine dw_op (by simp only [zl, zm, zd, partD, List.take, List.drop, zx, hm] <;> exact rfl) (by simp only [fpHere, zo, zq] <;> exact rfl) rfl ?_
 refine dw_quiet (show _ = some (D.int .i64 ((0 : Nat) : Int), _, false) from rfl) rfl rfl ?_
 refine dw_op (by simp only [zo, zx, hm]; exact rep_run (by omega) _ 0 (by omega)) (by simp only [fpHere, zo, zq] <;> exact rfl) rfl ?_
 refine dw_quiet (by simp only [zo, binD, zb, Int.reduceEq, Int.reduceToNat, Int.reduceLT, mkS_app, mkS_size, List.replicate_zero, List.append_nil]; rw [if_neg (by have := ha.len; have := hb.len; rw [show IntKind.i64.max = 9223372036854775807 from rfl]; simp; omega)]; exact rfl) rfl rfl ?_
 refine dw_ml rfl rfl ?_
 refine dw_nil ?_
 refine sk_n (by simp only [ze] <;> exact rfl) ?_
 refine cw_seq ?_
 refine cw_drawn (by simp only [newsVals, zw, Nat.reduceAdd] <;> exact rfl) (by simp only [zw, newsObj, St.eta] <;> exact rfl) ?_
 refine dw_quiet (by simp only [zo, zr, zm, zx, hm] <;> exact rfl) rfl rfl ?_
 refine dw_op (by simp only [zl, zm, zd, partD, List.take, List.drop, zx, hm] <;> exact rfl) (by simp only [fpHere, zo, zq] <;> exact rfl) rfl ?_
 refine dw_me rfl rfl ?_
 refine dw_quiet (by simp only [zo, zr, zm, zx, hm] <;> exact rfl) rfl rfl ?_
 refine dw_op (by simp only [zl, zm, zd, partD, List.take, List.drop, zx, hm] <;> exact rfl) (by simp only [fpHere, zo, zq] <;> exact rfl) rfl ?_
 refine dw_quiet (show _ = some (D.int .i64 ((0 : Nat) : Int), _, false) from rfl) rfl rfl ?_
 refine dw_op (by simp only [zo, zx, hm]; exact rep_run (by omega) _ 0 (by omega)) (by simp only [fpHere, zo, zq] <;> exact rfl) rfl ?_
 refine dw_quiet (by simp only [zo, binD, zb, Int.reduceEq, Int.reduceToNat, Int.reduceLT, mkS_app, mkS_size, List.replicate_zero, List.append_nil]; rw [if_neg (by have := ha.len; have := hb.len; rw [show IntKind.i64.max = 9223372036854775807 from rfl]; simp; omega)]; exact rfl) rfl rfl ?_
 refine dw_ml rfl rfl ?_
 refine dw_nil ?_
 refine sk_n (by simp only [ze] <;> exact rfl) ?_
 refine cw_seq (cw_region ?_)
 refine ow_me rfl ?_
 refine ow_op (by simp only [zo, lenD_str, lenD_nils, lenD_sl, lenD_msl, zx, hm] <;> exact rfl) ?_
 refine ow_me rfl ?_
 refine ow_op (by simp only [zo, lenD_str, lenD_nils, lenD_sl, lenD_msl, zx, hm] <;> exact rfl) ?_
 refine ow_op (by simp only [zo, foldD, maxD, zx, hm] <;> exact rfl) ?_
 refine ow_ml rfl ?_
 refine ow_nil ?_
 refine sk_n (by simp only [ze] <;> exact rfl) ?_
 refine cw_seq (cw_region ?_)
 refine ow_me rfl ?_
 refine ow_me rfl ?_
 first
  | refine ow_op (by simp only [zo, zx, hm]; exact padded_run (by omega) _ a _ (by omega) ha.len) ?_
  | refine ow_op (by simp only [zo, zx, hm]; exact padded_run (by omega) _ b _ (by omega) hb.len) ?_
 refine ow_me rfl ?_
 refine ow_me rfl ?_
 first
  | refine ow_op (by simp only [zo, zx, hm]; exact padded_run (by omega) _ a _ (by omega) ha.len) ?_
  | refine ow_op (by simp only [zo, zx, hm]; exact padded_run (by omega) _ b _ (by omega) hb.len) ?_
 refine ow_me rfl ?_
 refine ow_ml rfl ?_
 refine ow_ml rfl ?_
 refine ow_ml rfl ?_
 refine ow_nil ?_
 refine sk_n (by simp only [ze] <;> exact rfl) ?_
 refine cw_ret ?_
 refine ⟨_, by simp only [F84, resultD, resDs, resD, zg, zd, rowsOf, partD, List.take, List.drop, zm] <;> exact rfl, ?_⟩
 rfl

def cmpN (na nb : Bool) (a b : List UInt8) : Int :=
 if na = nb then (if na then cmpL (pad (max a.length b.length) b) (pad (max a.length b.length) a) else cmpL (pad (max a.length b.length) a) (pad (max a.length b.length) b))
 else if na then -1 else 1

theorem decCmp_tt {d : Nat} (hd : 8 ≤ d) (S : St) (a b : List UInt8) (ha : Nrm true a) (hb : Nrm true b) (h1 : a.length < b.length + 7) (h2 : b.length < a.length + 7) : runF LP NN d 52 [.agg [.bool true, .str (mkS a), .int .i64 0], .agg [.bool true, .str (mkS b), .int .i64 0]] S = some (.tup [.int .i64 (cmpN true true a b), .int .i64 0], S, false) := by
 refine run_pure (F := F52) rfl (by simp only [LP, fnOf, snapVs, snaps, zs, zm, zv] <;> exact rfl) rfl (by simp only [LP, zf, zm]; try rfl) (by simp only [F52, zv] <;> exact rfl) (by omega) ?_
 rintro d rfl
 refine cw_seq (cw_region ?_)
 refine ow_op (by simp only [zl, zm, zc, zx] <;> exact rfl) ?_
 refine ow_op (by simp only [zl, zm, zc, zx] <;> exact rfl) ?_
 refine ow_mc ?_
 refine ow_mc ?_
 refine ow_nil ?_
 refine sk_n (by simp only [ze] <;> exact rfl) ?_
 refine cw_seq (cw_seq (cw_region ?_))
 refine ow_op (by simp only [zl, zm, zd, partD, List.take, List.drop, zx] <;> exact rfl) ?_
 refine ow_op (by simp only [zl, zm, zd, partD, List.take, List.drop, zx] <;> exact rfl) ?_
 refine ow_op (by simp only [zo, zx]; exact both_run (by omega) _ true true a b ha hb) ?_
 refine ow_ml rfl ?_
 refine ow_nil ?_
 refine sk_n (by simp only [ze] <;> exact rfl) ?_
 refine cw_seq (cw_region ?_)
 refine ow_me rfl ?_
 refine ow_op (by simp only [zo, binD, zb, Int.reduceEq, Int.reduceToNat, Int.reduceLT, zx] <;> exact rfl) ?_
 refine ow_nil ?_
 refine sk_n (by simp only [ze] <;> exact rfl) ?_
 skip
 refine cw_false (by simp only [opd, zv, zx] <;> rfl) ?_
 refine cw_skip (sk_n rfl (cw_seq (cw_region ?_)))
 refine ow_op (by simp only [zl, zm, zd, partD, List.take, List.drop, zx] <;> exact rfl) ?_
 refine ow_op (by simp only [zl, zm, zd, partD, List.take, List.drop, zx] <;> exact rfl) ?_
 refine ow_op (by simp only [zo, zx]; exact aligned_run (by omega) _ true true a b ha hb h1 h2) ?_
 refine ow_ml rfl ?_
 refine ow_op (by simp only [zo, List.getElem?_cons_zero, List.getElem?_cons_succ, zx] <;> exact rfl) ?_
 refine ow_op (by simp only [zo, List.getElem?_cons_zero, List.getElem?_cons_succ, zx] <;> exact rfl) ?_
 refine ow_op (by simp only [zo, List.getElem?_cons_zero, List.getElem?_cons_succ, zx] <;> exact rfl) ?_
 refine ow_ml rfl ?_
 refine ow_ml rfl ?_
 refine ow_ml rfl ?_
 refine ow_nil ?_
 refine sk_n (by simp only [ze] <;> exact rfl) ?_
 refine cw_seq (cw_block (cw_seq (cw_region ?_)))
 refine ow_op (by simp only [zo, zr, zm, zx] <;> exact rfl) ?_
 refine ow_op (by simp only [zl, zm, zd, partD, List.take, List.drop, zx] <;> exact rfl) ?_
 refine ow_op (by simp only [zo, zr, zm, zx] <;> exact rfl) ?_
 refine ow_op (by simp only [zl, zm, zd, partD, List.take, List.drop, zx] <;> exact rfl) ?_
 refine ow_op (by simp only [zo, zx] <;> exact rfl) ?_
 refine ow_ml rfl ?_
 refine ow_know 0 (b := false) (by simp only [opd, zv, zx] <;> rfl) (by simp only [zn] <;> exact rfl) ?_
 refine ow_off rfl rfl ?_
 refine ow_off rfl rfl ?_
 refine ow_op (by simp only [zo, zx] <;> exact rfl) ?_
 refine ow_ml rfl ?_
 refine ow_nil ?_
 refine sk_n (by simp only [ze] <;> exact rfl) ?_
 refine cw_false (by simp only [opd, zv, zx]) ?_
 refine cw_seq (cw_region ?_)
 refine ow_op (by simp only [zo, zr, zm, zx] <;> exact rfl) ?_
 refine ow_op (by simp only [zl, zm, zd, partD, List.take, List.drop, zx] <;> exact rfl) ?_
 refine ow_op (by simp only [zo, zr, zm, zx] <;> exact rfl) ?_
 refine ow_op (by simp only [zl, zm, zd, partD, List.take, List.drop, zx] <;> exact rfl) ?_
 refine ow_op (by simp only [zo, zx] <;> exact rfl) ?_
 refine ow_ml rfl ?_
 refine ow_nil ?_
 refine sk_n (by simp only [ze] <;> exact rfl) ?_
 skip
 refine cw_false (by simp only [opd, zv, zx] <;> rfl) ?_
 refine cw_seq (cw_region ?_)
 refine ow_op (by simp only [zo, zr, zm, zx] <;> exact rfl) ?_
 refine ow_op (by simp only [zl, zm, zd, partD, List.take, List.drop, zx] <;> exact rfl) ?_
 refine ow_ml rfl ?_
 refine ow_nil ?_
 refine sk_n (by simp only [ze] <;> exact rfl) ?_
 skip
 refine cw_true (by simp only [opd, zv, zx] <;> rfl) ?_
 refine cw_seq (cw_region ?_)
 refine ow_me rfl ?_
 refine ow_me rfl ?_
 refine ow_op (by simp only [zo, zx]; exact cmpS_run (by omega) _ _ _) ?_
 refine ow_ml rfl ?_
 refine ow_mc ?_
 refine ow_nil ?_
 refine sk_n (by simp only [ze] <;> exact rfl) ?_
 refine cw_ret (bk_r (sk_r ?_))
 refine ⟨_, by simp only [F52, resultD, resDs, resD, zg, zd, rowsOf, partD, List.take, List.drop, zm] <;> exact rfl, ?_⟩
 rfl

theorem decCmp_tf {d : Nat} (hd : 8 ≤ d) (S : St) (a b : List UInt8) (ha : Nrm true a) (hb : Nrm false b) (h1 : a.length < b.length + 7) (h2 : b.length < a.length + 7) : runF LP NN d 52 [.agg [.bool true, .str (mkS a), .int .i64 0], .agg [.bool false, .str (mkS b), .int .i64 0]] S = some (.tup [.int .i64 (cmpN true false a b), .int .i64 0], S, false) := by
 refine run_pure (F := F52) rfl (by simp only [LP, fnOf, snapVs, snaps, zs, zm, zv] <;> exact rfl) rfl (by simp only [LP, zf, zm]; try rfl) (by simp only [F52, zv] <;> exact rfl) (by omega) ?_
 rintro d rfl
 refine cw_seq (cw_region ?_)
 refine ow_op (by simp only [zl, zm, zc, zx] <;> exact rfl) ?_
 refine ow_op (by simp only [zl, zm, zc, zx] <;> exact rfl) ?_
 refine ow_mc ?_
 refine ow_mc ?_
 refine ow_nil ?_
 refine sk_n (by simp only [ze] <;> exact rfl) ?_
 refine cw_seq (cw_seq (cw_region ?_))
 refine ow_op (by simp only [zl, zm, zd, partD, List.take, List.drop, zx] <;> exact rfl) ?_
 refine ow_op (by simp only [zl, zm, zd, partD, List.take, List.drop, zx] <;> exact rfl) ?_
 refine ow_op (by simp only [zo, zx]; exact both_run (by omega) _ true false a b ha hb) ?_
 refine ow_ml rfl ?_
 refine ow_nil ?_
 refine sk_n (by simp only [ze] <;> exact rfl) ?_
 refine cw_seq (cw_region ?_)
 refine ow_me rfl ?_
 refine ow_op (by simp only [zo, binD, zb, Int.reduceEq, Int.reduceToNat, Int.reduceLT, zx] <;> exact rfl) ?_
 refine ow_nil ?_
 refine sk_n (by simp only [ze] <;> exact rfl) ?_
 skip
 refine cw_false (by simp only [opd, zv, zx] <;> rfl) ?_
 refine cw_skip (sk_n rfl (cw_seq (cw_region ?_)))
 refine ow_op (by simp only [zl, zm, zd, partD, List.take, List.drop, zx] <;> exact rfl) ?_
 refine ow_op (by simp only [zl, zm, zd, partD, List.take, List.drop, zx] <;> exact rfl) ?_
 refine ow_op (by simp only [zo, zx]; exact aligned_run (by omega) _ true false a b ha hb h1 h2) ?_
 refine ow_ml rfl ?_
 refine ow_op (by simp only [zo, List.getElem?_cons_zero, List.getElem?_cons_succ, zx] <;> exact rfl) ?_
 refine ow_op (by simp only [zo, List.getElem?_cons_zero, List.getElem?_cons_succ, zx] <;> exact rfl) ?_
 refine ow_op (by simp only [zo, List.getElem?_cons_zero, List.getElem?_cons_succ, zx] <;> exact rfl) ?_
 refine ow_ml rfl ?_
 refine ow_ml rfl ?_
 refine ow_ml rfl ?_
 refine ow_nil ?_
 refine sk_n (by simp only [ze] <;> exact rfl) ?_
 refine cw_seq (cw_block (cw_seq (cw_region ?_)))
 refine ow_op (by simp only [zo, zr, zm, zx] <;> exact rfl) ?_
 refine ow_op (by simp only [zl, zm, zd, partD, List.take, List.drop, zx] <;> exact rfl) ?_
 refine ow_op (by simp only [zo, zr, zm, zx] <;> exact rfl) ?_
 refine ow_op (by simp only [zl, zm, zd, partD, List.take, List.drop, zx] <;> exact rfl) ?_
 refine ow_op (by simp only [zo, zx] <;> exact rfl) ?_
 refine ow_ml rfl ?_
 refine ow_know 0 (b := true) (by simp only [opd, zv, zx] <;> rfl) (by simp only [zn] <;> exact rfl) ?_
 refine ow_on rfl ?_
 refine ow_op (by simp only [zo, zr, zm, zx] <;> exact rfl) ?_
 refine ow_on rfl ?_
 refine ow_op (by simp only [zl, zm, zd, partD, List.take, List.drop, zx] <;> exact rfl) ?_
 refine ow_op (by simp only [zo, zx] <;> exact rfl) ?_
 refine ow_ml rfl ?_
 refine ow_nil ?_
 refine sk_n (by simp only [ze] <;> exact rfl) ?_
 skip
 refine cw_true (by simp only [opd, zv, zx] <;> rfl) ?_
 refine cw_seq (cw_region ?_)
 refine ow_mc ?_
 refine ow_mc ?_
 refine ow_nil ?_
 refine sk_n (by simp only [ze] <;> exact rfl) ?_
 refine cw_ret (bk_r (sk_r ?_))
 refine ⟨_, by simp only [F52, resultD, resDs, resD, zg, zd, rowsOf, partD, List.take, List.drop, zm] <;> exact rfl, ?_⟩
 rfl

theorem decCmp_ft {d : Nat} (hd : 8 ≤ d) (S : St) (a b : List UInt8) (ha : Nrm false a) (hb : Nrm true b) (h1 : a.length < b.length + 7) (h2 : b.length < a.length + 7) : runF LP NN d 52 [.agg [.bool false, .str (mkS a), .int .i64 0], .agg [.bool true, .str (mkS b), .int .i64 0]] S = some (.tup [.int .i64 (cmpN false true a b), .int .i64 0], S, false) := by
 refine run_pure (F := F52) rfl (by simp only [LP, fnOf, snapVs, snaps, zs, zm, zv] <;> exact rfl) rfl (by simp only [LP, zf, zm]; try rfl) (by simp only [F52, zv] <;> exact rfl) (by omega) ?_
 rintro d rfl
 refine cw_seq (cw_region ?_)
 refine ow_op (by simp only [zl, zm, zc, zx] <;> exact rfl) ?_
 refine ow_op (by simp only [zl, zm, zc, zx] <;> exact rfl) ?_
 refine ow_mc ?_
 refine ow_mc ?_
 refine ow_nil ?_
 refine sk_n (by simp only [ze] <;> exact rfl) ?_
 refine cw_seq (cw_seq (cw_region ?_))
 refine ow_op (by simp only [zl, zm, zd, partD, List.take, List.drop, zx] <;> exact rfl) ?_
 refine ow_op (by simp only [zl, zm, zd, partD, List.take, List.drop, zx] <;> exact rfl) ?_
 refine ow_op (by simp only [zo, zx]; exact both_run (by omega) _ false true a b ha hb) ?_
 refine ow_ml rfl ?_
 refine ow_nil ?_
 refine sk_n (by simp only [ze] <;> exact rfl) ?_
 refine cw_seq (cw_region ?_)
 refine ow_me rfl ?_
 refine ow_op (by simp only [zo, binD, zb, Int.reduceEq, Int.reduceToNat, Int.reduceLT, zx] <;> exact rfl) ?_
 refine ow_nil ?_
 refine sk_n (by simp only [ze] <;> exact rfl) ?_
 skip
 refine cw_false (by simp only [opd, zv, zx] <;> rfl) ?_
 refine cw_skip (sk_n rfl (cw_seq (cw_region ?_)))
 refine ow_op (by simp only [zl, zm, zd, partD, List.take, List.drop, zx] <;> exact rfl) ?_
 refine ow_op (by simp only [zl, zm, zd, partD, List.take, List.drop, zx] <;> exact rfl) ?_
 refine ow_op (by simp only [zo, zx]; exact aligned_run (by omega) _ false true a b ha hb h1 h2) ?_
 refine ow_ml rfl ?_
 refine ow_op (by simp only [zo, List.getElem?_cons_zero, List.getElem?_cons_succ, zx] <;> exact rfl) ?_
 refine ow_op (by simp only [zo, List.getElem?_cons_zero, List.getElem?_cons_succ, zx] <;> exact rfl) ?_
 refine ow_op (by simp only [zo, List.getElem?_cons_zero, List.getElem?_cons_succ, zx] <;> exact rfl) ?_
 refine ow_ml rfl ?_
 refine ow_ml rfl ?_
 refine ow_ml rfl ?_
 refine ow_nil ?_
 refine sk_n (by simp only [ze] <;> exact rfl) ?_
 refine cw_seq (cw_block (cw_seq (cw_region ?_)))
 refine ow_op (by simp only [zo, zr, zm, zx] <;> exact rfl) ?_
 refine ow_op (by simp only [zl, zm, zd, partD, List.take, List.drop, zx] <;> exact rfl) ?_
 refine ow_op (by simp only [zo, zr, zm, zx] <;> exact rfl) ?_
 refine ow_op (by simp only [zl, zm, zd, partD, List.take, List.drop, zx] <;> exact rfl) ?_
 refine ow_op (by simp only [zo, zx] <;> exact rfl) ?_
 refine ow_ml rfl ?_
 refine ow_know 0 (b := true) (by simp only [opd, zv, zx] <;> rfl) (by simp only [zn] <;> exact rfl) ?_
 refine ow_on rfl ?_
 refine ow_op (by simp only [zo, zr, zm, zx] <;> exact rfl) ?_
 refine ow_on rfl ?_
 refine ow_op (by simp only [zl, zm, zd, partD, List.take, List.drop, zx] <;> exact rfl) ?_
 refine ow_op (by simp only [zo, zx] <;> exact rfl) ?_
 refine ow_ml rfl ?_
 refine ow_nil ?_
 refine sk_n (by simp only [ze] <;> exact rfl) ?_
 skip
 refine cw_false (by simp only [opd, zv, zx] <;> rfl) ?_
 refine cw_seq (cw_region ?_)
 refine ow_op (by simp only [zo, zr, zm, zx] <;> exact rfl) ?_
 refine ow_op (by simp only [zl, zm, zd, partD, List.take, List.drop, zx] <;> exact rfl) ?_
 refine ow_op (by simp only [zo, zr, zm, zx] <;> exact rfl) ?_
 refine ow_op (by simp only [zl, zm, zd, partD, List.take, List.drop, zx] <;> exact rfl) ?_
 refine ow_op (by simp only [zo, zx] <;> exact rfl) ?_
 refine ow_ml rfl ?_
 refine ow_nil ?_
 refine sk_n (by simp only [ze] <;> exact rfl) ?_
 skip
 refine cw_true (by simp only [opd, zv, zx] <;> rfl) ?_
 refine cw_seq (cw_region ?_)
 refine ow_mc ?_
 refine ow_mc ?_
 refine ow_nil ?_
 refine sk_n (by simp only [ze] <;> exact rfl) ?_
 refine cw_ret (bk_r (sk_r ?_))
 refine ⟨_, by simp only [F52, resultD, resDs, resD, zg, zd, rowsOf, partD, List.take, List.drop, zm] <;> exact rfl, ?_⟩
 rfl

theorem decCmp_ff {d : Nat} (hd : 8 ≤ d) (S : St) (a b : List UInt8) (ha : Nrm false a) (hb : Nrm false b) (h1 : a.length < b.length + 7) (h2 : b.length < a.length + 7) : runF LP NN d 52 [.agg [.bool false, .str (mkS a), .int .i64 0], .agg [.bool false, .str (mkS b), .int .i64 0]] S = some (.tup [.int .i64 (cmpN false false a b), .int .i64 0], S, false) := by
 refine run_pure (F := F52) rfl (by simp only [LP, fnOf, snapVs, snaps, zs, zm, zv] <;> exact rfl) rfl (by simp only [LP, zf, zm]; try rfl) (by simp only [F52, zv] <;> exact rfl) (by omega) ?_
 rintro d rfl
 refine cw_seq (cw_region ?_)
 refine ow_op (by simp only [zl, zm, zc, zx] <;> exact rfl) ?_
 refine ow_op (by simp only [zl, zm, zc, zx] <;> exact rfl) ?_
 refine ow_mc ?_
 refine ow_mc ?_
 refine ow_nil ?_
 refine sk_n (by simp only [ze] <;> exact rfl) ?_
 refine cw_seq (cw_seq (cw_region ?_))
 refine ow_op (by simp only [zl, zm, zd, partD, List.take, List.drop, zx] <;> exact rfl) ?_
 refine ow_op (by simp only [zl, zm, zd, partD, List.take, List.drop, zx] <;> exact rfl) ?_
 refine ow_op (by simp only [zo, zx]; exact both_run (by omega) _ false false a b ha hb) ?_
 refine ow_ml rfl ?_
 refine ow_nil ?_
 refine sk_n (by simp only [ze] <;> exact rfl) ?_
 refine cw_seq (cw_region ?_)
 refine ow_me rfl ?_
 refine ow_op (by simp only [zo, binD, zb, Int.reduceEq, Int.reduceToNat, Int.reduceLT, zx] <;> exact rfl) ?_
 refine ow_nil ?_
 refine sk_n (by simp only [ze] <;> exact rfl) ?_
 skip
 refine cw_false (by simp only [opd, zv, zx] <;> rfl) ?_
 refine cw_skip (sk_n rfl (cw_seq (cw_region ?_)))
 refine ow_op (by simp only [zl, zm, zd, partD, List.take, List.drop, zx] <;> exact rfl) ?_
 refine ow_op (by simp only [zl, zm, zd, partD, List.take, List.drop, zx] <;> exact rfl) ?_
 refine ow_op (by simp only [zo, zx]; exact aligned_run (by omega) _ false false a b ha hb h1 h2) ?_
 refine ow_ml rfl ?_
 refine ow_op (by simp only [zo, List.getElem?_cons_zero, List.getElem?_cons_succ, zx] <;> exact rfl) ?_
 refine ow_op (by simp only [zo, List.getElem?_cons_zero, List.getElem?_cons_succ, zx] <;> exact rfl) ?_
 refine ow_op (by simp only [zo, List.getElem?_cons_zero, List.getElem?_cons_succ, zx] <;> exact rfl) ?_
 refine ow_ml rfl ?_
 refine ow_ml rfl ?_
 refine ow_ml rfl ?_
 refine ow_nil ?_
 refine sk_n (by simp only [ze] <;> exact rfl) ?_
 refine cw_seq (cw_block (cw_seq (cw_region ?_)))
 refine ow_op (by simp only [zo, zr, zm, zx] <;> exact rfl) ?_
 refine ow_op (by simp only [zl, zm, zd, partD, List.take, List.drop, zx] <;> exact rfl) ?_
 refine ow_op (by simp only [zo, zr, zm, zx] <;> exact rfl) ?_
 refine ow_op (by simp only [zl, zm, zd, partD, List.take, List.drop, zx] <;> exact rfl) ?_
 refine ow_op (by simp only [zo, zx] <;> exact rfl) ?_
 refine ow_ml rfl ?_
 refine ow_know 0 (b := false) (by simp only [opd, zv, zx] <;> rfl) (by simp only [zn] <;> exact rfl) ?_
 refine ow_off rfl rfl ?_
 refine ow_off rfl rfl ?_
 refine ow_op (by simp only [zo, zx] <;> exact rfl) ?_
 refine ow_ml rfl ?_
 refine ow_nil ?_
 refine sk_n (by simp only [ze] <;> exact rfl) ?_
 refine cw_false (by simp only [opd, zv, zx]) ?_
 refine cw_seq (cw_region ?_)
 refine ow_op (by simp only [zo, zr, zm, zx] <;> exact rfl) ?_
 refine ow_op (by simp only [zl, zm, zd, partD, List.take, List.drop, zx] <;> exact rfl) ?_
 refine ow_op (by simp only [zo, zr, zm, zx] <;> exact rfl) ?_
 refine ow_op (by simp only [zl, zm, zd, partD, List.take, List.drop, zx] <;> exact rfl) ?_
 refine ow_op (by simp only [zo, zx] <;> exact rfl) ?_
 refine ow_ml rfl ?_
 refine ow_nil ?_
 refine sk_n (by simp only [ze] <;> exact rfl) ?_
 skip
 refine cw_false (by simp only [opd, zv, zx] <;> rfl) ?_
 refine cw_seq (cw_region ?_)
 refine ow_op (by simp only [zo, zr, zm, zx] <;> exact rfl) ?_
 refine ow_op (by simp only [zl, zm, zd, partD, List.take, List.drop, zx] <;> exact rfl) ?_
 refine ow_ml rfl ?_
 refine ow_nil ?_
 refine sk_n (by simp only [ze] <;> exact rfl) ?_
 skip
 refine cw_false (by simp only [opd, zv, zx] <;> rfl) ?_
 refine cw_skip (bk_n (sk_n rfl (cw_seq (cw_region ?_))))
 refine ow_me rfl ?_
 refine ow_me rfl ?_
 refine ow_op (by simp only [zo, zx]; exact cmpS_run (by omega) _ _ _) ?_
 refine ow_ml rfl ?_
 refine ow_mc ?_
 refine ow_nil ?_
 refine sk_n (by simp only [ze] <;> exact rfl) ?_
 refine cw_ret ?_
 refine ⟨_, by simp only [F52, resultD, resDs, resD, zg, zd, rowsOf, partD, List.take, List.drop, zm] <;> exact rfl, ?_⟩
 rfl

theorem decCmp_run {d : Nat} (hd : 8 ≤ d) (S : St) (na nb : Bool) (a b : List UInt8) (ha : Nrm na a) (hb : Nrm nb b) (h1 : a.length < b.length + 7) (h2 : b.length < a.length + 7) : runF LP NN d 52 [.agg [.bool na, .str (mkS a), .int .i64 0], .agg [.bool nb, .str (mkS b), .int .i64 0]] S = some (.tup [.int .i64 (cmpN na nb a b), .int .i64 0], S, false) := by
 cases na <;> cases nb
 ·
  exact decCmp_ff hd S a b ha hb h1 h2
 ·
  exact decCmp_ft hd S a b ha hb h1 h2
 ·
  exact decCmp_tf hd S a b ha hb h1 h2
 ·
  exact decCmp_tt hd S a b ha hb h1 h2

end Go.Proofs.YtabgobmeibjeeaaGreatDoor

namespace Go.Proofs.YtabgobmeibjeeaaGreatDoor
set_option linter.unusedSimpArgs false
set_option linter.unusedVariables false
set_option maxRecDepth 10000

def subD (a n : Nat) : D → D
 | .sl s rows cap => .sl s ((rows.drop a).take n) (cap.map (· - a))
 | d => d
theorem SlD.sub {sz : Nat} {rows : List (List D)} {x : D} (h : SlD sz rows x) (a n : Nat) : SlD sz ((rows.drop a).take n) (subD a n x) := by
 rcases h with ⟨rfl, rfl⟩ | ⟨c, rfl⟩
 ·
  exact .inl ⟨rfl, by simp⟩
 ·
  exact .of _ _ _
theorem SlD.slice_mid {sz : Nat} {rows : List (List D)} {x : D} (h : SlD sz rows x) (S : St) {a b : Nat} {i j : Int} (hi : i = a) (hj : j = b) (hab : a ≤ b) (hb : b ≤ rows.length) : sliceD S sz x (some (.int .i64 i)) (some (.int .i64 j)) none = some (subD a (b - a) x) := by
 subst hi hj
 rcases h with ⟨rfl, rfl⟩ | ⟨c, rfl⟩
 ·
  simp at hb; subst hb; have : a = 0 := by omega
  subst this; simp [sliceD, boundsD, natOr, natOf, subD]
 ·
  simp [sliceD, boundsD, natOr, natOf, subD, hab, hb]
structure Shp where
 cat : Int
 us : Int
 pic : ByteArray
 dg : Int
 sc : Int
 sg : Bool
 le : Bool
 se : Bool
 ju : Bool
 bl : Bool
 sz : Int

theorem sign_run {d : Nat} (hd : 1 ≤ d) (S : St) (cat us : Int) (pic : ByteArray) (dg sc sz : Int) (sg se ju bl : Bool) : runF LP NN d 174 [.agg [.int .u8 cat, .int .u8 us, .str pic, .int .i64 dg, .int .i64 sc, .bool sg, .bool false, .bool se, .bool ju, .bool bl, .int .i64 sz]] S = some (.int .i64 (IntKind.i64.wrap (dg - 1)), S, false) := by
 obtain ⟨d, rfl⟩ : ∃ d', d = d' + 1 := ⟨d - 1, by omega⟩
 kernel_rfl
theorem of0_run {d : Nat} (hd : 2 ≤ d) (S : St) (cat : Int) (pic : ByteArray) (dg sc sz : Int) (sg le ju bl : Bool) : runF LP NN d 120 [.agg [.int .u8 cat, .int .u8 0, .str pic, .int .i64 dg, .int .i64 sc, .bool sg, .bool le, .bool false, .bool ju, .bool bl, .int .i64 sz]] S = some (.agg [.fn 162 [], .fn 163 []], S, false) := by
 obtain ⟨d, rfl⟩ : ∃ d', d = d' + 2 := ⟨d - 2, by omega⟩
 kernel_rfl
theorem zonedU_run {d : Nat} (hd : 5 ≤ d) (S : St) (cat us : Int) (pic : ByteArray) (dg sc sz : Int) (se ju bl : Bool) {x : D} {l : List UInt8} (hS : SlD 1 (bR l) x) (hl : l.length ≤ 1000000) : runF LP NN d 162 [.agg [.int .u8 cat, .int .u8 us, .str pic, .int .i64 dg, .int .i64 sc, .bool false, .bool false, .bool se, .bool ju, .bool bl, .int .i64 sz], x] S = some (.tup [.agg [.bool false, .str (mkS l)], .bool (l.all isDig)], S, false) := by
 refine run_pure (F := F162) rfl (by simp only [LP, fnOf, snapVs, snaps, zs, zm, zv, hS.snapV, hS.freeV] <;> exact rfl) rfl (by simp only [LP, zf, zm, hS.snapV, hS.freeV]; try rfl) (by simp only [F162, zv] <;> exact rfl) (by omega) ?_
 rintro d rfl
 refine cw_seq (cw_region ?_)
 refine ow_op (by simp only [zl, zm, zc, zx, hS.read, bytesOf_bR, Option.map_some] <;> exact rfl) ?_
 refine ow_op (by simp only [zl, zm, zx, hS.read, bytesOf_bR, Option.map_some] <;> exact rfl) ?_
 refine ow_mc ?_
 refine ow_nil ?_
 refine sk_n (by simp only [ze] <;> exact rfl) ?_
 refine cw_seq (cw_region ?_)
 refine ow_me rfl ?_
 refine ow_op (by simp only [zl, zm, readRows_nils, readRows_sl, readRows_msl, zx, hS.read, bytesOf_bR, Option.map_some] <;> exact rfl) ?_
 refine ow_op (by simp only [zo, fillD, overlay, zc, List.take, List.drop, Nat.reduceAdd, Nat.reduceLeDiff, Nat.reduceBEq, zm, zx, hS.read, bytesOf_bR, Option.map_some] <;> exact rfl) ?_
 refine ow_op (by simp only [zl, zm, zx, hS.read, bytesOf_bR, Option.map_some] <;> exact rfl) ?_
 refine ow_op (by simp only [zl, zm, storeD, overlay, snapVs, snaps, zs, zc, zf, List.take, List.drop, zx, hS.read, bytesOf_bR, Option.map_some] <;> exact rfl) ?_
 refine ow_nil ?_
 refine sk_n (by simp only [ze] <;> exact rfl) ?_
 refine cw_seq (cw_seq (cw_region ?_))
 refine ow_op (by simp only [zl, zm, zd, partD, List.take, List.drop, zx, hS.read, bytesOf_bR, Option.map_some] <;> exact rfl) ?_
 refine ow_op (by simp only [zo, zx, hS.read, bytesOf_bR, Option.map_some]; exact sign_run (by omega) _ _ _ _ _ _ _ _ _ _ _) ?_
 refine ow_ml rfl ?_
 refine ow_nil ?_
 refine sk_n (by simp only [ze] <;> exact rfl) ?_
 refine cw_seq (cw_region ?_)
 refine ow_op (by simp only [zo, zr, zm, zx, hS.read, bytesOf_bR, Option.map_some] <;> exact rfl) ?_
 refine ow_op (by simp only [zl, zm, zd, partD, List.take, List.drop, zx, hS.read, bytesOf_bR, Option.map_some] <;> exact rfl) ?_
 refine ow_nil ?_
 refine sk_n (by simp only [ze] <;> exact rfl) ?_
 skip
 refine cw_false (by simp only [opd, zv, zx, hS.read, bytesOf_bR, Option.map_some] <;> rfl) ?_
 refine cw_skip (sk_n rfl (cw_seq ?_))
 refine cw_drawn (by simp only [newsVals, zw, Nat.reduceAdd] <;> exact rfl) (by simp only [zw, newsObj, St.eta] <;> exact rfl) ?_
 refine dw_op (by simp only [zl, zm, zd, partD, List.take, List.drop, zx, hS.read, bytesOf_bR, Option.map_some] <;> exact rfl) (by simp only [fpHere, zo, zq] <;> exact rfl) rfl ?_
 refine dw_quiet (by simp only [zo, zr, zm, zx, hS.read, bytesOf_bR, Option.map_some] <;> exact rfl) rfl rfl ?_
 refine dw_op (by simp only [zl, zm, zd, partD, List.take, List.drop, zx, hS.read, bytesOf_bR, Option.map_some] <;> exact rfl) (by simp only [fpHere, zo, zq] <;> exact rfl) rfl ?_
 refine dw_op (by simp only [zo, zx, hS.read, bytesOf_bR, Option.map_some]; exact trim_run (by omega) _ l hl) (by simp only [fpHere, zo, zq] <;> exact rfl) rfl ?_
 refine dw_quiet (by simp only [zo, binD, zb, Int.reduceEq, Int.reduceToNat, Int.reduceLT, zx, hS.read, bytesOf_bR, Option.map_some] <;> exact rfl) rfl rfl ?_
 refine dw_op (by simp only [zl, zm, storeD, overlay, snapVs, snaps, zs, zc, zf, List.take, List.drop, zx, hS.read, bytesOf_bR, Option.map_some] <;> exact rfl) (by simp only [fpHere, zo, zq] <;> exact rfl) rfl ?_
 refine dw_ml rfl rfl ?_
 refine dw_nil ?_
 refine sk_n (by simp only [ze] <;> exact rfl) ?_
 refine cw_ret ?_
 refine ⟨_, by simp only [F162, resultD, resDs, resD, zg, zd, rowsOf, partD, List.take, List.drop, zm] <;> exact rfl, ?_⟩
 simp only [leaveP, leave, snapVs, snaps, zs, zf, zk]
 rw [trimD_nil]; rfl

theorem read_true {d : Nat} (hd : 7 ≤ d) (S : St) (us : Int) (pic : ByteArray) (dg sc sz : Int) (sg le se ju bl : Bool) (fr fw : FuncId) (ng : Bool) (l : List UInt8) {x : D} {rows : List (List D)} (hS : SlD 1 rows x) (hz : (rows.length : Int) = sz) (ho : ∀ (d : Nat) (S : St), 2 ≤ d → runF LP NN d 120 [.agg [.int .u8 4, .int .u8 us, .str pic, .int .i64 dg, .int .i64 sc, .bool sg, .bool le, .bool se, .bool ju, .bool bl, .int .i64 sz]] S = some (.agg [.fn fr [], .fn fw []], S, false)) (hr : ∀ (d : Nat) (S : St), 6 ≤ d → runF LP NN d fr [.agg [.int .u8 4, .int .u8 us, .str pic, .int .i64 dg, .int .i64 sc, .bool sg, .bool le, .bool se, .bool ju, .bool bl, .int .i64 sz], x] S = some (.tup [.agg [.bool ng, .str (mkS l)], .bool true], S, false)) : runF LP NN d 81 [.agg [.int .u8 4, .int .u8 us, .str pic, .int .i64 dg, .int .i64 sc, .bool sg, .bool le, .bool se, .bool ju, .bool bl, .int .i64 sz, x]] S = some (.tup [.agg [.bool ng, .str (mkS l)], .int .i64 0], S, false) := by
 refine run_pure (F := F81) rfl (by simp only [LP, fnOf, snapVs, snaps, zs, zm, zv, hS.snap, hS.freeV, hS.free] <;> exact rfl) rfl (by simp only [LP, zf, zm, hS.snap, hS.freeV, hS.free]; try rfl) (by simp only [F81, zv] <;> exact rfl) (by omega) ?_
 rintro d rfl
 refine cw_seq (cw_region ?_)
 refine ow_op (by simp only [zl, zm, zc, zx, hS.q5, hz, bne_self_eq_false] <;> exact rfl) ?_
 refine ow_op (by simp only [zl, zm, zx, hS.q5, hz, bne_self_eq_false] <;> exact rfl) ?_
 refine ow_mc ?_
 refine ow_nil ?_
 refine sk_n (by simp only [ze] <;> exact rfl) ?_
 refine cw_seq (cw_seq (cw_region ?_))
 refine ow_op (by simp only [zo, zr, zm, zx, hS.q5, hz, bne_self_eq_false] <;> exact rfl) ?_
 refine ow_op (by simp only [zl, zm, zd, partD, List.take, List.drop, zx, hS.q5, hz, bne_self_eq_false] <;> exact rfl) ?_
 refine ow_op (by simp only [zo, lenD_str, lenD_nils, lenD_sl, lenD_msl, zx, hS.q5, hz, bne_self_eq_false] <;> exact rfl) ?_
 refine ow_op (by simp only [zo, zr, zm, zx, hS.q5, hz, bne_self_eq_false] <;> exact rfl) ?_
 refine ow_op (by simp only [zo, zr, zm, zx, hS.q5, hz, bne_self_eq_false] <;> exact rfl) ?_
 refine ow_op (by simp only [zl, zm, zd, partD, List.take, List.drop, zx, hS.q5, hz, bne_self_eq_false] <;> exact rfl) ?_
 refine ow_op (by simp only [zo, binD, zb, Int.reduceEq, Int.reduceToNat, Int.reduceLT, zx, hS.q5, hz, bne_self_eq_false] <;> exact rfl) ?_
 refine ow_nil ?_
 refine sk_n (by simp only [ze] <;> exact rfl) ?_
 skip
 refine cw_false (by simp only [opd, zv, zx, hS.q5, hz, bne_self_eq_false] <;> rfl) ?_
 refine cw_skip (sk_n rfl (cw_seq (cw_seq (cw_region ?_))))
 refine ow_op (by simp only [zo, zr, zm, zx, hS.q5, hz, bne_self_eq_false] <;> exact rfl) ?_
 refine ow_op (by simp only [zo, zr, zm, zx, hS.q5, hz, bne_self_eq_false] <;> exact rfl) ?_
 refine ow_op (by simp only [zl, zm, zd, partD, List.take, List.drop, zx, hS.q5, hz, bne_self_eq_false] <;> exact rfl) ?_
 refine ow_op (by simp only [zo, binD, zb, Int.reduceEq, Int.reduceToNat, Int.reduceLT, zx, hS.q5, hz, bne_self_eq_false] <;> exact rfl) ?_
 refine ow_nil ?_
 refine sk_n (by simp only [ze] <;> exact rfl) ?_
 skip
 refine cw_false (by simp only [opd, zv, zx, hS.q5, hz, bne_self_eq_false] <;> rfl) ?_
 refine cw_skip (sk_n rfl (cw_seq ?_))
 refine cw_drawn (by simp only [newsVals, zw, Nat.reduceAdd] <;> exact rfl) (by simp only [zw, newsObj, St.eta] <;> exact rfl) ?_
 refine dw_quiet (by simp only [zo, zr, zm, zx, hS.q5, hz, bne_self_eq_false] <;> exact rfl) rfl rfl ?_
 refine dw_op (by simp only [zl, zm, zd, partD, List.take, List.drop, zx, hS.q5, hz, bne_self_eq_false] <;> exact rfl) (by simp only [fpHere, zo, zq] <;> exact rfl) rfl ?_
 refine dw_op (by simp only [zo, zx, hS.q5, hz, bne_self_eq_false]; exact ho _ _ (by omega)) (by simp only [fpHere, zo, zq] <;> exact rfl) rfl ?_
 refine dw_quiet (by simp only [zo, partD, List.take, List.drop, zm, zx, hS.q5, hz, bne_self_eq_false] <;> exact rfl) rfl rfl ?_
 refine dw_quiet (by simp only [zo, zr, zm, zx, hS.q5, hz, bne_self_eq_false] <;> exact rfl) rfl rfl ?_
 refine dw_op (by simp only [zl, zm, zd, partD, List.take, List.drop, zx, hS.q5, hz, bne_self_eq_false] <;> exact rfl) (by simp only [fpHere, zo, zq] <;> exact rfl) rfl ?_
 refine dw_quiet (by simp only [zo, zr, zm, zx, hS.q5, hz, bne_self_eq_false] <;> exact rfl) rfl rfl ?_
 refine dw_op (by simp only [zl, zm, zd, partD, List.take, List.drop, zx, hS.q5, hz, bne_self_eq_false] <;> exact rfl) (by simp only [fpHere, zo, zq] <;> exact rfl) rfl ?_
 refine dw_op (by simp only [zo, zx, hS.q5, hz, bne_self_eq_false]; exact hr _ _ (by omega)) (by simp only [fpHere, zo, zq] <;> exact rfl) rfl ?_
 refine dw_ml rfl rfl ?_
 refine dw_quiet (by simp only [zo, List.getElem?_cons_zero, List.getElem?_cons_succ, zx, hS.q5, hz, bne_self_eq_false] <;> exact rfl) rfl rfl ?_
 refine dw_quiet (by simp only [zo, List.getElem?_cons_zero, List.getElem?_cons_succ, zx, hS.q5, hz, bne_self_eq_false] <;> exact rfl) rfl rfl ?_
 refine dw_op (by simp only [zo] <;> exact rfl) rfl rfl ?_
 refine dw_op (by simp only [zl, zm, storeD, overlay, snapVs, snaps, zs, zc, zf, List.take, List.drop, zx, hS.q5, hz, bne_self_eq_false] <;> exact rfl) (by simp only [fpHere, zo, zq] <;> exact rfl) rfl ?_
 refine dw_ml rfl rfl ?_
 refine dw_nil ?_
 refine sk_n (by simp only [ze] <;> exact rfl) ?_
 refine cw_seq (cw_seq (cw_region ?_))
 refine ow_me rfl ?_
 refine ow_op (by simp only [zo, unD, zx, hS.q5, hz, bne_self_eq_false] <;> exact rfl) ?_
 refine ow_nil ?_
 refine sk_n (by simp only [ze] <;> exact rfl) ?_
 skip
 refine cw_false (by simp only [opd, zv, zx, hS.q5, hz, bne_self_eq_false] <;> rfl) ?_
 refine cw_skip (sk_n rfl (cw_seq (cw_region ?_)))
 refine ow_op (by simp only [zl, zm, zd, partD, List.take, List.drop, zx, hS.q5, hz, bne_self_eq_false] <;> exact rfl) ?_
 refine ow_op (by simp only [zl, zm, storeD, overlay, snapVs, snaps, zs, zc, zf, List.take, List.drop, zx, hS.q5, hz, bne_self_eq_false] <;> exact rfl) ?_
 refine ow_mc ?_
 refine ow_nil ?_
 refine sk_n (by simp only [ze] <;> exact rfl) ?_
 refine cw_ret ?_
 refine ⟨_, by simp only [F81, resultD, resDs, resD, zg, zd, rowsOf, partD, List.take, List.drop, zm] <;> exact rfl, ?_⟩
 simp only [leaveP, leave, snapVs, snaps, zs, zf, zk]

theorem read_false {d : Nat} (hd : 7 ≤ d) (S : St) (us : Int) (pic : ByteArray) (dg sc sz : Int) (sg le se ju bl : Bool) (fr fw : FuncId) (ng : Bool) (l : List UInt8) {x : D} {rows : List (List D)} (hS : SlD 1 rows x) (hz : (rows.length : Int) = sz) (ho : ∀ (d : Nat) (S : St), 2 ≤ d → runF LP NN d 120 [.agg [.int .u8 4, .int .u8 us, .str pic, .int .i64 dg, .int .i64 sc, .bool sg, .bool le, .bool se, .bool ju, .bool bl, .int .i64 sz]] S = some (.agg [.fn fr [], .fn fw []], S, false)) (hr : ∀ (d : Nat) (S : St), 6 ≤ d → runF LP NN d fr [.agg [.int .u8 4, .int .u8 us, .str pic, .int .i64 dg, .int .i64 sc, .bool sg, .bool le, .bool se, .bool ju, .bool bl, .int .i64 sz], x] S = some (.tup [.agg [.bool ng, .str (mkS l)], .bool false], S, false)) : runF LP NN d 81 [.agg [.int .u8 4, .int .u8 us, .str pic, .int .i64 dg, .int .i64 sc, .bool sg, .bool le, .bool se, .bool ju, .bool bl, .int .i64 sz, x]] S = some (.tup [.agg [.bool false, .str ⟨#[]⟩], .int .i64 15], S, false) := by
 refine run_pure (F := F81) rfl (by simp only [LP, fnOf, snapVs, snaps, zs, zm, zv, hS.snap, hS.freeV, hS.free] <;> exact rfl) rfl (by simp only [LP, zf, zm, hS.snap, hS.freeV, hS.free]; try rfl) (by simp only [F81, zv] <;> exact rfl) (by omega) ?_
 rintro d rfl
 refine cw_seq (cw_region ?_)
 refine ow_op (by simp only [zl, zm, zc, zx, hS.q5, hz, bne_self_eq_false] <;> exact rfl) ?_
 refine ow_op (by simp only [zl, zm, zx, hS.q5, hz, bne_self_eq_false] <;> exact rfl) ?_
 refine ow_mc ?_
 refine ow_nil ?_
 refine sk_n (by simp only [ze] <;> exact rfl) ?_
 refine cw_seq (cw_seq (cw_region ?_))
 refine ow_op (by simp only [zo, zr, zm, zx, hS.q5, hz, bne_self_eq_false] <;> exact rfl) ?_
 refine ow_op (by simp only [zl, zm, zd, partD, List.take, List.drop, zx, hS.q5, hz, bne_self_eq_false] <;> exact rfl) ?_
 refine ow_op (by simp only [zo, lenD_str, lenD_nils, lenD_sl, lenD_msl, zx, hS.q5, hz, bne_self_eq_false] <;> exact rfl) ?_
 refine ow_op (by simp only [zo, zr, zm, zx, hS.q5, hz, bne_self_eq_false] <;> exact rfl) ?_
 refine ow_op (by simp only [zo, zr, zm, zx, hS.q5, hz, bne_self_eq_false] <;> exact rfl) ?_
 refine ow_op (by simp only [zl, zm, zd, partD, List.take, List.drop, zx, hS.q5, hz, bne_self_eq_false] <;> exact rfl) ?_
 refine ow_op (by simp only [zo, binD, zb, Int.reduceEq, Int.reduceToNat, Int.reduceLT, zx, hS.q5, hz, bne_self_eq_false] <;> exact rfl) ?_
 refine ow_nil ?_
 refine sk_n (by simp only [ze] <;> exact rfl) ?_
 skip
 refine cw_false (by simp only [opd, zv, zx, hS.q5, hz, bne_self_eq_false] <;> rfl) ?_
 refine cw_skip (sk_n rfl (cw_seq (cw_seq (cw_region ?_))))
 refine ow_op (by simp only [zo, zr, zm, zx, hS.q5, hz, bne_self_eq_false] <;> exact rfl) ?_
 refine ow_op (by simp only [zo, zr, zm, zx, hS.q5, hz, bne_self_eq_false] <;> exact rfl) ?_
 refine ow_op (by simp only [zl, zm, zd, partD, List.take, List.drop, zx, hS.q5, hz, bne_self_eq_false] <;> exact rfl) ?_
 refine ow_op (by simp only [zo, binD, zb, Int.reduceEq, Int.reduceToNat, Int.reduceLT, zx, hS.q5, hz, bne_self_eq_false] <;> exact rfl) ?_
 refine ow_nil ?_
 refine sk_n (by simp only [ze] <;> exact rfl) ?_
 skip
 refine cw_false (by simp only [opd, zv, zx, hS.q5, hz, bne_self_eq_false] <;> rfl) ?_
 refine cw_skip (sk_n rfl (cw_seq ?_))
 refine cw_drawn (by simp only [newsVals, zw, Nat.reduceAdd] <;> exact rfl) (by simp only [zw, newsObj, St.eta] <;> exact rfl) ?_
 refine dw_quiet (by simp only [zo, zr, zm, zx, hS.q5, hz, bne_self_eq_false] <;> exact rfl) rfl rfl ?_
 refine dw_op (by simp only [zl, zm, zd, partD, List.take, List.drop, zx, hS.q5, hz, bne_self_eq_false] <;> exact rfl) (by simp only [fpHere, zo, zq] <;> exact rfl) rfl ?_
 refine dw_op (by simp only [zo, zx, hS.q5, hz, bne_self_eq_false]; exact ho _ _ (by omega)) (by simp only [fpHere, zo, zq] <;> exact rfl) rfl ?_
 refine dw_quiet (by simp only [zo, partD, List.take, List.drop, zm, zx, hS.q5, hz, bne_self_eq_false] <;> exact rfl) rfl rfl ?_
 refine dw_quiet (by simp only [zo, zr, zm, zx, hS.q5, hz, bne_self_eq_false] <;> exact rfl) rfl rfl ?_
 refine dw_op (by simp only [zl, zm, zd, partD, List.take, List.drop, zx, hS.q5, hz, bne_self_eq_false] <;> exact rfl) (by simp only [fpHere, zo, zq] <;> exact rfl) rfl ?_
 refine dw_quiet (by simp only [zo, zr, zm, zx, hS.q5, hz, bne_self_eq_false] <;> exact rfl) rfl rfl ?_
 refine dw_op (by simp only [zl, zm, zd, partD, List.take, List.drop, zx, hS.q5, hz, bne_self_eq_false] <;> exact rfl) (by simp only [fpHere, zo, zq] <;> exact rfl) rfl ?_
 refine dw_op (by simp only [zo, zx, hS.q5, hz, bne_self_eq_false]; exact hr _ _ (by omega)) (by simp only [fpHere, zo, zq] <;> exact rfl) rfl ?_
 refine dw_ml rfl rfl ?_
 refine dw_quiet (by simp only [zo, List.getElem?_cons_zero, List.getElem?_cons_succ, zx, hS.q5, hz, bne_self_eq_false] <;> exact rfl) rfl rfl ?_
 refine dw_quiet (by simp only [zo, List.getElem?_cons_zero, List.getElem?_cons_succ, zx, hS.q5, hz, bne_self_eq_false] <;> exact rfl) rfl rfl ?_
 refine dw_op (by simp only [zo] <;> exact rfl) rfl rfl ?_
 refine dw_op (by simp only [zl, zm, storeD, overlay, snapVs, snaps, zs, zc, zf, List.take, List.drop, zx, hS.q5, hz, bne_self_eq_false] <;> exact rfl) (by simp only [fpHere, zo, zq] <;> exact rfl) rfl ?_
 refine dw_ml rfl rfl ?_
 refine dw_nil ?_
 refine sk_n (by simp only [ze] <;> exact rfl) ?_
 refine cw_seq (cw_seq (cw_region ?_))
 refine ow_me rfl ?_
 refine ow_op (by simp only [zo, unD, zx, hS.q5, hz, bne_self_eq_false] <;> exact rfl) ?_
 refine ow_nil ?_
 refine sk_n (by simp only [ze] <;> exact rfl) ?_
 skip
 refine cw_true (by simp only [opd, zv, zx, hS.q5, hz, bne_self_eq_false] <;> rfl) ?_
 refine cw_seq (cw_region ?_)
 refine ow_op (by simp only [zo, fillD, overlay, zc, List.take, List.drop, Nat.reduceAdd, Nat.reduceLeDiff, Nat.reduceBEq, zm, zx, hS.q5, hz, bne_self_eq_false] <;> exact rfl) ?_
 refine ow_op (by simp only [zl, zm, storeD, overlay, snapVs, snaps, zs, zc, zf, List.take, List.drop, zx, hS.q5, hz, bne_self_eq_false] <;> exact rfl) ?_
 refine ow_mc ?_
 refine ow_nil ?_
 refine sk_n (by simp only [ze] <;> exact rfl) ?_
 refine cw_ret (sk_r ?_)
 refine ⟨_, by simp only [F81, resultD, resDs, resD, zg, zd, rowsOf, partD, List.take, List.drop, zm] <;> exact rfl, ?_⟩
 simp only [leaveP, leave, snapVs, snaps, zs, zf, zk]

end Go.Proofs.YtabgobmeibjeeaaGreatDoor

namespace Go.Proofs.YtabgobmeibjeeaaGreatDoor
set_option linter.unusedSimpArgs false
set_option linter.unusedVariables false
set_option maxRecDepth 10000

theorem uCheck_true {d : Nat} (hd : 14 ≤ d) (S : St) (us : Int) (pic : ByteArray) (dg sc sz : Int) (sg le se ju bl : Bool) (fr fw : FuncId) (ng : Bool) (l : List UInt8) {x : D} {rows : List (List D)} (hS : SlD 1 rows x) (hz : (rows.length : Int) = sz) (ho : ∀ (d : Nat) (S : St), 2 ≤ d → runF LP NN d 120 [.agg [.int .u8 4, .int .u8 us, .str pic, .int .i64 dg, .int .i64 sc, .bool sg, .bool le, .bool se, .bool ju, .bool bl, .int .i64 sz]] S = some (.agg [.fn fr [], .fn fw []], S, false)) (hr : ∀ (d : Nat) (S : St), 6 ≤ d → runF LP NN d fr [.agg [.int .u8 4, .int .u8 us, .str pic, .int .i64 dg, .int .i64 sc, .bool sg, .bool le, .bool se, .bool ju, .bool bl, .int .i64 sz], x] S = some (.tup [.agg [.bool ng, .str (mkS l)], .bool true], S, false)) (hc : ∀ (d : Nat) (S : St), 12 ≤ d → runF LP NN d 117 [.agg [.int .u8 4, .int .u8 us, .str pic, .int .i64 dg, .int .i64 sc, .bool sg, .bool le, .bool se, .bool ju, .bool bl, .int .i64 sz]] S = some (.int .i64 0, S, false)) : runF LP NN d 78 [.agg [.int .u8 4, .int .u8 us, .str pic, .int .i64 dg, .int .i64 sc, .bool sg, .bool le, .bool se, .bool ju, .bool bl, .int .i64 sz, x]] S = some (.int .i64 0, S, false) := by
 refine run_pure (F := F78) rfl (by simp only [LP, fnOf, snapVs, snaps, zs, zm, zv, hS.snap, hS.freeV, hS.free] <;> exact rfl) rfl (by simp only [LP, zf, zm, hS.snap, hS.freeV, hS.free]; try rfl) (by simp only [F78, zv] <;> exact rfl) (by omega) ?_
 rintro d rfl
 refine cw_seq (cw_region ?_)
 refine ow_op (by simp only [zl, zm, zc, zx, hS.q5] <;> exact rfl) ?_
 refine ow_mc ?_
 refine ow_nil ?_
 refine sk_n (by simp only [ze] <;> exact rfl) ?_
 refine cw_seq (cw_seq (cw_region ?_))
 refine ow_op (by simp only [zo, zr, zm, zx, hS.q5] <;> exact rfl) ?_
 refine ow_op (by simp only [zl, zm, zd, partD, List.take, List.drop, zx, hS.q5] <;> exact rfl) ?_
 refine ow_op (by simp only [zo, zx, hS.q5]; exact hc _ _ (by omega)) ?_
 refine ow_op (by simp only [zo, binD, zb, Int.reduceEq, Int.reduceToNat, Int.reduceLT, zx, hS.q5] <;> exact rfl) ?_
 refine ow_nil ?_
 refine sk_n (by simp only [ze] <;> exact rfl) ?_
 skip
 refine cw_false (by simp only [opd, zv, zx, hS.q5] <;> rfl) ?_
 refine cw_skip (sk_n rfl (cw_seq (cw_region ?_)))
 refine ow_op (by simp only [zl, zm, zd, partD, List.take, List.drop, zx, hS.q5] <;> exact rfl) ?_
 refine ow_op (by simp only [zo, zx, hS.q5]; exact read_true (by omega) _ us pic dg sc sz sg le se ju bl fr fw ng l hS hz ho hr) ?_
 refine ow_ml rfl ?_
 refine ow_op (by simp only [zo, List.getElem?_cons_zero, List.getElem?_cons_succ, zx, hS.q5] <;> exact rfl) ?_
 refine ow_op (by simp only [zo, List.getElem?_cons_zero, List.getElem?_cons_succ, zx, hS.q5] <;> exact rfl) ?_
 refine ow_op (by simp only [zl, zm, zx, hS.q5] <;> exact rfl) ?_
 refine ow_op (by simp only [zl, zm, storeD, overlay, snapVs, snaps, zs, zc, zf, List.take, List.drop, zx, hS.q5] <;> exact rfl) ?_
 refine ow_ml rfl ?_
 refine ow_nil ?_
 refine sk_n (by simp only [ze] <;> exact rfl) ?_
 refine cw_seq (cw_region ?_)
 refine ow_me rfl ?_
 refine ow_ml rfl ?_
 refine ow_nil ?_
 refine sk_n (by simp only [ze] <;> exact rfl) ?_
 refine cw_ret ?_
 refine ⟨_, by simp only [F78, resultD, resDs, resD, zg, zd, rowsOf, partD, List.take, List.drop, zm] <;> exact rfl, ?_⟩
 simp only [leaveP, leave, snapVs, snaps, zs, zf, zk]

theorem uCheck_false {d : Nat} (hd : 14 ≤ d) (S : St) (us : Int) (pic : ByteArray) (dg sc sz : Int) (sg le se ju bl : Bool) (fr fw : FuncId) (ng : Bool) (l : List UInt8) {x : D} {rows : List (List D)} (hS : SlD 1 rows x) (hz : (rows.length : Int) = sz) (ho : ∀ (d : Nat) (S : St), 2 ≤ d → runF LP NN d 120 [.agg [.int .u8 4, .int .u8 us, .str pic, .int .i64 dg, .int .i64 sc, .bool sg, .bool le, .bool se, .bool ju, .bool bl, .int .i64 sz]] S = some (.agg [.fn fr [], .fn fw []], S, false)) (hr : ∀ (d : Nat) (S : St), 6 ≤ d → runF LP NN d fr [.agg [.int .u8 4, .int .u8 us, .str pic, .int .i64 dg, .int .i64 sc, .bool sg, .bool le, .bool se, .bool ju, .bool bl, .int .i64 sz], x] S = some (.tup [.agg [.bool ng, .str (mkS l)], .bool false], S, false)) (hc : ∀ (d : Nat) (S : St), 12 ≤ d → runF LP NN d 117 [.agg [.int .u8 4, .int .u8 us, .str pic, .int .i64 dg, .int .i64 sc, .bool sg, .bool le, .bool se, .bool ju, .bool bl, .int .i64 sz]] S = some (.int .i64 0, S, false)) : runF LP NN d 78 [.agg [.int .u8 4, .int .u8 us, .str pic, .int .i64 dg, .int .i64 sc, .bool sg, .bool le, .bool se, .bool ju, .bool bl, .int .i64 sz, x]] S = some (.int .i64 15, S, false) := by
 refine run_pure (F := F78) rfl (by simp only [LP, fnOf, snapVs, snaps, zs, zm, zv, hS.snap, hS.freeV, hS.free] <;> exact rfl) rfl (by simp only [LP, zf, zm, hS.snap, hS.freeV, hS.free]; try rfl) (by simp only [F78, zv] <;> exact rfl) (by omega) ?_
 rintro d rfl
 refine cw_seq (cw_region ?_)
 refine ow_op (by simp only [zl, zm, zc, zx, hS.q5] <;> exact rfl) ?_
 refine ow_mc ?_
 refine ow_nil ?_
 refine sk_n (by simp only [ze] <;> exact rfl) ?_
 refine cw_seq (cw_seq (cw_region ?_))
 refine ow_op (by simp only [zo, zr, zm, zx, hS.q5] <;> exact rfl) ?_
 refine ow_op (by simp only [zl, zm, zd, partD, List.take, List.drop, zx, hS.q5] <;> exact rfl) ?_
 refine ow_op (by simp only [zo, zx, hS.q5]; exact hc _ _ (by omega)) ?_
 refine ow_op (by simp only [zo, binD, zb, Int.reduceEq, Int.reduceToNat, Int.reduceLT, zx, hS.q5] <;> exact rfl) ?_
 refine ow_nil ?_
 refine sk_n (by simp only [ze] <;> exact rfl) ?_
 skip
 refine cw_false (by simp only [opd, zv, zx, hS.q5] <;> rfl) ?_
 refine cw_skip (sk_n rfl (cw_seq (cw_region ?_)))
 refine ow_op (by simp only [zl, zm, zd, partD, List.take, List.drop, zx, hS.q5] <;> exact rfl) ?_
 refine ow_op (by simp only [zo, zx, hS.q5]; exact read_false (by omega) _ us pic dg sc sz sg le se ju bl fr fw ng l hS hz ho hr) ?_
 refine ow_ml rfl ?_
 refine ow_op (by simp only [zo, List.getElem?_cons_zero, List.getElem?_cons_succ, zx, hS.q5] <;> exact rfl) ?_
 refine ow_op (by simp only [zo, List.getElem?_cons_zero, List.getElem?_cons_succ, zx, hS.q5] <;> exact rfl) ?_
 refine ow_op (by simp only [zl, zm, zx, hS.q5] <;> exact rfl) ?_
 refine ow_op (by simp only [zl, zm, storeD, overlay, snapVs, snaps, zs, zc, zf, List.take, List.drop, zx, hS.q5] <;> exact rfl) ?_
 refine ow_ml rfl ?_
 refine ow_nil ?_
 refine sk_n (by simp only [ze] <;> exact rfl) ?_
 refine cw_seq (cw_region ?_)
 refine ow_me rfl ?_
 refine ow_ml rfl ?_
 refine ow_nil ?_
 refine sk_n (by simp only [ze] <;> exact rfl) ?_
 refine cw_ret ?_
 refine ⟨_, by simp only [F78, resultD, resDs, resD, zg, zd, rowsOf, partD, List.take, List.drop, zm] <;> exact rfl, ?_⟩
 simp only [leaveP, leave, snapVs, snaps, zs, zf, zk]

theorem kind_run {d : Nat} (hd : 13 ≤ d) (S : St) (us : Int) (pic : ByteArray) (dg sc sz : Int) (sg le se ju bl : Bool) (hc : ∀ (d : Nat) (S : St), 12 ≤ d → runF LP NN d 117 [.agg [.int .u8 4, .int .u8 us, .str pic, .int .i64 dg, .int .i64 sc, .bool sg, .bool le, .bool se, .bool ju, .bool bl, .int .i64 sz]] S = some (.int .i64 0, S, false)) : runF LP NN d 80 [.agg [.int .u8 4, .int .u8 us, .str pic, .int .i64 dg, .int .i64 sc, .bool sg, .bool le, .bool se, .bool ju, .bool bl, .int .i64 sz]] S = some (.int .i64 0, S, false) := by
 refine run_pure (F := F80) rfl (by simp only [LP, fnOf, snapVs, snaps, zs, zm, zv] <;> exact rfl) rfl (by simp only [LP, zf, zm]; try rfl) (by simp only [F80, zv] <;> exact rfl) (by omega) ?_
 rintro d rfl
 refine cw_seq (cw_region ?_)
 refine ow_op (by simp only [zl, zm, zc, zx] <;> exact rfl) ?_
 refine ow_mc ?_
 refine ow_nil ?_
 refine sk_n (by simp only [ze] <;> exact rfl) ?_
 refine cw_seq (cw_block (cw_seq (cw_region ?_)))
 refine ow_op (by simp only [zl, zm, zd, partD, List.take, List.drop, zx] <;> exact rfl) ?_
 refine ow_op (by simp only [zo, zx]; exact hc _ _ (by omega)) ?_
 refine ow_op (by simp only [zo, binD, zb, Int.reduceEq, Int.reduceToNat, Int.reduceLT, zx] <;> exact rfl) ?_
 refine ow_ml rfl ?_
 refine ow_nil ?_
 refine sk_n (by simp only [ze] <;> exact rfl) ?_
 skip
 refine cw_false (by simp only [opd, zv, zx] <;> rfl) ?_
 refine cw_seq (cw_region ?_)
 refine ow_op (by simp only [zo, zr, zm, zx] <;> exact rfl) ?_
 refine ow_op (by simp only [zl, zm, zd, partD, List.take, List.drop, zx] <;> exact rfl) ?_
 refine ow_op (by simp only [zo, binD, zb, Int.reduceEq, Int.reduceToNat, Int.reduceLT, zx] <;> exact rfl) ?_
 refine ow_ml rfl ?_
 refine ow_nil ?_
 refine sk_n (by simp only [ze] <;> exact rfl) ?_
 skip
 refine cw_false (by simp only [opd, zv, zx] <;> rfl) ?_
 refine cw_skip (bk_n (sk_n rfl (cw_seq (cw_region ?_))))
 refine ow_mc ?_
 refine ow_nil ?_
 refine sk_n (by simp only [ze] <;> exact rfl) ?_
 refine cw_ret ?_
 refine ⟨_, by simp only [F80, resultD, resDs, resD, zg, zd, rowsOf, partD, List.take, List.drop, zm] <;> exact rfl, ?_⟩
 simp only [leaveP, leave, snapVs, snaps, zs, zf, zk]

theorem get_run {d : Nat} (hd : 14 ≤ d) (S : St) (us : Int) (pic : ByteArray) (dg sz : Int) (sg le se ju bl : Bool) (fr fw : FuncId) (ng : Bool) (l : List UInt8) {x : D} {rows : List (List D)} (hS : SlD 1 rows x) (hz : (rows.length : Int) = sz) (ho : ∀ (d : Nat) (S : St), 2 ≤ d → runF LP NN d 120 [.agg [.int .u8 4, .int .u8 us, .str pic, .int .i64 dg, .int .i64 0, .bool sg, .bool le, .bool se, .bool ju, .bool bl, .int .i64 sz]] S = some (.agg [.fn fr [], .fn fw []], S, false)) (hr : ∀ (d : Nat) (S : St), 6 ≤ d → runF LP NN d fr [.agg [.int .u8 4, .int .u8 us, .str pic, .int .i64 dg, .int .i64 0, .bool sg, .bool le, .bool se, .bool ju, .bool bl, .int .i64 sz], x] S = some (.tup [.agg [.bool ng, .str (mkS l)], .bool true], S, false)) (hc : ∀ (d : Nat) (S : St), 12 ≤ d → runF LP NN d 117 [.agg [.int .u8 4, .int .u8 us, .str pic, .int .i64 dg, .int .i64 0, .bool sg, .bool le, .bool se, .bool ju, .bool bl, .int .i64 sz]] S = some (.int .i64 0, S, false)) (hnum : isNum l = true) (h62 : l.length ≤ 62) : runF LP NN d 51 [.agg [.int .u8 4, .int .u8 us, .str pic, .int .i64 dg, .int .i64 0, .bool sg, .bool le, .bool se, .bool ju, .bool bl, .int .i64 sz, x]] S = some (.tup [.agg [.bool (ng && nz l), .str (mkS (strip l)), .int .i64 0], .int .i64 0], S, false) := by
 refine run_pure (F := F51) rfl (by simp only [LP, fnOf, snapVs, snaps, zs, zm, zv, hS.snap, hS.freeV, hS.free] <;> exact rfl) rfl (by simp only [LP, zf, zm, hS.snap, hS.freeV, hS.free]; try rfl) (by simp only [F51, zv] <;> exact rfl) (by omega) ?_
 rintro d rfl
 refine cw_seq (cw_region ?_)
 refine ow_op (by simp only [zl, zm, zc, zx, hS.q5] <;> exact rfl) ?_
 refine ow_op (by simp only [zl, zm, zx, hS.q5] <;> exact rfl) ?_
 refine ow_mc ?_
 refine ow_nil ?_
 refine sk_n (by simp only [ze] <;> exact rfl) ?_
 refine cw_seq (cw_seq (cw_region ?_))
 refine ow_op (by simp only [zo, zr, zm, zx, hS.q5] <;> exact rfl) ?_
 refine ow_op (by simp only [zl, zm, zd, partD, List.take, List.drop, zx, hS.q5] <;> exact rfl) ?_
 refine ow_op (by simp only [zo, zx, hS.q5]; exact kind_run (by omega) _ us pic dg 0 sz sg le se ju bl hc) ?_
 refine ow_ml rfl ?_
 refine ow_nil ?_
 refine sk_n (by simp only [ze] <;> exact rfl) ?_
 refine cw_seq (cw_region ?_)
 refine ow_me rfl ?_
 refine ow_op (by simp only [zo, binD, zb, Int.reduceEq, Int.reduceToNat, Int.reduceLT, zx, hS.q5] <;> exact rfl) ?_
 refine ow_nil ?_
 refine sk_n (by simp only [ze] <;> exact rfl) ?_
 skip
 refine cw_false (by simp only [opd, zv, zx, hS.q5] <;> rfl) ?_
 refine cw_skip (sk_n rfl (cw_seq (cw_region ?_)))
 refine ow_op (by simp only [zl, zm, zd, partD, List.take, List.drop, zx, hS.q5] <;> exact rfl) ?_
 refine ow_op (by simp only [zo, zx, hS.q5]; exact read_true (by omega) _ us pic dg 0 sz sg le se ju bl fr fw ng l hS hz ho hr) ?_
 refine ow_ml rfl ?_
 refine ow_op (by simp only [zo, List.getElem?_cons_zero, List.getElem?_cons_succ, zx, hS.q5] <;> exact rfl) ?_
 refine ow_op (by simp only [zo, List.getElem?_cons_zero, List.getElem?_cons_succ, zx, hS.q5] <;> exact rfl) ?_
 refine ow_op (by simp only [zl, zm, zx, hS.q5] <;> exact rfl) ?_
 refine ow_op (by simp only [zl, zm, storeD, overlay, snapVs, snaps, zs, zc, zf, List.take, List.drop, zx, hS.q5] <;> exact rfl) ?_
 refine ow_ml rfl ?_
 refine ow_nil ?_
 refine sk_n (by simp only [ze] <;> exact rfl) ?_
 refine cw_seq (cw_seq (cw_region ?_))
 refine ow_me rfl ?_
 refine ow_op (by simp only [zo, binD, zb, Int.reduceEq, Int.reduceToNat, Int.reduceLT, zx, hS.q5] <;> exact rfl) ?_
 refine ow_nil ?_
 refine sk_n (by simp only [ze] <;> exact rfl) ?_
 skip
 refine cw_false (by simp only [opd, zv, zx, hS.q5] <;> rfl) ?_
 refine cw_skip (sk_n rfl (cw_seq (cw_region ?_)))
 refine ow_op (by simp only [zo, zr, zm, zx, hS.q5] <;> exact rfl) ?_
 refine ow_op (by simp only [zl, zm, zd, partD, List.take, List.drop, zx, hS.q5] <;> exact rfl) ?_
 refine ow_op (by simp only [zo, zr, zm, zx, hS.q5] <;> exact rfl) ?_
 refine ow_op (by simp only [zl, zm, zd, partD, List.take, List.drop, zx, hS.q5] <;> exact rfl) ?_
 refine ow_op (by simp only [zo, zr, zm, zx, hS.q5] <;> exact rfl) ?_
 refine ow_op (by simp only [zo, zr, zm, zx, hS.q5] <;> exact rfl) ?_
 refine ow_op (by simp only [zl, zm, zd, partD, List.take, List.drop, zx, hS.q5] <;> exact rfl) ?_
 refine ow_op (by simp only [zo, zx, hS.q5]; exact decNew_run (by omega) _ ng l h62 hnum) ?_
 refine ow_op (by simp only [zo, List.getElem?_cons_zero, List.getElem?_cons_succ, zx, hS.q5] <;> exact rfl) ?_
 refine ow_op (by simp only [zo, List.getElem?_cons_zero, List.getElem?_cons_succ, zx, hS.q5] <;> exact rfl) ?_
 refine ow_op (by simp only [zl, zm, storeD, overlay, snapVs, snaps, zs, zc, zf, List.take, List.drop, zx, hS.q5] <;> exact rfl) ?_
 refine ow_ml rfl ?_
 refine ow_nil ?_
 refine sk_n (by simp only [ze] <;> exact rfl) ?_
 refine cw_ret ?_
 refine ⟨_, by simp only [F51, resultD, resDs, resD, zg, zd, rowsOf, partD, List.take, List.drop, zm] <;> exact rfl, ?_⟩
 simp only [leaveP, leave, snapVs, snaps, zs, zf, zk]

def shN (n : Nat) : List D := [.int .u8 4, .int .u8 0, .str (mkS (List.replicate n 57)), .int .i64 n, .int .i64 0, .bool false, .bool false, .bool false, .bool false, .bool false, .int .i64 n]
def shT (n : Nat) : List D := [.int .u8 2, .int .u8 0, .str (mkS (List.replicate n 88)), .int .i64 0, .int .i64 0, .bool false, .bool false, .bool false, .bool false, .bool false, .int .i64 n]
end Go.Proofs.YtabgobmeibjeeaaGreatDoor

namespace Go.Proofs.YtabgobmeibjeeaaGreatDoor
set_option linter.unusedSimpArgs false
set_option linter.unusedVariables false
set_option maxRecDepth 10000

theorem cpad_run {d : Nat} (hd : 1 ≤ d) (S : St) {x : D} {l : List UInt8} (hS : SlD 1 (bR l) x) (i : Nat) {c : UInt8} (hi : l[i]? = some c) : runF LP NN d 87 [x, .int .i64 i] S = some (.int .u8 c.toNat, S, false) := by
 have hlt : i < l.length := (List.getElem?_eq_some_iff.1 hi).1
 have hia := fun (S : St) => hS.iaddrN S .i64 (bR_at hi)
 refine run_pure (F := F87) rfl (by simp only [LP, fnOf, snapVs, snaps, zs, zm, zv, hS.snapV, hS.freeV] <;> exact rfl) rfl (by simp only [LP, zf, zm, hS.snapV, hS.freeV]; try rfl) (by simp only [F87, zv] <;> exact rfl) (by omega) ?_
 rintro d rfl
 refine cw_seq (cw_region ?_)
 refine ow_mc ?_
 refine ow_nil ?_
 refine sk_n (by simp only [ze] <;> exact rfl) ?_
 refine cw_seq (cw_seq (cw_region ?_))
 refine ow_me rfl ?_
 refine ow_me rfl ?_
 refine ow_op (by simp only [zo, lenD_str, lenD_nils, lenD_sl, lenD_msl, hS.len, bR_len, hia] <;> exact rfl) ?_
 refine ow_op (by simp only [zo, binD, zb, Int.reduceEq, Int.reduceToNat, Int.reduceLT, hS.len, bR_len, hia] <;> exact rfl) ?_
 refine ow_nil ?_
 refine sk_n (by simp only [ze] <;> exact rfl) ?_
 skip
 refine cw_false (by simp only [opd, zv, hS.len, bR_len, hia] <;> (rw [decide_eq_false]; omega)) ?_
 refine cw_skip (sk_n rfl (cw_seq (cw_region ?_)))
 refine ow_me rfl ?_
 refine ow_me rfl ?_
 refine ow_op (by simp only [zl, zm, iaddrD_sl, iaddrD_msl, Int.toNat_natCast, Int.toNat_zero, List.getElem?_map, Option.map_some, Int.le_refl, hS.len, bR_len, hia] <;> exact rfl) ?_
 refine ow_op (by simp only [zl, zm, zd, partD, List.take, List.drop, hS.len, bR_len, hia] <;> exact rfl) ?_
 refine ow_ml rfl ?_
 refine ow_nil ?_
 refine sk_n (by simp only [ze] <;> exact rfl) ?_
 refine cw_ret ?_
 refine ⟨_, by simp only [F87, resultD, resDs, resD, zg, zd, rowsOf, partD, List.take, List.drop, zm] <;> exact rfl, ?_⟩
 simp only [leaveP, leave, snapVs, snaps, zs, zf, zk]

def cmpT : List UInt8 → List UInt8 → Int
 | a :: l, b :: m => if cmpI a.toNat b.toNat != 0 then cmpI a.toNat b.toNat else cmpT l m
 | _, _ => 0
theorem cmpT_nil : cmpT [] [] = 0 := rfl

theorem ccmp_run {d : Nat} (hd : 3 ≤ d) (S : St) {x y : D} {l m : List UInt8} (hS : SlD 1 (bR l) x) (hR : SlD 1 (bR m) y) (hl : l.length ≤ 1000000) (hlm : m.length = l.length) : runF LP NN d 53 [x, y] S = some (.int .i64 (cmpT l m), S, false) := by
 have hmx : (if (m.length : Int) > (l.length : Int) then (m.length : Int) else (l.length : Int)) = (l.length : Int) := by rw [hlm]; simp
 refine run_pure (F := F53) rfl (by simp only [LP, fnOf, snapVs, snaps, zs, zm, zv, hS.snapV, hS.freeV, hR.snapV, hR.freeV] <;> exact rfl) rfl (by simp only [LP, zf, zm, hS.snapV, hS.freeV, hR.snapV, hR.freeV]; try rfl) (by simp only [F53, zv] <;> exact rfl) (by omega) ?_
 rintro d rfl
 refine cw_seq (cw_region ?_)
 refine ow_mc ?_
 refine ow_nil ?_
 refine sk_n (by simp only [ze] <;> exact rfl) ?_
 refine cw_seq (cw_seq (cw_region ?_))
 refine ow_me rfl ?_
 refine ow_op (by simp only [zo, lenD_str, lenD_nils, lenD_sl, lenD_msl, hS.len, hR.len, bR_len, hmx] <;> exact rfl) ?_
 refine ow_me rfl ?_
 refine ow_op (by simp only [zo, lenD_str, lenD_nils, lenD_sl, lenD_msl, hS.len, hR.len, bR_len, hmx] <;> exact rfl) ?_
 refine ow_op (by simp only [zo, foldD, maxD, hS.len, hR.len, bR_len, hmx] <;> exact rfl) ?_
 refine ow_mc ?_
 refine ow_nil ?_
 refine sk_n (by simp only [ze] <;> exact rfl) ?_
 refine cw_block ?_
 refine cw_loop (fun n env S' => ∃ (i : Nat) (u3 u4 u7 u8 : D), i ≤ l.length ∧ n = l.length - i ∧ cmpT (l.drop i) (m.drop i) = cmpT l m ∧ S' = ⟨[], 0⟩ ∧ env = [x, y, .int .i64 0, u3, u4, .int .i64 l.length, .int .i64 i, u7, u8]) (l.length) (by omega) (⟨0, _, _, _, _, by omega, by omega, rfl, rfl, rfl⟩) ?_
 rintro n env S' ⟨i, u3, u4, u7, u8, hi, rfl, hT, rfl, rfl⟩
 have h0 : (0 : Int) ≤ (i : Int) := by omega
 refine cw_seq (cw_region ?_)
 refine ow_op (by simp only [zo, binD, zb, Int.reduceEq, Int.reduceToNat, Int.reduceLT, hS.len, hR.len, bR_len, hmx, h0] <;> exact rfl) ?_
 refine ow_nil ?_
 refine sk_n (by simp only [ze] <;> exact rfl) ?_
 refine cw_seq ?_
 refine cw_cond (by simp only [opd, zv, hS.len, hR.len, bR_len, hmx, h0] <;> exact rfl) (fun hcA => ?_) (fun hcA => ?_)
 ·
  have hlt : i < l.length := by have := of_decide_eq_true hcA; omega
  have hw := wrap_nat i (by omega)
  have hx := List.getElem?_eq_getElem hlt
  have hy := List.getElem?_eq_getElem (show i < m.length by omega)
  refine cw_skip (sk_n rfl (cw_seq (cw_block (cw_seq (cw_region ?_)))))
  refine ow_me rfl ?_
  refine ow_ml rfl ?_
  refine ow_nil ?_
  refine sk_n (by simp only [ze] <;> exact rfl) ?_
  refine cw_seq (cw_region ?_)
  refine ow_me rfl ?_
  refine ow_me rfl ?_
  first
   | refine ow_op (by simp only [zo, hS.len, hR.len, bR_len, hmx, h0, hw]; exact cpad_run (by omega) _ hS i hx) ?_
   | refine ow_op (by simp only [zo, hS.len, hR.len, bR_len, hmx, h0, hw]; exact cpad_run (by omega) _ hR i hy) ?_
  refine ow_me rfl ?_
  refine ow_me rfl ?_
  first
   | refine ow_op (by simp only [zo, hS.len, hR.len, bR_len, hmx, h0, hw]; exact cpad_run (by omega) _ hS i hx) ?_
   | refine ow_op (by simp only [zo, hS.len, hR.len, bR_len, hmx, h0, hw]; exact cpad_run (by omega) _ hR i hy) ?_
  refine ow_op (by simp only [zo, hS.len, hR.len, bR_len, hmx, h0, hw]; exact cmpB_run (by omega) _ _ _) ?_
  refine ow_ml rfl ?_
  refine ow_nil ?_
  refine sk_n (by simp only [ze] <;> exact rfl) ?_
  refine cw_seq (cw_region ?_)
  refine ow_me rfl ?_
  refine ow_op (by simp only [zo, binD, zb, Int.reduceEq, Int.reduceToNat, Int.reduceLT, hS.len, hR.len, bR_len, hmx, h0, hw] <;> exact rfl) ?_
  refine ow_nil ?_
  refine sk_n (by simp only [ze] <;> exact rfl) ?_
  refine cw_cond (by simp only [opd, zv, hS.len, hR.len, bR_len, hmx, h0, hw] <;> exact rfl) (fun hcAT => ?_) (fun hcAT => ?_)
  ·
   refine cw_seq (cw_region ?_)
   refine ow_me rfl ?_
   refine ow_ml rfl ?_
   refine ow_nil ?_
   refine sk_n (by simp only [ze] <;> exact rfl) ?_
   refine cw_ret (bk_r (sk_r (lk_r (bk_r (sk_r ?_)))))
   refine ⟨_, by simp only [F53, resultD, resDs, resD, zg, zd, rowsOf, partD, List.take, List.drop, zm] <;> exact rfl, ?_⟩
   rw [← hT, List.drop_eq_getElem_cons hlt, List.drop_eq_getElem_cons (show i < m.length by omega), cmpT, if_pos (by simpa using hcAT)]
   simp only [leaveP, leave, snapVs, snaps, zs, zf, zk]
  ·
   refine cw_skip (bk_n (sk_n rfl (cw_region ?_)))
   refine ow_op (by simp only [zo, binD, zb, Int.reduceEq, Int.reduceToNat, Int.reduceLT, hS.len, hR.len, bR_len, hmx, h0, hw] <;> exact rfl) ?_
   refine ow_ml rfl ?_
   refine ow_nil ?_
   refine lk_n (by simp only [ze] <;> exact rfl) ?_
   exact ⟨l.length - (i + 1), by omega, i + 1, _, _, _, _, by omega, rfl, by rw [← hT, List.drop_eq_getElem_cons hlt, List.drop_eq_getElem_cons (show i < m.length by omega), cmpT, if_neg (by simpa using hcAT)], rfl, rfl⟩
 ·
  have hge : l.length ≤ i := by have := of_decide_eq_false hcA; omega
  refine cw_exit (sk_e (lk_e (bk_e (sk_n rfl (cw_seq (cw_region ?_))))))
  refine ow_mc ?_
  refine ow_nil ?_
  refine sk_n (by simp only [ze] <;> exact rfl) ?_
  refine cw_ret ?_
  refine ⟨_, by simp only [F53, resultD, resDs, resD, zg, zd, rowsOf, partD, List.take, List.drop, zm] <;> exact rfl, ?_⟩
  rw [← hT, List.drop_eq_nil_of_le hge, List.drop_eq_nil_of_le (show m.length ≤ i by omega), cmpT_nil]
  simp only [leaveP, leave, snapVs, snaps, zs, zf, zk]

end Go.Proofs.YtabgobmeibjeeaaGreatDoor

namespace Go.Proofs.YtabgobmeibjeeaaGreatDoor
set_option linter.unusedSimpArgs false
set_option linter.unusedVariables false
set_option maxRecDepth 10000

theorem plainV_agg (cs : List D) : plainV (.agg cs) = cs.all plain1 := rfl
theorem plain1_int (k : IntKind) (n : Int) : plain1 (.int k n) = true := rfl
theorem plain1_str (s : ByteArray) : plain1 (.str s) = true := rfl
theorem plain1_bool (b : Bool) : plain1 (.bool b) = true := rfl
theorem plain1_nils : plain1 .nils = true := rfl

structure Ke extends Shp where
 a : Nat
 n : Nat
 dn : Bool
def Ke.row (k : Ke) : List D := [.int .i64 k.a, .int .i64 k.n, .int .u8 k.cat, .int .u8 k.us, .str k.pic, .int .i64 k.dg, .int .i64 k.sc, .bool k.sg, .bool k.le, .bool k.se, .bool k.ju, .bool k.bl, .int .i64 k.sz, .bool k.dn]
def Ke.fld (k : Ke) (x : D) : List D := [.int .u8 k.cat, .int .u8 k.us, .str k.pic, .int .i64 k.dg, .int .i64 k.sc, .bool k.sg, .bool k.le, .bool k.se, .bool k.ju, .bool k.bl, .int .i64 k.sz, subD k.a k.n x]
def keRows (l : List Ke) : List (List D) := l.map Ke.row
theorem keRows_len (l : List Ke) : (keRows l).length = l.length := by simp [keRows]
theorem keRows_at {l : List Ke} {i : Nat} {k : Ke} (h : l[i]? = some k) : (keRows l)[i]? = some [.int .i64 k.a, .int .i64 k.n, .int .u8 k.cat, .int .u8 k.us, .str k.pic, .int .i64 k.dg, .int .i64 k.sc, .bool k.sg, .bool k.le, .bool k.se, .bool k.ju, .bool k.bl, .int .i64 k.sz, .bool k.dn] := by simp [keRows, h, Ke.row]

theorem field_run {d : Nat} (hd : 1 ≤ d) (S : St) (k : Ke) {x : D} {rows : List (List D)} (hS : SlD 1 rows x) (h : k.a + k.n ≤ rows.length) (hb : rows.length ≤ 1000000) : runF LP NN d 50 [.agg [.int .i64 k.a, .int .i64 k.n, .int .u8 k.cat, .int .u8 k.us, .str k.pic, .int .i64 k.dg, .int .i64 k.sc, .bool k.sg, .bool k.le, .bool k.se, .bool k.ju, .bool k.bl, .int .i64 k.sz, .bool k.dn], x] S = some (.agg [.int .u8 k.cat, .int .u8 k.us, .str k.pic, .int .i64 k.dg, .int .i64 k.sc, .bool k.sg, .bool k.le, .bool k.se, .bool k.ju, .bool k.bl, .int .i64 k.sz, subD k.a k.n x], S, false) := by
 have hw : IntKind.i64.wrap ((k.a : Int) + (k.n : Int)) = ((k.a + k.n : Nat) : Int) := by rw [IntKind.wrap_i64]; omega
 have hsl := fun (S : St) => hS.slice_mid S (a := k.a) (b := k.a + k.n) rfl rfl (by omega) h
 simp only [Nat.add_sub_cancel_left] at hsl
 have hsb := hS.sub k.a k.n
 refine run_pure (F := F50) rfl (by simp only [LP, fnOf, snapVs, snaps, zs, zm, zv, hS.snapV, hS.freeV] <;> exact rfl) rfl (by simp only [LP, zf, zm, hS.snapV, hS.freeV]; try rfl) (by simp only [F50, zv] <;> exact rfl) (by omega) ?_
 rintro d rfl
 refine cw_seq (cw_region ?_)
 refine ow_op (by simp only [zl, zm, zc, zx, hw, hsb.isCell, hsb.val, hsb.cells, hsb.plain, hS.fps] <;> exact rfl) ?_
 refine ow_op (by simp only [zl, zm, zx, hw, hsb.isCell, hsb.val, hsb.cells, hsb.plain, hS.fps] <;> exact rfl) ?_
 refine ow_nil ?_
 refine sk_n (by simp only [ze] <;> exact rfl) ?_
 refine cw_seq ?_
 refine cw_drawn (by simp only [newsVals, zw, Nat.reduceAdd] <;> exact rfl) (by simp only [zw, newsObj, St.eta] <;> exact rfl) ?_
 refine dw_quiet (by simp only [zo, zr, zm, zx, hw, hsb.isCell, hsb.val, hsb.cells, hsb.plain, hS.fps] <;> exact rfl) rfl rfl ?_
 refine dw_op (by simp only [zl, zm, zd, partD, List.take, List.drop, zx, hw, hsb.isCell, hsb.val, hsb.cells, hsb.plain, hS.fps] <;> exact rfl) (by simp only [fpHere, zo, zq, hS.fps, hsb.plain, plainV_agg, List.all_cons, List.all_nil, plain1_int, plain1_str, plain1_bool, plain1_nils, Bool.and_true, Bool.and_self, if_true] <;> exact rfl) rfl ?_
 refine dw_me rfl rfl ?_
 refine dw_quiet (by simp only [zo, zr, zm, zx, hw, hsb.isCell, hsb.val, hsb.cells, hsb.plain, hS.fps] <;> exact rfl) rfl rfl ?_
 refine dw_quiet (by simp only [zo, zr, zm, zx, hw, hsb.isCell, hsb.val, hsb.cells, hsb.plain, hS.fps] <;> exact rfl) rfl rfl ?_
 refine dw_op (by simp only [zl, zm, zd, partD, List.take, List.drop, zx, hw, hsb.isCell, hsb.val, hsb.cells, hsb.plain, hS.fps] <;> exact rfl) (by simp only [fpHere, zo, zq, hS.fps, hsb.plain, plainV_agg, List.all_cons, List.all_nil, plain1_int, plain1_str, plain1_bool, plain1_nils, Bool.and_true, Bool.and_self, if_true] <;> exact rfl) rfl ?_
 refine dw_quiet (by simp only [zo, zr, zm, zx, hw, hsb.isCell, hsb.val, hsb.cells, hsb.plain, hS.fps] <;> exact rfl) rfl rfl ?_
 refine dw_quiet (by simp only [zo, zr, zm, zx, hw, hsb.isCell, hsb.val, hsb.cells, hsb.plain, hS.fps] <;> exact rfl) rfl rfl ?_
 refine dw_op (by simp only [zl, zm, zd, partD, List.take, List.drop, zx, hw, hsb.isCell, hsb.val, hsb.cells, hsb.plain, hS.fps] <;> exact rfl) (by simp only [fpHere, zo, zq, hS.fps, hsb.plain, plainV_agg, List.all_cons, List.all_nil, plain1_int, plain1_str, plain1_bool, plain1_nils, Bool.and_true, Bool.and_self, if_true] <;> exact rfl) rfl ?_
 refine dw_quiet (by simp only [zo, zr, zm, zx, hw, hsb.isCell, hsb.val, hsb.cells, hsb.plain, hS.fps] <;> exact rfl) rfl rfl ?_
 refine dw_quiet (by simp only [zo, zr, zm, zx, hw, hsb.isCell, hsb.val, hsb.cells, hsb.plain, hS.fps] <;> exact rfl) rfl rfl ?_
 refine dw_op (by simp only [zl, zm, zd, partD, List.take, List.drop, zx, hw, hsb.isCell, hsb.val, hsb.cells, hsb.plain, hS.fps] <;> exact rfl) (by simp only [fpHere, zo, zq, hS.fps, hsb.plain, plainV_agg, List.all_cons, List.all_nil, plain1_int, plain1_str, plain1_bool, plain1_nils, Bool.and_true, Bool.and_self, if_true] <;> exact rfl) rfl ?_
 refine dw_quiet (by simp only [zo, binD, zb, Int.reduceEq, Int.reduceToNat, Int.reduceLT, zx, hw, hsb.isCell, hsb.val, hsb.cells, hsb.plain, hS.fps] <;> exact rfl) rfl rfl ?_
 refine dw_op (by simp only [opd, zv, exOp, aop, LOp.loud, lop, sliceArgs, if_true, Option.map_some, zx, hw, hsb.isCell, hsb.val, hsb.cells, hsb.plain, hS.fps, hsl] <;> exact rfl) (by simp only [fpHere, zo, zq, hS.fps, hsb.plain, plainV_agg, List.all_cons, List.all_nil, plain1_int, plain1_str, plain1_bool, plain1_nils, Bool.and_true, Bool.and_self, if_true] <;> exact rfl) rfl ?_
 refine dw_quiet (by simp only [zo, fillD, overlay, zc, List.take, List.drop, Nat.reduceAdd, Nat.reduceLeDiff, Nat.reduceBEq, zm, zx, hw, hsb.isCell, hsb.val, hsb.cells, hsb.plain, hS.fps] <;> exact rfl) rfl rfl ?_
 refine dw_op (by simp only [zl, zm, storeD, overlay, snapVs, snaps, zs, zc, zf, List.take, List.drop, zx, hw, hsb.isCell, hsb.val, hsb.cells, hsb.plain, hS.fps] <;> exact rfl) (by simp only [fpHere, zo, zq, hS.fps, hsb.plain, plainV_agg, List.all_cons, List.all_nil, plain1_int, plain1_str, plain1_bool, plain1_nils, Bool.and_true, Bool.and_self, if_true] <;> exact rfl) rfl ?_
 refine dw_nil ?_
 refine sk_n (by simp only [ze] <;> exact rfl) ?_
 refine cw_ret ?_
 refine ⟨_, by simp only [F50, resultD, resDs, resD, zg, zd, rowsOf, partD, List.take, List.drop, zm] <;> exact rfl, ?_⟩
 simp only [leaveP, leave, snapVs, snaps, zs, zf, zk, hsb.snapV, hsb.freeV, hsb.snap, hsb.free, hsb.snapR, hsb.freeR]

end Go.Proofs.YtabgobmeibjeeaaGreatDoor

namespace Go.Proofs.YtabgobmeibjeeaaGreatDoor
set_option linter.unusedSimpArgs false
set_option linter.unusedVariables false
set_option maxRecDepth 10000

structure KOK (size : Nat) (k : Ke) : Prop where
 n1 : 1 ≤ k.n
 fit : k.a + k.n ≤ size
 hz : k.sz = k.n
 kd : k.cat = 2 ∨ (k.cat = 4 ∧ ∃ e : Int, (e = 0 ∨ e = 15) ∧ ∀ (d : Nat) (S : St), 14 ≤ d → runF LP NN d 78 [.agg [.int .u8 k.cat, .int .u8 k.us, .str k.pic, .int .i64 k.dg, .int .i64 k.sc, .bool k.sg, .bool k.le, .bool k.se, .bool k.ju, .bool k.bl, .int .i64 k.sz, .sl 1 (List.replicate k.n [.int .u8 0]) (some k.n)]] S = some (.int .i64 e, S, false))

theorem keyVT {d : Nat} (hd : 16 ≤ d) (S : St) (k : Ke) (size : Nat) (hs : size ≤ 4096) (h : KOK size k) (hc2 : k.cat = 2) : runF LP NN d 46 [.agg [.int .i64 k.a, .int .i64 k.n, .int .u8 k.cat, .int .u8 k.us, .str k.pic, .int .i64 k.dg, .int .i64 k.sc, .bool k.sg, .bool k.le, .bool k.se, .bool k.ju, .bool k.bl, .int .i64 k.sz, .bool k.dn], .int .i64 size] S = some (.bool true, S, false) := by
 have f1 : decide ((k.a : Int) < 0) = false := decide_eq_false (by omega)
 have f2 : decide ((k.n : Int) < 1) = false := decide_eq_false (by have := h.n1; omega)
 have f3 : decide ((k.n : Int) > (size : Int)) = false := decide_eq_false (by have := h.fit; omega)
 have f4 : decide ((k.a : Int) > IntKind.i64.wrap ((size : Int) - (k.n : Int))) = false := decide_eq_false (by have := h.fit; rw [IntKind.wrap_i64]; omega)
 have f5 : (k.sz != (k.n : Int)) = false := by rw [h.hz]; simp
 refine run_pure (F := F46) rfl (by simp only [LP, fnOf, snapVs, snaps, zs, zm, zv] <;> exact rfl) rfl (by simp only [LP, zf, zm]; try rfl) (by simp only [F46, zv] <;> exact rfl) (by omega) ?_
 rintro d rfl
 refine cw_seq (cw_region ?_)
 refine ow_op (by simp only [zl, zm, zc, f1, f2, f3, f4, f5] <;> exact rfl) ?_
 refine ow_mc ?_
 refine ow_nil ?_
 refine sk_n (by simp only [ze] <;> exact rfl) ?_
 refine cw_seq (cw_region ?_)
 refine ow_op (by simp only [zo, zr, zm, f1, f2, f3, f4, f5] <;> exact rfl) ?_
 refine ow_op (by simp only [zl, zm, zd, partD, List.take, List.drop, f1, f2, f3, f4, f5] <;> exact rfl) ?_
 refine ow_op (by simp only [zl, zm, f1, f2, f3, f4, f5] <;> exact rfl) ?_
 refine ow_op (by simp only [zl, zm, storeD, overlay, snapVs, snaps, zs, zc, zf, List.take, List.drop, f1, f2, f3, f4, f5] <;> exact rfl) ?_
 refine ow_nil ?_
 refine sk_n (by simp only [ze] <;> exact rfl) ?_
 refine cw_seq (cw_seq (cw_region ?_))
 refine ow_op (by simp only [zo, zr, zm, f1, f2, f3, f4, f5] <;> exact rfl) ?_
 refine ow_op (by simp only [zl, zm, zd, partD, List.take, List.drop, f1, f2, f3, f4, f5] <;> exact rfl) ?_
 refine ow_op (by simp only [zo, binD, zb, Int.reduceEq, Int.reduceToNat, Int.reduceLT, f1, f2, f3, f4, f5] <;> exact rfl) ?_
 refine ow_ml rfl ?_
 refine ow_know 0 (b := false) (by simp only [opd, zv, f1, f2, f3, f4, f5] <;> rfl) (by simp only [zn] <;> exact rfl) ?_
 refine ow_on rfl ?_
 refine ow_op (by simp only [zo, zr, zm, f1, f2, f3, f4, f5] <;> exact rfl) ?_
 refine ow_on rfl ?_
 refine ow_op (by simp only [zl, zm, zd, partD, List.take, List.drop, f1, f2, f3, f4, f5] <;> exact rfl) ?_
 refine ow_on rfl ?_
 refine ow_op (by simp only [zo, binD, zb, Int.reduceEq, Int.reduceToNat, Int.reduceLT, f1, f2, f3, f4, f5] <;> exact rfl) ?_
 refine ow_op (by simp only [zo, f1, f2, f3, f4, f5] <;> exact rfl) ?_
 refine ow_ml rfl ?_
 refine ow_know 0 (b := false) (by simp only [opd, zv, f1, f2, f3, f4, f5] <;> rfl) (by simp only [zn] <;> exact rfl) ?_
 refine ow_on rfl ?_
 refine ow_op (by simp only [zo, zr, zm, f1, f2, f3, f4, f5] <;> exact rfl) ?_
 refine ow_on rfl ?_
 refine ow_op (by simp only [zl, zm, zd, partD, List.take, List.drop, f1, f2, f3, f4, f5] <;> exact rfl) ?_
 refine ow_on rfl ?_
 refine ow_me rfl ?_
 refine ow_on rfl ?_
 refine ow_op (by simp only [zo, binD, zb, Int.reduceEq, Int.reduceToNat, Int.reduceLT, f1, f2, f3, f4, f5] <;> exact rfl) ?_
 refine ow_op (by simp only [zo, f1, f2, f3, f4, f5] <;> exact rfl) ?_
 refine ow_ml rfl ?_
 refine ow_know 0 (b := false) (by simp only [opd, zv, f1, f2, f3, f4, f5] <;> rfl) (by simp only [zn] <;> exact rfl) ?_
 refine ow_on rfl ?_
 refine ow_op (by simp only [zo, zr, zm, f1, f2, f3, f4, f5] <;> exact rfl) ?_
 refine ow_on rfl ?_
 refine ow_op (by simp only [zl, zm, zd, partD, List.take, List.drop, f1, f2, f3, f4, f5] <;> exact rfl) ?_
 refine ow_on rfl ?_
 refine ow_me rfl ?_
 refine ow_on rfl ?_
 refine ow_op (by simp only [zo, zr, zm, f1, f2, f3, f4, f5] <;> exact rfl) ?_
 refine ow_on rfl ?_
 refine ow_op (by simp only [zl, zm, zd, partD, List.take, List.drop, f1, f2, f3, f4, f5] <;> exact rfl) ?_
 refine ow_on rfl ?_
 refine ow_op (by simp only [zo, binD, zb, Int.reduceEq, Int.reduceToNat, Int.reduceLT, f1, f2, f3, f4, f5] <;> exact rfl) ?_
 refine ow_on rfl ?_
 refine ow_op (by simp only [zo, binD, zb, Int.reduceEq, Int.reduceToNat, Int.reduceLT, f1, f2, f3, f4, f5] <;> exact rfl) ?_
 refine ow_op (by simp only [zo, f1, f2, f3, f4, f5] <;> exact rfl) ?_
 refine ow_ml rfl ?_
 refine ow_know 0 (b := false) (by simp only [opd, zv, f1, f2, f3, f4, f5] <;> rfl) (by simp only [zn] <;> exact rfl) ?_
 refine ow_on rfl ?_
 refine ow_op (by simp only [zo, zr, zm, f1, f2, f3, f4, f5] <;> exact rfl) ?_
 refine ow_on rfl ?_
 refine ow_op (by simp only [zo, zr, zm, f1, f2, f3, f4, f5] <;> exact rfl) ?_
 refine ow_on rfl ?_
 refine ow_op (by simp only [zl, zm, zd, partD, List.take, List.drop, f1, f2, f3, f4, f5] <;> exact rfl) ?_
 refine ow_on rfl ?_
 refine ow_op (by simp only [zo, zr, zm, f1, f2, f3, f4, f5] <;> exact rfl) ?_
 refine ow_on rfl ?_
 refine ow_op (by simp only [zl, zm, zd, partD, List.take, List.drop, f1, f2, f3, f4, f5] <;> exact rfl) ?_
 refine ow_on rfl ?_
 refine ow_op (by simp only [zo, binD, zb, Int.reduceEq, Int.reduceToNat, Int.reduceLT, f1, f2, f3, f4, f5] <;> exact rfl) ?_
 refine ow_op (by simp only [zo, f1, f2, f3, f4, f5] <;> exact rfl) ?_
 refine ow_nil ?_
 refine sk_n (by simp only [ze] <;> exact rfl) ?_
 skip
 refine cw_false (by simp only [opd, zv, f1, f2, f3, f4, f5] <;> rfl) ?_
 refine cw_skip (sk_n rfl (cw_seq (cw_seq (cw_region ?_))))
 refine ow_op (by simp only [zo, zr, zm, f1, f2, f3, f4, f5] <;> exact rfl) ?_
 refine ow_op (by simp only [zo, zr, zm, f1, f2, f3, f4, f5] <;> exact rfl) ?_
 refine ow_op (by simp only [zl, zm, zd, partD, List.take, List.drop, f1, f2, f3, f4, f5] <;> exact rfl) ?_
 refine ow_nil ?_
 refine sk_n (by simp only [ze] <;> exact rfl) ?_
 refine cw_block (cw_seq (cw_seq (cw_region ?_)))
 refine ow_op (by simp only [zo, binD, zb, Int.reduceEq, Int.reduceToNat, Int.reduceLT, f1, f2, f3, f4, f5] <;> exact rfl) ?_
 refine ow_ml rfl ?_
 refine ow_nil ?_
 refine sk_n (by simp only [ze] <;> exact rfl) ?_
 skip
 refine cw_false (by simp only [opd, zv, f1, f2, f3, f4, f5] <;> (rw [hc2] <;> rfl)) ?_
 refine cw_seq (cw_region ?_)
 refine ow_op (by simp only [zo, binD, zb, Int.reduceEq, Int.reduceToNat, Int.reduceLT, f1, f2, f3, f4, f5] <;> exact rfl) ?_
 refine ow_ml rfl ?_
 refine ow_nil ?_
 refine sk_n (by simp only [ze] <;> exact rfl) ?_
 skip
 refine cw_false (by simp only [opd, zv, f1, f2, f3, f4, f5] <;> (rw [hc2] <;> rfl)) ?_
 refine cw_region ?_
 refine ow_op (by simp only [zo, binD, zb, Int.reduceEq, Int.reduceToNat, Int.reduceLT, f1, f2, f3, f4, f5] <;> exact rfl) ?_
 refine ow_ml rfl ?_
 refine ow_nil ?_
 refine sk_n (by simp only [ze] <;> exact rfl) ?_
 skip
 refine cw_true (by simp only [opd, zv, f1, f2, f3, f4, f5] <;> (rw [hc2] <;> rfl)) ?_
 refine cw_seq (cw_region ?_)
 refine ow_mc ?_
 refine ow_nil ?_
 refine sk_n (by simp only [ze] <;> exact rfl) ?_
 refine cw_ret (bk_r (sk_r ?_))
 refine ⟨_, by simp only [F46, resultD, resDs, resD, zg, zd, rowsOf, partD, List.take, List.drop, zm] <;> exact rfl, ?_⟩
 simp only [leaveP, leave, snapVs, snaps, zs, zf, zk]

theorem keyVN0 {d : Nat} (hd : 16 ≤ d) (S : St) (k : Ke) (size : Nat) (hs : size ≤ 4096) (h : KOK size k) (hc4 : k.cat = 4) (hk : ∀ (d : Nat) (S : St), 14 ≤ d → runF LP NN d 78 [.agg [.int .u8 k.cat, .int .u8 k.us, .str k.pic, .int .i64 k.dg, .int .i64 k.sc, .bool k.sg, .bool k.le, .bool k.se, .bool k.ju, .bool k.bl, .int .i64 k.sz, .sl 1 (List.replicate k.n [.int .u8 0]) (some k.n)]] S = some (.int .i64 0, S, false)) : runF LP NN d 46 [.agg [.int .i64 k.a, .int .i64 k.n, .int .u8 k.cat, .int .u8 k.us, .str k.pic, .int .i64 k.dg, .int .i64 k.sc, .bool k.sg, .bool k.le, .bool k.se, .bool k.ju, .bool k.bl, .int .i64 k.sz, .bool k.dn], .int .i64 size] S = some (.bool true, S, false) := by
 have f1 : decide ((k.a : Int) < 0) = false := decide_eq_false (by omega)
 have f2 : decide ((k.n : Int) < 1) = false := decide_eq_false (by have := h.n1; omega)
 have f3 : decide ((k.n : Int) > (size : Int)) = false := decide_eq_false (by have := h.fit; omega)
 have f4 : decide ((k.a : Int) > IntKind.i64.wrap ((size : Int) - (k.n : Int))) = false := decide_eq_false (by have := h.fit; rw [IntKind.wrap_i64]; omega)
 have f5 : (k.sz != (k.n : Int)) = false := by rw [h.hz]; simp
 have hmk : 0 ≤ (k.n : Int) ∧ (k.n : Int) ≤ (k.n : Int) ∧ (k.n : Int).toNat * 1 ≤ 140737488355328 := ⟨by omega, by omega, by have := h.fit; omega⟩
 have hzz : k.n = k.n := rfl
 refine run_pure (F := F46) rfl (by simp only [LP, fnOf, snapVs, snaps, zs, zm, zv] <;> exact rfl) rfl (by simp only [LP, zf, zm]; try rfl) (by simp only [F46, zv] <;> exact rfl) (by omega) ?_
 rintro d rfl
 refine cw_seq (cw_region ?_)
 refine ow_op (by simp only [zl, zm, zc, f1, f2, f3, f4, f5] <;> exact rfl) ?_
 refine ow_mc ?_
 refine ow_nil ?_
 refine sk_n (by simp only [ze] <;> exact rfl) ?_
 refine cw_seq (cw_region ?_)
 refine ow_op (by simp only [zo, zr, zm, f1, f2, f3, f4, f5] <;> exact rfl) ?_
 refine ow_op (by simp only [zl, zm, zd, partD, List.take, List.drop, f1, f2, f3, f4, f5] <;> exact rfl) ?_
 refine ow_op (by simp only [zl, zm, f1, f2, f3, f4, f5] <;> exact rfl) ?_
 refine ow_op (by simp only [zl, zm, storeD, overlay, snapVs, snaps, zs, zc, zf, List.take, List.drop, f1, f2, f3, f4, f5] <;> exact rfl) ?_
 refine ow_nil ?_
 refine sk_n (by simp only [ze] <;> exact rfl) ?_
 refine cw_seq (cw_seq (cw_region ?_))
 refine ow_op (by simp only [zo, zr, zm, f1, f2, f3, f4, f5] <;> exact rfl) ?_
 refine ow_op (by simp only [zl, zm, zd, partD, List.take, List.drop, f1, f2, f3, f4, f5] <;> exact rfl) ?_
 refine ow_op (by simp only [zo, binD, zb, Int.reduceEq, Int.reduceToNat, Int.reduceLT, f1, f2, f3, f4, f5] <;> exact rfl) ?_
 refine ow_ml rfl ?_
 refine ow_know 0 (b := false) (by simp only [opd, zv, f1, f2, f3, f4, f5] <;> rfl) (by simp only [zn] <;> exact rfl) ?_
 refine ow_on rfl ?_
 refine ow_op (by simp only [zo, zr, zm, f1, f2, f3, f4, f5] <;> exact rfl) ?_
 refine ow_on rfl ?_
 refine ow_op (by simp only [zl, zm, zd, partD, List.take, List.drop, f1, f2, f3, f4, f5] <;> exact rfl) ?_
 refine ow_on rfl ?_
 refine ow_op (by simp only [zo, binD, zb, Int.reduceEq, Int.reduceToNat, Int.reduceLT, f1, f2, f3, f4, f5] <;> exact rfl) ?_
 refine ow_op (by simp only [zo, f1, f2, f3, f4, f5] <;> exact rfl) ?_
 refine ow_ml rfl ?_
 refine ow_know 0 (b := false) (by simp only [opd, zv, f1, f2, f3, f4, f5] <;> rfl) (by simp only [zn] <;> exact rfl) ?_
 refine ow_on rfl ?_
 refine ow_op (by simp only [zo, zr, zm, f1, f2, f3, f4, f5] <;> exact rfl) ?_
 refine ow_on rfl ?_
 refine ow_op (by simp only [zl, zm, zd, partD, List.take, List.drop, f1, f2, f3, f4, f5] <;> exact rfl) ?_
 refine ow_on rfl ?_
 refine ow_me rfl ?_
 refine ow_on rfl ?_
 refine ow_op (by simp only [zo, binD, zb, Int.reduceEq, Int.reduceToNat, Int.reduceLT, f1, f2, f3, f4, f5] <;> exact rfl) ?_
 refine ow_op (by simp only [zo, f1, f2, f3, f4, f5] <;> exact rfl) ?_
 refine ow_ml rfl ?_
 refine ow_know 0 (b := false) (by simp only [opd, zv, f1, f2, f3, f4, f5] <;> rfl) (by simp only [zn] <;> exact rfl) ?_
 refine ow_on rfl ?_
 refine ow_op (by simp only [zo, zr, zm, f1, f2, f3, f4, f5] <;> exact rfl) ?_
 refine ow_on rfl ?_
 refine ow_op (by simp only [zl, zm, zd, partD, List.take, List.drop, f1, f2, f3, f4, f5] <;> exact rfl) ?_
 refine ow_on rfl ?_
 refine ow_me rfl ?_
 refine ow_on rfl ?_
 refine ow_op (by simp only [zo, zr, zm, f1, f2, f3, f4, f5] <;> exact rfl) ?_
 refine ow_on rfl ?_
 refine ow_op (by simp only [zl, zm, zd, partD, List.take, List.drop, f1, f2, f3, f4, f5] <;> exact rfl) ?_
 refine ow_on rfl ?_
 refine ow_op (by simp only [zo, binD, zb, Int.reduceEq, Int.reduceToNat, Int.reduceLT, f1, f2, f3, f4, f5] <;> exact rfl) ?_
 refine ow_on rfl ?_
 refine ow_op (by simp only [zo, binD, zb, Int.reduceEq, Int.reduceToNat, Int.reduceLT, f1, f2, f3, f4, f5] <;> exact rfl) ?_
 refine ow_op (by simp only [zo, f1, f2, f3, f4, f5] <;> exact rfl) ?_
 refine ow_ml rfl ?_
 refine ow_know 0 (b := false) (by simp only [opd, zv, f1, f2, f3, f4, f5] <;> rfl) (by simp only [zn] <;> exact rfl) ?_
 refine ow_on rfl ?_
 refine ow_op (by simp only [zo, zr, zm, f1, f2, f3, f4, f5] <;> exact rfl) ?_
 refine ow_on rfl ?_
 refine ow_op (by simp only [zo, zr, zm, f1, f2, f3, f4, f5] <;> exact rfl) ?_
 refine ow_on rfl ?_
 refine ow_op (by simp only [zl, zm, zd, partD, List.take, List.drop, f1, f2, f3, f4, f5] <;> exact rfl) ?_
 refine ow_on rfl ?_
 refine ow_op (by simp only [zo, zr, zm, f1, f2, f3, f4, f5] <;> exact rfl) ?_
 refine ow_on rfl ?_
 refine ow_op (by simp only [zl, zm, zd, partD, List.take, List.drop, f1, f2, f3, f4, f5] <;> exact rfl) ?_
 refine ow_on rfl ?_
 refine ow_op (by simp only [zo, binD, zb, Int.reduceEq, Int.reduceToNat, Int.reduceLT, f1, f2, f3, f4, f5] <;> exact rfl) ?_
 refine ow_op (by simp only [zo, f1, f2, f3, f4, f5] <;> exact rfl) ?_
 refine ow_nil ?_
 refine sk_n (by simp only [ze] <;> exact rfl) ?_
 skip
 refine cw_false (by simp only [opd, zv, f1, f2, f3, f4, f5] <;> rfl) ?_
 refine cw_skip (sk_n rfl (cw_seq (cw_seq (cw_region ?_))))
 refine ow_op (by simp only [zo, zr, zm, f1, f2, f3, f4, f5] <;> exact rfl) ?_
 refine ow_op (by simp only [zo, zr, zm, f1, f2, f3, f4, f5] <;> exact rfl) ?_
 refine ow_op (by simp only [zl, zm, zd, partD, List.take, List.drop, f1, f2, f3, f4, f5] <;> exact rfl) ?_
 refine ow_nil ?_
 refine sk_n (by simp only [ze] <;> exact rfl) ?_
 refine cw_block (cw_seq (cw_seq (cw_region ?_)))
 refine ow_op (by simp only [zo, binD, zb, Int.reduceEq, Int.reduceToNat, Int.reduceLT, f1, f2, f3, f4, f5] <;> exact rfl) ?_
 refine ow_ml rfl ?_
 refine ow_nil ?_
 refine sk_n (by simp only [ze] <;> exact rfl) ?_
 skip
 refine cw_false (by simp only [opd, zv, f1, f2, f3, f4, f5] <;> (rw [hc4] <;> rfl)) ?_
 refine cw_seq (cw_region ?_)
 refine ow_op (by simp only [zo, binD, zb, Int.reduceEq, Int.reduceToNat, Int.reduceLT, f1, f2, f3, f4, f5] <;> exact rfl) ?_
 refine ow_ml rfl ?_
 refine ow_nil ?_
 refine sk_n (by simp only [ze] <;> exact rfl) ?_
 skip
 refine cw_false (by simp only [opd, zv, f1, f2, f3, f4, f5] <;> (rw [hc4] <;> rfl)) ?_
 refine cw_region ?_
 refine ow_op (by simp only [zo, binD, zb, Int.reduceEq, Int.reduceToNat, Int.reduceLT, f1, f2, f3, f4, f5] <;> exact rfl) ?_
 refine ow_ml rfl ?_
 refine ow_nil ?_
 refine sk_n (by simp only [ze] <;> exact rfl) ?_
 skip
 refine cw_false (by simp only [opd, zv, f1, f2, f3, f4, f5] <;> (rw [hc4] <;> rfl)) ?_
 refine cw_seq (cw_region ?_)
 refine ow_op (by simp only [zo, binD, zb, Int.reduceEq, Int.reduceToNat, Int.reduceLT, f1, f2, f3, f4, f5] <;> exact rfl) ?_
 refine ow_ml rfl ?_
 refine ow_nil ?_
 refine sk_n (by simp only [ze] <;> exact rfl) ?_
 skip
 refine cw_true (by simp only [opd, zv, f1, f2, f3, f4, f5] <;> (rw [hc4] <;> rfl)) ?_
 refine cw_seq ?_
 refine cw_drawn (by simp only [newsVals, zw, Nat.reduceAdd] <;> exact rfl) (by simp only [zw, newsObj, St.eta] <;> exact rfl) ?_
 refine dw_quiet (by simp only [zo, zr, zm, f1, f2, f3, f4, f5] <;> exact rfl) rfl rfl ?_
 refine dw_op (by simp only [zl, zm, zd, partD, List.take, List.drop, f1, f2, f3, f4, f5] <;> exact rfl) (by simp only [fpHere, zo, zq] <;> exact rfl) rfl ?_
 refine dw_quiet (by simp only [zo, zr, zm, f1, f2, f3, f4, f5] <;> exact rfl) rfl rfl ?_
 refine dw_op (by simp only [zl, zm, zd, partD, List.take, List.drop, f1, f2, f3, f4, f5] <;> exact rfl) (by simp only [fpHere, zo, zq] <;> exact rfl) rfl ?_
 refine dw_op (show _ = some (D.msl 2 0 0 k.n none, (⟨[⟨59, 14, [[.int .i64 k.a, .int .i64 k.n, .int .u8 k.cat, .int .u8 k.us, .str k.pic, .int .i64 k.dg, .int .i64 k.sc, .bool k.sg, .bool k.le, .bool k.se, .bool k.ju, .bool k.bl, .int .i64 k.sz, .bool k.dn]], 0, 0, false⟩, ⟨57, 2, [[.int .i64 k.a, .int .i64 k.n]], 0, 0, false⟩, ⟨5, 1, List.replicate k.n [.int .u8 0], 0, 1, false⟩], 0⟩ : St), true) by simp only [opd, zv, exOp, aop, LOp.loud, lop, if_true]; rw [if_pos hmk]; simp only [newAt, Int.toNat_natCast, List.cons_append, List.nil_append, List.length_cons, List.length_nil, ne_eq, not_true_eq_false, decide_false]) (by simp only [fpHere, zo, zq] <;> exact rfl) rfl ?_
 refine dw_quiet (by simp only [zo, fillD, overlay, zc, List.take, List.drop, Nat.reduceAdd, Nat.reduceLeDiff, Nat.reduceBEq, zm, f1, f2, f3, f4, f5] <;> exact rfl) rfl rfl ?_
 refine dw_op (by simp only [zo, f1, f2, f3, f4, f5]; exact (run_snap rfl (by simp only [snapVs, snapV_agg, snaps, snap_int, snap_str, snap_bool, snap_sl, Option.map_some, snap_msl, List.getElem?_cons_zero, List.getElem?_cons_succ, eq_self, true_or, and_self, if_true, List.drop_zero, Bool.false_eq_true, if_false, List.length_replicate, Nat.sub_zero, List.take_replicate, Nat.min_self, hzz] <;> exact rfl) (by simp only [snapVs, snapV_agg, snaps, snap_int, snap_str, snap_bool, snap_sl, Option.map_some, snap_msl, List.getElem?_cons_zero, List.getElem?_cons_succ, eq_self, true_or, and_self, if_true, List.drop_zero, Bool.false_eq_true, if_false, List.length_replicate, Nat.sub_zero, List.take_replicate, Nat.min_self, hzz] <;> exact rfl)).trans (hk _ _ (by omega))) (by simp only [fpHere, zo, zq] <;> exact rfl) rfl ?_
 refine dw_ml rfl rfl ?_
 refine dw_nil ?_
 refine sk_n (by simp only [ze] <;> exact rfl) ?_
 refine cw_seq (cw_region ?_)
 refine ow_me rfl ?_
 refine ow_op (by simp only [zo, binD, zb, Int.reduceEq, Int.reduceToNat, Int.reduceLT, f1, f2, f3, f4, f5] <;> exact rfl) ?_
 refine ow_ml rfl ?_
 refine ow_know 0 (b := true) (by simp only [opd, zv, f1, f2, f3, f4, f5] <;> rfl) (by simp only [zn] <;> exact rfl) ?_
 refine ow_off rfl rfl ?_
 refine ow_off rfl rfl ?_
 refine ow_op (by simp only [zo, f1, f2, f3, f4, f5] <;> exact rfl) ?_
 refine ow_ml rfl ?_
 refine ow_nil ?_
 refine sk_n (by simp only [ze] <;> exact rfl) ?_
 refine cw_ret (bk_r (sk_r ?_))
 refine ⟨_, by simp only [F46, resultD, resDs, resD, zg, zd, rowsOf, partD, List.take, List.drop, zm] <;> exact rfl, ?_⟩
 simp only [leaveP, leave, snapVs, snaps, zs, zf, zk]

theorem keyVN15 {d : Nat} (hd : 16 ≤ d) (S : St) (k : Ke) (size : Nat) (hs : size ≤ 4096) (h : KOK size k) (hc4 : k.cat = 4) (hk : ∀ (d : Nat) (S : St), 14 ≤ d → runF LP NN d 78 [.agg [.int .u8 k.cat, .int .u8 k.us, .str k.pic, .int .i64 k.dg, .int .i64 k.sc, .bool k.sg, .bool k.le, .bool k.se, .bool k.ju, .bool k.bl, .int .i64 k.sz, .sl 1 (List.replicate k.n [.int .u8 0]) (some k.n)]] S = some (.int .i64 15, S, false)) : runF LP NN d 46 [.agg [.int .i64 k.a, .int .i64 k.n, .int .u8 k.cat, .int .u8 k.us, .str k.pic, .int .i64 k.dg, .int .i64 k.sc, .bool k.sg, .bool k.le, .bool k.se, .bool k.ju, .bool k.bl, .int .i64 k.sz, .bool k.dn], .int .i64 size] S = some (.bool true, S, false) := by
 have f1 : decide ((k.a : Int) < 0) = false := decide_eq_false (by omega)
 have f2 : decide ((k.n : Int) < 1) = false := decide_eq_false (by have := h.n1; omega)
 have f3 : decide ((k.n : Int) > (size : Int)) = false := decide_eq_false (by have := h.fit; omega)
 have f4 : decide ((k.a : Int) > IntKind.i64.wrap ((size : Int) - (k.n : Int))) = false := decide_eq_false (by have := h.fit; rw [IntKind.wrap_i64]; omega)
 have f5 : (k.sz != (k.n : Int)) = false := by rw [h.hz]; simp
 have hmk : 0 ≤ (k.n : Int) ∧ (k.n : Int) ≤ (k.n : Int) ∧ (k.n : Int).toNat * 1 ≤ 140737488355328 := ⟨by omega, by omega, by have := h.fit; omega⟩
 have hzz : k.n = k.n := rfl
 refine run_pure (F := F46) rfl (by simp only [LP, fnOf, snapVs, snaps, zs, zm, zv] <;> exact rfl) rfl (by simp only [LP, zf, zm]; try rfl) (by simp only [F46, zv] <;> exact rfl) (by omega) ?_
 rintro d rfl
 refine cw_seq (cw_region ?_)
 refine ow_op (by simp only [zl, zm, zc, f1, f2, f3, f4, f5] <;> exact rfl) ?_
 refine ow_mc ?_
 refine ow_nil ?_
 refine sk_n (by simp only [ze] <;> exact rfl) ?_
 refine cw_seq (cw_region ?_)
 refine ow_op (by simp only [zo, zr, zm, f1, f2, f3, f4, f5] <;> exact rfl) ?_
 refine ow_op (by simp only [zl, zm, zd, partD, List.take, List.drop, f1, f2, f3, f4, f5] <;> exact rfl) ?_
 refine ow_op (by simp only [zl, zm, f1, f2, f3, f4, f5] <;> exact rfl) ?_
 refine ow_op (by simp only [zl, zm, storeD, overlay, snapVs, snaps, zs, zc, zf, List.take, List.drop, f1, f2, f3, f4, f5] <;> exact rfl) ?_
 refine ow_nil ?_
 refine sk_n (by simp only [ze] <;> exact rfl) ?_
 refine cw_seq (cw_seq (cw_region ?_))
 refine ow_op (by simp only [zo, zr, zm, f1, f2, f3, f4, f5] <;> exact rfl) ?_
 refine ow_op (by simp only [zl, zm, zd, partD, List.take, List.drop, f1, f2, f3, f4, f5] <;> exact rfl) ?_
 refine ow_op (by simp only [zo, binD, zb, Int.reduceEq, Int.reduceToNat, Int.reduceLT, f1, f2, f3, f4, f5] <;> exact rfl) ?_
 refine ow_ml rfl ?_
 refine ow_know 0 (b := false) (by simp only [opd, zv, f1, f2, f3, f4, f5] <;> rfl) (by simp only [zn] <;> exact rfl) ?_
 refine ow_on rfl ?_
 refine ow_op (by simp only [zo, zr, zm, f1, f2, f3, f4, f5] <;> exact rfl) ?_
 refine ow_on rfl ?_
 refine ow_op (by simp only [zl, zm, zd, partD, List.take, List.drop, f1, f2, f3, f4, f5] <;> exact rfl) ?_
 refine ow_on rfl ?_
 refine ow_op (by simp only [zo, binD, zb, Int.reduceEq, Int.reduceToNat, Int.reduceLT, f1, f2, f3, f4, f5] <;> exact rfl) ?_
 refine ow_op (by simp only [zo, f1, f2, f3, f4, f5] <;> exact rfl) ?_
 refine ow_ml rfl ?_
 refine ow_know 0 (b := false) (by simp only [opd, zv, f1, f2, f3, f4, f5] <;> rfl) (by simp only [zn] <;> exact rfl) ?_
 refine ow_on rfl ?_
 refine ow_op (by simp only [zo, zr, zm, f1, f2, f3, f4, f5] <;> exact rfl) ?_
 refine ow_on rfl ?_
 refine ow_op (by simp only [zl, zm, zd, partD, List.take, List.drop, f1, f2, f3, f4, f5] <;> exact rfl) ?_
 refine ow_on rfl ?_
 refine ow_me rfl ?_
 refine ow_on rfl ?_
 refine ow_op (by simp only [zo, binD, zb, Int.reduceEq, Int.reduceToNat, Int.reduceLT, f1, f2, f3, f4, f5] <;> exact rfl) ?_
 refine ow_op (by simp only [zo, f1, f2, f3, f4, f5] <;> exact rfl) ?_
 refine ow_ml rfl ?_
 refine ow_know 0 (b := false) (by simp only [opd, zv, f1, f2, f3, f4, f5] <;> rfl) (by simp only [zn] <;> exact rfl) ?_
 refine ow_on rfl ?_
 refine ow_op (by simp only [zo, zr, zm, f1, f2, f3, f4, f5] <;> exact rfl) ?_
 refine ow_on rfl ?_
 refine ow_op (by simp only [zl, zm, zd, partD, List.take, List.drop, f1, f2, f3, f4, f5] <;> exact rfl) ?_
 refine ow_on rfl ?_
 refine ow_me rfl ?_
 refine ow_on rfl ?_
 refine ow_op (by simp only [zo, zr, zm, f1, f2, f3, f4, f5] <;> exact rfl) ?_
 refine ow_on rfl ?_
 refine ow_op (by simp only [zl, zm, zd, partD, List.take, List.drop, f1, f2, f3, f4, f5] <;> exact rfl) ?_
 refine ow_on rfl ?_
 refine ow_op (by simp only [zo, binD, zb, Int.reduceEq, Int.reduceToNat, Int.reduceLT, f1, f2, f3, f4, f5] <;> exact rfl) ?_
 refine ow_on rfl ?_
 refine ow_op (by simp only [zo, binD, zb, Int.reduceEq, Int.reduceToNat, Int.reduceLT, f1, f2, f3, f4, f5] <;> exact rfl) ?_
 refine ow_op (by simp only [zo, f1, f2, f3, f4, f5] <;> exact rfl) ?_
 refine ow_ml rfl ?_
 refine ow_know 0 (b := false) (by simp only [opd, zv, f1, f2, f3, f4, f5] <;> rfl) (by simp only [zn] <;> exact rfl) ?_
 refine ow_on rfl ?_
 refine ow_op (by simp only [zo, zr, zm, f1, f2, f3, f4, f5] <;> exact rfl) ?_
 refine ow_on rfl ?_
 refine ow_op (by simp only [zo, zr, zm, f1, f2, f3, f4, f5] <;> exact rfl) ?_
 refine ow_on rfl ?_
 refine ow_op (by simp only [zl, zm, zd, partD, List.take, List.drop, f1, f2, f3, f4, f5] <;> exact rfl) ?_
 refine ow_on rfl ?_
 refine ow_op (by simp only [zo, zr, zm, f1, f2, f3, f4, f5] <;> exact rfl) ?_
 refine ow_on rfl ?_
 refine ow_op (by simp only [zl, zm, zd, partD, List.take, List.drop, f1, f2, f3, f4, f5] <;> exact rfl) ?_
 refine ow_on rfl ?_
 refine ow_op (by simp only [zo, binD, zb, Int.reduceEq, Int.reduceToNat, Int.reduceLT, f1, f2, f3, f4, f5] <;> exact rfl) ?_
 refine ow_op (by simp only [zo, f1, f2, f3, f4, f5] <;> exact rfl) ?_
 refine ow_nil ?_
 refine sk_n (by simp only [ze] <;> exact rfl) ?_
 skip
 refine cw_false (by simp only [opd, zv, f1, f2, f3, f4, f5] <;> rfl) ?_
 refine cw_skip (sk_n rfl (cw_seq (cw_seq (cw_region ?_))))
 refine ow_op (by simp only [zo, zr, zm, f1, f2, f3, f4, f5] <;> exact rfl) ?_
 refine ow_op (by simp only [zo, zr, zm, f1, f2, f3, f4, f5] <;> exact rfl) ?_
 refine ow_op (by simp only [zl, zm, zd, partD, List.take, List.drop, f1, f2, f3, f4, f5] <;> exact rfl) ?_
 refine ow_nil ?_
 refine sk_n (by simp only [ze] <;> exact rfl) ?_
 refine cw_block (cw_seq (cw_seq (cw_region ?_)))
 refine ow_op (by simp only [zo, binD, zb, Int.reduceEq, Int.reduceToNat, Int.reduceLT, f1, f2, f3, f4, f5] <;> exact rfl) ?_
 refine ow_ml rfl ?_
 refine ow_nil ?_
 refine sk_n (by simp only [ze] <;> exact rfl) ?_
 skip
 refine cw_false (by simp only [opd, zv, f1, f2, f3, f4, f5] <;> (rw [hc4] <;> rfl)) ?_
 refine cw_seq (cw_region ?_)
 refine ow_op (by simp only [zo, binD, zb, Int.reduceEq, Int.reduceToNat, Int.reduceLT, f1, f2, f3, f4, f5] <;> exact rfl) ?_
 refine ow_ml rfl ?_
 refine ow_nil ?_
 refine sk_n (by simp only [ze] <;> exact rfl) ?_
 skip
 refine cw_false (by simp only [opd, zv, f1, f2, f3, f4, f5] <;> (rw [hc4] <;> rfl)) ?_
 refine cw_region ?_
 refine ow_op (by simp only [zo, binD, zb, Int.reduceEq, Int.reduceToNat, Int.reduceLT, f1, f2, f3, f4, f5] <;> exact rfl) ?_
 refine ow_ml rfl ?_
 refine ow_nil ?_
 refine sk_n (by simp only [ze] <;> exact rfl) ?_
 skip
 refine cw_false (by simp only [opd, zv, f1, f2, f3, f4, f5] <;> (rw [hc4] <;> rfl)) ?_
 refine cw_seq (cw_region ?_)
 refine ow_op (by simp only [zo, binD, zb, Int.reduceEq, Int.reduceToNat, Int.reduceLT, f1, f2, f3, f4, f5] <;> exact rfl) ?_
 refine ow_ml rfl ?_
 refine ow_nil ?_
 refine sk_n (by simp only [ze] <;> exact rfl) ?_
 skip
 refine cw_true (by simp only [opd, zv, f1, f2, f3, f4, f5] <;> (rw [hc4] <;> rfl)) ?_
 refine cw_seq ?_
 refine cw_drawn (by simp only [newsVals, zw, Nat.reduceAdd] <;> exact rfl) (by simp only [zw, newsObj, St.eta] <;> exact rfl) ?_
 refine dw_quiet (by simp only [zo, zr, zm, f1, f2, f3, f4, f5] <;> exact rfl) rfl rfl ?_
 refine dw_op (by simp only [zl, zm, zd, partD, List.take, List.drop, f1, f2, f3, f4, f5] <;> exact rfl) (by simp only [fpHere, zo, zq] <;> exact rfl) rfl ?_
 refine dw_quiet (by simp only [zo, zr, zm, f1, f2, f3, f4, f5] <;> exact rfl) rfl rfl ?_
 refine dw_op (by simp only [zl, zm, zd, partD, List.take, List.drop, f1, f2, f3, f4, f5] <;> exact rfl) (by simp only [fpHere, zo, zq] <;> exact rfl) rfl ?_
 refine dw_op (show _ = some (D.msl 2 0 0 k.n none, (⟨[⟨59, 14, [[.int .i64 k.a, .int .i64 k.n, .int .u8 k.cat, .int .u8 k.us, .str k.pic, .int .i64 k.dg, .int .i64 k.sc, .bool k.sg, .bool k.le, .bool k.se, .bool k.ju, .bool k.bl, .int .i64 k.sz, .bool k.dn]], 0, 0, false⟩, ⟨57, 2, [[.int .i64 k.a, .int .i64 k.n]], 0, 0, false⟩, ⟨5, 1, List.replicate k.n [.int .u8 0], 0, 1, false⟩], 0⟩ : St), true) by simp only [opd, zv, exOp, aop, LOp.loud, lop, if_true]; rw [if_pos hmk]; simp only [newAt, Int.toNat_natCast, List.cons_append, List.nil_append, List.length_cons, List.length_nil, ne_eq, not_true_eq_false, decide_false]) (by simp only [fpHere, zo, zq] <;> exact rfl) rfl ?_
 refine dw_quiet (by simp only [zo, fillD, overlay, zc, List.take, List.drop, Nat.reduceAdd, Nat.reduceLeDiff, Nat.reduceBEq, zm, f1, f2, f3, f4, f5] <;> exact rfl) rfl rfl ?_
 refine dw_op (by simp only [zo, f1, f2, f3, f4, f5]; exact (run_snap rfl (by simp only [snapVs, snapV_agg, snaps, snap_int, snap_str, snap_bool, snap_sl, Option.map_some, snap_msl, List.getElem?_cons_zero, List.getElem?_cons_succ, eq_self, true_or, and_self, if_true, List.drop_zero, Bool.false_eq_true, if_false, List.length_replicate, Nat.sub_zero, List.take_replicate, Nat.min_self, hzz] <;> exact rfl) (by simp only [snapVs, snapV_agg, snaps, snap_int, snap_str, snap_bool, snap_sl, Option.map_some, snap_msl, List.getElem?_cons_zero, List.getElem?_cons_succ, eq_self, true_or, and_self, if_true, List.drop_zero, Bool.false_eq_true, if_false, List.length_replicate, Nat.sub_zero, List.take_replicate, Nat.min_self, hzz] <;> exact rfl)).trans (hk _ _ (by omega))) (by simp only [fpHere, zo, zq] <;> exact rfl) rfl ?_
 refine dw_ml rfl rfl ?_
 refine dw_nil ?_
 refine sk_n (by simp only [ze] <;> exact rfl) ?_
 refine cw_seq (cw_region ?_)
 refine ow_me rfl ?_
 refine ow_op (by simp only [zo, binD, zb, Int.reduceEq, Int.reduceToNat, Int.reduceLT, f1, f2, f3, f4, f5] <;> exact rfl) ?_
 refine ow_ml rfl ?_
 refine ow_know 0 (b := false) (by simp only [opd, zv, f1, f2, f3, f4, f5] <;> rfl) (by simp only [zn] <;> exact rfl) ?_
 refine ow_on rfl ?_
 refine ow_me rfl ?_
 refine ow_on rfl ?_
 refine ow_op (by simp only [zo, binD, zb, Int.reduceEq, Int.reduceToNat, Int.reduceLT, f1, f2, f3, f4, f5] <;> exact rfl) ?_
 refine ow_op (by simp only [zo, f1, f2, f3, f4, f5] <;> exact rfl) ?_
 refine ow_ml rfl ?_
 refine ow_nil ?_
 refine sk_n (by simp only [ze] <;> exact rfl) ?_
 refine cw_ret (bk_r (sk_r ?_))
 refine ⟨_, by simp only [F46, resultD, resDs, resD, zg, zd, rowsOf, partD, List.take, List.drop, zm] <;> exact rfl, ?_⟩
 simp only [leaveP, leave, snapVs, snaps, zs, zf, zk]

theorem keyV_run {d : Nat} (hd : 16 ≤ d) (S : St) (k : Ke) (size : Nat) (hs : size ≤ 4096) (h : KOK size k) : runF LP NN d 46 [.agg [.int .i64 k.a, .int .i64 k.n, .int .u8 k.cat, .int .u8 k.us, .str k.pic, .int .i64 k.dg, .int .i64 k.sc, .bool k.sg, .bool k.le, .bool k.se, .bool k.ju, .bool k.bl, .int .i64 k.sz, .bool k.dn], .int .i64 size] S = some (.bool true, S, false) := by
 rcases h.kd with hc | ⟨hc, e, he, hk⟩
 ·
  exact keyVT hd S k size hs h hc
 ·
  rcases he with rfl | rfl
  ·
   exact keyVN0 hd S k size hs h hc hk
  ·
   exact keyVN15 hd S k size hs h hc hk

end Go.Proofs.YtabgobmeibjeeaaGreatDoor

namespace Go.Proofs.YtabgobmeibjeeaaGreatDoor
set_option linter.unusedSimpArgs false
set_option linter.unusedVariables false
set_option maxRecDepth 10000

theorem check_run {d : Nat} (hd : 17 ≤ d) (S : St) {x : D} {ks : List Ke} (hS : SlD 14 (keRows ks) x) (hne : 0 < ks.length) (h8 : ks.length ≤ 8) (size : Nat) (hs1 : 1 ≤ size) (hs : size ≤ 4096) (hk0 : ∀ k ∈ ks, KOK size k) : runF LP NN d 29 [x, .int .i64 size] S = some (.int .i64 0, S, false) := by
 have g1 : decide ((ks.length : Int) > 8) = false := decide_eq_false (by omega)
 have g2 : decide ((size : Int) > 4096) = false := decide_eq_false (by omega)
 have g3 : ((ks.length : Int) == 0) = false := by simp; exact fun h => by rw [h] at hne; simp at hne
 have g4 : decide ((size : Int) < 1) = false := decide_eq_false (by omega)
 refine run_pure (F := F29) rfl (by simp only [LP, fnOf, snapVs, snaps, zs, zm, zv, hS.snapV, hS.freeV] <;> exact rfl) rfl (by simp only [LP, zf, zm, hS.snapV, hS.freeV]; try rfl) (by simp only [F29, zv] <;> exact rfl) (by omega) ?_
 rintro d rfl
 refine cw_seq (cw_region ?_)
 refine ow_mc ?_
 refine ow_nil ?_
 refine sk_n (by simp only [ze] <;> exact rfl) ?_
 refine cw_seq (cw_block (cw_seq (cw_region ?_)))
 refine ow_me rfl ?_
 refine ow_op (by simp only [zo, lenD_str, lenD_nils, lenD_sl, lenD_msl, hS.len, keRows_len, g1, g2, g3, g4, Bool.not_true] <;> exact rfl) ?_
 refine ow_op (by simp only [zo, binD, zb, Int.reduceEq, Int.reduceToNat, Int.reduceLT, hS.len, keRows_len, g1, g2, g3, g4, Bool.not_true] <;> exact rfl) ?_
 refine ow_ml rfl ?_
 refine ow_know 0 (b := false) (by simp only [opd, zv, hS.len, keRows_len, g1, g2, g3, g4, Bool.not_true] <;> rfl) (by simp only [zn] <;> exact rfl) ?_
 refine ow_on rfl ?_
 refine ow_me rfl ?_
 refine ow_on rfl ?_
 refine ow_op (by simp only [zo, binD, zb, Int.reduceEq, Int.reduceToNat, Int.reduceLT, hS.len, keRows_len, g1, g2, g3, g4, Bool.not_true] <;> exact rfl) ?_
 refine ow_op (by simp only [zo, hS.len, keRows_len, g1, g2, g3, g4, Bool.not_true] <;> exact rfl) ?_
 refine ow_ml rfl ?_
 refine ow_nil ?_
 refine sk_n (by simp only [ze] <;> exact rfl) ?_
 skip
 refine cw_false (by simp only [opd, zv, hS.len, keRows_len, g1, g2, g3, g4, Bool.not_true] <;> rfl) ?_
 refine cw_seq (cw_region ?_)
 refine ow_me rfl ?_
 refine ow_op (by simp only [zo, lenD_str, lenD_nils, lenD_sl, lenD_msl, hS.len, keRows_len, g1, g2, g3, g4, Bool.not_true] <;> exact rfl) ?_
 refine ow_op (by simp only [zo, binD, zb, Int.reduceEq, Int.reduceToNat, Int.reduceLT, hS.len, keRows_len, g1, g2, g3, g4, Bool.not_true] <;> exact rfl) ?_
 refine ow_ml rfl ?_
 refine ow_know 0 (b := false) (by simp only [opd, zv, hS.len, keRows_len, g1, g2, g3, g4, Bool.not_true] <;> rfl) (by simp only [zn] <;> exact rfl) ?_
 refine ow_on rfl ?_
 refine ow_me rfl ?_
 refine ow_on rfl ?_
 refine ow_op (by simp only [zo, binD, zb, Int.reduceEq, Int.reduceToNat, Int.reduceLT, hS.len, keRows_len, g1, g2, g3, g4, Bool.not_true] <;> exact rfl) ?_
 refine ow_op (by simp only [zo, hS.len, keRows_len, g1, g2, g3, g4, Bool.not_true] <;> exact rfl) ?_
 refine ow_ml rfl ?_
 refine ow_nil ?_
 refine sk_n (by simp only [ze] <;> exact rfl) ?_
 skip
 refine cw_false (by simp only [opd, zv, hS.len, keRows_len, g1, g2, g3, g4, Bool.not_true] <;> rfl) ?_
 refine cw_skip (bk_n (sk_n rfl (cw_seq (cw_seq (cw_region ?_)))))
 refine ow_me rfl ?_
 refine ow_op (by simp only [zo, lenD_str, lenD_nils, lenD_sl, lenD_msl, hS.len, keRows_len, g1, g2, g3, g4, Bool.not_true] <;> exact rfl) ?_
 refine ow_mc ?_
 refine ow_nil ?_
 refine sk_n (by simp only [ze] <;> exact rfl) ?_
 refine cw_block ?_
 refine cw_loop (fun n env S' => ∃ (i : Nat) (H : List AObj) (u3 u4 u5 u9 u10 : D), i ≤ ks.length ∧ n = ks.length - i ∧ S' = ⟨H, 0⟩ ∧ env = [x, .int .i64 size, .int .i64 0, u3, u4, u5, x, .int .i64 ks.length, .int .i64 i, u9, u10]) (ks.length) (by omega) (⟨0, _, _, _, _, _, _, by omega, by omega, rfl, rfl⟩) ?_
 rintro n env S' ⟨i, H, u3, u4, u5, u9, u10, hi, rfl, rfl, rfl⟩
 have h0 : (0 : Int) ≤ (i : Int) := by omega
 refine cw_seq (cw_region ?_)
 refine ow_op (by simp only [zo, binD, zb, Int.reduceEq, Int.reduceToNat, Int.reduceLT, hS.len, keRows_len, g1, g2, g3, g4, Bool.not_true, h0] <;> exact rfl) ?_
 refine ow_nil ?_
 refine sk_n (by simp only [ze] <;> exact rfl) ?_
 refine cw_seq ?_
 refine cw_cond (by simp only [opd, zv, hS.len, keRows_len, g1, g2, g3, g4, Bool.not_true, h0] <;> exact rfl) (fun hcA => ?_) (fun hcA => ?_)
 ·
  have hlt : i < ks.length := by have := of_decide_eq_true hcA; omega
  have hw := wrap_nat i (by omega)
  obtain ⟨k, hk⟩ : ∃ k, ks[i]? = some k := ⟨_, List.getElem?_eq_getElem hlt⟩
  have hkm := List.mem_of_getElem? hk
  have hia := fun (S : St) => hS.iaddrN S .i64 (keRows_at hk)
  refine cw_skip (sk_n rfl (cw_seq (cw_block (cw_seq (cw_region ?_)))))
  refine ow_op (by simp only [zl, zm, iaddrD_sl, iaddrD_msl, Int.toNat_natCast, Int.toNat_zero, List.getElem?_map, Option.map_some, Int.le_refl, hS.len, keRows_len, g1, g2, g3, g4, Bool.not_true, h0, hw, hia] <;> exact rfl) ?_
  refine ow_op (by simp only [zl, zm, zd, partD, List.take, List.drop, hS.len, keRows_len, g1, g2, g3, g4, Bool.not_true, h0, hw, hia] <;> exact rfl) ?_
  refine ow_op (by simp only [zl, zm, hS.len, keRows_len, g1, g2, g3, g4, Bool.not_true, h0, hw, hia] <;> exact rfl) ?_
  refine ow_op (by simp only [zl, zm, storeD, overlay, snapVs, snaps, zs, zc, zf, List.take, List.drop, hS.len, keRows_len, g1, g2, g3, g4, Bool.not_true, h0, hw, hia] <;> exact rfl) ?_
  refine ow_nil ?_
  refine sk_n (by simp only [ze] <;> exact rfl) ?_
  refine cw_seq (cw_region ?_)
  refine ow_op (by simp only [zl, zm, zd, partD, List.take, List.drop, hS.len, keRows_len, g1, g2, g3, g4, Bool.not_true, h0, hw, hia] <;> exact rfl) ?_
  refine ow_me rfl ?_
  refine ow_op (by simp only [zo, hS.len, keRows_len, g1, g2, g3, g4, Bool.not_true, h0, hw, hia]; exact keyV_run (by omega) _ k size hs (hk0 k hkm)) ?_
  refine ow_op (by simp only [zo, unD, hS.len, keRows_len, g1, g2, g3, g4, Bool.not_true, h0, hw, hia] <;> exact rfl) ?_
  refine ow_nil ?_
  refine sk_n (by simp only [ze] <;> exact rfl) ?_
  skip
  refine cw_false (by simp only [opd, zv, hS.len, keRows_len, g1, g2, g3, g4, Bool.not_true, h0, hw, hia] <;> rfl) ?_
  refine cw_skip (bk_n (sk_n rfl (cw_region ?_)))
  refine ow_op (by simp only [zo, binD, zb, Int.reduceEq, Int.reduceToNat, Int.reduceLT, hS.len, keRows_len, g1, g2, g3, g4, Bool.not_true, h0, hw, hia] <;> exact rfl) ?_
  refine ow_ml rfl ?_
  refine ow_nil ?_
  refine lk_n (by simp only [ze] <;> exact rfl) ?_
  exact ⟨ks.length - (i + 1), by omega, i + 1, _, _, _, _, _, _, by omega, rfl, rfl, rfl⟩
 ·
  have hge : ks.length ≤ i := by have := of_decide_eq_false hcA; omega
  refine cw_exit (sk_e (lk_e (bk_e (sk_n rfl (cw_seq (cw_region ?_))))))
  refine ow_mc ?_
  refine ow_nil ?_
  refine sk_n (by simp only [ze] <;> exact rfl) ?_
  refine cw_ret ?_
  refine ⟨_, by simp only [F29, resultD, resDs, resD, zg, zd, rowsOf, partD, List.take, List.drop, zm] <;> exact rfl, ?_⟩
  simp only [leaveP, leave, snapVs, snaps, zs, zf, zk]

end Go.Proofs.YtabgobmeibjeeaaGreatDoor

namespace Go.Proofs.YtabgobmeibjeeaaGreatDoor
set_option linter.unusedSimpArgs false
set_option linter.unusedVariables false
set_option maxRecDepth 10000

theorem valid_run {d : Nat} (hd : 15 ≤ d) (S : St) {x y : D} {ks : List Ke} {rows : List (List D)} (hS : SlD 14 (keRows ks) x) (hR : SlD 1 rows y) (h8 : ks.length ≤ 8) (hb : rows.length ≤ 1000000) (hk0 : ∀ k ∈ ks, KOK rows.length k) (hv : ∀ k ∈ ks, k.cat = 4 → ∀ (d : Nat) (S : St), 14 ≤ d → runF LP NN d 78 [.agg [.int .u8 k.cat, .int .u8 k.us, .str k.pic, .int .i64 k.dg, .int .i64 k.sc, .bool k.sg, .bool k.le, .bool k.se, .bool k.ju, .bool k.bl, .int .i64 k.sz, subD k.a k.n y]] S = some (.int .i64 0, S, false)) : runF LP NN d 44 [x, .int .i64 rows.length, y] S = some (.int .i64 0, S, false) := by
 refine run_pure (F := F44) rfl (by simp only [LP, fnOf, snapVs, snaps, zs, zm, zv, hS.snapV, hS.freeV, hR.snapV, hR.freeV] <;> exact rfl) rfl (by simp only [LP, zf, zm, hS.snapV, hS.freeV, hR.snapV, hR.freeV]; try rfl) (by simp only [F44, zv] <;> exact rfl) (by omega) ?_
 rintro d rfl
 refine cw_seq (cw_region ?_)
 refine ow_mc ?_
 refine ow_nil ?_
 refine sk_n (by simp only [ze] <;> exact rfl) ?_
 refine cw_seq (cw_seq (cw_region ?_))
 refine ow_me rfl ?_
 refine ow_op (by simp only [zo, lenD_str, lenD_nils, lenD_sl, lenD_msl, hS.len, hR.len, keRows_len, bne_self_eq_false] <;> exact rfl) ?_
 refine ow_me rfl ?_
 refine ow_op (by simp only [zo, binD, zb, Int.reduceEq, Int.reduceToNat, Int.reduceLT, hS.len, hR.len, keRows_len, bne_self_eq_false] <;> exact rfl) ?_
 refine ow_nil ?_
 refine sk_n (by simp only [ze] <;> exact rfl) ?_
 skip
 refine cw_false (by simp only [opd, zv, hS.len, hR.len, keRows_len, bne_self_eq_false] <;> rfl) ?_
 refine cw_skip (sk_n rfl (cw_seq (cw_seq (cw_region ?_))))
 refine ow_me rfl ?_
 refine ow_op (by simp only [zo, lenD_str, lenD_nils, lenD_sl, lenD_msl, hS.len, hR.len, keRows_len, bne_self_eq_false] <;> exact rfl) ?_
 refine ow_mc ?_
 refine ow_nil ?_
 refine sk_n (by simp only [ze] <;> exact rfl) ?_
 refine cw_block ?_
 refine cw_loop (fun n env S' => ∃ (i : Nat) (H : List AObj) (u4 u5 u9 u10 : D), i ≤ ks.length ∧ n = ks.length - i ∧ S' = ⟨H, 0⟩ ∧ env = [x, .int .i64 rows.length, y, .int .i64 0, u4, u5, x, .int .i64 ks.length, .int .i64 i, u9, u10]) (ks.length) (by omega) (⟨0, _, _, _, _, _, by omega, by omega, rfl, rfl⟩) ?_
 rintro n env S' ⟨i, H, u4, u5, u9, u10, hi, rfl, rfl, rfl⟩
 have h0 : (0 : Int) ≤ (i : Int) := by omega
 refine cw_seq (cw_region ?_)
 refine ow_op (by simp only [zo, binD, zb, Int.reduceEq, Int.reduceToNat, Int.reduceLT, hS.len, hR.len, keRows_len, bne_self_eq_false, h0] <;> exact rfl) ?_
 refine ow_nil ?_
 refine sk_n (by simp only [ze] <;> exact rfl) ?_
 refine cw_seq ?_
 refine cw_cond (by simp only [opd, zv, hS.len, hR.len, keRows_len, bne_self_eq_false, h0] <;> exact rfl) (fun hcA => ?_) (fun hcA => ?_)
 ·
  have hlt : i < ks.length := by have := of_decide_eq_true hcA; omega
  have hw := wrap_nat i (by omega)
  obtain ⟨k, hk⟩ : ∃ k, ks[i]? = some k := ⟨_, List.getElem?_eq_getElem hlt⟩
  have hkm := List.mem_of_getElem? hk
  have hia := fun (S : St) => hS.iaddrN S .i64 (keRows_at hk)
  refine cw_skip (sk_n rfl (cw_seq (cw_block (cw_seq (cw_region ?_)))))
  refine ow_op (by simp only [zl, zm, iaddrD_sl, iaddrD_msl, Int.toNat_natCast, Int.toNat_zero, List.getElem?_map, Option.map_some, Int.le_refl, hS.len, hR.len, keRows_len, bne_self_eq_false, h0, hw, hia] <;> exact rfl) ?_
  refine ow_op (by simp only [zl, zm, zd, partD, List.take, List.drop, hS.len, hR.len, keRows_len, bne_self_eq_false, h0, hw, hia] <;> exact rfl) ?_
  refine ow_op (by simp only [zl, zm, hS.len, hR.len, keRows_len, bne_self_eq_false, h0, hw, hia] <;> exact rfl) ?_
  refine ow_op (by simp only [zl, zm, storeD, overlay, snapVs, snaps, zs, zc, zf, List.take, List.drop, hS.len, hR.len, keRows_len, bne_self_eq_false, h0, hw, hia] <;> exact rfl) ?_
  refine ow_nil ?_
  refine sk_n (by simp only [ze] <;> exact rfl) ?_
  refine cw_seq (cw_region ?_)
  refine ow_op (by simp only [zo, zr, zm, hS.len, hR.len, keRows_len, bne_self_eq_false, h0, hw, hia] <;> exact rfl) ?_
  refine ow_op (by simp only [zo, zr, zm, hS.len, hR.len, keRows_len, bne_self_eq_false, h0, hw, hia] <;> exact rfl) ?_
  refine ow_op (by simp only [zl, zm, zd, partD, List.take, List.drop, hS.len, hR.len, keRows_len, bne_self_eq_false, h0, hw, hia] <;> exact rfl) ?_
  refine ow_op (by simp only [zo, binD, zb, Int.reduceEq, Int.reduceToNat, Int.reduceLT, hS.len, hR.len, keRows_len, bne_self_eq_false, h0, hw, hia] <;> exact rfl) ?_
  refine ow_ml rfl ?_
  refine ow_split 0 (by simp only [opd, zv] <;> exact rfl) (by simp only [zn] <;> exact rfl) (by simp only [zn] <;> exact rfl) (fun hgAT => ?_) (fun hgAT => ?_)
  ·
   refine ow_on rfl ?_
   refine ow_op (by simp only [zl, zm, zd, partD, List.take, List.drop, hS.len, hR.len, keRows_len, bne_self_eq_false, h0, hw, hia, hR.isCell] <;> exact rfl) ?_
   refine ow_on rfl ?_
   refine ow_me rfl ?_
   refine ow_on rfl ?_
   refine ow_op (by simp only [zo, hS.len, hR.len, keRows_len, bne_self_eq_false, h0, hw, hia, hR.isCell]; exact field_run (by omega) _ k hR (hk0 k hkm).fit hb) ?_
   refine ow_on rfl ?_
   refine ow_op (by simp only [zo, hS.len, hR.len, keRows_len, bne_self_eq_false, h0, hw, hia, hR.isCell]; exact hv k hkm (by simpa using hgAT) _ _ (by omega)) ?_
   refine ow_on rfl ?_
   refine ow_op (by simp only [zo, binD, zb, Int.reduceEq, Int.reduceToNat, Int.reduceLT, hS.len, hR.len, keRows_len, bne_self_eq_false, h0, hw, hia, hR.isCell] <;> exact rfl) ?_
   refine ow_op (by simp only [zo, hS.len, hR.len, keRows_len, bne_self_eq_false, h0, hw, hia, hR.isCell] <;> exact rfl) ?_
   refine ow_nil ?_
   refine sk_n (by simp only [ze] <;> exact rfl) ?_
   skip
   refine cw_false (by simp only [opd, zv, hS.len, hR.len, keRows_len, bne_self_eq_false, h0, hw, hia, hR.isCell] <;> rfl) ?_
   refine cw_skip (bk_n (sk_n rfl (cw_region ?_)))
   refine ow_op (by simp only [zo, binD, zb, Int.reduceEq, Int.reduceToNat, Int.reduceLT, hS.len, hR.len, keRows_len, bne_self_eq_false, h0, hw, hia, hR.isCell] <;> exact rfl) ?_
   refine ow_ml rfl ?_
   refine ow_nil ?_
   refine lk_n (by simp only [ze] <;> exact rfl) ?_
   exact ⟨ks.length - (i + 1), by omega, i + 1, _, _, _, _, _, by omega, rfl, rfl, rfl⟩
  ·
   refine ow_off rfl rfl ?_
   refine ow_off rfl rfl ?_
   refine ow_off rfl rfl ?_
   refine ow_off rfl rfl ?_
   refine ow_off rfl rfl ?_
   refine ow_op (by simp only [zo, hS.len, hR.len, keRows_len, bne_self_eq_false, h0, hw, hia] <;> exact rfl) ?_
   refine ow_nil ?_
   refine sk_n (by simp only [ze] <;> exact rfl) ?_
   refine cw_false (by simp only [opd, zv, hS.len, hR.len, keRows_len, bne_self_eq_false, h0, hw, hia]) ?_
   refine cw_skip (bk_n (sk_n rfl (cw_region ?_)))
   refine ow_op (by simp only [zo, binD, zb, Int.reduceEq, Int.reduceToNat, Int.reduceLT, hS.len, hR.len, keRows_len, bne_self_eq_false, h0, hw, hia] <;> exact rfl) ?_
   refine ow_ml rfl ?_
   refine ow_nil ?_
   refine lk_n (by simp only [ze] <;> exact rfl) ?_
   exact ⟨ks.length - (i + 1), by omega, i + 1, _, _, _, _, _, by omega, rfl, rfl, rfl⟩
 ·
  have hge : ks.length ≤ i := by have := of_decide_eq_false hcA; omega
  refine cw_exit (sk_e (lk_e (bk_e (sk_n rfl (cw_seq (cw_region ?_))))))
  refine ow_mc ?_
  refine ow_nil ?_
  refine sk_n (by simp only [ze] <;> exact rfl) ?_
  refine cw_ret ?_
  refine ⟨_, by simp only [F44, resultD, resDs, resD, zg, zd, rowsOf, partD, List.take, List.drop, zm] <;> exact rfl, ?_⟩
  simp only [leaveP, leave, snapVs, snaps, zs, zf, zk]

end Go.Proofs.YtabgobmeibjeeaaGreatDoor

namespace Go.Proofs.YtabgobmeibjeeaaGreatDoor
set_option linter.unusedSimpArgs false
set_option linter.unusedVariables false
set_option maxRecDepth 10000

def firstC : List (Int × Bool) → Int
 | [] => 0
 | (c, dn) :: r => if c == 0 then firstC r else if dn then IntKind.i64.wrap (0 - c) else c

theorem compare_run {d : Nat} (hd : 15 ≤ d) (S : St) {x y z : D} {ks : List Ke} {r1 r2 : List (List D)} (hS : SlD 14 (keRows ks) x) (hR : SlD 1 r1 y) (hQ : SlD 1 r2 z) (h8 : ks.length ≤ 8) (hb1 : r1.length ≤ 1000000) (hb2 : r2.length ≤ 1000000) (hky : ∀ k ∈ ks, k.a + k.n ≤ r1.length) (hkz : ∀ k ∈ ks, k.a + k.n ≤ r2.length) (kc : Ke → Int) (hT : ∀ k ∈ ks, k.cat ≠ 4 → ∀ (d : Nat) (S : St), 3 ≤ d → runF LP NN d 53 [subD k.a k.n y, subD k.a k.n z] S = some (.int .i64 (kc k), S, false)) (hN : ∀ k ∈ ks, k.cat = 4 → ∃ (na nb : Bool) (sa sb : ByteArray), (∀ (d : Nat) (S : St), 14 ≤ d → runF LP NN d 51 [.agg [.int .u8 k.cat, .int .u8 k.us, .str k.pic, .int .i64 k.dg, .int .i64 k.sc, .bool k.sg, .bool k.le, .bool k.se, .bool k.ju, .bool k.bl, .int .i64 k.sz, subD k.a k.n y]] S = some (.tup [.agg [.bool na, .str sa, .int .i64 0], .int .i64 0], S, false)) ∧ (∀ (d : Nat) (S : St), 14 ≤ d → runF LP NN d 51 [.agg [.int .u8 k.cat, .int .u8 k.us, .str k.pic, .int .i64 k.dg, .int .i64 k.sc, .bool k.sg, .bool k.le, .bool k.se, .bool k.ju, .bool k.bl, .int .i64 k.sz, subD k.a k.n z]] S = some (.tup [.agg [.bool nb, .str sb, .int .i64 0], .int .i64 0], S, false)) ∧ (∀ (d : Nat) (S : St), 8 ≤ d → runF LP NN d 52 [.agg [.bool na, .str sa, .int .i64 0], .agg [.bool nb, .str sb, .int .i64 0]] S = some (.tup [.int .i64 (kc k), .int .i64 0], S, false))) : runF LP NN d 33 [x, y, z] S = some (.int .i64 (firstC (ks.map fun k => (kc k, k.dn))), S, false) := by
 refine run_pure (F := F33) rfl (by simp only [LP, fnOf, snapVs, snaps, zs, zm, zv, hS.snapV, hS.freeV, hR.snapV, hR.freeV, hQ.snapV, hQ.freeV] <;> exact rfl) rfl (by simp only [LP, zf, zm, hS.snapV, hS.freeV, hR.snapV, hR.freeV, hQ.snapV, hQ.freeV]; try rfl) (by simp only [F33, zv] <;> exact rfl) (by omega) ?_
 rintro d rfl
 refine cw_seq (cw_region ?_)
 refine ow_mc ?_
 refine ow_nil ?_
 refine sk_n (by simp only [ze] <;> exact rfl) ?_
 refine cw_seq (cw_skip (sk_n rfl (cw_seq (cw_seq (cw_region ?_)))))
 refine ow_me rfl ?_
 refine ow_op (by simp only [zo, lenD_str, lenD_nils, lenD_sl, lenD_msl, hS.len, keRows_len, Nat.add_assoc, Nat.reduceAdd] <;> exact rfl) ?_
 refine ow_mc ?_
 refine ow_nil ?_
 refine sk_n (by simp only [ze] <;> exact rfl) ?_
 refine cw_block ?_
 refine cw_loop (fun n env S' => ∃ (i : Nat) (H : List AObj) (u4 u5 u6 u7 u8 u9 u13 u14 u15 u16 : D), i ≤ ks.length ∧ n = ks.length - i ∧ firstC ((ks.drop i).map fun k => (kc k, k.dn)) = firstC (ks.map fun k => (kc k, k.dn)) ∧ S' = ⟨H, 0⟩ ∧ env = [x, y, z, .int .i64 0, u4, u5, u6, u7, u8, u9, x, .int .i64 ks.length, .int .i64 i, u13, u14, u15, u16]) (ks.length) (by omega) (⟨0, _, _, _, _, _, _, _, _, _, _, _, by omega, by omega, rfl, rfl, rfl⟩) ?_
 rintro n env S' ⟨i, H, u4, u5, u6, u7, u8, u9, u13, u14, u15, u16, hi, rfl, hF, rfl, rfl⟩
 have h0 : (0 : Int) ≤ (i : Int) := by omega
 refine cw_seq (cw_region ?_)
 refine ow_op (by simp only [zo, binD, zb, Int.reduceEq, Int.reduceToNat, Int.reduceLT, hS.len, keRows_len, Nat.add_assoc, Nat.reduceAdd, h0] <;> exact rfl) ?_
 refine ow_nil ?_
 refine sk_n (by simp only [ze] <;> exact rfl) ?_
 refine cw_seq ?_
 refine cw_cond (by simp only [opd, zv, hS.len, keRows_len, Nat.add_assoc, Nat.reduceAdd, h0] <;> exact rfl) (fun hcA => ?_) (fun hcA => ?_)
 ·
  have hlt : i < ks.length := by have := of_decide_eq_true hcA; omega
  have hw := wrap_nat i (by omega)
  obtain ⟨k, hk⟩ : ∃ k, ks[i]? = some k := ⟨_, List.getElem?_eq_getElem hlt⟩
  have hdr : ks.drop i = k :: ks.drop (i + 1) := by rw [List.drop_eq_getElem_cons hlt]; congr 1; exact (List.getElem?_eq_some_iff.1 hk).2
  have hkm := List.mem_of_getElem? hk
  have hia := fun (S : St) => hS.iaddrN S .i64 (keRows_at hk)
  have hsy := hR.sub k.a k.n
  have hsz := hQ.sub k.a k.n
  refine cw_skip (sk_n rfl (cw_seq (cw_block (cw_seq (cw_region ?_)))))
  refine ow_op (by simp only [zl, zm, iaddrD_sl, iaddrD_msl, Int.toNat_natCast, Int.toNat_zero, List.getElem?_map, Option.map_some, Int.le_refl, hS.len, keRows_len, Nat.add_assoc, Nat.reduceAdd, h0, hw, hia, hsy.isCell, hsz.isCell, hsy.val, hsz.val] <;> exact rfl) ?_
  refine ow_op (by simp only [zl, zm, zd, partD, List.take, List.drop, hS.len, keRows_len, Nat.add_assoc, Nat.reduceAdd, h0, hw, hia, hsy.isCell, hsz.isCell, hsy.val, hsz.val] <;> exact rfl) ?_
  refine ow_op (by simp only [zl, zm, hS.len, keRows_len, Nat.add_assoc, Nat.reduceAdd, h0, hw, hia, hsy.isCell, hsz.isCell, hsy.val, hsz.val] <;> exact rfl) ?_
  refine ow_op (by simp only [zl, zm, storeD, overlay, snapVs, snaps, zs, zc, zf, List.take, List.drop, hS.len, keRows_len, Nat.add_assoc, Nat.reduceAdd, h0, hw, hia, hsy.isCell, hsz.isCell, hsy.val, hsz.val] <;> exact rfl) ?_
  refine ow_nil ?_
  refine sk_n (by simp only [ze] <;> exact rfl) ?_
  refine cw_seq ?_
  refine cw_drawn (by simp only [newsVals, zw, Nat.reduceAdd] <;> exact rfl) (by simp only [zw, newsObj, St.eta] <;> exact rfl) ?_
  refine dw_op (by simp only [zl, zm, zd, partD, List.take, List.drop, hS.len, keRows_len, Nat.add_assoc, Nat.reduceAdd, h0, hw, hia, hsy.isCell, hsz.isCell, hsy.val, hsz.val] <;> exact rfl) (by simp only [fpHere, zo, zq, hsy.plain, hsz.plain, plainV_agg, List.all_cons, List.all_nil, plain1_int, plain1_str, plain1_bool, plain1_nils, Bool.and_true, Bool.and_self, if_true] <;> exact rfl) rfl ?_
  refine dw_me rfl rfl ?_
  first
   | refine dw_op (by simp only [zo, hS.len, keRows_len, Nat.add_assoc, Nat.reduceAdd, h0, hw, hia, hsy.isCell, hsz.isCell, hsy.val, hsz.val]; exact field_run (by omega) _ k hR (hky k hkm) hb1) (by simp only [fpHere, zo, zq, hsy.plain, hsz.plain, plainV_agg, List.all_cons, List.all_nil, plain1_int, plain1_str, plain1_bool, plain1_nils, Bool.and_true, Bool.and_self, if_true] <;> exact rfl) rfl ?_
   | refine dw_op (by simp only [zo, hS.len, keRows_len, Nat.add_assoc, Nat.reduceAdd, h0, hw, hia, hsy.isCell, hsz.isCell, hsy.val, hsz.val]; exact field_run (by omega) _ k hQ (hkz k hkm) hb2) (by simp only [fpHere, zo, zq, hsy.plain, hsz.plain, plainV_agg, List.all_cons, List.all_nil, plain1_int, plain1_str, plain1_bool, plain1_nils, Bool.and_true, Bool.and_self, if_true] <;> exact rfl) rfl ?_
  refine dw_op (by simp only [zl, zm, zd, partD, List.take, List.drop, hS.len, keRows_len, Nat.add_assoc, Nat.reduceAdd, h0, hw, hia, hsy.isCell, hsz.isCell, hsy.val, hsz.val] <;> exact rfl) (by simp only [fpHere, zo, zq, hsy.plain, hsz.plain, plainV_agg, List.all_cons, List.all_nil, plain1_int, plain1_str, plain1_bool, plain1_nils, Bool.and_true, Bool.and_self, if_true] <;> exact rfl) rfl ?_
  refine dw_me rfl rfl ?_
  first
   | refine dw_op (by simp only [zo, hS.len, keRows_len, Nat.add_assoc, Nat.reduceAdd, h0, hw, hia, hsy.isCell, hsz.isCell, hsy.val, hsz.val]; exact field_run (by omega) _ k hR (hky k hkm) hb1) (by simp only [fpHere, zo, zq, hsy.plain, hsz.plain, plainV_agg, List.all_cons, List.all_nil, plain1_int, plain1_str, plain1_bool, plain1_nils, Bool.and_true, Bool.and_self, if_true] <;> exact rfl) rfl ?_
   | refine dw_op (by simp only [zo, hS.len, keRows_len, Nat.add_assoc, Nat.reduceAdd, h0, hw, hia, hsy.isCell, hsz.isCell, hsy.val, hsz.val]; exact field_run (by omega) _ k hQ (hkz k hkm) hb2) (by simp only [fpHere, zo, zq, hsy.plain, hsz.plain, plainV_agg, List.all_cons, List.all_nil, plain1_int, plain1_str, plain1_bool, plain1_nils, Bool.and_true, Bool.and_self, if_true] <;> exact rfl) rfl ?_
  refine dw_op (by simp only [zo] <;> exact rfl) rfl rfl ?_
  refine dw_op (by simp only [zo] <;> exact rfl) rfl rfl ?_
  refine dw_op (by simp only [zl, zm, storeD, overlay, snapVs, snaps, zs, zc, zf, List.take, List.drop, hS.len, keRows_len, Nat.add_assoc, Nat.reduceAdd, h0, hw, hia, hsy.isCell, hsz.isCell, hsy.val, hsz.val] <;> exact rfl) (by simp only [fpHere, zo, zq, hsy.plain, hsz.plain, plainV_agg, List.all_cons, List.all_nil, plain1_int, plain1_str, plain1_bool, plain1_nils, Bool.and_true, Bool.and_self, if_true] <;> exact rfl) rfl ?_
  refine dw_op (by simp only [zl, zm, storeD, overlay, snapVs, snaps, zs, zc, zf, List.take, List.drop, hS.len, keRows_len, Nat.add_assoc, Nat.reduceAdd, h0, hw, hia, hsy.isCell, hsz.isCell, hsy.val, hsz.val] <;> exact rfl) (by simp only [fpHere, zo, zq, hsy.plain, hsz.plain, plainV_agg, List.all_cons, List.all_nil, plain1_int, plain1_str, plain1_bool, plain1_nils, Bool.and_true, Bool.and_self, if_true] <;> exact rfl) rfl ?_
  refine dw_nil ?_
  refine sk_n (by simp only [ze] <;> exact rfl) ?_
  refine cw_seq (cw_region ?_)
  refine ow_mc ?_
  refine ow_nil ?_
  refine sk_n (by simp only [ze] <;> exact rfl) ?_
  refine cw_seq (cw_seq (cw_region ?_))
  refine ow_op (by simp only [zo, zr, zm, hS.len, keRows_len, Nat.add_assoc, Nat.reduceAdd, h0, hw, hia, hsy.isCell, hsz.isCell, hsy.val, hsz.val] <;> exact rfl) ?_
  refine ow_op (by simp only [zo, zr, zm, hS.len, keRows_len, Nat.add_assoc, Nat.reduceAdd, h0, hw, hia, hsy.isCell, hsz.isCell, hsy.val, hsz.val] <;> exact rfl) ?_
  refine ow_op (by simp only [zl, zm, zd, partD, List.take, List.drop, hS.len, keRows_len, Nat.add_assoc, Nat.reduceAdd, h0, hw, hia, hsy.isCell, hsz.isCell, hsy.val, hsz.val] <;> exact rfl) ?_
  refine ow_op (by simp only [zo, binD, zb, Int.reduceEq, Int.reduceToNat, Int.reduceLT, hS.len, keRows_len, Nat.add_assoc, Nat.reduceAdd, h0, hw, hia, hsy.isCell, hsz.isCell, hsy.val, hsz.val] <;> exact rfl) ?_
  refine ow_nil ?_
  refine sk_n (by simp only [ze] <;> exact rfl) ?_
  refine cw_cond (by simp only [opd, zv, hS.len, keRows_len, Nat.add_assoc, Nat.reduceAdd, h0, hw, hia, hsy.isCell, hsz.isCell, hsy.val, hsz.val] <;> exact rfl) (fun hcAT => ?_) (fun hcAT => ?_)
  ·
   obtain ⟨na, nb, sa, sb, hga, hgb, hcm⟩ := hN k hkm (by simpa using hcAT)
   refine cw_seq (cw_region ?_)
   refine ow_op (by simp only [zl, zm, zd, partD, List.take, List.drop, hS.len, keRows_len, Nat.add_assoc, Nat.reduceAdd, h0, hw, hia, hsy.isCell, hsz.isCell, hsy.val, hsz.val] <;> exact rfl) ?_
   first
    | refine ow_op (by simp only [zo, hS.len, keRows_len, Nat.add_assoc, Nat.reduceAdd, h0, hw, hia, hsy.isCell, hsz.isCell, hsy.val, hsz.val]; exact hga _ _ (by omega)) ?_
    | refine ow_op (by simp only [zo, hS.len, keRows_len, Nat.add_assoc, Nat.reduceAdd, h0, hw, hia, hsy.isCell, hsz.isCell, hsy.val, hsz.val]; exact hgb _ _ (by omega)) ?_
   refine ow_ml rfl ?_
   refine ow_op (by simp only [zo, List.getElem?_cons_zero, List.getElem?_cons_succ, hS.len, keRows_len, Nat.add_assoc, Nat.reduceAdd, h0, hw, hia, hsy.isCell, hsz.isCell, hsy.val, hsz.val] <;> exact rfl) ?_
   refine ow_op (by simp only [zo, List.getElem?_cons_zero, List.getElem?_cons_succ, hS.len, keRows_len, Nat.add_assoc, Nat.reduceAdd, h0, hw, hia, hsy.isCell, hsz.isCell, hsy.val, hsz.val] <;> exact rfl) ?_
   refine ow_op (by simp only [zl, zm, hS.len, keRows_len, Nat.add_assoc, Nat.reduceAdd, h0, hw, hia, hsy.isCell, hsz.isCell, hsy.val, hsz.val] <;> exact rfl) ?_
   refine ow_op (by simp only [zl, zm, storeD, overlay, snapVs, snaps, zs, zc, zf, List.take, List.drop, hS.len, keRows_len, Nat.add_assoc, Nat.reduceAdd, h0, hw, hia, hsy.isCell, hsz.isCell, hsy.val, hsz.val] <;> exact rfl) ?_
   refine ow_ml rfl ?_
   refine ow_nil ?_
   refine sk_n (by simp only [ze] <;> exact rfl) ?_
   refine cw_seq (cw_region ?_)
   refine ow_op (by simp only [zl, zm, zd, partD, List.take, List.drop, hS.len, keRows_len, Nat.add_assoc, Nat.reduceAdd, h0, hw, hia, hsy.isCell, hsz.isCell, hsy.val, hsz.val] <;> exact rfl) ?_
   first
    | refine ow_op (by simp only [zo, hS.len, keRows_len, Nat.add_assoc, Nat.reduceAdd, h0, hw, hia, hsy.isCell, hsz.isCell, hsy.val, hsz.val]; exact hga _ _ (by omega)) ?_
    | refine ow_op (by simp only [zo, hS.len, keRows_len, Nat.add_assoc, Nat.reduceAdd, h0, hw, hia, hsy.isCell, hsz.isCell, hsy.val, hsz.val]; exact hgb _ _ (by omega)) ?_
   refine ow_ml rfl ?_
   refine ow_op (by simp only [zo, List.getElem?_cons_zero, List.getElem?_cons_succ, hS.len, keRows_len, Nat.add_assoc, Nat.reduceAdd, h0, hw, hia, hsy.isCell, hsz.isCell, hsy.val, hsz.val] <;> exact rfl) ?_
   refine ow_op (by simp only [zo, List.getElem?_cons_zero, List.getElem?_cons_succ, hS.len, keRows_len, Nat.add_assoc, Nat.reduceAdd, h0, hw, hia, hsy.isCell, hsz.isCell, hsy.val, hsz.val] <;> exact rfl) ?_
   refine ow_op (by simp only [zl, zm, hS.len, keRows_len, Nat.add_assoc, Nat.reduceAdd, h0, hw, hia, hsy.isCell, hsz.isCell, hsy.val, hsz.val] <;> exact rfl) ?_
   refine ow_op (by simp only [zl, zm, storeD, overlay, snapVs, snaps, zs, zc, zf, List.take, List.drop, hS.len, keRows_len, Nat.add_assoc, Nat.reduceAdd, h0, hw, hia, hsy.isCell, hsz.isCell, hsy.val, hsz.val] <;> exact rfl) ?_
   refine ow_ml rfl ?_
   refine ow_nil ?_
   refine sk_n (by simp only [ze] <;> exact rfl) ?_
   refine cw_region ?_
   refine ow_op (by simp only [zl, zm, zd, partD, List.take, List.drop, hS.len, keRows_len, Nat.add_assoc, Nat.reduceAdd, h0, hw, hia, hsy.isCell, hsz.isCell, hsy.val, hsz.val] <;> exact rfl) ?_
   refine ow_op (by simp only [zl, zm, zd, partD, List.take, List.drop, hS.len, keRows_len, Nat.add_assoc, Nat.reduceAdd, h0, hw, hia, hsy.isCell, hsz.isCell, hsy.val, hsz.val] <;> exact rfl) ?_
   refine ow_op (by simp only [zo, hS.len, keRows_len, Nat.add_assoc, Nat.reduceAdd, h0, hw, hia, hsy.isCell, hsz.isCell, hsy.val, hsz.val]; exact hcm _ _ (by omega)) ?_
   refine ow_ml rfl ?_
   refine ow_op (by simp only [zo, List.getElem?_cons_zero, List.getElem?_cons_succ, hS.len, keRows_len, Nat.add_assoc, Nat.reduceAdd, h0, hw, hia, hsy.isCell, hsz.isCell, hsy.val, hsz.val] <;> exact rfl) ?_
   refine ow_op (by simp only [zo, List.getElem?_cons_zero, List.getElem?_cons_succ, hS.len, keRows_len, Nat.add_assoc, Nat.reduceAdd, h0, hw, hia, hsy.isCell, hsz.isCell, hsy.val, hsz.val] <;> exact rfl) ?_
   refine ow_ml rfl ?_
   refine ow_nil ?_
   refine sk_n (by simp only [ze] <;> exact rfl) ?_
   refine cw_seq (cw_block (cw_seq (cw_region ?_)))
   refine ow_me rfl ?_
   refine ow_op (by simp only [zo, binD, zb, Int.reduceEq, Int.reduceToNat, Int.reduceLT, hS.len, keRows_len, Nat.add_assoc, Nat.reduceAdd, h0, hw, hia, hsy.isCell, hsz.isCell, hsy.val, hsz.val] <;> exact rfl) ?_
   refine ow_ml rfl ?_
   refine ow_nil ?_
   refine sk_n (by simp only [ze] <;> exact rfl) ?_
   refine cw_cond (by simp only [opd, zv, hS.len, keRows_len, Nat.add_assoc, Nat.reduceAdd, h0, hw, hia, hsy.isCell, hsz.isCell, hsy.val, hsz.val] <;> exact rfl) (fun hcATT => ?_) (fun hcATT => ?_)
   ·
    have hz := hcATT
    refine cw_exit (bk_o rfl (sk_e (bk_e (sk_n rfl (cw_region ?_)))))
    refine ow_op (by simp only [zo, binD, zb, Int.reduceEq, Int.reduceToNat, Int.reduceLT, hS.len, keRows_len, Nat.add_assoc, Nat.reduceAdd, h0, hw, hia, hsy.isCell, hsz.isCell, hsy.val, hsz.val] <;> exact rfl) ?_
    refine ow_ml rfl ?_
    refine ow_nil ?_
    refine lk_n (by simp only [ze] <;> exact rfl) ?_
    exact ⟨ks.length - (i + 1), by omega, i + 1, _, _, _, _, _, _, _, _, _, _, _, by omega, rfl, by rw [← hF, hdr, List.map_cons, firstC, if_pos (by simpa using hz)], rfl, rfl⟩
   ·
    refine cw_seq (cw_region ?_)
    refine ow_op (by simp only [zo, zr, zm, hS.len, keRows_len, Nat.add_assoc, Nat.reduceAdd, h0, hw, hia, hsy.isCell, hsz.isCell, hsy.val, hsz.val] <;> exact rfl) ?_
    refine ow_op (by simp only [zl, zm, zd, partD, List.take, List.drop, hS.len, keRows_len, Nat.add_assoc, Nat.reduceAdd, h0, hw, hia, hsy.isCell, hsz.isCell, hsy.val, hsz.val] <;> exact rfl) ?_
    refine ow_ml rfl ?_
    refine ow_nil ?_
    refine sk_n (by simp only [ze] <;> exact rfl) ?_
    refine cw_cond (by simp only [opd, zv, hS.len, keRows_len, Nat.add_assoc, Nat.reduceAdd, h0, hw, hia, hsy.isCell, hsz.isCell, hsy.val, hsz.val] <;> exact rfl) (fun hcATTF => ?_) (fun hcATTF => ?_)
    ·
     refine cw_seq (cw_region ?_)
     refine ow_me rfl ?_
     refine ow_op (by simp only [zo, unD, hS.len, keRows_len, Nat.add_assoc, Nat.reduceAdd, h0, hw, hia, hsy.isCell, hsz.isCell, hsy.val, hsz.val] <;> exact rfl) ?_
     refine ow_ml rfl ?_
     refine ow_nil ?_
     refine sk_n (by simp only [ze] <;> exact rfl) ?_
     refine cw_ret (bk_r (sk_r (bk_r (sk_r (lk_r (bk_r (sk_r ?_)))))))
     refine ⟨_, by simp only [F33, resultD, resDs, resD, zg, zd, rowsOf, partD, List.take, List.drop, zm] <;> exact rfl, ?_⟩
     rw [← hF, hdr, List.map_cons, firstC, if_neg (by simpa using hcATT), if_pos hcATTF]
     simp only [leaveP, leave, snapVs, snaps, zs, zf, zk]
    ·
     refine cw_skip (bk_n (sk_n rfl (cw_seq (cw_region ?_))))
     refine ow_me rfl ?_
     refine ow_ml rfl ?_
     refine ow_nil ?_
     refine sk_n (by simp only [ze] <;> exact rfl) ?_
     refine cw_ret (bk_r (sk_r (lk_r (bk_r (sk_r ?_)))))
     refine ⟨_, by simp only [F33, resultD, resDs, resD, zg, zd, rowsOf, partD, List.take, List.drop, zm] <;> exact rfl, ?_⟩
     rw [← hF, hdr, List.map_cons, firstC, if_neg (by simpa using hcATT), if_neg (by simpa using hcATTF)]
     simp only [leaveP, leave, snapVs, snaps, zs, zf, zk]
  ·
   refine cw_region ?_
   refine ow_op (by simp only [zo, zr, zm, hS.len, keRows_len, Nat.add_assoc, Nat.reduceAdd, h0, hw, hia, hsy.isCell, hsz.isCell, hsy.val, hsz.val] <;> exact rfl) ?_
   refine ow_op (by simp only [zl, zm, zd, partD, List.take, List.drop, hS.len, keRows_len, Nat.add_assoc, Nat.reduceAdd, h0, hw, hia, hsy.isCell, hsz.isCell, hsy.val, hsz.val] <;> exact rfl) ?_
   refine ow_op (by simp only [zo, zr, zm, hS.len, keRows_len, Nat.add_assoc, Nat.reduceAdd, h0, hw, hia, hsy.isCell, hsz.isCell, hsy.val, hsz.val] <;> exact rfl) ?_
   refine ow_op (by simp only [zl, zm, zd, partD, List.take, List.drop, hS.len, keRows_len, Nat.add_assoc, Nat.reduceAdd, h0, hw, hia, hsy.isCell, hsz.isCell, hsy.val, hsz.val] <;> exact rfl) ?_
   refine ow_op (by simp only [zo, hS.len, keRows_len, Nat.add_assoc, Nat.reduceAdd, h0, hw, hia, hsy.isCell, hsz.isCell, hsy.val, hsz.val]; exact hT k hkm (by simpa using hcAT) _ _ (by omega)) ?_
   refine ow_ml rfl ?_
   refine ow_nil ?_
   refine sk_n (by simp only [ze] <;> exact rfl) ?_
   refine cw_seq (cw_block (cw_seq (cw_region ?_)))
   refine ow_me rfl ?_
   refine ow_op (by simp only [zo, binD, zb, Int.reduceEq, Int.reduceToNat, Int.reduceLT, hS.len, keRows_len, Nat.add_assoc, Nat.reduceAdd, h0, hw, hia, hsy.isCell, hsz.isCell, hsy.val, hsz.val] <;> exact rfl) ?_
   refine ow_ml rfl ?_
   refine ow_nil ?_
   refine sk_n (by simp only [ze] <;> exact rfl) ?_
   refine cw_cond (by simp only [opd, zv, hS.len, keRows_len, Nat.add_assoc, Nat.reduceAdd, h0, hw, hia, hsy.isCell, hsz.isCell, hsy.val, hsz.val] <;> exact rfl) (fun hcATF => ?_) (fun hcATF => ?_)
   ·
    have hz := hcATF
    refine cw_exit (bk_o rfl (sk_e (bk_e (sk_n rfl (cw_region ?_)))))
    refine ow_op (by simp only [zo, binD, zb, Int.reduceEq, Int.reduceToNat, Int.reduceLT, hS.len, keRows_len, Nat.add_assoc, Nat.reduceAdd, h0, hw, hia, hsy.isCell, hsz.isCell, hsy.val, hsz.val] <;> exact rfl) ?_
    refine ow_ml rfl ?_
    refine ow_nil ?_
    refine lk_n (by simp only [ze] <;> exact rfl) ?_
    exact ⟨ks.length - (i + 1), by omega, i + 1, _, _, _, _, _, _, _, _, _, _, _, by omega, rfl, by rw [← hF, hdr, List.map_cons, firstC, if_pos (by simpa using hz)], rfl, rfl⟩
   ·
    refine cw_seq (cw_region ?_)
    refine ow_op (by simp only [zo, zr, zm, hS.len, keRows_len, Nat.add_assoc, Nat.reduceAdd, h0, hw, hia, hsy.isCell, hsz.isCell, hsy.val, hsz.val] <;> exact rfl) ?_
    refine ow_op (by simp only [zl, zm, zd, partD, List.take, List.drop, hS.len, keRows_len, Nat.add_assoc, Nat.reduceAdd, h0, hw, hia, hsy.isCell, hsz.isCell, hsy.val, hsz.val] <;> exact rfl) ?_
    refine ow_ml rfl ?_
    refine ow_nil ?_
    refine sk_n (by simp only [ze] <;> exact rfl) ?_
    refine cw_cond (by simp only [opd, zv, hS.len, keRows_len, Nat.add_assoc, Nat.reduceAdd, h0, hw, hia, hsy.isCell, hsz.isCell, hsy.val, hsz.val] <;> exact rfl) (fun hcATFF => ?_) (fun hcATFF => ?_)
    ·
     refine cw_seq (cw_region ?_)
     refine ow_me rfl ?_
     refine ow_op (by simp only [zo, unD, hS.len, keRows_len, Nat.add_assoc, Nat.reduceAdd, h0, hw, hia, hsy.isCell, hsz.isCell, hsy.val, hsz.val] <;> exact rfl) ?_
     refine ow_ml rfl ?_
     refine ow_nil ?_
     refine sk_n (by simp only [ze] <;> exact rfl) ?_
     refine cw_ret (bk_r (sk_r (bk_r (sk_r (lk_r (bk_r (sk_r ?_)))))))
     refine ⟨_, by simp only [F33, resultD, resDs, resD, zg, zd, rowsOf, partD, List.take, List.drop, zm] <;> exact rfl, ?_⟩
     rw [← hF, hdr, List.map_cons, firstC, if_neg (by simpa using hcATF), if_pos hcATFF]
     simp only [leaveP, leave, snapVs, snaps, zs, zf, zk]
    ·
     refine cw_skip (bk_n (sk_n rfl (cw_seq (cw_region ?_))))
     refine ow_me rfl ?_
     refine ow_ml rfl ?_
     refine ow_nil ?_
     refine sk_n (by simp only [ze] <;> exact rfl) ?_
     refine cw_ret (bk_r (sk_r (lk_r (bk_r (sk_r ?_)))))
     refine ⟨_, by simp only [F33, resultD, resDs, resD, zg, zd, rowsOf, partD, List.take, List.drop, zm] <;> exact rfl, ?_⟩
     rw [← hF, hdr, List.map_cons, firstC, if_neg (by simpa using hcATF), if_neg (by simpa using hcATFF)]
     simp only [leaveP, leave, snapVs, snaps, zs, zf, zk]
 ·
  have hge : ks.length ≤ i := by have := of_decide_eq_false hcA; omega
  refine cw_exit (sk_e (lk_e (bk_e (sk_n rfl (cw_seq (cw_region ?_))))))
  refine ow_mc ?_
  refine ow_nil ?_
  refine sk_n (by simp only [ze] <;> exact rfl) ?_
  refine cw_ret ?_
  refine ⟨_, by simp only [F33, resultD, resDs, resD, zg, zd, rowsOf, partD, List.take, List.drop, zm] <;> exact rfl, ?_⟩
  rw [← hF, List.drop_eq_nil_of_le hge, List.map_nil, firstC]
  simp only [leaveP, leave, snapVs, snaps, zs, zf, zk]

end Go.Proofs.YtabgobmeibjeeaaGreatDoor

namespace Go.Proofs.YtabgobmeibjeeaaGreatDoor
set_option linter.unusedSimpArgs false
set_option linter.unusedVariables false
set_option maxRecDepth 10000

theorem Compare_run {d : Nat} (hd : 19 ≤ d) (S : St) (sz : Int) {x y z : D} {ks : List Ke} {r1 r2 : List (List D)} (hS : SlD 14 (keRows ks) x) (hR : SlD 1 r1 y) (hQ : SlD 1 r2 z) (h8 : ks.length ≤ 8) (hb1 : r1.length ≤ 1000000) (hb2 : r2.length ≤ 1000000) (hky : ∀ k ∈ ks, k.a + k.n ≤ r1.length) (hkz : ∀ k ∈ ks, k.a + k.n ≤ r2.length) (kc : Ke → Int) (hT : ∀ k ∈ ks, k.cat ≠ 4 → ∀ (d : Nat) (S : St), 3 ≤ d → runF LP NN d 53 [subD k.a k.n y, subD k.a k.n z] S = some (.int .i64 (kc k), S, false)) (hN : ∀ k ∈ ks, k.cat = 4 → ∃ (na nb : Bool) (sa sb : ByteArray), (∀ (d : Nat) (S : St), 14 ≤ d → runF LP NN d 51 [.agg [.int .u8 k.cat, .int .u8 k.us, .str k.pic, .int .i64 k.dg, .int .i64 k.sc, .bool k.sg, .bool k.le, .bool k.se, .bool k.ju, .bool k.bl, .int .i64 k.sz, subD k.a k.n y]] S = some (.tup [.agg [.bool na, .str sa, .int .i64 0], .int .i64 0], S, false)) ∧ (∀ (d : Nat) (S : St), 14 ≤ d → runF LP NN d 51 [.agg [.int .u8 k.cat, .int .u8 k.us, .str k.pic, .int .i64 k.dg, .int .i64 k.sc, .bool k.sg, .bool k.le, .bool k.se, .bool k.ju, .bool k.bl, .int .i64 k.sz, subD k.a k.n z]] S = some (.tup [.agg [.bool nb, .str sb, .int .i64 0], .int .i64 0], S, false)) ∧ (∀ (d : Nat) (S : St), 8 ≤ d → runF LP NN d 52 [.agg [.bool na, .str sa, .int .i64 0], .agg [.bool nb, .str sb, .int .i64 0]] S = some (.tup [.int .i64 (kc k), .int .i64 0], S, false))) (hv1 : ∀ (d : Nat) (S : St), 18 ≤ d → runF LP NN d 30 [x, .int .i64 sz, y] S = some (.int .i64 0, S, false)) (hv2 : ∀ (d : Nat) (S : St), 18 ≤ d → runF LP NN d 30 [x, .int .i64 sz, z] S = some (.int .i64 0, S, false)) : runF LP NN d 15 [x, .int .i64 sz, y, z] S = some (.tup [.int .i64 (firstC (ks.map fun k => (kc k, k.dn))), .int .i64 0], S, false) := by
 refine run_pure (F := F15) rfl (by simp only [LP, fnOf, snapVs, snaps, zs, zm, zv, hS.snapV, hS.freeV, hR.snapV, hR.freeV, hQ.snapV, hQ.freeV] <;> exact rfl) rfl (by simp only [LP, zf, zm, hS.snapV, hS.freeV, hR.snapV, hR.freeV, hQ.snapV, hQ.freeV]; try rfl) (by simp only [F15, zv] <;> exact rfl) (by omega) ?_
 rintro d rfl
 refine cw_seq (cw_region ?_)
 refine ow_mc ?_
 refine ow_mc ?_
 refine ow_nil ?_
 refine sk_n (by simp only [ze] <;> exact rfl) ?_
 refine cw_seq (cw_seq (cw_region ?_))
 refine ow_me rfl ?_
 refine ow_me rfl ?_
 refine ow_op (by simp only [zl, zm, fillRows, List.replicate, snapVs, snaps, zs, zc, zf, hR.snapV, hQ.snapV, hR.isCell, hQ.isCell, hR.val, hQ.val, hR.cells, hQ.cells, hR.free, hQ.free, zn] <;> exact rfl) ?_
 refine ow_op (by simp only [zo, lenD_str, lenD_nils, lenD_sl, lenD_msl, hR.snapV, hQ.snapV, hR.isCell, hQ.isCell, hR.val, hQ.val, hR.cells, hQ.cells, hR.free, hQ.free, zn] <;> exact rfl) ?_
 refine ow_mc ?_
 refine ow_nil ?_
 refine sk_n (by simp only [ze] <;> exact rfl) ?_
 refine cw_block ?_
 refine cw_loop (fun n env S' => ∃ (i : Nat) (u6 u7 u11 u12 : D), i ≤ 2 ∧ n = 2 - i ∧ S' = ⟨[], 0⟩ ∧ env = [x, .int .i64 sz, y, z, .int .i64 0, .int .i64 0, u6, u7, .sl 1 [[y], [z]] (some 2), .int .i64 2, .int .i64 i, u11, u12]) (2) (by omega) (⟨0, _, _, _, _, by omega, by omega, rfl, rfl⟩) ?_
 rintro n env S' ⟨i, u6, u7, u11, u12, hi, rfl, rfl, rfl⟩
 have h0 : (0 : Int) ≤ (i : Int) := by omega
 refine cw_seq (cw_region ?_)
 refine ow_op (by simp only [zo, binD, zb, Int.reduceEq, Int.reduceToNat, Int.reduceLT, hR.snapV, hQ.snapV, hR.isCell, hQ.isCell, hR.val, hQ.val, hR.cells, hQ.cells, hR.free, hQ.free, zn, h0] <;> exact rfl) ?_
 refine ow_nil ?_
 refine sk_n (by simp only [ze] <;> exact rfl) ?_
 refine cw_seq ?_
 refine cw_cond (by simp only [opd, zv, hR.snapV, hQ.snapV, hR.isCell, hQ.isCell, hR.val, hQ.val, hR.cells, hQ.cells, hR.free, hQ.free, zn, h0] <;> exact rfl) (fun hcA => ?_) (fun hcA => ?_)
 ·
  have hlt : i < 2 := by have := of_decide_eq_true hcA; omega
  have hw := wrap_nat i (by omega)
  obtain ⟨q, hq, hv⟩ : ∃ q, [[y], [z]][i]? = some [q] ∧ ∀ (d : Nat) (S : St), 18 ≤ d → runF LP NN d 30 [x, .int .i64 sz, q] S = some (.int .i64 0, S, false) := by
   have : i = 0 ∨ i = 1 := by omega
   rcases this with rfl | rfl
   ·
    exact ⟨y, rfl, hv1⟩
   ·
    exact ⟨z, rfl, hv2⟩
  have hia := fun (S : St) => (SlD.of 1 [[y], [z]] (some 2)).iaddrN S .i64 hq
  refine cw_skip (sk_n rfl (cw_seq (cw_block (cw_seq (cw_region ?_)))))
  refine ow_op (by simp only [opd, zv, exOp, aop, LOp.loud, lop, if_true, Option.map_some, hR.snapV, hQ.snapV, hR.isCell, hQ.isCell, hR.val, hQ.val, hR.cells, hQ.cells, hR.free, hQ.free, zn, h0, hw, hia] <;> exact rfl) ?_
  refine ow_op (by simp only [zl, zm, zd, partD, List.take, List.drop, hR.snapV, hQ.snapV, hR.isCell, hQ.isCell, hR.val, hQ.val, hR.cells, hQ.cells, hR.free, hQ.free, zn, h0, hw, hia] <;> exact rfl) ?_
  refine ow_ml rfl ?_
  refine ow_nil ?_
  refine sk_n (by simp only [ze] <;> exact rfl) ?_
  refine cw_seq (cw_region ?_)
  refine ow_me rfl ?_
  refine ow_me rfl ?_
  refine ow_me rfl ?_
  refine ow_op (by simp only [zo, hR.snapV, hQ.snapV, hR.isCell, hQ.isCell, hR.val, hQ.val, hR.cells, hQ.cells, hR.free, hQ.free, zn, h0, hw, hia]; exact hv _ _ (by omega)) ?_
  refine ow_ml rfl ?_
  refine ow_nil ?_
  refine sk_n (by simp only [ze] <;> exact rfl) ?_
  refine cw_seq (cw_region ?_)
  refine ow_me rfl ?_
  refine ow_op (by simp only [zo, binD, zb, Int.reduceEq, Int.reduceToNat, Int.reduceLT, hR.snapV, hQ.snapV, hR.isCell, hQ.isCell, hR.val, hQ.val, hR.cells, hQ.cells, hR.free, hQ.free, zn, h0, hw, hia] <;> exact rfl) ?_
  refine ow_nil ?_
  refine sk_n (by simp only [ze] <;> exact rfl) ?_
  skip
  refine cw_false (by simp only [opd, zv, hR.snapV, hQ.snapV, hR.isCell, hQ.isCell, hR.val, hQ.val, hR.cells, hQ.cells, hR.free, hQ.free, zn, h0, hw, hia] <;> rfl) ?_
  refine cw_skip (bk_n (sk_n rfl (cw_region ?_)))
  refine ow_op (by simp only [zo, binD, zb, Int.reduceEq, Int.reduceToNat, Int.reduceLT, hR.snapV, hQ.snapV, hR.isCell, hQ.isCell, hR.val, hQ.val, hR.cells, hQ.cells, hR.free, hQ.free, zn, h0, hw, hia] <;> exact rfl) ?_
  refine ow_ml rfl ?_
  refine ow_nil ?_
  refine lk_n (by simp only [ze] <;> exact rfl) ?_
  exact ⟨2 - (i + 1), by omega, i + 1, _, _, _, _, by omega, rfl, rfl, rfl⟩
 ·
  refine cw_exit (sk_e (lk_e (bk_e (sk_n rfl (cw_seq (cw_region ?_))))))
  refine ow_me rfl ?_
  refine ow_me rfl ?_
  refine ow_me rfl ?_
  refine ow_op (by simp only [zo, hR.snapV, hQ.snapV, hR.isCell, hQ.isCell, hR.val, hQ.val, hR.cells, hQ.cells, hR.free, hQ.free, zn, h0]; exact compare_run (by omega) _ hS hR hQ h8 hb1 hb2 hky hkz kc hT hN) ?_
  refine ow_ml rfl ?_
  refine ow_mc ?_
  refine ow_nil ?_
  refine sk_n (by simp only [ze] <;> exact rfl) ?_
  refine cw_ret ?_
  refine ⟨_, by simp only [F15, resultD, resDs, resD, zg, zd, rowsOf, partD, List.take, List.drop, zm] <;> exact rfl, ?_⟩
  simp only [leaveP, leave, snapVs, snaps, zs, zf, zk]

end Go.Proofs.YtabgobmeibjeeaaGreatDoor

namespace Go.Proofs.YtabgobmeibjeeaaGreatDoor
set_option linter.unusedVariables false
set_option linter.unusedSimpArgs false
/-! records of digits -/
def qI (r : Int) : Int := IntKind.u32.wrap (r.tdiv 10)
def dgI (r : Int) : Int := IntKind.u8.wrap (48 + IntKind.u8.wrap (r.tmod 10))
def digs (r : Nat) : List UInt8 := [UInt8.ofNat (48 + r / 100000 % 10), UInt8.ofNat (48 + r / 10000 % 10), UInt8.ofNat (48 + r / 1000 % 10), UInt8.ofNat (48 + r / 100 % 10), UInt8.ofNat (48 + r / 10 % 10), UInt8.ofNat (48 + r % 10)]
theorem u8_of (m : Nat) (h : m < 256) : (UInt8.ofNat m).toNat = m := by simp only [UInt8.toNat_ofNat']; omega
theorem digs_len (r : Nat) : (digs r).length = 6 := rfl
theorem dig_of (m : Nat) : isDig (UInt8.ofNat (48 + m % 10)) = true := by
 simp only [isDig, Bool.and_eq_true, decide_eq_true_eq]
 rw [u8_of _ (by omega)]
 omega
theorem digs_dig (r : Nat) : ∀ c ∈ digs r, isDig c = true := by
 intro c hc
 simp only [digs, List.mem_cons, List.not_mem_nil, or_false] at hc
 rcases hc with rfl | rfl | rfl | rfl | rfl | rfl <;> exact dig_of _
/-! the order of lists of numbers -/
def lexI : List Int → List Int → Int
 | a :: l, b :: m => if a < b then -1 else if a > b then 1 else lexI l m
 | _, _ => 0
end Go.Proofs.YtabgobmeibjeeaaGreatDoor

namespace Go.Proofs.YtabgobmeibjeeaaGreatDoor
set_option linter.unusedVariables false
set_option linter.unusedSimpArgs false
def bI (l : List UInt8) : List Int := l.map fun c => (c.toNat : Int)
def Ke.sub (k : Ke) (l : List UInt8) : List UInt8 := (l.drop k.a).take k.n
def Ke.enc (k : Ke) (l : List UInt8) : List Int := if k.dn then (bI (k.sub l)).map (0 - ·) else bI (k.sub l)
def encs (ks : List Ke) (l : List UInt8) : List Int := (ks.map (·.enc l)).flatten
def ordR (ks : List Ke) (l m : List UInt8) : Int := lexI (encs ks l) (encs ks m)
end Go.Proofs.YtabgobmeibjeeaaGreatDoor

namespace Go.Proofs.YtabgobmeibjeeaaGreatDoor
set_option linter.unusedSimpArgs false
set_option linter.unusedVariables false
set_option maxRecDepth 10000

end Go.Proofs.YtabgobmeibjeeaaGreatDoor

namespace Go.Proofs.YtabgobmeibjeeaaGreatDoor
set_option linter.unusedSimpArgs false
set_option linter.unusedVariables false
set_option maxRecDepth 10000

def kT (a n : Nat) (dn : Bool) : Ke := ⟨⟨2, 0, mkS (List.replicate n 88), 0, 0, false, false, false, false, false, n⟩, a, n, dn⟩
def kN (a n : Nat) (dn : Bool) : Ke := ⟨⟨4, 0, mkS (List.replicate n 57), n, 0, false, false, false, false, false, n⟩, a, n, dn⟩
def kat (t : Nat × Nat × Nat) : Nat := t.1 % 6
def kln (t : Nat × Nat × Nat) : Nat := 1 + t.2.1 % (6 - kat t)
def keyOf (t : Nat × Nat × Nat) : Ke := if t.2.2 / 2 % 2 = 1 then kN (kat t) (kln t) (t.2.2 % 2 == 1) else kT (kat t) (kln t) (t.2.2 % 2 == 1)
def triRows (l : List (Nat × Nat × Nat)) : List (List D) := l.map fun t => [.int .u8 (t.1 : Int), .int .u8 (t.2.1 : Int), .int .u8 (t.2.2 : Int)]
def keysF (l : List (Nat × Nat × Nat)) : List Ke := if l = [] then [kT 0 6 false] else (l.take 4).map keyOf
end Go.Proofs.YtabgobmeibjeeaaGreatDoor

namespace Go.Proofs.YtabgobmeibjeeaaGreatDoor
set_option linter.unusedVariables false
set_option linter.unusedSimpArgs false
set_option maxRecDepth 10000

def GK (k : Ke) : Prop := ∃ a n dn, (k = kT a n dn ∨ k = kN a n dn) ∧ 1 ≤ n ∧ a + n ≤ 6
def Rec (l : List UInt8) : Prop := l.length = 6 ∧ ∀ c ∈ l, isDig c = true
theorem digs_rec (r : Nat) : Rec (digs r) := ⟨digs_len r, digs_dig r⟩
theorem Rec.sub {l : List UInt8} (h : Rec l) (a n : Nat) : ((l.drop a).take n).all isDig = true := by
 rw [List.all_eq_true]
 exact fun c hc => h.2 c (List.mem_of_mem_drop (List.mem_of_mem_take hc))
theorem SlD.subB {l : List UInt8} {x : D} (h : SlD 1 (bR l) x) (a n : Nat) : SlD 1 (bR ((l.drop a).take n)) (subD a n x) := by
 rw [← bR_sub]; exact h.sub a n
section
variable {ks : List Ke} {x y z : D} {l m : List UInt8}
end
theorem lives_run (d : Nat) (S : St) : runF LP NN (d + 30) 9 [] S = some (.bool true, S, false) := by kernel_rfl
end Go.Proofs.YtabgobmeibjeeaaGreatDoor

namespace Go.Proofs.YtabgobmeibjeeaaGreatDoor
set_option linter.unusedSimpArgs false
set_option linter.unusedVariables false
set_option maxRecDepth 10000

def fl (c : Nat → Nat → Int) (t : Nat) : List D := (List.range 9).map fun p => D.int .i64 (if p < t then c (p / 3) (p % 3) else 0)
theorem livesD {d : Nat} (hd : 30 ≤ d) (S : St) : runF LP NN d 9 [] S = some (.bool true, S, false) := by
 obtain ⟨d, rfl⟩ : ∃ d', d = d' + 30 := ⟨d - 30, by omega⟩
 exact lives_run d S
theorem a13 : (0 : Int) ≤ 1 ∧ (1 : Int) < ((3 : Nat) : Int) := by decide

end Go.Proofs.YtabgobmeibjeeaaGreatDoor

namespace Go.Proofs.YtabgobmeibjeeaaGreatDoor
open Go.ChangeShapes Go.WideShapes Go.ChangeAt Go.RowKit
set_option linter.unusedVariables false
set_option linter.unusedSimpArgs false
set_option maxRecDepth 100000

theorem own : ownKnob Tryz.prog.godebug = none := by kernel_rfl
theorem laidOut : laidOutB Tryz.prog = true := by kernel_rfl
theorem ty3 : Tryz.prog.underlying 3 = some (.int .i64) := by kernel_rfl
theorem ty4 : Tryz.prog.underlying 4 = some .bool := by kernel_rfl
theorem ty5 : Tryz.prog.underlying 5 = some (.int .u8) := by kernel_rfl
def laidL : List (String × DataW Unit) := Rows.sortsCompareRow.laid
theorem door_met (os : Os) (args : Array Value) : laidMetH Tryz.prog laidL ((World.laidAll Tryz.prog os laidL).forCall (fun _ _ => 0) ⟨#[], args, []⟩).memory := by
 rw [MakeChecks.laidMetH_plain _ _ _ (by kernel_rfl)]
 exact laidMet_laidAll _ (by kernel_rfl) (by kernel_rfl)

theorem vr_agg {W : World} {ds : List D} {cs : Array Value} (h : VL W (rho0 GT) [] ds cs.toList) (hf : freeL ds) : VR W (rho0 GT) [] (.agg ds) (.agg cs) := by
 obtain ⟨l⟩ := cs
 refine VR.agg ds l ?_ ?_ (fun j d v h1 h2 => h.get h1 h2)
 ·
  exact h.len
 ·
  rw [List.all_eq_true]
  intro d hd
  have := hf d hd
  cases d <;> first | rfl | (simp [D.free, D.free0] at this)
def numRows (l : List Nat) : List (List D) := l.map fun n : Nat => [.int .u32 (n : Int)]
end Go.Proofs.YtabgobmeibjeeaaGreatDoor

namespace Go.Proofs.YtabgobmeibjeeaaGreatDoor
set_option linter.unusedVariables false
set_option linter.unusedSimpArgs false

section
variable {α : Type} {c : α → α → Int}
structure Cmp (c : α → α → Int) : Prop where
 refl : ∀ x, c x x = 0
 swap : ∀ x y, c x y = 0 - c y x
 trans : ∀ x y z, c x y ≤ 0 → c y z ≤ 0 → c x z ≤ 0
def Same (c : α → α → Int) (m m' : List α) : Prop := m'.length = m.length ∧ ∀ x, m.filter (fun y => c x y == 0) = m'.filter (fun y => c x y == 0)
theorem Same.refl (m : List α) : Same c m m := ⟨rfl, fun _ => rfl⟩
theorem Same.trans {a b d : List α} (h : Same c a b) (h' : Same c b d) : Same c a d := ⟨h'.1.trans h.1, fun x => (h.2 x).trans (h'.2 x)⟩
theorem Same.symm {a b : List α} (h : Same c a b) : Same c b a := ⟨h.1.symm, fun x => (h.2 x).symm⟩
theorem Same.app {a b p q : List α} (h : Same c a b) (h' : Same c p q) : Same c (a ++ p) (b ++ q) := ⟨by simp [h.1, h'.1], fun x => by simp only [List.filter_append, h.2 x, h'.2 x]⟩
theorem Same.blocks (hc : Cmp c) {u v : List α} (h : ∀ x ∈ u, ∀ y ∈ v, c x y ≠ 0) : Same c (u ++ v) (v ++ u) := by
 refine ⟨by simp [Nat.add_comm], fun z => ?_⟩
 simp only [List.filter_append]
 by_cases hu : u.filter (fun y => c z y == 0) = []
 ·
  rw [hu]; simp
 ·
  by_cases hv : v.filter (fun y => c z y == 0) = []
  ·
   rw [hv]; simp
  ·
   exfalso
   obtain ⟨x, hx⟩ := List.exists_mem_of_ne_nil _ hu
   obtain ⟨y, hy⟩ := List.exists_mem_of_ne_nil _ hv
   simp only [List.mem_filter, beq_iff_eq] at hx hy
   have h1 := hc.swap z x
   have h2 := hc.trans x z y (by omega) (by omega)
   have h3 := hc.swap z y
   have h4 := hc.trans y z x (by omega) (by omega)
   have h5 := hc.swap x y
   exact h x hx.1 y hy.1 (by omega)
theorem Same.mid (hc : Cmp c) (p q : List α) {u v : List α} (h : ∀ x ∈ u, ∀ y ∈ v, c x y ≠ 0) : Same c (p ++ u ++ v ++ q) (p ++ v ++ u ++ q) := by
 rw [List.append_assoc p u v, List.append_assoc p v u]
 exact ((Same.refl p).app (Same.blocks hc h)).app (Same.refl q)
def Srt (c : α → α → Int) (m : List α) (a b : Nat) : Prop := ∀ (i j : Nat) (x y : α), a ≤ i → i ≤ j → j < b → m[i]? = some x → m[j]? = some y → c x y ≤ 0
theorem Srt.sub {m : List α} {a b a' b' : Nat} (h : Srt c m a b) (ha : a ≤ a') (hb : b' ≤ b) : Srt c m a' b' := fun i j x y h1 h2 h3 => h i j x y (by omega) h2 (by omega)
theorem Srt.small (hc : Cmp c) {m : List α} {a b : Nat} (h : b ≤ a + 1) : Srt c m a b := fun i j x y h1 h2 h3 e1 e2 => by
 obtain rfl : i = j := by omega
 rw [e1] at e2
 obtain rfl := Option.some.inj e2
 have := hc.refl x; omega
def Eqr (m m' : List α) (a b : Nat) : Prop := ∀ i, a ≤ i → i < b → m'[i]? = m[i]?
theorem Eqr.trans {m m' m'' : List α} {a b : Nat} (h : Eqr m m' a b) (h' : Eqr m' m'' a b) : Eqr m m'' a b := fun i h1 h2 => (h' i h1 h2).trans (h i h1 h2)
theorem Eqr.sub {m m' : List α} {a b a' b' : Nat} (h : Eqr m m' a b) (ha : a ≤ a') (hb : b' ≤ b) : Eqr m m' a' b' := fun i h1 h2 => h i (by omega) (by omega)
theorem Eqr.refl (m : List α) (a b : Nat) : Eqr m m a b := fun _ _ _ => rfl
def IsS (c : α → α → Int) (m m' : List α) : Prop := Same c m m' ∧ Srt c m' 0 m'.length
/-! lists in parts -/
def swp (m : List α) (i : Nat) (x y : α) : List α := (m.set i y).set (i + 1) x
theorem swp_get {m : List α} {i : Nat} {x y : α} (h1 : m[i]? = some x) (h2 : m[i + 1]? = some y) (j : Nat) : (swp m i x y)[j]? = if j = i then some y else if j = i + 1 then some x else m[j]? := by
 obtain ⟨hi1, e1⟩ := List.getElem?_eq_some_iff.1 h1
 obtain ⟨hi2, e2⟩ := List.getElem?_eq_some_iff.1 h2
 unfold swp
 rw [List.getElem?_set, List.getElem?_set]
 by_cases a : i + 1 = j
 ·
  subst a; simp [hi2]
 ·
  by_cases b : i = j
  ·
   subst b; simp [hi1]
  ·
   simp [a, b]; rw [if_neg (by omega), if_neg (by omega)]
end
end Go.Proofs.YtabgobmeibjeeaaGreatDoor

namespace Go.Proofs.YtabgobmeibjeeaaGreatDoor
set_option linter.unusedVariables false
set_option linter.unusedSimpArgs false

abbrev RecT := {l : List UInt8 // Rec l}
instance : Inhabited RecT := ⟨⟨digs 0, digs_rec 0⟩⟩
def recD (l : List UInt8) : D := .sl 1 (bR l) (some 6)
def rR (m : List RecT) : List (List D) := m.map fun l => [recD l.1]
theorem rR_len (m : List RecT) : (rR m).length = m.length := by simp [rR]
theorem rR_at {m : List RecT} {i : Nat} {l : RecT} (h : m[i]? = some l) : (rR m)[i]? = some [recD l.1] := by simp [rR, h]
def cK (ks : List Ke) (x y : RecT) : Int := ordR ks x.1 y.1
def put (H : List AObj) (g v : Nat) (m : List RecT) : List AObj := H.set g ⟨43, 1, rR m, v, 2, false⟩
section
variable {call : CallF} {H : List AObj} {g v n : Nat} {m : List RecT} {lo : Nat}
end
def FinR (P : St → Prop) : LExit → List D → St → Prop
 | .exit _, _, _ => False
 | _, _, S2 => P S2
/-! a round of the insertion -/
section
variable {α : Type} {c : α → α → Int}
def But (c : α → α → Int) (m : List α) (a i j : Nat) : Prop := ∀ (p q : Nat) (x y : α), a ≤ p → p ≤ q → q ≤ i → q ≠ j → m[p]? = some x → m[q]? = some y → c x y ≤ 0
theorem But.start {m : List α} {a i : Nat} (h : Srt c m a i) : But c m a i i := fun p q x y h1 h2 h3 h4 => h p q x y h1 h2 (by omega)
theorem But.low (hc : Cmp c) {m : List α} {a i : Nat} (h : But c m a i a) : Srt c m a (i + 1) := by
 intro p q x y h1 h2 h3 e1 e2
 by_cases hq : q = a
 ·
  obtain rfl : p = q := by omega
  rw [e1] at e2
  obtain rfl := Option.some.inj e2
  have := hc.refl x; omega
 ·
  exact h p q x y h1 h2 (by omega) hq e1 e2
theorem But.next (hc : Cmp c) {m : List α} {a i j : Nat} {x y : α} (h : But c m a i (j + 1)) (hj : a ≤ j) (hji : j + 1 ≤ i) (hx : m[j]? = some x) (hy : m[j + 1]? = some y) (hxy : c y x < 0) : But c (swp m j x y) a i j := by
  intro p q u w h1 h2 h3 h4 e1 e2
  rw [swp_get hx hy] at e1 e2
  rw [if_neg h4] at e2
  by_cases hq : q = j + 1
  · rw [if_pos hq] at e2
    obtain rfl := Option.some.inj e2
    by_cases hp : p = j
    · rw [if_pos hp] at e1
      obtain rfl := Option.some.inj e1
      omega
    · rw [if_neg hp] at e1
      by_cases hp' : p = j + 1
      · rw [if_pos hp'] at e1
        obtain rfl := Option.some.inj e1
        have := hc.refl x; omega
      · rw [if_neg hp'] at e1
        exact h p j u x h1 (by omega) (by omega) (by omega) e1 hx
  · rw [if_neg hq] at e2
    by_cases hp : p = j
    · rw [if_pos hp] at e1
      obtain rfl := Option.some.inj e1
      exact h (j + 1) q y w (by omega) (by omega) h3 hq hy e2
    · rw [if_neg hp] at e1
      by_cases hp' : p = j + 1
      · rw [if_pos hp'] at e1
        obtain rfl := Option.some.inj e1
        exact h j q x w hj (by omega) h3 hq hx e2
      · rw [if_neg hp'] at e1
        exact h p q u w h1 h2 h3 hq e1 e2
end
end Go.Proofs.YtabgobmeibjeeaaGreatDoor

namespace Go.Proofs.YtabgobmeibjeeaaGreatDoor
set_option linter.unusedSimpArgs false
set_option linter.unusedVariables false
set_option maxRecDepth 10000

end Go.Proofs.YtabgobmeibjeeaaGreatDoor

namespace Go.Proofs.YtabgobmeibjeeaaGreatDoor
set_option linter.unusedSimpArgs false
set_option linter.unusedVariables false
set_option maxRecDepth 10000

end Go.Proofs.YtabgobmeibjeeaaGreatDoor

namespace Go.Proofs.YtabgobmeibjeeaaGreatDoor
set_option linter.unusedSimpArgs false
set_option linter.unusedVariables false
set_option maxRecDepth 10000

end Go.Proofs.YtabgobmeibjeeaaGreatDoor

namespace Go.Proofs.YtabgobmeibjeeaaGreatDoor
set_option linter.unusedVariables false
set_option linter.unusedSimpArgs false

section
variable {α : Type} {c : α → α → Int}
def rot (m : List α) (s k e : Nat) : List α := m.take s ++ (m.drop k).take (e - k) ++ (m.drop s).take (k - s) ++ m.drop e
structure RotF (c : α → α → Int) (m m' : List α) (a s mid e b : Nat) : Prop where
 same : Same c m m'
 e1 : Eqr m m' 0 a
 e2 : Eqr m m' b m.length
 s1 : Srt c m' a s
 s2 : Srt c m' s mid
 s3 : Srt c m' mid e
 s4 : Srt c m' e b
 cross : ∀ (i j : Nat) (x y : α), a ≤ i → i < mid → mid ≤ j → j < b → m'[i]? = some x → m'[j]? = some y → c x y ≤ 0
end
end Go.Proofs.YtabgobmeibjeeaaGreatDoor

namespace Go.Proofs.YtabgobmeibjeeaaGreatDoor
set_option linter.unusedVariables false
set_option linter.unusedSimpArgs false

def CutK (I : List D → St → Prop) : LExit → List D → St → Prop
 | .normal, env, S => I env S
 | _, _, _ => False
theorem ck_n {I : List D → St → Prop} {env env' : List D} {S : St} (h : env = env') (h2 : I env' S) : CutK I .normal env S := by subst h; exact h2
theorem cw_cut {call : CallF} {Q : LExit → List D → St → Prop} {env : List D} {S : St} {a b : LCode} (I : List D → St → Prop) (h1 : CW call a (CutK I) env S) (h2 : ∀ env S, I env S → CW call b Q env S) : CW call (.seq a b) Q env S := by
 refine cw_seq (cw_mono h1 ?_)
 intro e env' S' h
 cases e with
 | normal => exact h2 env' S' h
 | ret => exact h.elim
 | exit i => exact h.elim
section
variable {α : Type} {c : α → α → Int}
theorem Eqr.take {m m' : List α} {a : Nat} (h : Eqr m m' 0 a) : m'.take a = m.take a := by
  apply List.ext_getElem?
  intro i
  by_cases hi : i < a
  · rw [List.getElem?_take_of_lt hi, List.getElem?_take_of_lt hi]; exact h i (by omega) hi
  · rw [List.getElem?_take_eq_none (by omega), List.getElem?_take_eq_none (by omega)]
theorem Eqr.drop {m m' : List α} {b : Nat} (h : Eqr m m' b m.length) (hl : m'.length = m.length) : m'.drop b = m.drop b := by
  apply List.ext_getElem?
  intro i
  rw [List.getElem?_drop, List.getElem?_drop]
  by_cases hi : b + i < m.length
  · exact h (b + i) (by omega) hi
  · rw [List.getElem?_eq_none (by omega), List.getElem?_eq_none (by omega)]
end
end Go.Proofs.YtabgobmeibjeeaaGreatDoor

namespace Go.Proofs.YtabgobmeibjeeaaGreatDoor
set_option linter.unusedSimpArgs false
set_option linter.unusedVariables false
set_option maxRecDepth 10000
set_option maxHeartbeats 4000000

/-! where a search stands -/
def LtA (ks : List Ke) (m : List RecT) (i0 i : Nat) (x : RecT) : Prop := i = i0 ∨ ∃ y, m[i - 1]? = some y ∧ cK ks y x < 0
def GeA (ks : List Ke) (m : List RecT) (j0 j : Nat) (x : RecT) : Prop := j = j0 ∨ ∃ y, m[j]? = some y ∧ ¬ cK ks y x < 0
def GeB (ks : List Ke) (m : List RecT) (i0 i : Nat) (y : RecT) : Prop := i = i0 ∨ ∃ z, m[i - 1]? = some z ∧ ¬ cK ks y z < 0
def LtB (ks : List Ke) (m : List RecT) (j0 j : Nat) (y : RecT) : Prop := j = j0 ∨ ∃ z, m[j]? = some z ∧ cK ks y z < 0
def GeE (ks : List Ke) (m : List RecT) (q s0 s : Nat) : Prop := s = s0 ∨ ∃ x y, m[q - s]? = some x ∧ m[s - 1]? = some y ∧ ¬ cK ks x y < 0
def LtE (ks : List Ke) (m : List RecT) (q r0 r : Nat) : Prop := r = r0 ∨ ∃ x y, m[q - r - 1]? = some x ∧ m[r]? = some y ∧ cK ks x y < 0

end Go.Proofs.YtabgobmeibjeeaaGreatDoor

namespace Go.Proofs.YtabgobmeibjeeaaGreatDoor
set_option linter.unusedVariables false
set_option linter.unusedSimpArgs false

section
variable {α : Type} {c : α → α → Int}
inductive Bl (c : α → α → Int) (m : List α) (n bs : Nat) : Nat → Prop
 | nil {a : Nat} (h : n ≤ a) : Bl c m n bs a
 | cons {a : Nat} (h : Srt c m a (min (a + bs) n)) (t : Bl c m n bs (a + bs)) : Bl c m n bs a
inductive Pb (c : α → α → Int) (m : List α) (n bs : Nat) : Nat → Prop
 | nil : Pb c m n bs 0
 | cons {a : Nat} (t : Pb c m n bs a) (h : Srt c m a (a + bs)) (hb : a + bs ≤ n) : Pb c m n bs (a + bs)
theorem Pb.all {m : List α} {n bs a : Nat} (h : Pb c m n bs a) : Bl c m n bs a → Bl c m n bs 0 := by
 induction h with
 | nil => exact id
 | cons t h hb ih => exact fun k => ih (.cons (by rw [Nat.min_eq_left hb]; exact h) k)
theorem Bl.head {m : List α} {n bs a : Nat} (h : Bl c m n bs a) (ha : a < n) : Srt c m a (min (a + bs) n) ∧ Bl c m n bs (a + bs) := by
 cases h with
 | nil h => omega
 | cons h t => exact ⟨h, t⟩
theorem Bl.last {m : List α} {n bs a : Nat} (h : Srt c m a n) (hn : n ≤ a + bs) : Bl c m n bs a := .cons (by rw [Nat.min_eq_right hn]; exact h) (.nil hn)
theorem Bl.whole (hc : Cmp c) {m : List α} {n bs : Nat} (h : Bl c m n bs 0) (hn : n ≤ bs) : Srt c m 0 n := by
  by_cases h0 : n = 0
  · exact Srt.small hc (by omega)
  · have := (h.head (by omega)).1
    rw [Nat.min_eq_right (by omega)] at this
    exact this
theorem Bl.rest (hc : Cmp c) {m : List α} {n bs a : Nat} (h : Bl c m n bs a) (hn : n ≤ a + bs) : Bl c m n (2 * bs) a := by
 by_cases h0 : n ≤ a
 ·
  exact .nil h0
 ·
  have := (h.head (by omega)).1
  rw [Nat.min_eq_right hn] at this
  exact Bl.last this (by omega)
end
end Go.Proofs.YtabgobmeibjeeaaGreatDoor

namespace Go.Proofs.YtabgobmeibjeeaaGreatDoor
set_option linter.unusedSimpArgs false
set_option linter.unusedVariables false
set_option maxRecDepth 10000
set_option maxHeartbeats 4000000

end Go.Proofs.YtabgobmeibjeeaaGreatDoor

namespace Go.Proofs.YtabgobmeibjeeaaGreatDoor
set_option linter.unusedSimpArgs false
set_option linter.unusedVariables false
set_option maxRecDepth 10000
set_option maxHeartbeats 4000000

theorem clone_run {d : Nat} (hd : 1 ≤ d) (S : St) (l : List UInt8) (c : Option Nat) (h0 : l ≠ []) (hl : l.length ≤ 1000000) : runF LP NN d 45 [.sl 1 (bR l) c] S = some (.sl 1 (bR l) none, S, false) := by
 have happ : appendD 5 1 1 1 (.sl 1 [] (some 0)) (.sl 1 (bR l) c) ⟨[], 0⟩ = some (.msl 0 0 0 l.length none, ⟨[⟨5, 1, bR l, 0, 1, true⟩], 0⟩, true) := by
  have h1 : (bR l).isEmpty = false := by cases l <;> simp [bR] at h0 ⊢
  have h2 : ((bR l).length) * 1 ≤ 140737488355328 := by rw [bR_len]; omega
  simp [appendD, readRows, appendRows, h1, bR_len, newAt]
  omega
 refine run_pure (F := F45) rfl (by simp only [LP, fnOf, snapVs, snaps, zs, zm, zv] <;> exact rfl) rfl (by simp only [LP, zf, zm]; try rfl) (by simp only [F45, zv] <;> exact rfl) (by omega) ?_
 rintro d rfl
 refine cw_seq (cw_region ?_)
 refine ow_mc ?_
 refine ow_nil ?_
 refine sk_n (by simp only [ze] <;> exact rfl) ?_
 refine cw_seq (cw_seq (cw_region ?_))
 refine ow_me rfl ?_
 refine ow_op (by simp only [zo, eqnilD, happ] <;> exact rfl) ?_
 refine ow_nil ?_
 refine sk_n (by simp only [ze] <;> exact rfl) ?_
 skip
 refine cw_false (by simp only [opd, zv, happ] <;> rfl) ?_
 refine cw_skip (sk_n rfl (cw_seq (cw_region ?_)))
 refine ow_op (by simp only [zl, zm, fillRows, List.replicate, snapVs, snaps, zs, zc, zf, happ] <;> exact rfl) ?_
 refine ow_me rfl ?_
 refine ow_op (by simp only [opd, zv, exOp, aop, LOp.loud, lop, if_true, happ] <;> exact rfl) ?_
 refine ow_ml rfl ?_
 refine ow_nil ?_
 refine sk_n (by simp only [ze] <;> exact rfl) ?_
 refine cw_ret ?_
 refine ⟨_, by simp only [F45, resultD, resDs, resD, zg, zd, rowsOf, partD, List.take, List.drop, zm] <;> exact rfl, ?_⟩
 exact leaveP_app (by rfl) (by rw [bR_len])

theorem clip_run {d : Nat} (hd : 1 ≤ d) (S : St) (l : List UInt8) (c : Option Nat) : runF LP NN d 47 [.sl 1 (bR l) c] S = some (.sl 1 (bR l) (some l.length), S, false) := by
 have hS : SlD 1 (bR l) (.sl 1 (bR l) c) := .of _ _ _
 have hcl : ∀ T : St, sliceD T 1 (.sl 1 (bR l) c) none (some (.int .i64 ((l.length : Nat) : Int))) (some (.int .i64 ((l.length : Nat) : Int))) = some (.sl 1 (bR l) (some l.length)) := by
  intro T
  have := hS.slice_clip T
  rw [bR_len] at this
  rw [this]; simp [clipD, bR_len]
 refine run_pure (F := F47) rfl (by simp only [LP, fnOf, snapVs, snaps, zs, zm, zv] <;> exact rfl) rfl (by simp only [LP, zf, zm]; try rfl) (by simp only [F47, zv] <;> exact rfl) (by omega) ?_
 rintro d rfl
 refine cw_seq (cw_region ?_)
 refine ow_mc ?_
 refine ow_nil ?_
 refine sk_n (by simp only [ze] <;> exact rfl) ?_
 refine cw_seq (cw_region ?_)
 refine ow_me rfl ?_
 refine ow_me rfl ?_
 refine ow_op (by simp only [zo, lenD_str, lenD_nils, lenD_sl, lenD_msl, hS.len, bR_len, hcl] <;> exact rfl) ?_
 refine ow_me rfl ?_
 refine ow_op (by simp only [zo, lenD_str, lenD_nils, lenD_sl, lenD_msl, hS.len, bR_len, hcl] <;> exact rfl) ?_
 refine ow_op (by simp only [opd, zv, exOp, aop, LOp.loud, lop, if_true, sliceArgs, Option.map_some, hS.len, bR_len, hcl] <;> exact rfl) ?_
 refine ow_ml rfl ?_
 refine ow_nil ?_
 refine sk_n (by simp only [ze] <;> exact rfl) ?_
 refine cw_ret ?_
 refine ⟨_, by simp only [F47, resultD, resDs, resD, zg, zd, rowsOf, partD, List.take, List.drop, zm] <;> exact rfl, ?_⟩
 simp only [leaveP, leave, snapVs, snaps, zs, zf, zk]

def RowsOf (m : List RecT) (rows : List (List D)) : Prop := rows.length = m.length ∧ ∀ (i : Nat) (l : RecT), m[i]? = some l → ∃ c : Option Nat, rows[i]? = some [.sl 1 (bR l.1) c]
theorem RowsOf.rR (m : List RecT) : RowsOf m (rR m) := ⟨rR_len m, fun i l h => ⟨some 6, rR_at h⟩⟩
def filled (m : List RecT) (i : Nat) : List (List D) := rR (m.take i) ++ List.replicate (m.length - i) [.nils]
def FinE (F : LFunc) (P : D → Prop) : LExit → List D → St → Prop
 | .exit _, _, _ => False
 | _, env', S2 => ∃ r0 r, resultD env' S2 F.res = some r0 ∧ P r ∧ leaveP ⟨[], 0⟩ r0 S2 = some (r, ⟨[], 0⟩, false)
end Go.Proofs.YtabgobmeibjeeaaGreatDoor

namespace Go.Proofs.YtabgobmeibjeeaaGreatDoor
set_option linter.unusedVariables false
set_option linter.unusedSimpArgs false
set_option maxRecDepth 10000

theorem loopN_mono {f : List D → St → Option (LExit × List D × St)} : ∀ {k : Nat} {env : List D} {S : St} {r : LExit × List D × St}, loopN f k env S = some r → loopN f (k + 1) env S = some r
 | 0, env, S, r, h => by simp [loopN] at h
 | k + 1, env, S, r, h => by
  rw [loopN] at h ⊢
  cases e : f env S with
  | none => rw [e] at h; simp at h
  | some x =>
   obtain ⟨ex, env1, S1⟩ := x
   rw [e] at h
   cases ex with
   | normal => exact loopN_mono h
   | ret => exact h
   | exit i => exact h
def CL (call : CallF) (k : Nat) (c : LCode) (Q : LExit → List D → St → Prop) (env : List D) (S : St) : Prop := ∃ e env' S', loopN (exCode call NN c) k env S = some (e, env', S') ∧ Q e env' S'
theorem loopN_le {f : List D → St → Option (LExit × List D × St)} {k : Nat} {env : List D} {S : St} {r : LExit × List D × St} (h : loopN f k env S = some r) (j : Nat) : loopN f (k + j) env S = some r := by
 induction j with
 | zero => exact h
 | succ j ih => exact loopN_mono ih
section
variable {call : CallF} {Q : LExit → List D → St → Prop} {env env' : List D} {S : St} {c : LCode} {k : Nat}
def LuK (call : CallF) (k : Nat) (c : LCode) (Q : LExit → List D → St → Prop) : LExit → List D → St → Prop
 | .normal, env, S => CL call k c Q env S
 | e, env, S => Q e env S
theorem lu_n (h : env = env') (h2 : CL call k c Q env' S) : LuK call k c Q .normal env S := by subst h; exact h2
theorem lu_r (h : Q .ret env S) : LuK call k c Q .ret env S := h
theorem lu_e {i : Nat} (h : Q (.exit i) env S) : LuK call k c Q (.exit i) env S := h
theorem cl_step (h : CW call c (LuK call k c Q) env S) : CL call (k + 1) c Q env S := by
 obtain ⟨e, env', S', h1, h2⟩ := h
 unfold CL
 simp only [loopN, h1]
 cases e with
 | normal => exact h2
 | ret => exact ⟨_, _, _, rfl, h2⟩
 | exit i => exact ⟨_, _, _, rfl, h2⟩
theorem cw_unroll (h : CL call 1000 c Q env S) : CW call (.loop c) Q env S := by
 obtain ⟨e, env', S', h1, h2⟩ := h
 refine ⟨e, env', S', ?_, h2⟩
 simp only [exCode]
 have := loopN_le h1 (18446744073709551616 - 1000)
 exact this
end
def dch (k : Nat) : UInt8 := UInt8.ofNat (48 + k)
end Go.Proofs.YtabgobmeibjeeaaGreatDoor

namespace Go.Proofs.YtabgobmeibjeeaaGreatDoor
set_option linter.unusedVariables false
set_option linter.unusedSimpArgs false
set_option maxRecDepth 100000

theorem bR_of {rows : List (List D)} (hr : ∀ r ∈ rows, Sh Tryz.prog 2 5 r) : ∃ l : List UInt8, rows = bR l := by
 obtain ⟨l, rfl⟩ := rows_of (f := fun a : UInt8 => [D.int .u8 (a.toNat : Int)]) (rows := rows) (fun r h => by
  obtain ⟨n0, rfl, w0⟩ := Sh.int ty5 (hr r h)
  obtain ⟨m0, rfl, b0⟩ := u8_nat w0
  exact ⟨UInt8.ofNat m0, by simp [UInt8.toNat_ofNat, Nat.mod_eq_of_lt b0]⟩)
 exact ⟨l, rfl⟩
theorem bytesArg {ds : List D} (h : Sh Tryz.prog 3 43 ds) : ∃ (x : D) (l : List UInt8), ds = [x] ∧ SlD 1 (bR l) x ∧ l.length ≤ 9223372036854775807 := by
 have e1 : Tryz.prog.cellsOf 5 = 1 := by kernel_rfl
 obtain ⟨x, rows, rfl, hS, hm, hr⟩ := Sh.slice (e := 5) (by kernel_rfl) h
 rw [e1] at hS
 obtain ⟨l, rfl⟩ := bR_of hr
 refine ⟨x, l, rfl, hS, ?_⟩
 have : maxLen ≤ 9223372036854775807 := by decide
 simp only [bR, List.length_map] at hm
 omega
end Go.Proofs.YtabgobmeibjeeaaGreatDoor

namespace Go.Proofs.YtabgobmeibjeeaaGreatDoor
set_option linter.unusedVariables false
set_option linter.unusedSimpArgs false
set_option maxRecDepth 100000

def shX (n : Nat) : List D := [.int .u8 (if n = 0 then 0 else 2), .int .u8 0, .str (mkS (List.replicate n 88)), .int .i64 0, .int .i64 0, .bool false, .bool false, .bool false, .bool false, .bool false, .int .i64 n]
theorem text40 (d : Nat) (S : St) : (List.range 40).map (fun k => fastF LP NN (d + 12) 27 [.int .i64 ((k : Nat) : Int)] S) = (List.range 40).map (fun k => some (.agg (shX k), S, false)) := by kernel_rfl
theorem number18 (d : Nat) (S : St) : (List.range 18).map (fun k => fastF LP NN (d + 12) 28 [.int .i64 ((k + 1 : Nat) : Int)] S) = (List.range 18).map (fun k => some (.agg (shN (k + 1)), S, false)) := by kernel_rfl
theorem check18 (d : Nat) (S : St) : (List.range 18).map (fun k => fastF LP NN (d + 12) 117 [.agg (shN (k + 1))] S) = (List.range 18).map (fun _ => some (.int .i64 0, S, false)) := by kernel_rfl
theorem textX_run {d : Nat} (hd : 12 ≤ d) (S : St) (n : Nat) (h : n < 40) : runF LP NN d 27 [.int .i64 (n : Nat)] S = some (.agg (shX n), S, false) := by
 obtain ⟨d, rfl⟩ : ∃ d', d = d' + 12 := ⟨d - 12, by omega⟩
 exact fast_ok (tab_at (text40 d S) n h)
theorem numX_run {d : Nat} (hd : 12 ≤ d) (S : St) (n : Nat) (h1 : 1 ≤ n) (h : n ≤ 18) : runF LP NN d 28 [.int .i64 (n : Nat)] S = some (.agg (shN n), S, false) := by
 obtain ⟨d, rfl⟩ : ∃ d', d = d' + 12 := ⟨d - 12, by omega⟩
 obtain ⟨k, rfl⟩ : ∃ k, n = k + 1 := ⟨n - 1, by omega⟩
 exact fast_ok (tab_at (number18 d S) k (by omega))
theorem checkX_run {d : Nat} (hd : 12 ≤ d) (S : St) (n : Nat) (h1 : 1 ≤ n) (h : n ≤ 18) : runF LP NN d 117 [.agg (shN n)] S = some (.int .i64 0, S, false) := by
 obtain ⟨d, rfl⟩ : ∃ d', d = d' + 12 := ⟨d - 12, by omega⟩
 obtain ⟨k, rfl⟩ : ∃ k, n = k + 1 := ⟨n - 1, by omega⟩
 exact fast_ok (tab_at (check18 d S) k (by omega))
theorem uckX {d : Nat} (hd : 14 ≤ d) (S : St) (n : Nat) (h1 : 1 ≤ n) (h6 : n ≤ 18) {x : D} {l : List UInt8} (hS : SlD 1 (bR l) x) (hl : l.length = n) : runF LP NN d 78 [.agg [.int .u8 4, .int .u8 0, .str (mkS (List.replicate n 57)), .int .i64 n, .int .i64 0, .bool false, .bool false, .bool false, .bool false, .bool false, .int .i64 n, x]] S = some (.int .i64 (if l.all isDig then 0 else 15), S, false) := by
 cases e : l.all isDig with
 | true => exact uCheck_true hd S 0 _ _ _ _ false false false false false 162 163 false l hS (by rw [bR_len, hl]) (fun d S h => of0_run h S 4 _ _ _ _ _ _ _ _) (fun d S h => (zonedU_run (by omega) S _ _ _ _ _ _ _ _ _ hS (by omega)).trans (by rw [e])) (fun d S h => checkX_run h S n h1 h6)
 | false => exact uCheck_false hd S 0 _ _ _ _ false false false false false 162 163 false l hS (by rw [bR_len, hl]) (fun d S h => of0_run h S 4 _ _ _ _ _ _ _ _) (fun d S h => (zonedU_run (by omega) S _ _ _ _ _ _ _ _ _ hS (by omega)).trans (by rw [e])) (fun d S h => checkX_run h S n h1 h6)
theorem getX {d : Nat} (hd : 14 ≤ d) (S : St) (n : Nat) (h1 : 1 ≤ n) (h6 : n ≤ 18) {x : D} {l : List UInt8} (hS : SlD 1 (bR l) x) (hl : l.length = n) (e : l.all isDig = true) : runF LP NN d 51 [.agg [.int .u8 4, .int .u8 0, .str (mkS (List.replicate n 57)), .int .i64 n, .int .i64 0, .bool false, .bool false, .bool false, .bool false, .bool false, .int .i64 n, x]] S = some (.tup [.agg [.bool false, .str (mkS (strip l)), .int .i64 0], .int .i64 0], S, false) := by
 refine (get_run hd S 0 _ _ _ false false false false false 162 163 false l hS (by rw [bR_len, hl]) (fun d S h => of0_run h S 4 _ _ _ _ _ _ _ _) (fun d S h => (zonedU_run (by omega) S _ _ _ _ _ _ _ _ _ hS (by omega)).trans (by rw [e])) (fun d S h => checkX_run h S n h1 h6) ?_ (by omega)).trans (by rw [Bool.false_and])
 have : l ≠ [] := by intro h; subst h; simp at hl; omega
 simp only [isNum, e, Bool.and_true, Bool.not_eq_true', beq_eq_false_iff_ne, ne_eq]
 exact this

def szE (num : Bool) (zs : Nat) : Nat := if num then 1 + zs % 18 else zs % 40
def shpE (num ed : Bool) (zs : Nat) : Shp := ⟨if ed then 5 else if num then 4 else if zs % 40 = 0 then 0 else 2, 0, mkS (List.replicate (szE num zs) (if num then 57 else 88)), if num then szE num zs else 0, 0, false, false, false, false, false, szE num zs⟩
def okE (size pa pl : Int) (h : Shp) : Prop := ¬ pa < 0 ∧ ¬ pl < 1 ∧ ¬ pl > size ∧ ¬ pa > IntKind.i64.wrap (size - pl) ∧ h.sz = pl ∧ h.cat ≠ 5
instance (size pa pl : Int) (h : Shp) : Decidable (okE size pa pl h) := by unfold okE; infer_instance
structure GE (size : Nat) (k : Ke) : Prop where
 kd : ∃ a n dn, (k = kT a n dn ∧ n ≤ 40) ∨ (k = kN a n dn ∧ n ≤ 18)
 n1 : 1 ≤ k.n
 fit : k.a + k.n ≤ size
theorem okE_key {size : Int} {num ed : Bool} {zs : Nat} {pa pl : Int} (h : okE size pa pl (shpE num ed zs)) (hs : size ≤ 4096) (hpa : pa ≤ 9223372036854775807) : ∃ (a n s : Nat), pa = a ∧ pl = n ∧ size = s ∧ 1 ≤ s ∧ s ≤ 4096 ∧ ed = false ∧ GE s ⟨shpE num ed zs, a, n, false⟩ ∧ n = szE num zs := by
 obtain ⟨h1, h2, h3, h4, h5, h6⟩ := h
 obtain ⟨a, rfl⟩ : ∃ a : Nat, pa = a := ⟨pa.toNat, by omega⟩
 obtain ⟨n, rfl⟩ : ∃ n : Nat, pl = n := ⟨pl.toNat, by omega⟩
 obtain ⟨s, rfl⟩ : ∃ s : Nat, size = s := ⟨size.toNat, by omega⟩
 have hed : ed = false := by cases ed with
  | false => rfl
  | true => exact absurd rfl h6
 subst hed
 have hn : n = szE num zs := by simp only [shpE] at h5; omega
 rw [IntKind.wrap_i64] at h4
 refine ⟨a, n, s, rfl, rfl, rfl, by omega, by omega, rfl, ⟨⟨a, n, false, ?_⟩, by show 1 ≤ n; omega, by show a + n ≤ s; omega⟩, hn⟩
 subst hn
 cases num with
 | true =>
  refine .inr ⟨?_, by simp [szE]; omega⟩
  simp [shpE, kN, szE]
 | false =>
  refine .inl ⟨?_, by simp [szE]; omega⟩
  have hz : ¬ zs % 40 = 0 := by simp only [szE, Bool.false_eq_true, if_false] at h2; omega
  simp [shpE, kT, szE, hz]
theorem ge_ok {size : Nat} {k : Ke} (h : GE size k) : KOK size k := by
 obtain ⟨⟨a, n, dn, ⟨rfl, hn⟩ | ⟨rfl, hn⟩⟩, h1, h2⟩ := h
 ·
  exact ⟨h1, h2, rfl, .inl rfl⟩
 ·
  refine ⟨h1, h2, rfl, .inr ⟨rfl, 15, .inr rfl, fun d S hd => ?_⟩⟩
  have hS : SlD 1 (bR (List.replicate n 0)) (.sl 1 (List.replicate n [.int .u8 0]) (some n)) := by
   have : bR (List.replicate n 0) = List.replicate n [.int .u8 0] := by simp [bR]
   rw [this]; exact .of _ _ _
  refine (uckX hd S n h1 hn hS (by simp)).trans ?_
  have : (List.replicate n (0 : UInt8)).all isDig = false := by
   obtain ⟨k, rfl⟩ : ∃ k, n = k + 1 := ⟨n - 1, by have h1 : 1 ≤ n := h1; omega⟩
   rw [List.replicate_succ, List.all_cons]; rfl
  rw [this]; rfl
def fitE (k : Ke) (l : List UInt8) : Bool := k.cat != 4 || ((l.drop k.a).take k.n).all isDig
section
variable {size : Nat} {k : Ke} {y z : D} {l : List UInt8}
theorem ge_len (h : GE size k) (hl : l.length = size) : ((l.drop k.a).take k.n).length = k.n := by
 have := h.fit
 rw [List.length_take, List.length_drop]; omega
theorem ge_uck (h : GE size k) (hR : SlD 1 (bR l) y) (hl : l.length = size) (hc : k.cat = 4) {d : Nat} (hd : 14 ≤ d) (S : St) : runF LP NN d 78 [.agg [.int .u8 k.cat, .int .u8 k.us, .str k.pic, .int .i64 k.dg, .int .i64 k.sc, .bool k.sg, .bool k.le, .bool k.se, .bool k.ju, .bool k.bl, .int .i64 k.sz, subD k.a k.n y]] S = some (.int .i64 (if fitE k l then 0 else 15), S, false) := by
 have hlen := ge_len h hl
 have h1 := h.n1
 obtain ⟨⟨a, n, dn, ⟨rfl, hn⟩ | ⟨rfl, hn⟩⟩, _, _⟩ := h
 ·
  simp [kT] at hc
 ·
  exact uckX hd S n h1 hn (hR.subB a n) hlen
theorem ge_text (h : GE size k) (hR : SlD 1 (bR l) y) (hQ : SlD 1 (bR l) z) (hl : l.length = size) (hs : size ≤ 4096) (hc : k.cat ≠ 4) {d : Nat} (hd : 3 ≤ d) (S : St) : runF LP NN d 53 [subD k.a k.n y, subD k.a k.n z] S = some (.int .i64 (cmpT ((l.drop k.a).take k.n) ((l.drop k.a).take k.n)), S, false) := by
 have hlen := ge_len h hl
 have hf := h.fit
 exact ccmp_run (l := (l.drop k.a).take k.n) (m := (l.drop k.a).take k.n) hd S (hR.subB k.a k.n) (hQ.subB k.a k.n) (by omega) rfl
theorem ge_num (h : GE size k) (hR : SlD 1 (bR l) y) (hQ : SlD 1 (bR l) z) (hl : l.length = size) (hc : k.cat = 4) (hf : fitE k l = true) : ∃ (na nb : Bool) (sa sb : ByteArray) (r : Int), (∀ (d : Nat) (S : St), 14 ≤ d → runF LP NN d 51 [.agg [.int .u8 k.cat, .int .u8 k.us, .str k.pic, .int .i64 k.dg, .int .i64 k.sc, .bool k.sg, .bool k.le, .bool k.se, .bool k.ju, .bool k.bl, .int .i64 k.sz, subD k.a k.n y]] S = some (.tup [.agg [.bool na, .str sa, .int .i64 0], .int .i64 0], S, false)) ∧ (∀ (d : Nat) (S : St), 14 ≤ d → runF LP NN d 51 [.agg [.int .u8 k.cat, .int .u8 k.us, .str k.pic, .int .i64 k.dg, .int .i64 k.sc, .bool k.sg, .bool k.le, .bool k.se, .bool k.ju, .bool k.bl, .int .i64 k.sz, subD k.a k.n z]] S = some (.tup [.agg [.bool nb, .str sb, .int .i64 0], .int .i64 0], S, false)) ∧ (∀ (d : Nat) (S : St), 8 ≤ d → runF LP NN d 52 [.agg [.bool na, .str sa, .int .i64 0], .agg [.bool nb, .str sb, .int .i64 0]] S = some (.tup [.int .i64 r, .int .i64 0], S, false)) := by
 have hlen := ge_len h hl
 have h1 := h.n1
 obtain ⟨⟨a, n, dn, ⟨rfl, hn⟩ | ⟨rfl, hn⟩⟩, _, _⟩ := h
 ·
  simp [kT] at hc
 ·
  have hd : ((l.drop a).take n).all isDig = true := by simpa [fitE, kN] using hf
  have n1 : ((l.drop a).take n) ≠ [] := by
   intro h
   have hlen : ((l.drop a).take n).length = n := hlen
   have h1 : 1 ≤ n := h1
   rw [h] at hlen; simp at hlen; omega
  have m1 : isNum ((l.drop a).take n) = true := by
   simp only [isNum, hd, Bool.and_true, Bool.not_eq_true', beq_eq_false_iff_ne, ne_eq]; exact n1
  have hlen : ((l.drop a).take n).length = n := hlen
  refine ⟨false, false, mkS (strip ((l.drop a).take n)), mkS (strip ((l.drop a).take n)), cmpN false false (strip ((l.drop a).take n)) (strip ((l.drop a).take n)), fun d S hd' => getX hd' S n h1 hn (hR.subB a n) hlen hd, fun d S hd' => getX hd' S n h1 hn (hQ.subB a n) hlen hd, fun d S hd' => ?_⟩
  have N1 := Nrm.of false _ m1 (by omega)
  rw [Bool.false_and] at N1
  exact decCmp_run hd' S false false _ _ N1 N1 (by omega) (by omega)
end
end Go.Proofs.YtabgobmeibjeeaaGreatDoor

namespace Go.Proofs.YtabgobmeibjeeaaGreatDoor
set_option linter.unusedSimpArgs false
set_option linter.unusedVariables false
set_option maxRecDepth 10000
set_option maxHeartbeats 4000000

def rowE (pa pl : Int) (h : Shp) : List D := [.int .i64 pa, .int .i64 pl, .int .u8 h.cat, .int .u8 h.us, .str h.pic, .int .i64 h.dg, .int .i64 h.sc, .bool h.sg, .bool h.le, .bool h.se, .bool h.ju, .bool h.bl, .int .i64 h.sz, .bool false]

theorem keyE_bad {d : Nat} (hd : 1 ≤ d) (S : St) (h : Shp) (pa pl size : Int) (hb : pa < 0 ∨ pl < 1 ∨ pl > size ∨ pa > IntKind.i64.wrap (size - pl) ∨ h.sz ≠ pl) : runF LP NN d 46 [.agg [.int .i64 pa, .int .i64 pl, .int .u8 h.cat, .int .u8 h.us, .str h.pic, .int .i64 h.dg, .int .i64 h.sc, .bool h.sg, .bool h.le, .bool h.se, .bool h.ju, .bool h.bl, .int .i64 h.sz, .bool false], .int .i64 size] S = some (.bool false, S, false) := by
 refine run_pure (F := F46) rfl (by simp only [LP, fnOf, snapVs, snaps, zs, zm, zv] <;> exact rfl) rfl (by simp only [LP, zf, zm]; try rfl) (by simp only [F46, zv] <;> exact rfl) (by omega) ?_
 rintro d rfl
 refine cw_seq (cw_region ?_)
 refine ow_op (by simp only [zl, zm, zc] <;> exact rfl) ?_
 refine ow_mc ?_
 refine ow_nil ?_
 refine sk_n (by simp only [ze] <;> exact rfl) ?_
 refine cw_seq (cw_region ?_)
 refine ow_op (by simp only [zo, zr, zm] <;> exact rfl) ?_
 refine ow_op (by simp only [zl, zm, zd, partD, List.take, List.drop] <;> exact rfl) ?_
 refine ow_op (by simp only [zl, zm] <;> exact rfl) ?_
 refine ow_op (by simp only [zl, zm, storeD, overlay, snapVs, snaps, zs, zc, zf, List.take, List.drop] <;> exact rfl) ?_
 refine ow_nil ?_
 refine sk_n (by simp only [ze] <;> exact rfl) ?_
 refine cw_seq (cw_seq (cw_region ?_))
 refine ow_op (by simp only [zo, zr, zm] <;> exact rfl) ?_
 refine ow_op (by simp only [zl, zm, zd, partD, List.take, List.drop] <;> exact rfl) ?_
 refine ow_op (by simp only [zo, binD, zb, Int.reduceEq, Int.reduceToNat, Int.reduceLT] <;> exact rfl) ?_
 refine ow_ml rfl ?_
 refine ow_split 0 (by simp only [opd, zv] <;> exact rfl) (by simp only [zn] <;> exact rfl) (by simp only [zn] <;> exact rfl) (fun hg => ?_) (fun hg => ?_)
 ·
  refine ow_off rfl rfl ?_
  refine ow_off rfl rfl ?_
  refine ow_off rfl rfl ?_
  refine ow_op (by simp only [zo] <;> exact rfl) ?_
  refine ow_ml rfl ?_
  refine ow_off rfl rfl ?_
  refine ow_off rfl rfl ?_
  refine ow_off rfl rfl ?_
  refine ow_off rfl rfl ?_
  refine ow_op (by simp only [zo] <;> exact rfl) ?_
  refine ow_ml rfl ?_
  refine ow_off rfl rfl ?_
  refine ow_off rfl rfl ?_
  refine ow_off rfl rfl ?_
  refine ow_off rfl rfl ?_
  refine ow_off rfl rfl ?_
  refine ow_off rfl rfl ?_
  refine ow_off rfl rfl ?_
  refine ow_op (by simp only [zo] <;> exact rfl) ?_
  refine ow_ml rfl ?_
  refine ow_off rfl rfl ?_
  refine ow_off rfl rfl ?_
  refine ow_off rfl rfl ?_
  refine ow_off rfl rfl ?_
  refine ow_off rfl rfl ?_
  refine ow_off rfl rfl ?_
  refine ow_op (by simp only [zo] <;> exact rfl) ?_
  refine ow_nil ?_
  refine sk_n (by simp only [ze] <;> exact rfl) ?_
  refine cw_true (by simp only [opd, zv]) ?_
  refine cw_seq (cw_region ?_)
  refine ow_mc ?_
  refine ow_nil ?_
  refine sk_n (by simp only [ze] <;> exact rfl) ?_
  refine cw_ret (sk_r ?_)
  refine ⟨_, by simp only [F46, resultD, resDs, resD, zg, zd, rowsOf, partD, List.take, List.drop, zm] <;> exact rfl, ?_⟩
  simp only [leaveP, leave, snapVs, snaps, zs, zf, zk]
 ·
  refine ow_on rfl ?_
  refine ow_op (by simp only [zo, zr, zm] <;> exact rfl) ?_
  refine ow_on rfl ?_
  refine ow_op (by simp only [zl, zm, zd, partD, List.take, List.drop] <;> exact rfl) ?_
  refine ow_on rfl ?_
  refine ow_op (by simp only [zo, binD, zb, Int.reduceEq, Int.reduceToNat, Int.reduceLT] <;> exact rfl) ?_
  refine ow_op (by simp only [zo] <;> exact rfl) ?_
  refine ow_ml rfl ?_
  refine ow_split 0 (by simp only [opd, zv] <;> exact rfl) (by simp only [zn] <;> exact rfl) (by simp only [zn] <;> exact rfl) (fun hgF => ?_) (fun hgF => ?_)
  ·
   refine ow_off rfl rfl ?_
   refine ow_off rfl rfl ?_
   refine ow_off rfl rfl ?_
   refine ow_off rfl rfl ?_
   refine ow_op (by simp only [zo] <;> exact rfl) ?_
   refine ow_ml rfl ?_
   refine ow_off rfl rfl ?_
   refine ow_off rfl rfl ?_
   refine ow_off rfl rfl ?_
   refine ow_off rfl rfl ?_
   refine ow_off rfl rfl ?_
   refine ow_off rfl rfl ?_
   refine ow_off rfl rfl ?_
   refine ow_op (by simp only [zo] <;> exact rfl) ?_
   refine ow_ml rfl ?_
   refine ow_off rfl rfl ?_
   refine ow_off rfl rfl ?_
   refine ow_off rfl rfl ?_
   refine ow_off rfl rfl ?_
   refine ow_off rfl rfl ?_
   refine ow_off rfl rfl ?_
   refine ow_op (by simp only [zo] <;> exact rfl) ?_
   refine ow_nil ?_
   refine sk_n (by simp only [ze] <;> exact rfl) ?_
   refine cw_true (by simp only [opd, zv]) ?_
   refine cw_seq (cw_region ?_)
   refine ow_mc ?_
   refine ow_nil ?_
   refine sk_n (by simp only [ze] <;> exact rfl) ?_
   refine cw_ret (sk_r ?_)
   refine ⟨_, by simp only [F46, resultD, resDs, resD, zg, zd, rowsOf, partD, List.take, List.drop, zm] <;> exact rfl, ?_⟩
   simp only [leaveP, leave, snapVs, snaps, zs, zf, zk]
  ·
   refine ow_on rfl ?_
   refine ow_op (by simp only [zo, zr, zm] <;> exact rfl) ?_
   refine ow_on rfl ?_
   refine ow_op (by simp only [zl, zm, zd, partD, List.take, List.drop] <;> exact rfl) ?_
   refine ow_on rfl ?_
   refine ow_me rfl ?_
   refine ow_on rfl ?_
   refine ow_op (by simp only [zo, binD, zb, Int.reduceEq, Int.reduceToNat, Int.reduceLT] <;> exact rfl) ?_
   refine ow_op (by simp only [zo] <;> exact rfl) ?_
   refine ow_ml rfl ?_
   refine ow_split 0 (by simp only [opd, zv] <;> exact rfl) (by simp only [zn] <;> exact rfl) (by simp only [zn] <;> exact rfl) (fun hgFF => ?_) (fun hgFF => ?_)
   ·
    refine ow_off rfl rfl ?_
    refine ow_off rfl rfl ?_
    refine ow_off rfl rfl ?_
    refine ow_off rfl rfl ?_
    refine ow_off rfl rfl ?_
    refine ow_off rfl rfl ?_
    refine ow_off rfl rfl ?_
    refine ow_op (by simp only [zo] <;> exact rfl) ?_
    refine ow_ml rfl ?_
    refine ow_off rfl rfl ?_
    refine ow_off rfl rfl ?_
    refine ow_off rfl rfl ?_
    refine ow_off rfl rfl ?_
    refine ow_off rfl rfl ?_
    refine ow_off rfl rfl ?_
    refine ow_op (by simp only [zo] <;> exact rfl) ?_
    refine ow_nil ?_
    refine sk_n (by simp only [ze] <;> exact rfl) ?_
    refine cw_true (by simp only [opd, zv]) ?_
    refine cw_seq (cw_region ?_)
    refine ow_mc ?_
    refine ow_nil ?_
    refine sk_n (by simp only [ze] <;> exact rfl) ?_
    refine cw_ret (sk_r ?_)
    refine ⟨_, by simp only [F46, resultD, resDs, resD, zg, zd, rowsOf, partD, List.take, List.drop, zm] <;> exact rfl, ?_⟩
    simp only [leaveP, leave, snapVs, snaps, zs, zf, zk]
   ·
    refine ow_on rfl ?_
    refine ow_op (by simp only [zo, zr, zm] <;> exact rfl) ?_
    refine ow_on rfl ?_
    refine ow_op (by simp only [zl, zm, zd, partD, List.take, List.drop] <;> exact rfl) ?_
    refine ow_on rfl ?_
    refine ow_me rfl ?_
    refine ow_on rfl ?_
    refine ow_op (by simp only [zo, zr, zm] <;> exact rfl) ?_
    refine ow_on rfl ?_
    refine ow_op (by simp only [zl, zm, zd, partD, List.take, List.drop] <;> exact rfl) ?_
    refine ow_on rfl ?_
    refine ow_op (by simp only [zo, binD, zb, Int.reduceEq, Int.reduceToNat, Int.reduceLT] <;> exact rfl) ?_
    refine ow_on rfl ?_
    refine ow_op (by simp only [zo, binD, zb, Int.reduceEq, Int.reduceToNat, Int.reduceLT] <;> exact rfl) ?_
    refine ow_op (by simp only [zo] <;> exact rfl) ?_
    refine ow_ml rfl ?_
    refine ow_split 0 (by simp only [opd, zv] <;> exact rfl) (by simp only [zn] <;> exact rfl) (by simp only [zn] <;> exact rfl) (fun hgFFF => ?_) (fun hgFFF => ?_)
    ·
     refine ow_off rfl rfl ?_
     refine ow_off rfl rfl ?_
     refine ow_off rfl rfl ?_
     refine ow_off rfl rfl ?_
     refine ow_off rfl rfl ?_
     refine ow_off rfl rfl ?_
     refine ow_op (by simp only [zo] <;> exact rfl) ?_
     refine ow_nil ?_
     refine sk_n (by simp only [ze] <;> exact rfl) ?_
     refine cw_true (by simp only [opd, zv]) ?_
     refine cw_seq (cw_region ?_)
     refine ow_mc ?_
     refine ow_nil ?_
     refine sk_n (by simp only [ze] <;> exact rfl) ?_
     refine cw_ret (sk_r ?_)
     refine ⟨_, by simp only [F46, resultD, resDs, resD, zg, zd, rowsOf, partD, List.take, List.drop, zm] <;> exact rfl, ?_⟩
     simp only [leaveP, leave, snapVs, snaps, zs, zf, zk]
    ·
     refine ow_on rfl ?_
     refine ow_op (by simp only [zo, zr, zm] <;> exact rfl) ?_
     refine ow_on rfl ?_
     refine ow_op (by simp only [zo, zr, zm] <;> exact rfl) ?_
     refine ow_on rfl ?_
     refine ow_op (by simp only [zl, zm, zd, partD, List.take, List.drop] <;> exact rfl) ?_
     refine ow_on rfl ?_
     refine ow_op (by simp only [zo, zr, zm] <;> exact rfl) ?_
     refine ow_on rfl ?_
     refine ow_op (by simp only [zl, zm, zd, partD, List.take, List.drop] <;> exact rfl) ?_
     refine ow_on rfl ?_
     refine ow_op (by simp only [zo, binD, zb, Int.reduceEq, Int.reduceToNat, Int.reduceLT] <;> exact rfl) ?_
     refine ow_op (by simp only [zo] <;> exact rfl) ?_
     refine ow_nil ?_
     refine sk_n (by simp only [ze] <;> exact rfl) ?_
     have h5 : (h.sz != pl) = true := by
      simp only [bne_iff_ne, ne_eq]
      have q1 := of_decide_eq_false hg
      have q2 := of_decide_eq_false hgF
      have q3 := of_decide_eq_false hgFF
      have q4 := of_decide_eq_false hgFFF
      rcases hb with h | h | h | h | h
      ·
       exact absurd h q1
      ·
       exact absurd h q2
      ·
       exact absurd h q3
      ·
       exact absurd h q4
      ·
       exact h
     refine cw_true (by simp only [opd, zv] <;> rw [h5]) ?_
     refine cw_seq (cw_region ?_)
     refine ow_mc ?_
     refine ow_nil ?_
     refine sk_n (by simp only [ze] <;> exact rfl) ?_
     refine cw_ret (sk_r ?_)
     refine ⟨_, by simp only [F46, resultD, resDs, resD, zg, zd, rowsOf, partD, List.take, List.drop, zm] <;> exact rfl, ?_⟩
     simp only [leaveP, leave, snapVs, snaps, zs, zf, zk]

theorem keyE_ed {d : Nat} (hd : 1 ≤ d) (S : St) (h : Shp) (pa pl size : Int) (h1 : ¬ pa < 0) (h2 : ¬ pl < 1) (h3 : ¬ pl > size) (h4 : ¬ pa > IntKind.i64.wrap (size - pl)) (h5 : h.sz = pl) (h6 : h.cat = 5) : runF LP NN d 46 [.agg [.int .i64 pa, .int .i64 pl, .int .u8 h.cat, .int .u8 h.us, .str h.pic, .int .i64 h.dg, .int .i64 h.sc, .bool h.sg, .bool h.le, .bool h.se, .bool h.ju, .bool h.bl, .int .i64 h.sz, .bool false], .int .i64 size] S = some (.bool false, S, false) := by
 have f1 : decide (pa < 0) = false := decide_eq_false h1
 have f2 : decide (pl < 1) = false := decide_eq_false h2
 have f3 : decide (pl > size) = false := decide_eq_false h3
 have f4 : decide (pa > IntKind.i64.wrap (size - pl)) = false := decide_eq_false h4
 have f5 : (h.sz != pl) = false := by rw [h5]; simp
 refine run_pure (F := F46) rfl (by simp only [LP, fnOf, snapVs, snaps, zs, zm, zv] <;> exact rfl) rfl (by simp only [LP, zf, zm]; try rfl) (by simp only [F46, zv] <;> exact rfl) (by omega) ?_
 rintro d rfl
 refine cw_seq (cw_region ?_)
 refine ow_op (by simp only [zl, zm, zc, f1, f2, f3, f4, f5] <;> exact rfl) ?_
 refine ow_mc ?_
 refine ow_nil ?_
 refine sk_n (by simp only [ze] <;> exact rfl) ?_
 refine cw_seq (cw_region ?_)
 refine ow_op (by simp only [zo, zr, zm, f1, f2, f3, f4, f5] <;> exact rfl) ?_
 refine ow_op (by simp only [zl, zm, zd, partD, List.take, List.drop, f1, f2, f3, f4, f5] <;> exact rfl) ?_
 refine ow_op (by simp only [zl, zm, f1, f2, f3, f4, f5] <;> exact rfl) ?_
 refine ow_op (by simp only [zl, zm, storeD, overlay, snapVs, snaps, zs, zc, zf, List.take, List.drop, f1, f2, f3, f4, f5] <;> exact rfl) ?_
 refine ow_nil ?_
 refine sk_n (by simp only [ze] <;> exact rfl) ?_
 refine cw_seq (cw_seq (cw_region ?_))
 refine ow_op (by simp only [zo, zr, zm, f1, f2, f3, f4, f5] <;> exact rfl) ?_
 refine ow_op (by simp only [zl, zm, zd, partD, List.take, List.drop, f1, f2, f3, f4, f5] <;> exact rfl) ?_
 refine ow_op (by simp only [zo, binD, zb, Int.reduceEq, Int.reduceToNat, Int.reduceLT, f1, f2, f3, f4, f5] <;> exact rfl) ?_
 refine ow_ml rfl ?_
 refine ow_know 0 (b := false) (by simp only [opd, zv, f1, f2, f3, f4, f5] <;> rfl) (by simp only [zn] <;> exact rfl) ?_
 refine ow_on rfl ?_
 refine ow_op (by simp only [zo, zr, zm, f1, f2, f3, f4, f5] <;> exact rfl) ?_
 refine ow_on rfl ?_
 refine ow_op (by simp only [zl, zm, zd, partD, List.take, List.drop, f1, f2, f3, f4, f5] <;> exact rfl) ?_
 refine ow_on rfl ?_
 refine ow_op (by simp only [zo, binD, zb, Int.reduceEq, Int.reduceToNat, Int.reduceLT, f1, f2, f3, f4, f5] <;> exact rfl) ?_
 refine ow_op (by simp only [zo, f1, f2, f3, f4, f5] <;> exact rfl) ?_
 refine ow_ml rfl ?_
 refine ow_know 0 (b := false) (by simp only [opd, zv, f1, f2, f3, f4, f5] <;> rfl) (by simp only [zn] <;> exact rfl) ?_
 refine ow_on rfl ?_
 refine ow_op (by simp only [zo, zr, zm, f1, f2, f3, f4, f5] <;> exact rfl) ?_
 refine ow_on rfl ?_
 refine ow_op (by simp only [zl, zm, zd, partD, List.take, List.drop, f1, f2, f3, f4, f5] <;> exact rfl) ?_
 refine ow_on rfl ?_
 refine ow_me rfl ?_
 refine ow_on rfl ?_
 refine ow_op (by simp only [zo, binD, zb, Int.reduceEq, Int.reduceToNat, Int.reduceLT, f1, f2, f3, f4, f5] <;> exact rfl) ?_
 refine ow_op (by simp only [zo, f1, f2, f3, f4, f5] <;> exact rfl) ?_
 refine ow_ml rfl ?_
 refine ow_know 0 (b := false) (by simp only [opd, zv, f1, f2, f3, f4, f5] <;> rfl) (by simp only [zn] <;> exact rfl) ?_
 refine ow_on rfl ?_
 refine ow_op (by simp only [zo, zr, zm, f1, f2, f3, f4, f5] <;> exact rfl) ?_
 refine ow_on rfl ?_
 refine ow_op (by simp only [zl, zm, zd, partD, List.take, List.drop, f1, f2, f3, f4, f5] <;> exact rfl) ?_
 refine ow_on rfl ?_
 refine ow_me rfl ?_
 refine ow_on rfl ?_
 refine ow_op (by simp only [zo, zr, zm, f1, f2, f3, f4, f5] <;> exact rfl) ?_
 refine ow_on rfl ?_
 refine ow_op (by simp only [zl, zm, zd, partD, List.take, List.drop, f1, f2, f3, f4, f5] <;> exact rfl) ?_
 refine ow_on rfl ?_
 refine ow_op (by simp only [zo, binD, zb, Int.reduceEq, Int.reduceToNat, Int.reduceLT, f1, f2, f3, f4, f5] <;> exact rfl) ?_
 refine ow_on rfl ?_
 refine ow_op (by simp only [zo, binD, zb, Int.reduceEq, Int.reduceToNat, Int.reduceLT, f1, f2, f3, f4, f5] <;> exact rfl) ?_
 refine ow_op (by simp only [zo, f1, f2, f3, f4, f5] <;> exact rfl) ?_
 refine ow_ml rfl ?_
 refine ow_know 0 (b := false) (by simp only [opd, zv, f1, f2, f3, f4, f5] <;> rfl) (by simp only [zn] <;> exact rfl) ?_
 refine ow_on rfl ?_
 refine ow_op (by simp only [zo, zr, zm, f1, f2, f3, f4, f5] <;> exact rfl) ?_
 refine ow_on rfl ?_
 refine ow_op (by simp only [zo, zr, zm, f1, f2, f3, f4, f5] <;> exact rfl) ?_
 refine ow_on rfl ?_
 refine ow_op (by simp only [zl, zm, zd, partD, List.take, List.drop, f1, f2, f3, f4, f5] <;> exact rfl) ?_
 refine ow_on rfl ?_
 refine ow_op (by simp only [zo, zr, zm, f1, f2, f3, f4, f5] <;> exact rfl) ?_
 refine ow_on rfl ?_
 refine ow_op (by simp only [zl, zm, zd, partD, List.take, List.drop, f1, f2, f3, f4, f5] <;> exact rfl) ?_
 refine ow_on rfl ?_
 refine ow_op (by simp only [zo, binD, zb, Int.reduceEq, Int.reduceToNat, Int.reduceLT, f1, f2, f3, f4, f5] <;> exact rfl) ?_
 refine ow_op (by simp only [zo, f1, f2, f3, f4, f5] <;> exact rfl) ?_
 refine ow_nil ?_
 refine sk_n (by simp only [ze] <;> exact rfl) ?_
 skip
 refine cw_false (by simp only [opd, zv, f1, f2, f3, f4, f5] <;> rfl) ?_
 refine cw_skip (sk_n rfl (cw_seq (cw_seq (cw_region ?_))))
 refine ow_op (by simp only [zo, zr, zm, f1, f2, f3, f4, f5] <;> exact rfl) ?_
 refine ow_op (by simp only [zo, zr, zm, f1, f2, f3, f4, f5] <;> exact rfl) ?_
 refine ow_op (by simp only [zl, zm, zd, partD, List.take, List.drop, f1, f2, f3, f4, f5] <;> exact rfl) ?_
 refine ow_nil ?_
 refine sk_n (by simp only [ze] <;> exact rfl) ?_
 refine cw_block (cw_seq (cw_seq (cw_region ?_)))
 refine ow_op (by simp only [zo, binD, zb, Int.reduceEq, Int.reduceToNat, Int.reduceLT, f1, f2, f3, f4, f5] <;> exact rfl) ?_
 refine ow_ml rfl ?_
 refine ow_nil ?_
 refine sk_n (by simp only [ze] <;> exact rfl) ?_
 skip
 refine cw_false (by simp only [opd, zv, f1, f2, f3, f4, f5] <;> (rw [h6] <;> rfl)) ?_
 refine cw_seq (cw_region ?_)
 refine ow_op (by simp only [zo, binD, zb, Int.reduceEq, Int.reduceToNat, Int.reduceLT, f1, f2, f3, f4, f5] <;> exact rfl) ?_
 refine ow_ml rfl ?_
 refine ow_nil ?_
 refine sk_n (by simp only [ze] <;> exact rfl) ?_
 skip
 refine cw_false (by simp only [opd, zv, f1, f2, f3, f4, f5] <;> (rw [h6] <;> rfl)) ?_
 refine cw_region ?_
 refine ow_op (by simp only [zo, binD, zb, Int.reduceEq, Int.reduceToNat, Int.reduceLT, f1, f2, f3, f4, f5] <;> exact rfl) ?_
 refine ow_ml rfl ?_
 refine ow_nil ?_
 refine sk_n (by simp only [ze] <;> exact rfl) ?_
 skip
 refine cw_false (by simp only [opd, zv, f1, f2, f3, f4, f5] <;> (rw [h6] <;> rfl)) ?_
 refine cw_seq (cw_region ?_)
 refine ow_op (by simp only [zo, binD, zb, Int.reduceEq, Int.reduceToNat, Int.reduceLT, f1, f2, f3, f4, f5] <;> exact rfl) ?_
 refine ow_ml rfl ?_
 refine ow_nil ?_
 refine sk_n (by simp only [ze] <;> exact rfl) ?_
 skip
 refine cw_false (by simp only [opd, zv, f1, f2, f3, f4, f5] <;> (rw [h6] <;> rfl)) ?_
 refine cw_skip (bk_n (sk_n rfl (cw_seq (cw_region ?_))))
 refine ow_mc ?_
 refine ow_nil ?_
 refine sk_n (by simp only [ze] <;> exact rfl) ?_
 refine cw_ret ?_
 refine ⟨_, by simp only [F46, resultD, resDs, resD, zg, zd, rowsOf, partD, List.take, List.drop, zm] <;> exact rfl, ?_⟩
 simp only [leaveP, leave, snapVs, snaps, zs, zf, zk]

theorem keyE_no {d : Nat} (hd : 1 ≤ d) (S : St) (h : Shp) (pa pl size : Int) (hn : ¬ okE size pa pl h) : runF LP NN d 46 [.agg [.int .i64 pa, .int .i64 pl, .int .u8 h.cat, .int .u8 h.us, .str h.pic, .int .i64 h.dg, .int .i64 h.sc, .bool h.sg, .bool h.le, .bool h.se, .bool h.ju, .bool h.bl, .int .i64 h.sz, .bool false], .int .i64 size] S = some (.bool false, S, false) := by
 by_cases hb : pa < 0 ∨ pl < 1 ∨ pl > size ∨ pa > IntKind.i64.wrap (size - pl) ∨ h.sz ≠ pl
 ·
  exact keyE_bad hd S h pa pl size hb
 ·
  simp only [not_or] at hb
  obtain ⟨h1, h2, h3, h4, h5⟩ := hb
  have h5 : h.sz = pl := by simpa using h5
  refine keyE_ed hd S h pa pl size h1 h2 h3 h4 h5 ?_
  by_cases h6 : h.cat = 5
  ·
   exact h6
  ·
   exact absurd ⟨h1, h2, h3, h4, h5, h6⟩ hn

theorem checkE_3 {d : Nat} (hd : 1 ≤ d) (S : St) {x : D} {rows : List (List D)} (hS : SlD 14 rows x) (hl : rows.length ≤ 1000000) (size : Int) (hb : 8 < rows.length ∨ size > 4096) : runF LP NN d 29 [x, .int .i64 size] S = some (.int .i64 3, S, false) := by
 refine run_pure (F := F29) rfl (by simp only [LP, fnOf, snapVs, snaps, zs, zm, zv, hS.snapV, hS.freeV] <;> exact rfl) rfl (by simp only [LP, zf, zm, hS.snapV, hS.freeV]; try rfl) (by simp only [F29, zv] <;> exact rfl) (by omega) ?_
 rintro d rfl
 refine cw_seq (cw_region ?_)
 refine ow_mc ?_
 refine ow_nil ?_
 refine sk_n (by simp only [ze] <;> exact rfl) ?_
 refine cw_seq (cw_block (cw_seq (cw_region ?_)))
 refine ow_me rfl ?_
 refine ow_op (by simp only [zo, lenD_str, lenD_nils, lenD_sl, lenD_msl, hS.len] <;> exact rfl) ?_
 refine ow_op (by simp only [zo, binD, zb, Int.reduceEq, Int.reduceToNat, Int.reduceLT, hS.len] <;> exact rfl) ?_
 refine ow_ml rfl ?_
 refine ow_split 0 (by simp only [opd, zv] <;> exact rfl) (by simp only [zn] <;> exact rfl) (by simp only [zn] <;> exact rfl) (fun hg => ?_) (fun hg => ?_)
 ·
  refine ow_off rfl rfl ?_
  refine ow_off rfl rfl ?_
  refine ow_op (by simp only [zo, hS.len] <;> exact rfl) ?_
  refine ow_ml rfl ?_
  refine ow_nil ?_
  refine sk_n (by simp only [ze] <;> exact rfl) ?_
  refine cw_true (by simp only [opd, zv, hS.len]) ?_
  refine cw_seq (cw_region ?_)
  refine ow_mc ?_
  refine ow_nil ?_
  refine sk_n (by simp only [ze] <;> exact rfl) ?_
  refine cw_ret (bk_r (sk_r ?_))
  refine ⟨_, by simp only [F29, resultD, resDs, resD, zg, zd, rowsOf, partD, List.take, List.drop, zm] <;> exact rfl, ?_⟩
  simp only [leaveP, leave, snapVs, snaps, zs, zf, zk]
 ·
  refine ow_on rfl ?_
  refine ow_me rfl ?_
  refine ow_on rfl ?_
  refine ow_op (by simp only [zo, binD, zb, Int.reduceEq, Int.reduceToNat, Int.reduceLT, hS.len] <;> exact rfl) ?_
  refine ow_op (by simp only [zo, hS.len] <;> exact rfl) ?_
  refine ow_ml rfl ?_
  refine ow_nil ?_
  refine sk_n (by simp only [ze] <;> exact rfl) ?_
  have h2 : decide (size > 4096) = true := by
   refine decide_eq_true ?_
   have q1 := of_decide_eq_false hg
   rcases hb with h | h <;> omega
  refine cw_true (by simp only [opd, zv, hS.len] <;> rw [h2]) ?_
  refine cw_seq (cw_region ?_)
  refine ow_mc ?_
  refine ow_nil ?_
  refine sk_n (by simp only [ze] <;> exact rfl) ?_
  refine cw_ret (bk_r (sk_r ?_))
  refine ⟨_, by simp only [F29, resultD, resDs, resD, zg, zd, rowsOf, partD, List.take, List.drop, zm] <;> exact rfl, ?_⟩
  simp only [leaveP, leave, snapVs, snaps, zs, zf, zk]

theorem checkE_1 {d : Nat} (hd : 1 ≤ d) (S : St) {x : D} {rows : List (List D)} (hS : SlD 14 rows x) (hl : rows.length ≤ 1000000) (size : Int) (h8 : rows.length ≤ 8) (h4 : size ≤ 4096) (hb : rows.length = 0 ∨ size < 1) : runF LP NN d 29 [x, .int .i64 size] S = some (.int .i64 1, S, false) := by
 have g1 : decide ((rows.length : Int) > 8) = false := decide_eq_false (by omega)
 have g2 : decide (size > 4096) = false := decide_eq_false (by omega)
 refine run_pure (F := F29) rfl (by simp only [LP, fnOf, snapVs, snaps, zs, zm, zv, hS.snapV, hS.freeV] <;> exact rfl) rfl (by simp only [LP, zf, zm, hS.snapV, hS.freeV]; try rfl) (by simp only [F29, zv] <;> exact rfl) (by omega) ?_
 rintro d rfl
 refine cw_seq (cw_region ?_)
 refine ow_mc ?_
 refine ow_nil ?_
 refine sk_n (by simp only [ze] <;> exact rfl) ?_
 refine cw_seq (cw_block (cw_seq (cw_region ?_)))
 refine ow_me rfl ?_
 refine ow_op (by simp only [zo, lenD_str, lenD_nils, lenD_sl, lenD_msl, hS.len, g1, g2] <;> exact rfl) ?_
 refine ow_op (by simp only [zo, binD, zb, Int.reduceEq, Int.reduceToNat, Int.reduceLT, hS.len, g1, g2] <;> exact rfl) ?_
 refine ow_ml rfl ?_
 refine ow_know 0 (b := false) (by simp only [opd, zv, hS.len, g1, g2] <;> rfl) (by simp only [zn] <;> exact rfl) ?_
 refine ow_on rfl ?_
 refine ow_me rfl ?_
 refine ow_on rfl ?_
 refine ow_op (by simp only [zo, binD, zb, Int.reduceEq, Int.reduceToNat, Int.reduceLT, hS.len, g1, g2] <;> exact rfl) ?_
 refine ow_op (by simp only [zo, hS.len, g1, g2] <;> exact rfl) ?_
 refine ow_ml rfl ?_
 refine ow_nil ?_
 refine sk_n (by simp only [ze] <;> exact rfl) ?_
 skip
 refine cw_false (by simp only [opd, zv, hS.len, g1, g2] <;> rfl) ?_
 refine cw_seq (cw_region ?_)
 refine ow_me rfl ?_
 refine ow_op (by simp only [zo, lenD_str, lenD_nils, lenD_sl, lenD_msl, hS.len, g1, g2] <;> exact rfl) ?_
 refine ow_op (by simp only [zo, binD, zb, Int.reduceEq, Int.reduceToNat, Int.reduceLT, hS.len, g1, g2] <;> exact rfl) ?_
 refine ow_ml rfl ?_
 refine ow_split 0 (by simp only [opd, zv] <;> exact rfl) (by simp only [zn] <;> exact rfl) (by simp only [zn] <;> exact rfl) (fun hg => ?_) (fun hg => ?_)
 ·
  refine ow_off rfl rfl ?_
  refine ow_off rfl rfl ?_
  refine ow_op (by simp only [zo, hS.len, g1, g2] <;> exact rfl) ?_
  refine ow_ml rfl ?_
  refine ow_nil ?_
  refine sk_n (by simp only [ze] <;> exact rfl) ?_
  refine cw_true (by simp only [opd, zv, hS.len, g1, g2]) ?_
  refine cw_seq (cw_region ?_)
  refine ow_mc ?_
  refine ow_nil ?_
  refine sk_n (by simp only [ze] <;> exact rfl) ?_
  refine cw_ret (bk_r (sk_r ?_))
  refine ⟨_, by simp only [F29, resultD, resDs, resD, zg, zd, rowsOf, partD, List.take, List.drop, zm] <;> exact rfl, ?_⟩
  simp only [leaveP, leave, snapVs, snaps, zs, zf, zk]
 ·
  refine ow_on rfl ?_
  refine ow_me rfl ?_
  refine ow_on rfl ?_
  refine ow_op (by simp only [zo, binD, zb, Int.reduceEq, Int.reduceToNat, Int.reduceLT, hS.len, g1, g2] <;> exact rfl) ?_
  refine ow_op (by simp only [zo, hS.len, g1, g2] <;> exact rfl) ?_
  refine ow_ml rfl ?_
  refine ow_nil ?_
  refine sk_n (by simp only [ze] <;> exact rfl) ?_
  have h2 : decide (size < 1) = true := by
   refine decide_eq_true ?_
   have q1 : ¬ rows.length = 0 := by intro h; rw [h] at hg; simp at hg
   rcases hb with h | h <;> omega
  refine cw_true (by simp only [opd, zv, hS.len, g1, g2] <;> rw [h2]) ?_
  refine cw_seq (cw_region ?_)
  refine ow_mc ?_
  refine ow_nil ?_
  refine sk_n (by simp only [ze] <;> exact rfl) ?_
  refine cw_ret (bk_r (sk_r ?_))
  refine ⟨_, by simp only [F29, resultD, resDs, resD, zg, zd, rowsOf, partD, List.take, List.drop, zm] <;> exact rfl, ?_⟩
  simp only [leaveP, leave, snapVs, snaps, zs, zf, zk]

theorem checkE_bad {d : Nat} (hd : 2 ≤ d) (S : St) {x : D} {rows : List (List D)} (hS : SlD 14 rows x) (hl : rows.length ≤ 1000000) (size : Int) (h : Shp) (pa pl : Int) (h8 : rows.length ≤ 8) (h4 : size ≤ 4096) (hr : rows[0]? = some [.int .i64 pa, .int .i64 pl, .int .u8 h.cat, .int .u8 h.us, .str h.pic, .int .i64 h.dg, .int .i64 h.sc, .bool h.sg, .bool h.le, .bool h.se, .bool h.ju, .bool h.bl, .int .i64 h.sz, .bool false]) (hs1 : 1 ≤ size) (hv : ∀ (d : Nat) (S : St), 1 ≤ d → runF LP NN d 46 [.agg [.int .i64 pa, .int .i64 pl, .int .u8 h.cat, .int .u8 h.us, .str h.pic, .int .i64 h.dg, .int .i64 h.sc, .bool h.sg, .bool h.le, .bool h.se, .bool h.ju, .bool h.bl, .int .i64 h.sz, .bool false], .int .i64 size] S = some (.bool false, S, false)) : runF LP NN d 29 [x, .int .i64 size] S = some (.int .i64 1, S, false) := by
 have g1 : decide ((rows.length : Int) > 8) = false := decide_eq_false (by omega)
 have g2 : decide (size > 4096) = false := decide_eq_false (by omega)
 have hlt : 0 < rows.length := (List.getElem?_eq_some_iff.1 hr).1
 have g3 : ((rows.length : Int) == 0) = false := by simp; intro h; rw [h] at hlt; simp at hlt
 have g4 : decide (size < 1) = false := decide_eq_false (by omega)
 have h0 : decide ((0 : Int) < (rows.length : Int)) = true := decide_eq_true (by omega)
 have hia := fun (S : St) => hS.iaddr S .i64 (i := 0) (by omega) hr
 refine run_pure (F := F29) rfl (by simp only [LP, fnOf, snapVs, snaps, zs, zm, zv, hS.snapV, hS.freeV] <;> exact rfl) rfl (by simp only [LP, zf, zm, hS.snapV, hS.freeV]; try rfl) (by simp only [F29, zv] <;> exact rfl) (by omega) ?_
 rintro d rfl
 refine cw_seq (cw_region ?_)
 refine ow_mc ?_
 refine ow_nil ?_
 refine sk_n (by simp only [ze] <;> exact rfl) ?_
 refine cw_seq (cw_block (cw_seq (cw_region ?_)))
 refine ow_me rfl ?_
 refine ow_op (by simp only [zo, lenD_str, lenD_nils, lenD_sl, lenD_msl, hS.len, g1, g2, g3, g4, Bool.not_false, hia] <;> exact rfl) ?_
 refine ow_op (by simp only [zo, binD, zb, Int.reduceEq, Int.reduceToNat, Int.reduceLT, hS.len, g1, g2, g3, g4, Bool.not_false, hia] <;> exact rfl) ?_
 refine ow_ml rfl ?_
 refine ow_know 0 (b := false) (by simp only [opd, zv, hS.len, g1, g2, g3, g4, Bool.not_false, hia] <;> rfl) (by simp only [zn] <;> exact rfl) ?_
 refine ow_on rfl ?_
 refine ow_me rfl ?_
 refine ow_on rfl ?_
 refine ow_op (by simp only [zo, binD, zb, Int.reduceEq, Int.reduceToNat, Int.reduceLT, hS.len, g1, g2, g3, g4, Bool.not_false, hia] <;> exact rfl) ?_
 refine ow_op (by simp only [zo, hS.len, g1, g2, g3, g4, Bool.not_false, hia] <;> exact rfl) ?_
 refine ow_ml rfl ?_
 refine ow_nil ?_
 refine sk_n (by simp only [ze] <;> exact rfl) ?_
 skip
 refine cw_false (by simp only [opd, zv, hS.len, g1, g2, g3, g4, Bool.not_false, hia] <;> rfl) ?_
 refine cw_seq (cw_region ?_)
 refine ow_me rfl ?_
 refine ow_op (by simp only [zo, lenD_str, lenD_nils, lenD_sl, lenD_msl, hS.len, g1, g2, g3, g4, Bool.not_false, hia] <;> exact rfl) ?_
 refine ow_op (by simp only [zo, binD, zb, Int.reduceEq, Int.reduceToNat, Int.reduceLT, hS.len, g1, g2, g3, g4, Bool.not_false, hia] <;> exact rfl) ?_
 refine ow_ml rfl ?_
 refine ow_know 0 (b := false) (by simp only [opd, zv, hS.len, g1, g2, g3, g4, Bool.not_false, hia] <;> rfl) (by simp only [zn] <;> exact rfl) ?_
 refine ow_on rfl ?_
 refine ow_me rfl ?_
 refine ow_on rfl ?_
 refine ow_op (by simp only [zo, binD, zb, Int.reduceEq, Int.reduceToNat, Int.reduceLT, hS.len, g1, g2, g3, g4, Bool.not_false, hia] <;> exact rfl) ?_
 refine ow_op (by simp only [zo, hS.len, g1, g2, g3, g4, Bool.not_false, hia] <;> exact rfl) ?_
 refine ow_ml rfl ?_
 refine ow_nil ?_
 refine sk_n (by simp only [ze] <;> exact rfl) ?_
 skip
 refine cw_false (by simp only [opd, zv, hS.len, g1, g2, g3, g4, Bool.not_false, hia] <;> rfl) ?_
 refine cw_skip (bk_n (sk_n rfl (cw_seq (cw_seq (cw_region ?_)))))
 refine ow_me rfl ?_
 refine ow_op (by simp only [zo, lenD_str, lenD_nils, lenD_sl, lenD_msl, hS.len, g1, g2, g3, g4, Bool.not_false, hia] <;> exact rfl) ?_
 refine ow_mc ?_
 refine ow_nil ?_
 refine sk_n (by simp only [ze] <;> exact rfl) ?_
 refine cw_block ?_
 refine cw_loop (fun n env S' => ∃ (u3 u4 u5 u10 u9 : D), n = 1 ∧ S' = ⟨[], 0⟩ ∧ env = [x, .int .i64 size, .int .i64 0, u3, u4, u5, x, .int .i64 rows.length, .int .i64 0, u9, u10]) (1) (by omega) (⟨_, _, _, _, _, rfl, rfl, rfl⟩) ?_
 rintro n env S' ⟨u3, u4, u5, u10, u9, rfl, rfl, rfl⟩
 refine cw_seq (cw_region ?_)
 refine ow_op (by simp only [zo, binD, zb, Int.reduceEq, Int.reduceToNat, Int.reduceLT, hS.len, g1, g2, g3, g4, Bool.not_false, hia] <;> exact rfl) ?_
 refine ow_nil ?_
 refine sk_n (by simp only [ze] <;> exact rfl) ?_
 refine cw_seq ?_
 skip
 refine cw_true (by simp only [opd, zv, hS.len, g1, g2, g3, g4, Bool.not_false, hia] <;> rw [h0]) ?_
 refine cw_skip (sk_n rfl (cw_seq (cw_block (cw_seq (cw_region ?_)))))
 refine ow_op (by simp only [zl, zm, iaddrD_sl, iaddrD_msl, Int.toNat_natCast, Int.toNat_zero, List.getElem?_map, Option.map_some, Int.le_refl, hS.len, g1, g2, g3, g4, Bool.not_false, hia] <;> exact rfl) ?_
 refine ow_op (by simp only [zl, zm, zd, partD, List.take, List.drop, hS.len, g1, g2, g3, g4, Bool.not_false, hia] <;> exact rfl) ?_
 refine ow_op (by simp only [zl, zm, hS.len, g1, g2, g3, g4, Bool.not_false, hia] <;> exact rfl) ?_
 refine ow_op (by simp only [zl, zm, storeD, overlay, snapVs, snaps, zs, zc, zf, List.take, List.drop, hS.len, g1, g2, g3, g4, Bool.not_false, hia] <;> exact rfl) ?_
 refine ow_nil ?_
 refine sk_n (by simp only [ze] <;> exact rfl) ?_
 refine cw_seq (cw_region ?_)
 refine ow_op (by simp only [zl, zm, zd, partD, List.take, List.drop, hS.len, g1, g2, g3, g4, Bool.not_false, hia] <;> exact rfl) ?_
 refine ow_me rfl ?_
 refine ow_op (by simp only [zo, hS.len, g1, g2, g3, g4, Bool.not_false, hia]; exact hv _ _ (by omega)) ?_
 refine ow_op (by simp only [zo, unD, hS.len, g1, g2, g3, g4, Bool.not_false, hia] <;> exact rfl) ?_
 refine ow_nil ?_
 refine sk_n (by simp only [ze] <;> exact rfl) ?_
 skip
 refine cw_true (by simp only [opd, zv, hS.len, g1, g2, g3, g4, Bool.not_false, hia] <;> rfl) ?_
 refine cw_seq (cw_region ?_)
 refine ow_mc ?_
 refine ow_nil ?_
 refine sk_n (by simp only [ze] <;> exact rfl) ?_
 refine cw_ret (bk_r (sk_r (lk_r (bk_r (sk_r ?_)))))
 refine ⟨_, by simp only [F29, resultD, resDs, resD, zg, zd, rowsOf, partD, List.take, List.drop, zm] <;> exact rfl, ?_⟩
 simp only [leaveP, leave, snapVs, snaps, zs, zf, zk]

def wantK (size pa pl : Int) (h : Shp) (n : Nat) : Int := if 8 < n ∨ size > 4096 then 3 else if n = 0 ∨ size < 1 ∨ ¬ okE size pa pl h then 1 else 0
theorem checkE_run {d : Nat} (hd : 17 ≤ d) (S : St) {x : D} {n : Nat} {size pa pl : Int} {num ed : Bool} {zs : Nat} (hS : SlD 14 (List.replicate n (rowE pa pl (shpE num ed zs))) x) (hn : n ≤ 1000) (hpa : pa ≤ 9223372036854775807) : runF LP NN d 29 [x, .int .i64 size] S = some (.int .i64 (wantK size pa pl (shpE num ed zs) n), S, false) := by
 have hl : (List.replicate n (rowE pa pl (shpE num ed zs))).length = n := by simp
 unfold wantK
 by_cases h3 : 8 < n ∨ size > 4096
 ·
  rw [if_pos h3]
  exact checkE_3 (by omega) S hS (by omega) size (by rw [hl]; exact h3)
 ·
  rw [if_neg h3]
  simp only [not_or] at h3
  by_cases h1 : n = 0 ∨ size < 1
  ·
   rw [if_pos (by rcases h1 with h | h <;> simp [h])]
   exact checkE_1 (by omega) S hS (by omega) size (by omega) (by omega) (by rw [hl]; exact h1)
  ·
   simp only [not_or] at h1
   by_cases ho : okE size pa pl (shpE num ed zs)
   ·
    rw [if_neg (by rintro (h | h | h); exact h1.1 h; exact h1.2 h; exact h ho)]
    obtain ⟨a, m, s, rfl, rfl, rfl, hs1, hs2, rfl, hg, _⟩ := okE_key ho (by omega) hpa
    have e : List.replicate n (rowE a m (shpE num false zs)) = keRows (List.replicate n ⟨shpE num false zs, a, m, false⟩) := by simp [keRows, Ke.row, rowE]
    rw [e] at hS
    exact check_run hd S hS (by simp; omega) (by simp; omega) s hs1 hs2 (fun k hk => by rw [List.eq_of_mem_replicate hk]; exact ge_ok hg)
   ·
    rw [if_pos (.inr (.inr ho))]
    exact checkE_bad (by omega) S hS (by omega) size (shpE num ed zs) pa pl (by omega) (by omega) (by rw [List.getElem?_replicate, if_pos (by omega)]; rfl) (by omega) (fun d S hd => keyE_no hd S _ pa pl size ho)

end Go.Proofs.YtabgobmeibjeeaaGreatDoor

/- Proved here: parts of the proof, joined (S17, S18, S19, S20, SP, S21, S22, S23, S24, S25, S26, S27, S28, S29, S30, S31, S32, S33, S34, S35, S52): an abstract machine, its soundness, what functions of the program compute in it; no condition. -/
import Derived.Test.YtabgobmeibjeeaaGreatDoorTie
import Derived.WalkKit
import Derived.ProofKit
import Derived.OpenShut
import Derived.ShutString
import Derived.ChangeOld
import Derived.Below
import Derived.LaidMore
import Derived.Lay
import Derived.SevenTiedAt
import Derived.Stop.Joined
import Derived.Test.YtabgobmeibjeeaaGreatDoorM4
namespace Go.Proofs.YtabgobmeibjeeaaGreatDoor
set_option linter.unusedSimpArgs false
set_option linter.unusedVariables false
set_option maxRecDepth 10000

theorem cmpT_at {l m : List UInt8} {j e : Nat} {b c : UInt8} (hb : l[j]? = some b) (hc : m[j]? = some c) (h : j < e) : cmpT ((l.drop j).take (e - j)) ((m.drop j).take (e - j)) = if cmpI b.toNat c.toNat != 0 then cmpI b.toNat c.toNat else cmpT ((l.drop (j + 1)).take (e - (j + 1))) ((m.drop (j + 1)).take (e - (j + 1))) := by
 obtain ⟨h1, rfl⟩ := List.getElem?_eq_some_iff.1 hb
 obtain ⟨h2, rfl⟩ := List.getElem?_eq_some_iff.1 hc
 rw [List.drop_eq_getElem_cons h1, List.drop_eq_getElem_cons h2, show e - j = e - (j + 1) + 1 by omega, List.take_succ_cons, List.take_succ_cons, cmpT]

theorem ord_val {b c : UInt8} {dn : Bool} (hne : b.toNat ≠ c.toNat) (rest : Int) : (if cmpI b.toNat c.toNat == 0 then rest else if dn then IntKind.i64.wrap (0 - cmpI b.toNat c.toNat) else cmpI b.toNat c.toNat) = if ((decide ((b.toNat : Int) < (c.toNat : Int)) == dn) != true) = true then -1 else 1 := by
 rcases Nat.lt_or_gt_of_ne hne with h | h
 ·
  have e1 : cmpI b.toNat c.toNat = -1 := by rw [cmpI, if_pos (by omega)]
  have e2 : decide ((b.toNat : Int) < (c.toNat : Int)) = true := decide_eq_true (by omega)
  rw [e1, e2]; cases dn <;> rfl
 ·
  have e1 : cmpI b.toNat c.toNat = 1 := by rw [cmpI, if_neg (by omega), if_pos (by omega)]
  have e2 : decide ((b.toNat : Int) < (c.toNat : Int)) = false := decide_eq_false (by omega)
  rw [e1, e2]; cases dn <;> rfl

theorem order_run {d : Nat} (hd : 1 ≤ d) (S : St) {x y z : D} {ks : List Ke} {l m : List UInt8} (hS : SlD 14 (keRows ks) x) (hR : SlD 1 (bR l) y) (hQ : SlD 1 (bR m) z) (h8 : ks.length ≤ 8) (hb : l.length ≤ 4096) (hlm : m.length = l.length) (hky : ∀ k ∈ ks, k.a + k.n ≤ l.length) : runF LP NN d 17 [x, y, z] S = some (.int .i64 (firstC (ks.map fun k => (cmpT (k.sub l) (k.sub m), k.dn))), S, false) := by
 refine run_pure (F := F17) rfl (by simp only [LP, fnOf, snapVs, snaps, zs, Bool.false_eq_true, if_false, Option.map_some, List.map_cons, List.map_nil, hS.snapV, hS.freeV, hR.snapV, hR.freeV, hQ.snapV, hQ.freeV] <;> exact rfl) rfl (by simp only [LP, zf, List.all_cons, List.all_nil, Bool.and_true, Bool.true_and, hS.snapV, hS.freeV, hR.snapV, hR.freeV, hQ.snapV, hQ.freeV]; try rfl) (by simp only [F17, zv] <;> exact rfl) (by omega) ?_
 rintro d rfl
 refine cw_seq (cw_region ?_)
 refine ow_mc ?_
 refine ow_nil ?_
 refine sk_n (by simp only [ze] <;> exact rfl) ?_
 refine cw_seq (cw_seq (cw_region ?_))
 refine ow_mc ?_
 refine ow_nil ?_
 refine sk_n (by simp only [ze] <;> exact rfl) ?_
 refine cw_block ?_
 refine cw_loop (fun n env S' => ∃ (i : Nat) (H : List AObj) (u5 u6 u7 u8 u9 u10 : D), i ≤ ks.length ∧ n = ks.length - i ∧ firstC ((ks.drop i).map fun k => (cmpT (k.sub l) (k.sub m), k.dn)) = firstC (ks.map fun k => (cmpT (k.sub l) (k.sub m), k.dn)) ∧ S' = ⟨H, 0⟩ ∧ env = [x, y, z, .int .i64 0, .int .i64 i, u5, u6, u7, u8, u9, u10]) (ks.length) (by omega) (⟨0, _, _, _, _, _, _, _, by omega, by omega, rfl, rfl, rfl⟩) ?_
 rintro n env S' ⟨i, H, u5, u6, u7, u8, u9, u10, hi, rfl, hF, rfl, rfl⟩
 have h0 : (0 : Int) ≤ (i : Int) := by omega
 refine cw_seq (cw_seq (cw_region ?_))
 refine ow_me rfl ?_
 refine ow_me rfl ?_
 refine ow_op (by simp only [zo, lenD_str, lenD_nils, lenD_sl, lenD_msl, hS.len, keRows_len, h0] <;> exact rfl) ?_
 refine ow_op (by simp only [zo, binD, zb, Int.reduceEq, Int.reduceToNat, Int.reduceLT, hS.len, keRows_len, h0] <;> exact rfl) ?_
 refine ow_nil ?_
 refine sk_n (by simp only [ze] <;> exact rfl) ?_
 refine cw_cond (by simp only [opd, zv, hS.len, keRows_len, h0] <;> exact rfl) (fun hcA => ?_) (fun hcA => ?_)
 ·
  have hlt : i < ks.length := by have := of_decide_eq_true hcA; omega
  have hw := wrap_nat i (by omega)
  obtain ⟨k, hk⟩ : ∃ k, ks[i]? = some k := ⟨_, List.getElem?_eq_getElem hlt⟩
  have hdr : ks.drop i = k :: ks.drop (i + 1) := by rw [List.drop_eq_getElem_cons hlt]; congr 1; exact (List.getElem?_eq_some_iff.1 hk).2
  have hkm := List.mem_of_getElem? hk
  have hfit := hky k hkm
  have hia := fun (S : St) => hS.iaddrN S .i64 (keRows_at hk)
  have hwk : IntKind.i64.wrap ((k.a : Int) + (k.n : Int)) = ((k.a + k.n : Nat) : Int) := by rw [IntKind.wrap_i64]; omega
  refine cw_skip (sk_n rfl (cw_seq (cw_block (cw_seq (cw_region ?_)))))
  refine ow_me rfl ?_
  refine ow_me rfl ?_
  refine ow_op (by simp only [zl, zm, iaddrD_sl, iaddrD_msl, Int.toNat_natCast, Int.toNat_zero, List.getElem?_map, Option.map_some, Int.le_refl, hS.len, keRows_len, h0, hw, hia, hwk] <;> exact rfl) ?_
  refine ow_op (by simp only [zl, zm, zd, partD, List.take, List.drop, hS.len, keRows_len, h0, hw, hia, hwk] <;> exact rfl) ?_
  refine ow_op (by simp only [zl, zm, hS.len, keRows_len, h0, hw, hia, hwk] <;> exact rfl) ?_
  refine ow_op (by simp only [zl, zm, storeD, overlay, snapVs, snaps, zs, zc, zf, List.take, List.drop, hS.len, keRows_len, h0, hw, hia, hwk] <;> exact rfl) ?_
  refine ow_nil ?_
  refine sk_n (by simp only [ze] <;> exact rfl) ?_
  refine cw_seq (cw_region ?_)
  refine ow_op (by simp only [zo, faddrD_ptr, faddrD_cptr, zm, hS.len, keRows_len, h0, hw, hia, hwk] <;> exact rfl) ?_
  refine ow_op (by simp only [zo, faddrD_ptr, faddrD_cptr, zm, hS.len, keRows_len, h0, hw, hia, hwk] <;> exact rfl) ?_
  refine ow_op (by simp only [zl, zm, zd, partD, List.take, List.drop, hS.len, keRows_len, h0, hw, hia, hwk] <;> exact rfl) ?_
  refine ow_ml rfl ?_
  refine ow_nil ?_
  refine sk_n (by simp only [ze] <;> exact rfl) ?_
  refine cw_block ?_
  refine cw_loop (fun n env S' => ∃ (j : Nat) (v7 v8 v9 v10 : D), k.a ≤ j ∧ j ≤ k.a + k.n ∧ n = k.a + k.n - j ∧ cmpT ((l.drop j).take (k.a + k.n - j)) ((m.drop j).take (k.a + k.n - j)) = cmpT (k.sub l) (k.sub m) ∧ S' = ⟨H ++ [⟨59, 14, [[.int .i64 k.a, .int .i64 k.n, .int .u8 k.cat, .int .u8 k.us, .str k.pic, .int .i64 k.dg, .int .i64 k.sc, .bool k.sg, .bool k.le, .bool k.se, .bool k.ju, .bool k.bl, .int .i64 k.sz, .bool k.dn]], 0, 0, false⟩], 0⟩ ∧ env = [x, y, z, .int .i64 0, .int .i64 i, .ptr H.length 0 0 0, .int .i64 j, v7, v8, v9, v10]) (k.n) (by omega) (⟨k.a, _, _, _, _, by omega, by omega, by omega, by rw [Nat.add_sub_cancel_left]; rfl, rfl, rfl⟩) ?_
  rintro n env S' ⟨j, v7, v8, v9, v10, hj1, hj2, rfl, hJ, rfl, rfl⟩
  have hj0 : (0 : Int) ≤ (j : Int) := by omega
  refine cw_seq (cw_seq (cw_region ?_))
  refine ow_me rfl ?_
  refine ow_op (by simp only [zo, faddrD_ptr, faddrD_cptr, zm, hS.len, keRows_len, h0, hw, hia, hwk, hj0] <;> exact rfl) ?_
  refine ow_op (by simp only [zo, faddrD_ptr, faddrD_cptr, zm, hS.len, keRows_len, h0, hw, hia, hwk, hj0] <;> exact rfl) ?_
  refine ow_op (by simp only [zl, zm, zd, partD, List.take, List.drop, hS.len, keRows_len, h0, hw, hia, hwk, hj0] <;> exact rfl) ?_
  refine ow_op (by simp only [zo, faddrD_ptr, faddrD_cptr, zm, hS.len, keRows_len, h0, hw, hia, hwk, hj0] <;> exact rfl) ?_
  refine ow_op (by simp only [zo, faddrD_ptr, faddrD_cptr, zm, hS.len, keRows_len, h0, hw, hia, hwk, hj0] <;> exact rfl) ?_
  refine ow_op (by simp only [zl, zm, zd, partD, List.take, List.drop, hS.len, keRows_len, h0, hw, hia, hwk, hj0] <;> exact rfl) ?_
  refine ow_op (by simp only [zo, binD, zb, Int.reduceEq, Int.reduceToNat, Int.reduceLT, hS.len, keRows_len, h0, hw, hia, hwk, hj0] <;> exact rfl) ?_
  refine ow_op (by simp only [zo, binD, zb, Int.reduceEq, Int.reduceToNat, Int.reduceLT, hS.len, keRows_len, h0, hw, hia, hwk, hj0] <;> exact rfl) ?_
  refine ow_nil ?_
  refine sk_n (by simp only [ze] <;> exact rfl) ?_
  refine cw_cond (by simp only [opd, zv, hS.len, keRows_len, h0, hw, hia, hwk, hj0] <;> exact rfl) (fun hcATB => ?_) (fun hcATB => ?_)
  ·
   have hjlt : j < k.a + k.n := by have := of_decide_eq_true hcATB; omega
   have hwj := wrap_nat j (by omega)
   obtain ⟨b, hlj⟩ : ∃ b, l[j]? = some b := ⟨_, List.getElem?_eq_getElem (by omega)⟩
   obtain ⟨c, hmj⟩ : ∃ c, m[j]? = some c := ⟨_, List.getElem?_eq_getElem (by omega)⟩
   have hja := fun (S : St) => hR.iaddrN S .i64 (bR_at hlj)
   have hjb := fun (S : St) => hQ.iaddrN S .i64 (bR_at hmj)
   refine cw_skip (sk_n rfl (cw_seq (cw_block (cw_seq ?_))))
   refine cw_drawn (by simp only [newsVals, zw, Nat.reduceAdd] <;> exact rfl) (by simp only [zw, newsObj, St.eta] <;> exact rfl) ?_
   refine dw_me rfl rfl ?_
   refine dw_me rfl rfl ?_
   refine dw_op (by simp only [zl, zm, iaddrD_sl, iaddrD_msl, Int.toNat_natCast, Int.toNat_zero, List.getElem?_map, Option.map_some, Int.le_refl, hS.len, keRows_len, h0, hw, hia, hwk, hj0, hwj, hja, hjb] <;> exact rfl) (by simp only [fpHere, zo, zq, hR.fpi, hQ.fpi] <;> exact rfl) rfl ?_
   refine dw_op (by simp only [zl, zm, zd, partD, List.take, List.drop, hS.len, keRows_len, h0, hw, hia, hwk, hj0, hwj, hja, hjb] <;> exact rfl) (by simp only [fpHere, zo, zq, hR.fpi, hQ.fpi] <;> exact rfl) rfl ?_
   refine dw_me rfl rfl ?_
   refine dw_me rfl rfl ?_
   refine dw_op (by simp only [zl, zm, iaddrD_sl, iaddrD_msl, Int.toNat_natCast, Int.toNat_zero, List.getElem?_map, Option.map_some, Int.le_refl, hS.len, keRows_len, h0, hw, hia, hwk, hj0, hwj, hja, hjb] <;> exact rfl) (by simp only [fpHere, zo, zq, hR.fpi, hQ.fpi] <;> exact rfl) rfl ?_
   refine dw_op (by simp only [zl, zm, zd, partD, List.take, List.drop, hS.len, keRows_len, h0, hw, hia, hwk, hj0, hwj, hja, hjb] <;> exact rfl) (by simp only [fpHere, zo, zq, hR.fpi, hQ.fpi] <;> exact rfl) rfl ?_
   refine dw_quiet (by simp only [zo, binD, zb, Int.reduceEq, Int.reduceToNat, Int.reduceLT, hS.len, keRows_len, h0, hw, hia, hwk, hj0, hwj, hja, hjb] <;> exact rfl) rfl rfl ?_
   refine dw_nil ?_
   refine sk_n (by simp only [ze] <;> exact rfl) ?_
   refine cw_cond (by simp only [opd, zv, hS.len, keRows_len, h0, hw, hia, hwk, hj0, hwj, hja, hjb] <;> exact rfl) (fun hcATBT => ?_) (fun hcATBT => ?_)
   ·
    refine cw_seq (cw_seq ?_)
    refine cw_drawn (by simp only [newsVals, zw, Nat.reduceAdd] <;> exact rfl) (by simp only [zw, newsObj, St.eta] <;> exact rfl) ?_
    refine dw_me rfl rfl ?_
    refine dw_me rfl rfl ?_
    refine dw_op (by simp only [zl, zm, iaddrD_sl, iaddrD_msl, Int.toNat_natCast, Int.toNat_zero, List.getElem?_map, Option.map_some, Int.le_refl, hS.len, keRows_len, h0, hw, hia, hwk, hj0, hwj, hja, hjb] <;> exact rfl) (by simp only [fpHere, zo, zq, hR.fpi, hQ.fpi] <;> exact rfl) rfl ?_
    refine dw_op (by simp only [zl, zm, zd, partD, List.take, List.drop, hS.len, keRows_len, h0, hw, hia, hwk, hj0, hwj, hja, hjb] <;> exact rfl) (by simp only [fpHere, zo, zq, hR.fpi, hQ.fpi] <;> exact rfl) rfl ?_
    refine dw_me rfl rfl ?_
    refine dw_me rfl rfl ?_
    refine dw_op (by simp only [zl, zm, iaddrD_sl, iaddrD_msl, Int.toNat_natCast, Int.toNat_zero, List.getElem?_map, Option.map_some, Int.le_refl, hS.len, keRows_len, h0, hw, hia, hwk, hj0, hwj, hja, hjb] <;> exact rfl) (by simp only [fpHere, zo, zq, hR.fpi, hQ.fpi] <;> exact rfl) rfl ?_
    refine dw_op (by simp only [zl, zm, zd, partD, List.take, List.drop, hS.len, keRows_len, h0, hw, hia, hwk, hj0, hwj, hja, hjb] <;> exact rfl) (by simp only [fpHere, zo, zq, hR.fpi, hQ.fpi] <;> exact rfl) rfl ?_
    refine dw_quiet (by simp only [zo, binD, zb, Int.reduceEq, Int.reduceToNat, Int.reduceLT, hS.len, keRows_len, h0, hw, hia, hwk, hj0, hwj, hja, hjb] <;> exact rfl) rfl rfl ?_
    refine dw_quiet (by simp only [zo, faddrD_ptr, faddrD_cptr, zm, hS.len, keRows_len, h0, hw, hia, hwk, hj0, hwj, hja, hjb] <;> exact rfl) rfl rfl ?_
    refine dw_op (by simp only [zl, zm, zd, partD, List.take, List.drop, hS.len, keRows_len, h0, hw, hia, hwk, hj0, hwj, hja, hjb] <;> exact rfl) (by simp only [fpHere, zo, zq, hR.fpi, hQ.fpi] <;> exact rfl) rfl ?_
    refine dw_quiet (by simp only [zo, hS.len, keRows_len, h0, hw, hia, hwk, hj0, hwj, hja, hjb] <;> exact rfl) rfl rfl ?_
    refine dw_nil ?_
    refine sk_n (by simp only [ze] <;> exact rfl) ?_
    refine cw_cond (by simp only [opd, zv, hS.len, keRows_len, h0, hw, hia, hwk, hj0, hwj, hja, hjb] <;> exact rfl) (fun hcATBTT => ?_) (fun hcATBTT => ?_)
    ·
     refine cw_seq (cw_region ?_)
     refine ow_mc ?_
     refine ow_nil ?_
     refine sk_n (by simp only [ze] <;> exact rfl) ?_
     refine cw_ret (sk_r (bk_r (sk_r (lk_r (bk_r (bk_r (sk_r (lk_r (bk_r (sk_r ?_))))))))))
     refine ⟨_, by simp only [F17, resultD, resDs, resD, List.getD_cons_zero, List.getD_cons_succ, zd, rowsOf, partD, List.getElem?_cons_zero, List.getElem?_cons_succ, if_true, if_false, Bool.false_eq_true, List.take, List.drop, zm] <;> exact rfl, ?_⟩
     have hne : b.toNat ≠ c.toNat := by have := hcATBT; simp at this; omega
     have hcv : cmpT (k.sub l) (k.sub m) = cmpI b.toNat c.toNat := by
      rw [← hJ, cmpT_at hlj hmj hjlt, if_pos]
      simp only [cmpI]; split
      ·
       rfl
      ·
       split
       ·
        rfl
       ·
        exfalso; omega
     rw [← hF, hdr, List.map_cons, firstC, hcv, ord_val hne, if_pos hcATBTT]
     simp only [leaveP, leave, snapVs, snaps, zs, zf, zk]
    ·
     refine cw_skip (sk_n rfl (cw_seq (cw_region ?_)))
     refine ow_mc ?_
     refine ow_nil ?_
     refine sk_n (by simp only [ze] <;> exact rfl) ?_
     refine cw_ret (bk_r (sk_r (lk_r (bk_r (bk_r (sk_r (lk_r (bk_r (sk_r ?_)))))))))
     refine ⟨_, by simp only [F17, resultD, resDs, resD, List.getD_cons_zero, List.getD_cons_succ, zd, rowsOf, partD, List.getElem?_cons_zero, List.getElem?_cons_succ, if_true, if_false, Bool.false_eq_true, List.take, List.drop, zm] <;> exact rfl, ?_⟩
     have hne : b.toNat ≠ c.toNat := by have := hcATBT; simp at this; omega
     have hcv : cmpT (k.sub l) (k.sub m) = cmpI b.toNat c.toNat := by
      rw [← hJ, cmpT_at hlj hmj hjlt, if_pos]
      simp only [cmpI]; split
      ·
       rfl
      ·
       split
       ·
        rfl
       ·
        exfalso; omega
     rw [← hF, hdr, List.map_cons, firstC, hcv, ord_val hne, if_neg (by rw [hcATBTT]; simp)]
     simp only [leaveP, leave, snapVs, snaps, zs, zf, zk]
   ·
    refine cw_skip (bk_n (sk_n rfl (cw_region ?_)))
    refine ow_me rfl ?_
    refine ow_op (by simp only [zo, binD, zb, Int.reduceEq, Int.reduceToNat, Int.reduceLT, hS.len, keRows_len, h0, hw, hia, hwk, hj0, hwj, hja, hjb] <;> exact rfl) ?_
    refine ow_ml rfl ?_
    refine ow_nil ?_
    refine lk_n (by simp only [ze] <;> exact rfl) ?_
    exact ⟨k.a + k.n - (j + 1), by omega, j + 1, _, _, _, _, by omega, by omega, rfl, by rw [← hJ, cmpT_at hlj hmj hjlt, if_neg (by have : b = c := UInt8.toNat_inj.1 (by have := hcATBT; simp at this; omega); subst this; simp [cmpI])], rfl, rfl⟩
  ·
   have hjge : k.a + k.n ≤ j := by have := of_decide_eq_false hcATB; omega
   refine cw_exit (sk_e (lk_e (bk_e (bk_n (sk_n rfl (cw_region ?_))))))
   refine ow_me rfl ?_
   refine ow_op (by simp only [zo, binD, zb, Int.reduceEq, Int.reduceToNat, Int.reduceLT, hS.len, keRows_len, h0, hw, hia, hwk, hj0] <;> exact rfl) ?_
   refine ow_ml rfl ?_
   refine ow_nil ?_
   refine lk_n (by simp only [ze] <;> exact rfl) ?_
   exact ⟨ks.length - (i + 1), by omega, i + 1, _, _, _, _, _, _, _, by omega, rfl, by rw [← hF, hdr, List.map_cons, firstC, if_pos (by rw [← hJ, show k.a + k.n - j = 0 by omega]; simp [cmpT])], rfl, rfl⟩
 ·
  have hge : ks.length ≤ i := by have := of_decide_eq_false hcA; omega
  refine cw_exit (sk_e (lk_e (bk_e (sk_n rfl (cw_seq (cw_region ?_))))))
  refine ow_mc ?_
  refine ow_nil ?_
  refine sk_n (by simp only [ze] <;> exact rfl) ?_
  refine cw_ret ?_
  refine ⟨_, by simp only [F17, resultD, resDs, resD, List.getD_cons_zero, List.getD_cons_succ, zd, rowsOf, partD, List.getElem?_cons_zero, List.getElem?_cons_succ, if_true, if_false, Bool.false_eq_true, List.take, List.drop, zm] <;> exact rfl, ?_⟩
  rw [← hF, List.drop_eq_nil_of_le hge, List.map_nil, firstC]
  simp only [leaveP, leave, snapVs, snaps, zs, zf, zk]

end Go.Proofs.YtabgobmeibjeeaaGreatDoor

namespace Go.Proofs.YtabgobmeibjeeaaGreatDoor
set_option linter.unusedSimpArgs false
set_option linter.unusedVariables false
set_option maxRecDepth 10000

theorem textK_run {d : Nat} (hd : 12 ≤ d) (S : St) (n : Nat) (h1 : 1 ≤ n) (h6 : n ≤ 6) : runF LP NN d 27 [.int .i64 n] S = some (.agg [.int .u8 2, .int .u8 0, .str (mkS (List.replicate n 88)), .int .i64 0, .int .i64 0, .bool false, .bool false, .bool false, .bool false, .bool false, .int .i64 n], S, false) := by
 obtain ⟨d, rfl⟩ : ∃ d', d = d' + 12 := ⟨d - 12, by omega⟩
 obtain ⟨k, rfl⟩ : ∃ k, n = k + 1 := ⟨n - 1, by omega⟩
 exact tab_at (text_tab d S) k (by omega)
theorem numK_run {d : Nat} (hd : 12 ≤ d) (S : St) (n : Nat) (h1 : 1 ≤ n) (h6 : n ≤ 6) : runF LP NN d 28 [.int .i64 n] S = some (.agg [.int .u8 4, .int .u8 0, .str (mkS (List.replicate n 57)), .int .i64 n, .int .i64 0, .bool false, .bool false, .bool false, .bool false, .bool false, .int .i64 n], S, false) := by
 obtain ⟨d, rfl⟩ : ∃ d', d = d' + 12 := ⟨d - 12, by omega⟩
 obtain ⟨k, rfl⟩ : ∃ k, n = k + 1 := ⟨n - 1, by omega⟩
 exact tab_at (number_tab d S) k (by omega)
/-- the key of a triple -/
def kT (a n : Nat) (dn : Bool) : Ke := ⟨⟨2, 0, mkS (List.replicate n 88), 0, 0, false, false, false, false, false, n⟩, a, n, dn⟩
def kN (a n : Nat) (dn : Bool) : Ke := ⟨⟨4, 0, mkS (List.replicate n 57), n, 0, false, false, false, false, false, n⟩, a, n, dn⟩
def kat (t : Nat × Nat × Nat) : Nat := t.1 % 6
def kln (t : Nat × Nat × Nat) : Nat := 1 + t.2.1 % (6 - kat t)
def keyOf (t : Nat × Nat × Nat) : Ke := if t.2.2 / 2 % 2 = 1 then kN (kat t) (kln t) (t.2.2 % 2 == 1) else kT (kat t) (kln t) (t.2.2 % 2 == 1)
def triRows (l : List (Nat × Nat × Nat)) : List (List D) := l.map fun t => [.int .u8 (t.1 : Int), .int .u8 (t.2.1 : Int), .int .u8 (t.2.2 : Int)]
theorem triRows_len (l : List (Nat × Nat × Nat)) : (triRows l).length = l.length := by simp [triRows]
theorem triRows_at {l : List (Nat × Nat × Nat)} {i : Nat} {t : Nat × Nat × Nat} (h : l[i]? = some t) : (triRows l)[i]? = some [.int .u8 (t.1 : Int), .int .u8 (t.2.1 : Int), .int .u8 (t.2.2 : Int)] := by simp [triRows, h]
def keysF (l : List (Nat × Nat × Nat)) : List Ke := if l = [] then [kT 0 6 false] else (l.take 4).map keyOf
theorem kln_le (t : Nat × Nat × Nat) : 1 ≤ kln t ∧ kat t + kln t ≤ 6 := by
 unfold kln kat
 have : t.2.1 % (6 - t.1 % 6) < 6 - t.1 % 6 := Nat.mod_lt _ (by omega)
 omega

theorem kOf_run {d : Nat} (hd : 13 ≤ d) (S : St) {x : D} {l : List (Nat × Nat × Nat)} (hS : SlD 3 (triRows l) x) (hbd : ∀ t ∈ l, t.1 < 256 ∧ t.2.1 < 256 ∧ t.2.2 < 256) (hll : l.length ≤ 9223372036854775807) : runF LP NN d 10 [x] S = some (.sl 14 (keRows (keysF l)) none, S, false) := by
 refine run_pure (F := F10) rfl (by simp only [LP, fnOf, snapVs, snaps, zs, Bool.false_eq_true, if_false, Option.map_some, List.map_cons, List.map_nil, hS.snapV, hS.freeV] <;> exact rfl) rfl (by simp only [LP, zf, List.all_cons, List.all_nil, Bool.and_true, Bool.true_and, hS.snapV, hS.freeV]; try rfl) (by simp only [F10, zv] <;> exact rfl) (by omega) ?_
 rintro d rfl
 refine cw_seq (cw_region ?_)
 refine ow_mc ?_
 refine ow_nil ?_
 refine sk_n (by simp only [ze] <;> exact rfl) ?_
 refine cw_seq (cw_region ?_)
 refine ow_mc ?_
 refine ow_nil ?_
 refine sk_n (by simp only [ze] <;> exact rfl) ?_
 refine cw_seq (cw_seq (cw_region ?_))
 refine ow_mc ?_
 refine ow_nil ?_
 refine sk_n (by simp only [ze] <;> exact rfl) ?_
 refine cw_block ?_
 refine cw_loop (fun n env S' => ∃ (i : Nat) (H : List AObj) (ox u4 u5 u6 u7 u8 u9 : D), i ≤ l.length ∧ i ≤ 4 ∧ n = 4 - i ∧ AppAt 59 14 (keRows ((l.take i).map keyOf)) H ox ∧ S' = ⟨H, 0⟩ ∧ env = [x, .nils, ox, .int .i64 i, u4, u5, u6, u7, u8, u9]) (4) (by omega) (⟨0, _, _, _, _, _, _, _, _, by omega, by omega, by omega, AppAt.nil _ _ _, rfl, rfl⟩) ?_
 rintro n env S' ⟨i, H, ox, u4, u5, u6, u7, u8, u9, hi, hi4, rfl, hA, rfl, rfl⟩
 have h0 : (0 : Int) ≤ (i : Int) := by omega
 refine cw_seq (cw_seq (cw_region ?_))
 refine ow_me rfl ?_
 refine ow_me rfl ?_
 refine ow_op (by simp only [zo, lenD_str, lenD_nils, lenD_sl, lenD_msl, hS.len, triRows_len, Nat.add_assoc, Nat.reduceAdd, h0] <;> exact rfl) ?_
 refine ow_op (by simp only [zo, binD, zb, Int.reduceEq, Int.reduceToNat, Int.reduceLT, hS.len, triRows_len, Nat.add_assoc, Nat.reduceAdd, h0] <;> exact rfl) ?_
 refine ow_ml rfl ?_
 refine ow_split 0 (by simp only [opd, zv] <;> exact rfl) (by simp only [zn] <;> exact rfl) (by simp only [zn] <;> exact rfl) (fun hgA => ?_) (fun hgA => ?_)
 ·
  have hlt : i < l.length := by have := of_decide_eq_true hgA; omega
  have hw := wrap_nat i (by omega)
  obtain ⟨t, ht⟩ : ∃ t, l[i]? = some t := ⟨_, List.getElem?_eq_getElem hlt⟩
  have htm := List.mem_of_getElem? ht
  obtain ⟨hb1, hb2, hb3⟩ := hbd t htm
  obtain ⟨hn1, hn6⟩ := kln_le t
  have hia := fun (S : St) => hS.iaddrN S .i64 (triRows_at ht)
  have e1 : IntKind.i64.wrap ((t.1 : Int).tmod 6) = (kat t : Int) := by rw [Int.tmod_eq_emod_of_nonneg (by omega), IntKind.wrap_i64]; unfold kat; omega
  have e2 : IntKind.i64.wrap (t.2.1 : Int) = (t.2.1 : Int) := by rw [IntKind.wrap_i64]; omega
  have e3 : IntKind.i64.wrap (6 - (kat t : Int)) = ((6 - kat t : Nat) : Int) := by rw [IntKind.wrap_i64]; unfold kat; omega
  have e4 : IntKind.i64.wrap (1 + (t.2.1 : Int).tmod ((6 - kat t : Nat) : Int)) = (kln t : Int) := by rw [Int.tmod_eq_emod_of_nonneg (by omega), IntKind.wrap_i64]; unfold kln; have : t.2.1 % (6 - kat t) < 6 - kat t := Nat.mod_lt _ (by unfold kat; omega); rw [← Int.natCast_emod]; omega
  have e5 : ((6 - kat t : Nat) : Int) ≠ 0 := by unfold kat; omega
  have e6 : ((t.2.2 : Int).tmod 2 == 1) = (t.2.2 % 2 == 1) := by rw [Int.tmod_eq_emod_of_nonneg (by omega), Bool.eq_iff_iff]; simp only [beq_iff_eq]; omega
  have e7 : IntKind.u8.wrap ((t.2.2 : Int).tdiv 2) = ((t.2.2 / 2 : Nat) : Int) := by rw [Int.tdiv_eq_ediv_of_nonneg (by omega)]; simp only [IntKind.wrap, IntKind.signed, IntKind.bits, Bool.false_and, Bool.false_eq_true, if_false]; omega
  have hsn : (l.take (i + 1)).map keyOf = (l.take i).map keyOf ++ [keyOf t] := by rw [List.take_add_one, ht]; simp
  refine ow_on (by simp only [opd, zv]) ?_
  refine ow_me rfl ?_
  refine ow_on (by simp only [opd, zv]) ?_
  refine ow_op (by simp only [zo, binD, zb, Int.reduceEq, Int.reduceToNat, Int.reduceLT, hS.len, triRows_len, Nat.add_assoc, Nat.reduceAdd, h0, hw, hia, e1, e2, e3, e4, e5, e6, e7] <;> exact rfl) ?_
  refine ow_op (by simp only [zo, hS.len, triRows_len, Nat.add_assoc, Nat.reduceAdd, h0, hw, hia, e1, e2, e3, e4, e5, e6, e7] <;> exact rfl) ?_
  refine ow_nil ?_
  refine sk_n (by simp only [ze] <;> exact rfl) ?_
  refine cw_cond (by simp only [opd, zv, hS.len, triRows_len, Nat.add_assoc, Nat.reduceAdd, h0, hw, hia, e1, e2, e3, e4, e5, e6, e7] <;> exact rfl) (fun hcAT => ?_) (fun hcAT => ?_)
  ·
   have hi5 : i < 4 := by have := of_decide_eq_true hcAT; omega
   refine cw_skip (sk_n rfl (cw_seq (cw_block (cw_seq (cw_region ?_)))))
   refine ow_me rfl ?_
   refine ow_me rfl ?_
   refine ow_op (by simp only [zl, zm, iaddrD_sl, iaddrD_msl, Int.toNat_natCast, Int.toNat_zero, List.getElem?_map, Option.map_some, Int.le_refl, hS.len, triRows_len, Nat.add_assoc, Nat.reduceAdd, h0, hw, hia, e1, e2, e3, e4, e5, e6, e7] <;> exact rfl) ?_
   refine ow_op (by simp only [zo, aaddrD, zm, hS.len, triRows_len, Nat.add_assoc, Nat.reduceAdd, h0, hw, hia, e1, e2, e3, e4, e5, e6, e7] <;> exact rfl) ?_
   refine ow_op (by simp only [zl, zm, zd, partD, List.take, List.drop, hS.len, triRows_len, Nat.add_assoc, Nat.reduceAdd, h0, hw, hia, e1, e2, e3, e4, e5, e6, e7] <;> exact rfl) ?_
   refine ow_op (by simp only [zo, binD, zb, Int.reduceEq, Int.reduceToNat, Int.reduceLT, hS.len, triRows_len, Nat.add_assoc, Nat.reduceAdd, h0, hw, hia, e1, e2, e3, e4, e5, e6, e7] <;> exact rfl) ?_
   refine ow_op (by simp only [zo, hS.len, triRows_len, Nat.add_assoc, Nat.reduceAdd, h0, hw, hia, e1, e2, e3, e4, e5, e6, e7] <;> exact rfl) ?_
   refine ow_ml rfl ?_
   refine ow_nil ?_
   refine sk_n (by simp only [ze] <;> exact rfl) ?_
   refine cw_seq (cw_region ?_)
   refine ow_me rfl ?_
   refine ow_me rfl ?_
   refine ow_op (by simp only [zl, zm, iaddrD_sl, iaddrD_msl, Int.toNat_natCast, Int.toNat_zero, List.getElem?_map, Option.map_some, Int.le_refl, hS.len, triRows_len, Nat.add_assoc, Nat.reduceAdd, h0, hw, hia, e1, e2, e3, e4, e5, e6, e7] <;> exact rfl) ?_
   refine ow_op (by simp only [zo, aaddrD, zm, hS.len, triRows_len, Nat.add_assoc, Nat.reduceAdd, h0, hw, hia, e1, e2, e3, e4, e5, e6, e7] <;> exact rfl) ?_
   refine ow_op (by simp only [zl, zm, zd, partD, List.take, List.drop, hS.len, triRows_len, Nat.add_assoc, Nat.reduceAdd, h0, hw, hia, e1, e2, e3, e4, e5, e6, e7] <;> exact rfl) ?_
   refine ow_op (by simp only [zo, hS.len, triRows_len, Nat.add_assoc, Nat.reduceAdd, h0, hw, hia, e1, e2, e3, e4, e5, e6, e7] <;> exact rfl) ?_
   refine ow_me rfl ?_
   refine ow_op (by simp only [zo, binD, zb, Int.reduceEq, Int.reduceToNat, Int.reduceLT, hS.len, triRows_len, Nat.add_assoc, Nat.reduceAdd, h0, hw, hia, e1, e2, e3, e4, e5, e6, e7] <;> exact rfl) ?_
   refine ow_op (by simp only [zo, binD, zb, Int.reduceEq, Int.reduceToNat, Int.reduceLT, hS.len, triRows_len, Nat.add_assoc, Nat.reduceAdd, h0, hw, hia, e1, e2, e3, e4, e5, e6, e7] <;> exact rfl) ?_
   refine ow_op (by simp only [zo, binD, zb, Int.reduceEq, Int.reduceToNat, Int.reduceLT, hS.len, triRows_len, Nat.add_assoc, Nat.reduceAdd, h0, hw, hia, e1, e2, e3, e4, e5, e6, e7] <;> exact rfl) ?_
   refine ow_ml rfl ?_
   refine ow_nil ?_
   refine sk_n (by simp only [ze] <;> exact rfl) ?_
   refine cw_seq ?_
   refine cw_drawn (by simp only [newsVals, zw, Nat.reduceAdd] <;> exact rfl) (by simp only [zw, newsObj, St.eta] <;> exact rfl) ?_
   refine dw_me rfl rfl ?_
   refine dw_me rfl rfl ?_
   refine dw_quiet (by simp only [zo, fillD, overlay, zc, List.take, List.drop, Nat.reduceAdd, Nat.reduceLeDiff, Nat.reduceBEq, zm, hS.len, triRows_len, Nat.add_assoc, Nat.reduceAdd, h0, hw, hia, e1, e2, e3, e4, e5, e6, e7] <;> exact rfl) rfl rfl ?_
   refine dw_me rfl rfl ?_
   first
    | refine dw_op (by simp only [zo, hS.len, triRows_len, Nat.add_assoc, Nat.reduceAdd, h0, hw, hia, e1, e2, e3, e4, e5, e6, e7]; exact textK_run (by omega) _ (kln t) hn1 (by omega)) (by simp only [fpHere, zo, zq, hS.fpi, plainV_agg, List.all_cons, List.all_nil, plain1_int, plain1_str, plain1_bool, plain1_nils, Bool.and_true, Bool.and_self, if_true] <;> exact rfl) rfl ?_
    | refine dw_op (by simp only [zo, hS.len, triRows_len, Nat.add_assoc, Nat.reduceAdd, h0, hw, hia, e1, e2, e3, e4, e5, e6, e7]; exact textK_run (by omega) _ 6 (by omega) (by omega)) (by simp only [fpHere, zo, zq, hS.fpi, plainV_agg, List.all_cons, List.all_nil, plain1_int, plain1_str, plain1_bool, plain1_nils, Bool.and_true, Bool.and_self, if_true] <;> exact rfl) rfl ?_
   refine dw_me rfl rfl ?_
   refine dw_me rfl rfl ?_
   refine dw_op (by simp only [zl, zm, iaddrD_sl, iaddrD_msl, Int.toNat_natCast, Int.toNat_zero, List.getElem?_map, Option.map_some, Int.le_refl, hS.len, triRows_len, Nat.add_assoc, Nat.reduceAdd, h0, hw, hia, e1, e2, e3, e4, e5, e6, e7] <;> exact rfl) (by simp only [fpHere, zo, zq, hS.fpi, plainV_agg, List.all_cons, List.all_nil, plain1_int, plain1_str, plain1_bool, plain1_nils, Bool.and_true, Bool.and_self, if_true] <;> exact rfl) rfl ?_
   refine dw_quiet (by simp only [zo, aaddrD, zm, hS.len, triRows_len, Nat.add_assoc, Nat.reduceAdd, h0, hw, hia, e1, e2, e3, e4, e5, e6, e7] <;> exact rfl) rfl rfl ?_
   refine dw_op (by simp only [zl, zm, zd, partD, List.take, List.drop, hS.len, triRows_len, Nat.add_assoc, Nat.reduceAdd, h0, hw, hia, e1, e2, e3, e4, e5, e6, e7] <;> exact rfl) (by simp only [fpHere, zo, zq, hS.fpi, plainV_agg, List.all_cons, List.all_nil, plain1_int, plain1_str, plain1_bool, plain1_nils, Bool.and_true, Bool.and_self, if_true] <;> exact rfl) rfl ?_
   refine dw_quiet (by simp only [zo, binD, zb, Int.reduceEq, Int.reduceToNat, Int.reduceLT, hS.len, triRows_len, Nat.add_assoc, Nat.reduceAdd, h0, hw, hia, e1, e2, e3, e4, e5, e6, e7] <;> exact rfl) rfl rfl ?_
   refine dw_quiet (by simp only [zo, binD, zb, Int.reduceEq, Int.reduceToNat, Int.reduceLT, hS.len, triRows_len, Nat.add_assoc, Nat.reduceAdd, h0, hw, hia, e1, e2, e3, e4, e5, e6, e7] <;> exact rfl) rfl rfl ?_
   refine dw_quiet (by simp only [zo, fillD, overlay, zc, List.take, List.drop, Nat.reduceAdd, Nat.reduceLeDiff, Nat.reduceBEq, zm, hS.len, triRows_len, Nat.add_assoc, Nat.reduceAdd, h0, hw, hia, e1, e2, e3, e4, e5, e6, e7] <;> exact rfl) rfl rfl ?_
   refine dw_op (by simp only [zo] <;> exact rfl) rfl rfl ?_
   refine dw_op (by simp only [zl, zm, storeD, overlay, snapVs, snaps, zs, zc, zf, List.take, List.drop, hS.len, triRows_len, Nat.add_assoc, Nat.reduceAdd, h0, hw, hia, e1, e2, e3, e4, e5, e6, e7] <;> exact rfl) (by simp only [fpHere, zo, zq, hS.fpi, plainV_agg, List.all_cons, List.all_nil, plain1_int, plain1_str, plain1_bool, plain1_nils, Bool.and_true, Bool.and_self, if_true] <;> exact rfl) rfl ?_
   refine dw_nil ?_
   refine sk_n (by simp only [ze] <;> exact rfl) ?_
   refine cw_seq (cw_seq (cw_region ?_))
   refine ow_me rfl ?_
   refine ow_me rfl ?_
   refine ow_op (by simp only [zl, zm, iaddrD_sl, iaddrD_msl, Int.toNat_natCast, Int.toNat_zero, List.getElem?_map, Option.map_some, Int.le_refl, hS.len, triRows_len, Nat.add_assoc, Nat.reduceAdd, h0, hw, hia, e1, e2, e3, e4, e5, e6, e7] <;> exact rfl) ?_
   refine ow_op (by simp only [zo, aaddrD, zm, hS.len, triRows_len, Nat.add_assoc, Nat.reduceAdd, h0, hw, hia, e1, e2, e3, e4, e5, e6, e7] <;> exact rfl) ?_
   refine ow_op (by simp only [zl, zm, zd, partD, List.take, List.drop, hS.len, triRows_len, Nat.add_assoc, Nat.reduceAdd, h0, hw, hia, e1, e2, e3, e4, e5, e6, e7] <;> exact rfl) ?_
   refine ow_op (by simp only [zo, binD, zb, Int.reduceEq, Int.reduceToNat, Int.reduceLT, hS.len, triRows_len, Nat.add_assoc, Nat.reduceAdd, h0, hw, hia, e1, e2, e3, e4, e5, e6, e7] <;> exact rfl) ?_
   refine ow_op (by simp only [zo, binD, zb, Int.reduceEq, Int.reduceToNat, Int.reduceLT, hS.len, triRows_len, Nat.add_assoc, Nat.reduceAdd, h0, hw, hia, e1, e2, e3, e4, e5, e6, e7] <;> exact rfl) ?_
   refine ow_op (by simp only [zo, binD, zb, Int.reduceEq, Int.reduceToNat, Int.reduceLT, hS.len, triRows_len, Nat.add_assoc, Nat.reduceAdd, h0, hw, hia, e1, e2, e3, e4, e5, e6, e7] <;> exact rfl) ?_
   refine ow_nil ?_
   refine sk_n (by simp only [ze] <;> exact rfl) ?_
   refine cw_cond (by simp only [opd, zv, hS.len, triRows_len, Nat.add_assoc, Nat.reduceAdd, h0, hw, hia, e1, e2, e3, e4, e5, e6, e7] <;> exact rfl) (fun hcATT => ?_) (fun hcATT => ?_)
   ·
    have hkey : keyOf t = kN (kat t) (kln t) (t.2.2 % 2 == 1) := by rw [keyOf, if_pos (by have := hcATT; rw [Int.tmod_eq_emod_of_nonneg (by omega)] at this; simp only [beq_iff_eq] at this; omega)]
    have hA2 := (hA.push [⟨59, 14, [(kN (kat t) (kln t) (t.2.2 % 2 == 1)).row], 0, 0, false⟩])
    obtain ⟨ox', H', hap, hA', hlen', hkeep⟩ := hA2.app 80 (new := [(kN (kat t) (kln t) (t.2.2 % 2 == 1)).row]) (c := some 1) rfl (by rw [keRows_len]; simp; omega)
    rw [show keRows ((l.take i).map keyOf) ++ [(kN (kat t) (kln t) (t.2.2 % 2 == 1)).row] = keRows ((l.take i).map keyOf ++ [keyOf t]) by rw [hkey]; simp [keRows]] at hA'
    simp only [kN, Ke.row] at hap
    refine cw_region ?_
    refine ow_me rfl ?_
    refine ow_op (by simp only [zo, hS.len, triRows_len, Nat.add_assoc, Nat.reduceAdd, h0, hw, hia, e1, e2, e3, e4, e5, e6, e7]; exact numK_run (by omega) _ (kln t) hn1 (by omega)) ?_
    refine ow_op (by simp only [zo, faddrD_ptr, faddrD_cptr, zm, hS.len, triRows_len, Nat.add_assoc, Nat.reduceAdd, h0, hw, hia, e1, e2, e3, e4, e5, e6, e7] <;> exact rfl) ?_
    refine ow_op (by simp only [zl, zm, storeD, overlay, snapVs, snaps, zs, zc, zf, List.take, List.drop, hS.len, triRows_len, Nat.add_assoc, Nat.reduceAdd, h0, hw, hia, e1, e2, e3, e4, e5, e6, e7] <;> exact rfl) ?_
    refine ow_nil ?_
    refine sk_n (by simp only [ze] <;> exact rfl) ?_
    refine cw_region ?_
    refine ow_me rfl ?_
    refine ow_op (by simp only [zl, zm, zd, partD, List.take, List.drop, hS.len, triRows_len, Nat.add_assoc, Nat.reduceAdd, h0, hw, hia, e1, e2, e3, e4, e5, e6, e7] <;> exact rfl) ?_
    refine ow_op (by simp only [zl, zm, fillRows, List.replicate, snapVs, snaps, zs, zc, zf, hS.len, triRows_len, Nat.add_assoc, Nat.reduceAdd, h0, hw, hia, e1, e2, e3, e4, e5, e6, e7] <;> exact rfl) ?_
    refine ow_op (by simp only [opd, zv, exOp, aop, LOp.loud, lop, if_true]; exact hap) ?_
    refine ow_ml rfl ?_
    refine ow_nil (bk_n ?_)
    refine sk_n (by simp only [ze] <;> exact rfl) ?_
    refine cw_region ?_
    refine ow_me rfl ?_
    refine ow_op (by simp only [zo, binD, zb, Int.reduceEq, Int.reduceToNat, Int.reduceLT, hS.len, triRows_len, Nat.add_assoc, Nat.reduceAdd, h0, hw, hia, e1, e2, e3, e4, e5, e6, e7] <;> exact rfl) ?_
    refine ow_ml rfl ?_
    refine ow_nil ?_
    refine lk_n (by simp only [ze] <;> exact rfl) ?_
    exact ⟨4 - (i + 1), by omega, i + 1, _, _, _, _, _, _, _, _, by omega, by omega, rfl, by rw [hsn]; exact hA', rfl, rfl⟩
   ·
    have hkey : keyOf t = kT (kat t) (kln t) (t.2.2 % 2 == 1) := by rw [keyOf, if_neg (by have := hcATT; rw [Int.tmod_eq_emod_of_nonneg (by omega)] at this; simp only [beq_eq_false_iff_ne] at this; omega)]
    have hA2 := (hA.push [⟨59, 14, [(kT (kat t) (kln t) (t.2.2 % 2 == 1)).row], 0, 0, false⟩])
    obtain ⟨ox', H', hap, hA', hlen', hkeep⟩ := hA2.app 80 (new := [(kT (kat t) (kln t) (t.2.2 % 2 == 1)).row]) (c := some 1) rfl (by rw [keRows_len]; simp; omega)
    rw [show keRows ((l.take i).map keyOf) ++ [(kT (kat t) (kln t) (t.2.2 % 2 == 1)).row] = keRows ((l.take i).map keyOf ++ [keyOf t]) by rw [hkey]; simp [keRows]] at hA'
    simp only [kT, Ke.row] at hap
    refine cw_skip (sk_n rfl (cw_region ?_))
    refine ow_me rfl ?_
    refine ow_op (by simp only [zl, zm, zd, partD, List.take, List.drop, hS.len, triRows_len, Nat.add_assoc, Nat.reduceAdd, h0, hw, hia, e1, e2, e3, e4, e5, e6, e7] <;> exact rfl) ?_
    refine ow_op (by simp only [zl, zm, fillRows, List.replicate, snapVs, snaps, zs, zc, zf, hS.len, triRows_len, Nat.add_assoc, Nat.reduceAdd, h0, hw, hia, e1, e2, e3, e4, e5, e6, e7] <;> exact rfl) ?_
    refine ow_op (by simp only [opd, zv, exOp, aop, LOp.loud, lop, if_true]; exact hap) ?_
    refine ow_ml rfl ?_
    refine ow_nil (bk_n ?_)
    refine sk_n (by simp only [ze] <;> exact rfl) ?_
    refine cw_region ?_
    refine ow_me rfl ?_
    refine ow_op (by simp only [zo, binD, zb, Int.reduceEq, Int.reduceToNat, Int.reduceLT, hS.len, triRows_len, Nat.add_assoc, Nat.reduceAdd, h0, hw, hia, e1, e2, e3, e4, e5, e6, e7] <;> exact rfl) ?_
    refine ow_ml rfl ?_
    refine ow_nil ?_
    refine lk_n (by simp only [ze] <;> exact rfl) ?_
    exact ⟨4 - (i + 1), by omega, i + 1, _, _, _, _, _, _, _, _, by omega, by omega, rfl, by rw [hsn]; exact hA', rfl, rfl⟩
  ·
   have hi5 : 4 ≤ i := by have := of_decide_eq_false hcAT; omega
   have hln : (keRows ((l.take i).map keyOf)).length = i := by rw [keRows_len, List.length_map, List.length_take]; omega
   have hAl := hA.len
   refine cw_exit (sk_e (lk_e (bk_e (sk_n rfl (cw_seq (cw_seq (cw_region ?_)))))))
   refine ow_me rfl ?_
   refine ow_op (by simp only [zo, lenD_str, lenD_nils, lenD_sl, lenD_msl, hS.len, triRows_len, Nat.add_assoc, Nat.reduceAdd, h0, hw, hia, e1, e2, e3, e4, e5, e6, e7, hAl, hln] <;> exact rfl) ?_
   refine ow_op (by simp only [zo, binD, zb, Int.reduceEq, Int.reduceToNat, Int.reduceLT, hS.len, triRows_len, Nat.add_assoc, Nat.reduceAdd, h0, hw, hia, e1, e2, e3, e4, e5, e6, e7, hAl, hln] <;> exact rfl) ?_
   refine ow_nil ?_
   refine sk_n (by simp only [ze] <;> exact rfl) ?_
   skip
   refine cw_false (by simp only [opd, zv, hS.len, triRows_len, Nat.add_assoc, Nat.reduceAdd, h0, hw, hia, e1, e2, e3, e4, e5, e6, e7, hAl, hln] <;> (rw [show ((i : Int) == 0) = false by simp; omega])) ?_
   refine cw_skip (sk_n rfl (cw_seq (cw_region ?_)))
   refine ow_me rfl ?_
   refine ow_ml rfl ?_
   refine ow_nil ?_
   refine sk_n (by simp only [ze] <;> exact rfl) ?_
   refine cw_ret ?_
   refine ⟨_, by simp only [F10, resultD, resDs, resD, List.getD_cons_zero, List.getD_cons_succ, zd, rowsOf, partD, List.getElem?_cons_zero, List.getElem?_cons_succ, if_true, if_false, Bool.false_eq_true, List.take, List.drop, zm] <;> exact rfl, ?_⟩
   rcases hA with ⟨h1, _⟩ | ⟨_, g, v, rfl, h2⟩
   ·
    exfalso; rw [h1] at hln; simp at hln; omega
   ·
    rw [keysF, if_neg (fun h => by subst h; simp at *; try omega), show l.take 4 = l.take i by rw [show i = 4 by omega]]
    exact leaveP_app h2 rfl
 ·
  have hge : l.length ≤ i := by have := of_decide_eq_false hgA; omega
  have hln : (keRows ((l.take i).map keyOf)).length = i := by rw [keRows_len, List.length_map, List.length_take]; omega
  have hAl := hA.len
  refine ow_off (b' := false) (by simp only [opd, zv]) rfl ?_
  refine ow_off (b' := false) (by simp only [opd, zv]) rfl ?_
  refine ow_op (by simp only [zo, hS.len, triRows_len, Nat.add_assoc, Nat.reduceAdd, h0, hAl, hln] <;> exact rfl) ?_
  refine ow_nil ?_
  refine sk_n (by simp only [ze] <;> exact rfl) ?_
  refine cw_false (by simp only [opd, zv, hS.len, triRows_len, Nat.add_assoc, Nat.reduceAdd, h0, hAl, hln]) ?_
  refine cw_exit (sk_e (lk_e (bk_e (sk_n rfl (cw_seq (cw_seq (cw_region ?_)))))))
  refine ow_me rfl ?_
  refine ow_op (by simp only [zo, lenD_str, lenD_nils, lenD_sl, lenD_msl, hS.len, triRows_len, Nat.add_assoc, Nat.reduceAdd, h0, hAl, hln] <;> exact rfl) ?_
  refine ow_op (by simp only [zo, binD, zb, Int.reduceEq, Int.reduceToNat, Int.reduceLT, hS.len, triRows_len, Nat.add_assoc, Nat.reduceAdd, h0, hAl, hln] <;> exact rfl) ?_
  refine ow_nil ?_
  refine sk_n (by simp only [ze] <;> exact rfl) ?_
  refine cw_cond (by simp only [opd, zv, hS.len, triRows_len, Nat.add_assoc, Nat.reduceAdd, h0, hAl, hln] <;> exact rfl) (fun hcAF => ?_) (fun hcAF => ?_)
  ·
   have hl0 : l = [] := List.length_eq_zero_iff.1 (by have := hcAF; simp at this; omega)
   rcases hA with ⟨_, rfl⟩ | ⟨hne, _⟩
   rotate_left
   ·
    exact absurd (by rw [hl0]; simp [keRows]) hne
   refine cw_region ?_
   refine ow_me rfl ?_
   refine ow_op (by simp only [zo, fillD, overlay, zc, List.take, List.drop, Nat.reduceAdd, Nat.reduceLeDiff, Nat.reduceBEq, zm, hS.len, triRows_len, Nat.add_assoc, Nat.reduceAdd, h0, hAl, hln] <;> exact rfl) ?_
   first
    | refine ow_op (by simp only [zo, hS.len, triRows_len, Nat.add_assoc, Nat.reduceAdd, h0, hAl, hln]; exact textK_run (by omega) _ (kln t) hn1 (by omega)) ?_
    | refine ow_op (by simp only [zo, hS.len, triRows_len, Nat.add_assoc, Nat.reduceAdd, h0, hAl, hln]; exact textK_run (by omega) _ 6 (by omega) (by omega)) ?_
   refine ow_op (by simp only [zo, fillD, overlay, zc, List.take, List.drop, Nat.reduceAdd, Nat.reduceLeDiff, Nat.reduceBEq, zm, hS.len, triRows_len, Nat.add_assoc, Nat.reduceAdd, h0, hAl, hln] <;> exact rfl) ?_
   refine ow_op (by simp only [zl, zm, fillRows, List.replicate, snapVs, snaps, zs, zc, zf, hS.len, triRows_len, Nat.add_assoc, Nat.reduceAdd, h0, hAl, hln] <;> exact rfl) ?_
   refine ow_op (by simp only [zl, zm, appendD, appendRows, readRows_nils, readRows_sl, readRows_msl, List.isEmpty_cons, List.isEmpty_nil, reduceIte, hS.len, triRows_len, Nat.add_assoc, Nat.reduceAdd, h0, hAl, hln] <;> exact rfl) ?_
   refine ow_ml rfl ?_
   refine ow_nil ?_
   refine sk_n (by simp only [ze] <;> exact rfl) ?_
   refine cw_seq (cw_region ?_)
   refine ow_me rfl ?_
   refine ow_ml rfl ?_
   refine ow_nil ?_
   refine sk_n (by simp only [ze] <;> exact rfl) ?_
   refine cw_ret ?_
   refine ⟨_, by simp only [F10, resultD, resDs, resD, List.getD_cons_zero, List.getD_cons_succ, zd, rowsOf, partD, List.getElem?_cons_zero, List.getElem?_cons_succ, if_true, if_false, Bool.false_eq_true, List.take, List.drop, zm] <;> exact rfl, ?_⟩
   rw [keysF, if_pos hl0]
   exact leaveP_app (List.getElem?_concat_length ..) rfl
  ·
   refine cw_skip (sk_n rfl (cw_seq (cw_region ?_)))
   refine ow_me rfl ?_
   refine ow_ml rfl ?_
   refine ow_nil ?_
   refine sk_n (by simp only [ze] <;> exact rfl) ?_
   refine cw_ret ?_
   refine ⟨_, by simp only [F10, resultD, resDs, resD, List.getD_cons_zero, List.getD_cons_succ, zd, rowsOf, partD, List.getElem?_cons_zero, List.getElem?_cons_succ, if_true, if_false, Bool.false_eq_true, List.take, List.drop, zm] <;> exact rfl, ?_⟩
   rcases hA with ⟨h1, _⟩ | ⟨_, g, v, rfl, h2⟩
   ·
    exfalso; rw [h1] at hln; simp at hln; rw [← hln] at hcAF; simp at hcAF
   ·
    rw [keysF, if_neg (fun h => by subst h; simp at *; try omega), show l.take 4 = l.take i by rw [List.take_of_length_le (show l.length ≤ 4 by omega), List.take_of_length_le hge]]
    exact leaveP_app h2 rfl

end Go.Proofs.YtabgobmeibjeeaaGreatDoor

namespace Go.Proofs.YtabgobmeibjeeaaGreatDoor
set_option linter.unusedVariables false
set_option linter.unusedSimpArgs false
set_option maxRecDepth 10000

theorem checkN_run {d : Nat} (hd : 12 ≤ d) (S : St) (n : Nat) (h1 : 1 ≤ n) (h6 : n ≤ 6) : runF LP NN d 117 [.agg (shN n)] S = some (.int .i64 0, S, false) := by
  obtain ⟨d, rfl⟩ : ∃ d', d = d' + 12 := ⟨d - 12, by omega⟩
  obtain ⟨k, rfl⟩ : ∃ k, n = k + 1 := ⟨n - 1, by omega⟩
  exact tab_at (checkN_tab d S) k (by omega)
/-- a key of the law -/
def GK (k : Ke) : Prop := ∃ a n dn, (k = kT a n dn ∨ k = kN a n dn) ∧ 1 ≤ n ∧ a + n ≤ 6
theorem uckN {d : Nat} (hd : 14 ≤ d) (S : St) (n : Nat) (h1 : 1 ≤ n) (h6 : n ≤ 6) {x : D} {l : List UInt8} (hS : SlD 1 (bR l) x) (hl : l.length = n) : runF LP NN d 78 [.agg [.int .u8 4, .int .u8 0, .str (mkS (List.replicate n 57)), .int .i64 n, .int .i64 0, .bool false, .bool false, .bool false, .bool false, .bool false, .int .i64 n, x]] S = some (.int .i64 (if l.all isDig then 0 else 15), S, false) := by
  cases e : l.all isDig with
  | true => exact uCheck_true hd S 0 _ _ _ _ false false false false false 162 163 false l hS (by rw [bR_len, hl]) (fun d S h => of0_run h S 4 _ _ _ _ _ _ _ _) (fun d S h => (zonedU_run (by omega) S _ _ _ _ _ _ _ _ _ hS (by omega)).trans (by rw [e])) (fun d S h => checkN_run h S n h1 h6)
  | false => exact uCheck_false hd S 0 _ _ _ _ false false false false false 162 163 false l hS (by rw [bR_len, hl]) (fun d S h => of0_run h S 4 _ _ _ _ _ _ _ _) (fun d S h => (zonedU_run (by omega) S _ _ _ _ _ _ _ _ _ hS (by omega)).trans (by rw [e])) (fun d S h => checkN_run h S n h1 h6)
theorem getN {d : Nat} (hd : 14 ≤ d) (S : St) (n : Nat) (h1 : 1 ≤ n) (h6 : n ≤ 6) {x : D} {l : List UInt8} (hS : SlD 1 (bR l) x) (hl : l.length = n) (e : l.all isDig = true) : runF LP NN d 51 [.agg [.int .u8 4, .int .u8 0, .str (mkS (List.replicate n 57)), .int .i64 n, .int .i64 0, .bool false, .bool false, .bool false, .bool false, .bool false, .int .i64 n, x]] S = some (.tup [.agg [.bool false, .str (mkS (strip l)), .int .i64 0], .int .i64 0], S, false) := by
  refine (get_run hd S 0 _ _ _ false false false false false 162 163 false l hS (by rw [bR_len, hl]) (fun d S h => of0_run h S 4 _ _ _ _ _ _ _ _) (fun d S h => (zonedU_run (by omega) S _ _ _ _ _ _ _ _ _ hS (by omega)).trans (by rw [e])) (fun d S h => checkN_run h S n h1 h6) ?_ (by omega)).trans (by rw [Bool.false_and])
  have : l ≠ [] := by intro h; subst h; simp at hl; omega
  simp only [isNum, e, Bool.and_true, Bool.not_eq_true', beq_eq_false_iff_ne, ne_eq]
  exact this
theorem gk_ok {k : Ke} (h : GK k) : KOK 6 k := by
  obtain ⟨a, n, dn, rfl | rfl, h1, h2⟩ := h
  · exact ⟨h1, h2, rfl, .inl rfl⟩
  · refine ⟨h1, h2, rfl, .inr ⟨rfl, 15, .inr rfl, fun d S hd => ?_⟩⟩
    have hS : SlD 1 (bR (List.replicate n 0)) (.sl 1 (List.replicate n [.int .u8 0]) (some n)) := by
      have : bR (List.replicate n 0) = List.replicate n [.int .u8 0] := by simp [bR]
      rw [this]; exact .of _ _ _
    refine (uckN hd S n h1 (by omega) hS (by simp)).trans ?_
    have : (List.replicate n (0 : UInt8)).all isDig = false := by
      obtain ⟨k, rfl⟩ : ∃ k, n = k + 1 := ⟨n - 1, by omega⟩
      rw [List.replicate_succ, List.all_cons]; rfl
    rw [this]; rfl
theorem keysF_gk (l : List (Nat × Nat × Nat)) : ∀ k ∈ keysF l, GK k := by
  intro k hk
  unfold keysF at hk
  split at hk
  · simp at hk; subst hk; exact ⟨0, 6, false, .inl rfl, by omega, by omega⟩
  · simp only [List.mem_map] at hk
    obtain ⟨t, _, rfl⟩ := hk
    obtain ⟨h1, h2⟩ := kln_le t
    unfold keyOf
    split
    · exact ⟨_, _, _, .inr rfl, h1, h2⟩
    · exact ⟨_, _, _, .inl rfl, h1, h2⟩
theorem keysF_len (l : List (Nat × Nat × Nat)) : 0 < (keysF l).length ∧ (keysF l).length ≤ 4 := by
  unfold keysF
  split
  · simp
  · rename_i h
    have := List.length_pos_iff.2 h
    simp only [List.length_map, List.length_take]; omega
/-- a record of digits -/
def Rec (l : List UInt8) : Prop := l.length = 6 ∧ ∀ c ∈ l, isDig c = true
theorem digs_rec (r : Nat) : Rec (digs r) := ⟨digs_len r, digs_dig r⟩
theorem Rec.sub {l : List UInt8} (h : Rec l) (a n : Nat) : ((l.drop a).take n).all isDig = true := by
  rw [List.all_eq_true]
  exact fun c hc => h.2 c (List.mem_of_mem_drop (List.mem_of_mem_take hc))
theorem Rec.sublen {l : List UInt8} (h : Rec l) {a n : Nat} (hn : a + n ≤ 6) : ((l.drop a).take n).length = n := by
  rw [List.length_take, List.length_drop, h.1]; omega
theorem SlD.subB {l : List UInt8} {x : D} (h : SlD 1 (bR l) x) (a n : Nat) : SlD 1 (bR ((l.drop a).take n)) (subD a n x) := by
  rw [← bR_sub]; exact h.sub a n
section
variable {ks : List Ke} {x y z : D} {l m : List UInt8}
theorem valid_hyp (hg : ∀ k ∈ ks, GK k) (hR : SlD 1 (bR l) y) (hl : Rec l) : ∀ k ∈ ks, k.cat = 4 → ∀ (d : Nat) (S : St), 14 ≤ d → runF LP NN d 78 [.agg [.int .u8 k.cat, .int .u8 k.us, .str k.pic, .int .i64 k.dg, .int .i64 k.sc, .bool k.sg, .bool k.le, .bool k.se, .bool k.ju, .bool k.bl, .int .i64 k.sz, subD k.a k.n y]] S = some (.int .i64 0, S, false) := by
  intro k hk hc d S hd
  obtain ⟨a, n, dn, rfl | rfl, h1, h2⟩ := hg k hk
  · simp [kT] at hc
  · refine (uckN hd S n h1 (by omega) (hR.subB a n) (hl.sublen h2)).trans ?_
    rw [hl.sub a n]; rfl
theorem text_hyp (hg : ∀ k ∈ ks, GK k) (hR : SlD 1 (bR l) y) (hQ : SlD 1 (bR m) z) (hl : Rec l) (hm : Rec m) : ∀ k ∈ ks, k.cat ≠ 4 → ∀ (d : Nat) (S : St), 3 ≤ d → runF LP NN d 53 [subD k.a k.n y, subD k.a k.n z] S = some (.int .i64 (cmpT (k.sub l) (k.sub m)), S, false) := by
  intro k hk hc d S hd
  obtain ⟨a, n, dn, rfl | rfl, h1, h2⟩ := hg k hk
  · have e1 := hl.sublen h2
    have e2 := hm.sublen h2
    exact ccmp_run (l := (l.drop a).take n) (m := (m.drop a).take n) hd S (hR.subB a n) (hQ.subB a n) (by omega) (by omega)
  · simp [kN] at hc
theorem num_hyp (hg : ∀ k ∈ ks, GK k) (hR : SlD 1 (bR l) y) (hQ : SlD 1 (bR m) z) (hl : Rec l) (hm : Rec m) : ∀ k ∈ ks, k.cat = 4 → ∃ (na nb : Bool) (sa sb : ByteArray), (∀ (d : Nat) (S : St), 14 ≤ d → runF LP NN d 51 [.agg [.int .u8 k.cat, .int .u8 k.us, .str k.pic, .int .i64 k.dg, .int .i64 k.sc, .bool k.sg, .bool k.le, .bool k.se, .bool k.ju, .bool k.bl, .int .i64 k.sz, subD k.a k.n y]] S = some (.tup [.agg [.bool na, .str sa, .int .i64 0], .int .i64 0], S, false)) ∧ (∀ (d : Nat) (S : St), 14 ≤ d → runF LP NN d 51 [.agg [.int .u8 k.cat, .int .u8 k.us, .str k.pic, .int .i64 k.dg, .int .i64 k.sc, .bool k.sg, .bool k.le, .bool k.se, .bool k.ju, .bool k.bl, .int .i64 k.sz, subD k.a k.n z]] S = some (.tup [.agg [.bool nb, .str sb, .int .i64 0], .int .i64 0], S, false)) ∧ (∀ (d : Nat) (S : St), 8 ≤ d → runF LP NN d 52 [.agg [.bool na, .str sa, .int .i64 0], .agg [.bool nb, .str sb, .int .i64 0]] S = some (.tup [.int .i64 (cmpT (k.sub l) (k.sub m)), .int .i64 0], S, false)) := by
  intro k hk hc
  obtain ⟨a, n, dn, rfl | rfl, h1, h2⟩ := hg k hk
  · simp [kT] at hc
  · have e1 := hl.sublen h2
    have e2 := hm.sublen h2
    have n1 : ((l.drop a).take n) ≠ [] := by intro h; rw [h] at e1; simp at e1; omega
    have n2 : ((m.drop a).take n) ≠ [] := by intro h; rw [h] at e2; simp at e2; omega
    have m1 : isNum ((l.drop a).take n) = true := by
      simp only [isNum, hl.sub a n, Bool.and_true, Bool.not_eq_true', beq_eq_false_iff_ne, ne_eq]; exact n1
    have m2 : isNum ((m.drop a).take n) = true := by
      simp only [isNum, hm.sub a n, Bool.and_true, Bool.not_eq_true', beq_eq_false_iff_ne, ne_eq]; exact n2
    refine ⟨false, false, mkS (strip ((l.drop a).take n)), mkS (strip ((m.drop a).take n)), fun d S hd => getN hd S n h1 (by omega) (hR.subB a n) e1 (hl.sub a n), fun d S hd => getN hd S n h1 (by omega) (hQ.subB a n) e2 (hm.sub a n), fun d S hd => ?_⟩
    obtain ⟨a1, a2⟩ := strip_len _ n1
    obtain ⟨b1, b2⟩ := strip_len _ n2
    have N1 := Nrm.of false _ m1 (by omega)
    have N2 := Nrm.of false _ m2 (by omega)
    rw [Bool.false_and] at N1 N2
    refine (decCmp_run hd S false false _ _ N1 N2 (by omega) (by omega)).trans ?_
    have : cmpN false false (strip ((l.drop a).take n)) (strip ((m.drop a).take n)) = cmpT ((l.drop a).take n) ((m.drop a).take n) := by
      rw [cmpN, if_pos rfl, if_neg (by simp), cmpL_pad _ _ (by rw [e1, e2]) n1, cmpL_cmpT _ _ (by rw [e1, e2])]
    rw [this]; rfl
theorem compareR_run {d : Nat} (hd : 15 ≤ d) (S : St) (hS : SlD 14 (keRows ks) x) (hR : SlD 1 (bR l) y) (hQ : SlD 1 (bR m) z) (h8 : ks.length ≤ 8) (hg : ∀ k ∈ ks, GK k) (hl : Rec l) (hm : Rec m) : runF LP NN d 33 [x, y, z] S = some (.int .i64 (ordR ks l m), S, false) := by
  have f : ∀ k ∈ ks, k.a + k.n ≤ 6 := fun k hk => (gk_ok (hg k hk)).fit
  refine (compare_run hd S hS hR hQ h8 (by rw [bR_len, hl.1]; omega) (by rw [bR_len, hm.1]; omega) (fun k hk => by rw [bR_len, hl.1]; exact f k hk) (fun k hk => by rw [bR_len, hm.1]; exact f k hk) (fun k => cmpT (k.sub l) (k.sub m)) (text_hyp hg hR hQ hl hm) (num_hyp hg hR hQ hl hm)).trans ?_
  rw [firstC_lex ks l m (by rw [hl.1, hm.1])]; rfl
theorem orderR_run {d : Nat} (hd : 1 ≤ d) (S : St) (hS : SlD 14 (keRows ks) x) (hR : SlD 1 (bR l) y) (hQ : SlD 1 (bR m) z) (h8 : ks.length ≤ 8) (hg : ∀ k ∈ ks, GK k) (hl : Rec l) (hm : Rec m) : runF LP NN d 17 [x, y, z] S = some (.int .i64 (ordR ks l m), S, false) := by
  have f : ∀ k ∈ ks, k.a + k.n ≤ 6 := fun k hk => (gk_ok (hg k hk)).fit
  refine (order_run hd S hS hR hQ h8 (by rw [hl.1]; omega) (by rw [hl.1, hm.1]) (fun k hk => by rw [hl.1]; exact f k hk)).trans ?_
  rw [firstC_lex ks l m (by rw [hl.1, hm.1])]; rfl
theorem validR_run {d : Nat} (hd : 15 ≤ d) (S : St) (hS : SlD 14 (keRows ks) x) (hR : SlD 1 (bR l) y) (h8 : ks.length ≤ 8) (hg : ∀ k ∈ ks, GK k) (hl : Rec l) : runF LP NN d 44 [x, .int .i64 6, y] S = some (.int .i64 0, S, false) := by
  have e : (bR l).length = 6 := by rw [bR_len, hl.1]
  have := valid_run (d := d) hd S hS hR h8 (by rw [e]; omega) (by rw [e]; exact fun k hk => gk_ok (hg k hk)) (valid_hyp hg hR hl)
  rw [e] at this
  exact this
end
theorem lives_run (d : Nat) (S : St) : runF LP NN (d + 30) 9 [] S = some (.bool true, S, false) := by kernel_rfl
end Go.Proofs.YtabgobmeibjeeaaGreatDoor

namespace Go.Proofs.YtabgobmeibjeeaaGreatDoor
set_option linter.unusedSimpArgs false
set_option linter.unusedVariables false
set_option maxRecDepth 10000

/-- the results so far -/
def fl (c : Nat → Nat → Int) (t : Nat) : List D := (List.range 9).map fun p => D.int .i64 (if p < t then c (p / 3) (p % 3) else 0)
theorem livesD {d : Nat} (hd : 30 ≤ d) (S : St) : runF LP NN d 9 [] S = some (.bool true, S, false) := by
 obtain ⟨d, rfl⟩ : ∃ d', d = d' + 30 := ⟨d - 30, by omega⟩
 exact lives_run d S
end Go.Proofs.YtabgobmeibjeeaaGreatDoor

namespace Go.Proofs.YtabgobmeibjeeaaGreatDoor
open Go.ChangeShapes Go.WideShapes Go.ChangeAt Go.RowKit
set_option linter.unusedVariables false
set_option linter.unusedSimpArgs false
set_option maxRecDepth 100000

theorem own : ownKnob Tryz.prog.godebug = none := by kernel_rfl
theorem laidOut : laidOutB Tryz.prog = true := by kernel_rfl
theorem ty4 : Tryz.prog.underlying 4 = some .bool := by kernel_rfl
theorem ty5 : Tryz.prog.underlying 5 = some (.int .u8) := by kernel_rfl
theorem ty23 : Tryz.prog.underlying 23 = some (.slice 83) := by kernel_rfl
theorem ty24 : Tryz.prog.underlying 24 = some (.slice 37) := by kernel_rfl
theorem ty37 : Tryz.prog.underlying 37 = some (.int .u32) := by kernel_rfl
theorem ty43 : Tryz.prog.underlying 43 = some (.slice 5) := by kernel_rfl
theorem ty83 : Tryz.prog.underlying 83 = some (.array 3 5) := by kernel_rfl
def laidL : List (String × DataW Unit) := Rows.sortsCompareRow.laid
theorem door_met (os : Os) (args : Array Value) : laidMetH Tryz.prog laidL ((World.laidAll Tryz.prog os laidL).forCall (fun _ _ => 0) ⟨#[], args, []⟩).memory := by
  rw [MakeChecks.laidMetH_plain _ _ _ (by kernel_rfl)]
  exact laidMet_laidAll _ (by kernel_rfl) (by kernel_rfl)

/-- the keys -/
theorem keysArg {ds : List D} (h : Sh Tryz.prog 3 23 ds) : ∃ (x : D) (l : List (Nat × Nat × Nat)), ds = [x] ∧ SlD 3 (triRows l) x ∧ (∀ t ∈ l, t.1 < 256 ∧ t.2.1 < 256 ∧ t.2.2 < 256) ∧ l.length ≤ 9223372036854775807 := by
  have e1 : Tryz.prog.cellsOf 83 = 3 := by kernel_rfl
  obtain ⟨x, rows, rfl, hS, hm, hr⟩ := Sh.slice ty23 h
  rw [e1] at hS
  have key : ∀ r ∈ rows, ∃ a : {t : Nat × Nat × Nat // t.1 < 256 ∧ t.2.1 < 256 ∧ t.2.2 < 256}, r = [D.int .u8 (a.1.1 : Int), .int .u8 (a.1.2.1 : Int), .int .u8 (a.1.2.2 : Int)] := fun r hr' => by
    obtain ⟨parts, rfl, hp, hf⟩ := Sh.array ty83 (hr r hr')
    match parts, hp, hf with
    | [p0, p1, p2], _, hf =>
      obtain ⟨n0, rfl, w0⟩ := Sh.int ty5 (hf p0 (by simp))
      obtain ⟨n1, rfl, w1⟩ := Sh.int ty5 (hf p1 (by simp))
      obtain ⟨n2, rfl, w2⟩ := Sh.int ty5 (hf p2 (by simp))
      obtain ⟨m0, rfl, b0⟩ := u8_nat w0
      obtain ⟨m1, rfl, b1⟩ := u8_nat w1
      obtain ⟨m2, rfl, b2⟩ := u8_nat w2
      exact ⟨⟨(m0, m1, m2), b0, b1, b2⟩, rfl⟩
  obtain ⟨l, rfl⟩ := rows_of (f := fun a : {t : Nat × Nat × Nat // t.1 < 256 ∧ t.2.1 < 256 ∧ t.2.2 < 256} => [D.int .u8 (a.1.1 : Int), .int .u8 (a.1.2.1 : Int), .int .u8 (a.1.2.2 : Int)]) key
  refine ⟨x, l.map (·.1), rfl, ?_, ?_, ?_⟩
  · have : triRows (l.map (·.1)) = l.map fun a => [D.int .u8 (a.1.1 : Int), .int .u8 (a.1.2.1 : Int), .int .u8 (a.1.2.2 : Int)] := by simp [triRows]
    rw [this]; exact hS
  · intro t ht
    simp only [List.mem_map] at ht
    obtain ⟨a, _, rfl⟩ := ht
    exact a.2
  · simp only [List.length_map] at hm ⊢
    have : maxLen ≤ 9223372036854775807 := by decide
    omega
theorem u32_nat {n : Int} (h : (Lit.int .u32 n).wf = true) : ∃ m : Nat, n = m ∧ m < 4294967296 := by
  have b : 0 ≤ n ∧ n ≤ 4294967295 := by simpa [Lit.wf, IntKind.min, IntKind.max, IntKind.signed, IntKind.bits] using h
  exact ⟨n.toNat, by omega, by omega⟩
def numRows (l : List Nat) : List (List D) := l.map fun n : Nat => [.int .u32 (n : Int)]
theorem numRows_of {rows : List (List D)} (hr : ∀ r ∈ rows, Sh Tryz.prog 2 37 r) : ∃ l : List Nat, rows = numRows l ∧ ∀ n ∈ l, n < 4294967296 := by
  obtain ⟨l, rfl⟩ := rows_of (f := fun a : {n : Nat // n < 4294967296} => [D.int .u32 (a.1 : Int)]) (rows := rows) (fun r h => by
    obtain ⟨n0, rfl, w0⟩ := Sh.int ty37 (hr r h)
    obtain ⟨m0, rfl, b0⟩ := u32_nat w0
    exact ⟨⟨m0, b0⟩, rfl⟩)
  refine ⟨l.map (·.1), by simp [numRows, Function.comp_def], fun n hn => ?_⟩
  simp only [List.mem_map] at hn
  obtain ⟨a, _, rfl⟩ := hn
  exact a.2
/-- a list of records -/
theorem numsArg {ds : List D} (h : Sh Tryz.prog 3 24 ds) : ∃ (x : D) (l : List Nat), ds = [x] ∧ SlD 1 (numRows l) x ∧ (∀ n ∈ l, n < 4294967296) ∧ l.length ≤ 9223372036854775807 := by
  have e1 : Tryz.prog.cellsOf 37 = 1 := by kernel_rfl
  obtain ⟨x, rows, rfl, hS, hm, hr⟩ := Sh.slice ty24 h
  rw [e1] at hS
  obtain ⟨l, rfl, hl⟩ := numRows_of hr
  refine ⟨x, l, rfl, hS, hl, ?_⟩
  have : maxLen ≤ 9223372036854775807 := by decide
  simp only [numRows, List.length_map] at hm
  omega
end Go.Proofs.YtabgobmeibjeeaaGreatDoor

namespace Go.Proofs.YtabgobmeibjeeaaGreatDoor
set_option linter.unusedVariables false
set_option linter.unusedSimpArgs false

section
variable {α : Type} {c : α → α → Int}
/-- a comparison -/
structure Cmp (c : α → α → Int) : Prop where
  refl : ∀ x, c x x = 0
  swap : ∀ x y, c x y = 0 - c y x
  trans : ∀ x y z, c x y ≤ 0 → c y z ≤ 0 → c x z ≤ 0
/-- each class has the same elements, in the same order -/
def Same (c : α → α → Int) (m m' : List α) : Prop := m'.length = m.length ∧ ∀ x, m.filter (fun y => c x y == 0) = m'.filter (fun y => c x y == 0)
theorem Same.refl (m : List α) : Same c m m := ⟨rfl, fun _ => rfl⟩
theorem Same.trans {a b d : List α} (h : Same c a b) (h' : Same c b d) : Same c a d := ⟨h'.1.trans h.1, fun x => (h.2 x).trans (h'.2 x)⟩
theorem Same.symm {a b : List α} (h : Same c a b) : Same c b a := ⟨h.1.symm, fun x => (h.2 x).symm⟩
theorem Same.app {a b p q : List α} (h : Same c a b) (h' : Same c p q) : Same c (a ++ p) (b ++ q) := ⟨by simp [h.1, h'.1], fun x => by simp only [List.filter_append, h.2 x, h'.2 x]⟩
/-- blocks with no class in common change places -/
theorem Same.blocks (hc : Cmp c) {u v : List α} (h : ∀ x ∈ u, ∀ y ∈ v, c x y ≠ 0) : Same c (u ++ v) (v ++ u) := by
  refine ⟨by simp [Nat.add_comm], fun z => ?_⟩
  simp only [List.filter_append]
  by_cases hu : u.filter (fun y => c z y == 0) = []
  · rw [hu]; simp
  · by_cases hv : v.filter (fun y => c z y == 0) = []
    · rw [hv]; simp
    · exfalso
      obtain ⟨x, hx⟩ := List.exists_mem_of_ne_nil _ hu
      obtain ⟨y, hy⟩ := List.exists_mem_of_ne_nil _ hv
      simp only [List.mem_filter, beq_iff_eq] at hx hy
      have h1 := hc.swap z x
      have h2 := hc.trans x z y (by omega) (by omega)
      have h3 := hc.swap z y
      have h4 := hc.trans y z x (by omega) (by omega)
      have h5 := hc.swap x y
      exact h x hx.1 y hy.1 (by omega)
theorem Same.mid (hc : Cmp c) (p q : List α) {u v : List α} (h : ∀ x ∈ u, ∀ y ∈ v, c x y ≠ 0) : Same c (p ++ u ++ v ++ q) (p ++ v ++ u ++ q) := by
  rw [List.append_assoc p u v, List.append_assoc p v u]
  exact ((Same.refl p).app (Same.blocks hc h)).app (Same.refl q)
/-- sorted from a to b -/
def Srt (c : α → α → Int) (m : List α) (a b : Nat) : Prop := ∀ (i j : Nat) (x y : α), a ≤ i → i ≤ j → j < b → m[i]? = some x → m[j]? = some y → c x y ≤ 0
theorem Srt.sub {m : List α} {a b a' b' : Nat} (h : Srt c m a b) (ha : a ≤ a') (hb : b' ≤ b) : Srt c m a' b' := fun i j x y h1 h2 h3 => h i j x y (by omega) h2 (by omega)
theorem Srt.small (hc : Cmp c) {m : List α} {a b : Nat} (h : b ≤ a + 1) : Srt c m a b := fun i j x y h1 h2 h3 e1 e2 => by
  obtain rfl : i = j := by omega
  rw [e1] at e2
  obtain rfl := Option.some.inj e2
  have := hc.refl x; omega
/-- the same from a to b -/
def Eqr (m m' : List α) (a b : Nat) : Prop := ∀ i, a ≤ i → i < b → m'[i]? = m[i]?
theorem Srt.cong {m m' : List α} {a b : Nat} (h : Srt c m a b) (he : Eqr m m' a b) : Srt c m' a b := fun i j x y h1 h2 h3 e1 e2 => h i j x y h1 h2 h3 (by rw [← he i h1 (by omega)]; exact e1) (by rw [← he j (by omega) h3]; exact e2)
theorem Eqr.trans {m m' m'' : List α} {a b : Nat} (h : Eqr m m' a b) (h' : Eqr m' m'' a b) : Eqr m m'' a b := fun i h1 h2 => (h' i h1 h2).trans (h i h1 h2)
theorem Eqr.sub {m m' : List α} {a b a' b' : Nat} (h : Eqr m m' a b) (ha : a ≤ a') (hb : b' ≤ b) : Eqr m m' a' b' := fun i h1 h2 => h i (by omega) (by omega)
theorem Eqr.refl (m : List α) (a b : Nat) : Eqr m m a b := fun _ _ _ => rfl
/-- two parts that are sorted, the first not above the second -/
theorem Srt.join {m : List α} {a k b : Nat} (h1 : Srt c m a k) (h2 : Srt c m k b) (h : ∀ (i j : Nat) (x y : α), a ≤ i → i < k → k ≤ j → j < b → m[i]? = some x → m[j]? = some y → c x y ≤ 0) : Srt c m a b := by
  intro i j x y hi hij hj e1 e2
  by_cases hk : j < k
  · exact h1 i j x y hi hij hk e1 e2
  · by_cases hk' : i < k
    · exact h i j x y hi hk' (by omega) hj e1 e2
    · exact h2 i j x y (by omega) hij hj e1 e2
theorem srt_tail {x : α} {t : List α} {n : Nat} (h : Srt c (x :: t) 0 (n + 1)) : Srt c t 0 n := fun i j y z h1 h2 h3 e1 e2 => h (i + 1) (j + 1) y z (by omega) (by omega) (by omega) (by simpa using e1) (by simpa using e2)
/-- a list is known by its classes if it is sorted -/
theorem sorted_unique (hc : Cmp c) : ∀ {m m' : List α}, Srt c m 0 m.length → Srt c m' 0 m'.length → Same c m m' → m = m'
  | [], m', _, _, h => by have := h.1; simp at this; exact this.symm
  | x :: t, [], _, _, h => by have := h.1; simp at this
  | x :: t, y :: t', h1, h2, h => by
    have hx : x ∈ y :: t' := by
      have : x ∈ (x :: t).filter (fun z => c x z == 0) := by simp [List.mem_filter, hc.refl]
      rw [h.2 x] at this
      exact (List.mem_filter.1 this).1
    have hy : y ∈ x :: t := by
      have : y ∈ (y :: t').filter (fun z => c y z == 0) := by simp [List.mem_filter, hc.refl]
      rw [← h.2 y] at this
      exact (List.mem_filter.1 this).1
    obtain ⟨i, hi, ei⟩ := List.getElem_of_mem hx
    obtain ⟨j, hj, ej⟩ := List.getElem_of_mem hy
    have c1 := h2 0 i y x (by omega) (by omega) hi rfl (by rw [List.getElem?_eq_getElem hi, ei])
    have c2 := h1 0 j x y (by omega) (by omega) hj rfl (by rw [List.getElem?_eq_getElem hj, ej])
    have c3 := hc.swap x y
    have hxy : c x y = 0 := by omega
    have h3 := h.2 x
    simp only [List.filter_cons, hc.refl, beq_self_eq_true, if_true, hxy] at h3
    obtain ⟨rfl, _⟩ := List.cons.inj h3
    have : t = t' := sorted_unique hc (srt_tail h1) (srt_tail h2) ⟨by have := h.1; simpa using this, fun z => by
      have h4 := h.2 z
      simp only [List.filter_cons] at h4
      split at h4
      · exact (List.cons.inj h4).2
      · exact h4⟩
    rw [this]
/-- what a stable sort gives -/
def IsS (c : α → α → Int) (m m' : List α) : Prop := Same c m m' ∧ Srt c m' 0 m'.length
theorem IsS.uniq (hc : Cmp c) {m a b : List α} (h : IsS c m a) (h' : IsS c m b) : a = b := sorted_unique hc h.2 h'.2 (h.1.symm.trans h'.1)

/-! lists in parts -/
theorem parts2 (m : List α) {i j : Nat} (h : i ≤ j) (hj : j ≤ m.length) : m = m.take i ++ ((m.drop i).take (j - i)) ++ m.drop j := by
  have h1 : m = m.take i ++ m.drop i := (List.take_append_drop i m).symm
  have h2 : m.drop i = (m.drop i).take (j - i) ++ (m.drop i).drop (j - i) := (List.take_append_drop _ _).symm
  rw [List.drop_drop, show i + (j - i) = j by omega] at h2
  rw [List.append_assoc, ← h2, ← h1]
theorem get_part (m : List α) (i j k : Nat) (hk : k < j - i) : ((m.drop i).take (j - i))[k]? = m[i + k]? := by
  rw [List.getElem?_take_of_lt hk, List.getElem?_drop]
theorem mem_part {m : List α} {i j : Nat} {x : α} (h : x ∈ (m.drop i).take (j - i)) : ∃ k, i ≤ k ∧ k < j ∧ m[k]? = some x := by
  obtain ⟨k, hk, e⟩ := List.getElem_of_mem h
  have hk' := hk
  simp only [List.length_take, List.length_drop] at hk'
  refine ⟨i + k, by omega, by omega, ?_⟩
  rw [← get_part m i j k (by omega), List.getElem?_eq_getElem hk, e]
/-- two elements change places -/
theorem swap_parts (p q r : List α) (x y : α) : ((p ++ x :: q ++ y :: r).set p.length y).set (p.length + 1 + q.length) x = p ++ y :: q ++ x :: r := by
  have e1 : (p ++ x :: q ++ y :: r).set p.length y = p ++ y :: q ++ y :: r := by simp [List.set_append]
  rw [e1]
  have e2 : p ++ y :: q ++ y :: r = (p ++ y :: q) ++ y :: r := by simp
  rw [e2, show p.length + 1 + q.length = (p ++ y :: q).length by simp; omega, List.set_append_right _ _ (Nat.le_refl _)]
  simp
/-- neighbours change places -/
def swp (m : List α) (i : Nat) (x y : α) : List α := (m.set i y).set (i + 1) x
theorem swp_eq {m : List α} {i : Nat} {x y : α} (h1 : m[i]? = some x) (h2 : m[i + 1]? = some y) : ∃ p r, p.length = i ∧ m = p ++ [x] ++ [y] ++ r ∧ swp m i x y = p ++ [y] ++ [x] ++ r := by
  obtain ⟨hi1, e1⟩ := List.getElem?_eq_some_iff.1 h1
  obtain ⟨hi2, e2⟩ := List.getElem?_eq_some_iff.1 h2
  have hm : m = m.take i ++ x :: ([] ++ y :: m.drop (i + 2)) := by
    conv => lhs; rw [← List.take_append_drop i m]
    rw [List.drop_eq_getElem_cons hi1, List.drop_eq_getElem_cons hi2, e1, e2]
    rfl
  have hl : (m.take i).length = i := by simp; omega
  refine ⟨m.take i, m.drop (i + 2), hl, by simpa using hm, ?_⟩
  have := swap_parts (m.take i) [] (m.drop (i + 2)) x y
  simp only [hl, List.length_nil, Nat.add_zero] at this
  unfold swp
  conv => lhs; rw [hm]
  simpa using this
theorem swp_same (hc : Cmp c) {m : List α} {i : Nat} {x y : α} (h1 : m[i]? = some x) (h2 : m[i + 1]? = some y) (h : c x y ≠ 0) : Same c m (swp m i x y) := by
  obtain ⟨p, r, _, e1, e2⟩ := swp_eq h1 h2
  rw [e2]; conv => arg 2; rw [e1]
  exact Same.mid hc p r (by simpa using h)
theorem swp_get {m : List α} {i : Nat} {x y : α} (h1 : m[i]? = some x) (h2 : m[i + 1]? = some y) (j : Nat) : (swp m i x y)[j]? = if j = i then some y else if j = i + 1 then some x else m[j]? := by
  obtain ⟨hi1, e1⟩ := List.getElem?_eq_some_iff.1 h1
  obtain ⟨hi2, e2⟩ := List.getElem?_eq_some_iff.1 h2
  unfold swp
  rw [List.getElem?_set, List.getElem?_set]
  by_cases a : i + 1 = j
  · subst a; simp [hi2]
  · by_cases b : i = j
    · subst b; simp [hi1]
    · simp [a, b]; rw [if_neg (by omega), if_neg (by omega)]
end
end Go.Proofs.YtabgobmeibjeeaaGreatDoor

namespace Go.Proofs.YtabgobmeibjeeaaGreatDoor
set_option linter.unusedVariables false
set_option linter.unusedSimpArgs false

abbrev RecT := {l : List UInt8 // Rec l}
instance : Inhabited RecT := ⟨⟨digs 0, digs_rec 0⟩⟩
def recD (l : List UInt8) : D := .sl 1 (bR l) (some 6)
def rR (m : List RecT) : List (List D) := m.map fun l => [recD l.1]
theorem rR_len (m : List RecT) : (rR m).length = m.length := by simp [rR]
theorem rR_at {m : List RecT} {i : Nat} {l : RecT} (h : m[i]? = some l) : (rR m)[i]? = some [recD l.1] := by simp [rR, h]
theorem rR_set (m : List RecT) (i : Nat) (l : RecT) : (rR m).set i [recD l.1] = rR (m.set i l) := by simp [rR, List.map_set]
theorem recD_S (l : List UInt8) : SlD 1 (bR l) (recD l) := .of _ _ _
def cK (ks : List Ke) (x y : RecT) : Int := ordR ks x.1 y.1
theorem cK_cmp (ks : List Ke) : Cmp (cK ks) where
  refl x := lexI_self _
  swap x y := lexI_swap _ _ (encs_len _ (by rw [x.2.1, y.2.1]))
  trans x y z := lexI_trans _ _ _ (encs_len _ (by rw [x.2.1, y.2.1])) (encs_len _ (by rw [y.2.1, z.2.1]))
/-- the records in object g -/
def put (H : List AObj) (g v : Nat) (m : List RecT) : List AObj := H.set g ⟨43, 1, rR m, v, 2, false⟩
theorem put_at {H : List AObj} {g : Nat} (hg : g < H.length) (v : Nat) (m : List RecT) : (put H g v m)[g]? = some ⟨43, 1, rR m, v, 2, false⟩ := by simp [put, hg]
theorem put_ne {H : List AObj} {g gk : Nat} (h : gk ≠ g) (v : Nat) (m : List RecT) : (put H g v m)[gk]? = H[gk]? := by simp [put, List.getElem?_set_ne (Ne.symm h)]
section
variable {call : CallF} {H : List AObj} {g v n : Nat} {m : List RecT} {lo : Nat}
theorem pi_iaddr (hg : g < H.length) (k : IntKind) {i : Nat} (hi : i < n) : exOp call (.iaddr 1) [.msl g v 0 n none, .int k (i : Int)] ⟨put H g v m, lo⟩ = some (.ptr g v i 0, ⟨put H g v m, lo⟩, false) := by
  have h : (0 : Int) ≤ (i : Int) ∧ (i : Int) < (n : Int) := by omega
  simp only [exOp, aop, LOp.loud, lop, if_true, iaddrD, rowsOf, put_at hg, true_and, h, and_self, Nat.zero_add, Int.toNat_natCast, Option.map_some]
theorem pl_load (hg : g < H.length) {i : Nat} {l : RecT} (h : m[i]? = some l) : exOp call (.load 1 false) [.ptr g v i 0] ⟨put H g v m, lo⟩ = some (recD l.1, ⟨put H g v m, lo⟩, false) := by
  simp only [exOp, aop, LOp.loud, lop, if_true, loadD, rowsOf, put_at hg, rR_at h, partD, Bool.false_eq_true, if_false, List.getElem?_cons_zero, Option.map_some]
theorem ps_store (hg : g < H.length) {i : Nat} {l : RecT} (hi : i < m.length) : exOp call (.store 1) [.ptr g v i 0, recD l.1] ⟨put H g v m, lo⟩ = some (.undef, ⟨put H g v (m.set i l), min lo g⟩, true) := by
  have h := rR_at (List.getElem?_eq_getElem hi)
  simp only [exOp, aop, LOp.loud, lop, if_true, storeD, rowsOf, put_at hg, h, Nat.reduceEqDiff, if_false, recD, snapV_sl, val_sl, cells_sl, List.length_cons, List.length_nil, Nat.zero_add, beq_self_eq_true, Nat.le_refl, decide_true, Bool.and_true, Bool.true_and, Bool.or_true, decide_false, Bool.false_or, List.all_cons, List.all_nil, free_sl, overlay, List.take_zero, List.drop_succ_cons, List.drop_nil, List.append_nil, List.nil_append, setAt, Option.map_some]
  rw [show ([D.sl 1 (bR l.1) (some 6)] : List D) = [recD l.1] from rfl, rR_set]
  simp [put]
end
theorem plainV_recD (l : List UInt8) : plainV (recD l) = true := rfl
theorem snapV_recD (m : Nat) (H : List AObj) (l : List UInt8) : snapV m H (recD l) = some (recD l) := rfl
theorem freeV_recD (l : List UInt8) : (recD l).freeV = true := rfl
/-- behind a function without a result -/
def FinR (P : St → Prop) : LExit → List D → St → Prop
  | .exit _, _, _ => False
  | _, _, S2 => P S2
theorem run_raw {L : Prg} {d : Nat} {f : FuncId} {F : LFunc} {args env0 : List D} {S : St} {P : St → Prop} (hF : L.fns f = some F) (hr : L.raw f = true) (hl : args.length = F.nargs) (hp : (L.pure f && args.all D.freeV) = false) (he : (F.slots.map fun s => args.getD s .undef) = env0) (hs : F.res = []) (hd : 0 < d)
    (hb : ∀ d', d = d' + 1 → CW (runF L NN d') F.body (FinR P) env0 ⟨S.heap, S.heap.length⟩) : ∃ S2, P S2 ∧ runF L NN d f args S = some (.tup [], ⟨S2.heap, min S.low S2.low⟩, true) := by
  subst he
  obtain ⟨d', rfl⟩ : ∃ d', d = d' + 1 := ⟨d - 1, by omega⟩
  obtain ⟨e, env', S2, h1, h2⟩ := hb d' rfl
  refine ⟨S2, ?_, ?_⟩
  · cases e <;> first | exact h2 | exact h2.elim
  · simp only [runF, hF, hr, hl, hp, ne_eq, not_true_eq_false, if_false, if_true, Bool.false_eq_true, h1, hs]
    cases e with
    | exit i => exact h2.elim
    | normal => simp [resultD, resDs, leave]
    | ret => simp [resultD, resDs, leave]

/-! a round of the insertion -/
section
variable {α : Type} {c : α → α → Int}
/-- sorted from a to i, but for what lies at j -/
def But (c : α → α → Int) (m : List α) (a i j : Nat) : Prop := ∀ (p q : Nat) (x y : α), a ≤ p → p ≤ q → q ≤ i → q ≠ j → m[p]? = some x → m[q]? = some y → c x y ≤ 0
theorem But.start {m : List α} {a i : Nat} (h : Srt c m a i) : But c m a i i := fun p q x y h1 h2 h3 h4 => h p q x y h1 h2 (by omega)
theorem But.low (hc : Cmp c) {m : List α} {a i : Nat} (h : But c m a i a) : Srt c m a (i + 1) := by
  intro p q x y h1 h2 h3 e1 e2
  by_cases hq : q = a
  · obtain rfl : p = q := by omega
    rw [e1] at e2
    obtain rfl := Option.some.inj e2
    have := hc.refl x; omega
  · exact h p q x y h1 h2 (by omega) hq e1 e2
theorem But.stop (hc : Cmp c) {m : List α} {a i j : Nat} {x y : α} (h : But c m a i (j + 1)) (hj : a ≤ j) (hji : j + 1 ≤ i) (hx : m[j]? = some x) (hy : m[j + 1]? = some y) (hxy : ¬ c y x < 0) : Srt c m a (i + 1) := by
  intro p q u w h1 h2 h3 e1 e2
  by_cases hq : q = j + 1
  · subst hq
    rw [hy] at e2
    obtain rfl := Option.some.inj e2
    by_cases hp : p = j + 1
    · subst hp
      rw [hy] at e1
      obtain rfl := Option.some.inj e1
      have := hc.refl y; omega
    · have h5 := h p j u x h1 (by omega) (by omega) (by omega) e1 hx
      have h6 := hc.swap x y
      exact hc.trans u x y h5 (by omega)
  · exact h p q u w h1 h2 (by omega) hq e1 e2
theorem But.next (hc : Cmp c) {m : List α} {a i j : Nat} {x y : α} (h : But c m a i (j + 1)) (hj : a ≤ j) (hji : j + 1 ≤ i) (hx : m[j]? = some x) (hy : m[j + 1]? = some y) (hxy : c y x < 0) : But c (swp m j x y) a i j := by
  intro p q u w h1 h2 h3 h4 e1 e2
  rw [swp_get hx hy] at e1 e2
  rw [if_neg h4] at e2
  by_cases hq : q = j + 1
  · rw [if_pos hq] at e2
    obtain rfl := Option.some.inj e2
    by_cases hp : p = j
    · rw [if_pos hp] at e1
      obtain rfl := Option.some.inj e1
      omega
    · rw [if_neg hp] at e1
      by_cases hp' : p = j + 1
      · rw [if_pos hp'] at e1
        obtain rfl := Option.some.inj e1
        have := hc.refl x; omega
      · rw [if_neg hp'] at e1
        exact h p j u x h1 (by omega) (by omega) (by omega) e1 hx
  · rw [if_neg hq] at e2
    by_cases hp : p = j
    · rw [if_pos hp] at e1
      obtain rfl := Option.some.inj e1
      exact h (j + 1) q y w (by omega) (by omega) h3 hq hy e2
    · rw [if_neg hp] at e1
      by_cases hp' : p = j + 1
      · rw [if_pos hp'] at e1
        obtain rfl := Option.some.inj e1
        exact h j q x w hj (by omega) h3 hq hx e2
      · rw [if_neg hp'] at e1
        exact h p q u w h1 h2 h3 hq e1 e2
theorem swp_eqr {m : List α} {a b i : Nat} {x y : α} (h1 : m[i]? = some x) (h2 : m[i + 1]? = some y) (h : i + 1 < a ∨ b ≤ i) : Eqr m (swp m i x y) a b := by
  intro j hj hj'
  rw [swp_get h1 h2, if_neg (by omega), if_neg (by omega)]
end
end Go.Proofs.YtabgobmeibjeeaaGreatDoor

namespace Go.Proofs.YtabgobmeibjeeaaGreatDoor
set_option linter.unusedSimpArgs false
set_option linter.unusedVariables false
set_option maxRecDepth 10000

theorem cmp49_run {d : Nat} (hd : 16 ≤ d) (S : St) {gk : Nat} {ks : List Ke} {kx : D} (hS : SlD 14 (keRows ks) kx) (h8 : ks.length ≤ 8) (hg : ∀ k ∈ ks, GK k) (hk : S.heap[gk]? = some ⟨26, 1, [[kx]], 0, 0, false⟩) (x y : RecT) : runF LP NN d 49 [recD x.1, recD y.1, .ptr gk 0 0 0] S = some (.int .i64 (cK ks x y), S, false) := by
 refine run_at (F := F49) rfl (by simp only [LP, fnOf, snapVs, snaps, zs, Bool.false_eq_true, if_false, Option.map_some, List.map_cons, List.map_nil, snapV_recD, freeV_recD] <;> exact rfl) rfl (by simp only [LP, zf, List.all_cons, List.all_nil, Bool.and_true, Bool.true_and, snapV_recD, freeV_recD]; try rfl) (by simp only [F49, zv] <;> exact rfl) (by omega) ?_
 rintro d rfl
 refine cw_seq (cw_region ?_)
 refine ow_mc ?_
 refine ow_nil ?_
 refine sk_n (by simp only [ze] <;> exact rfl) ?_
 refine cw_seq (cw_region ?_)
 refine ow_op (by simp only [zl, zm, zd, partD, List.take, List.drop, hk] <;> exact rfl) ?_
 refine ow_me rfl ?_
 refine ow_me rfl ?_
 refine ow_op (by simp only [zo, hk]; exact compareR_run (by omega) _ hS (recD_S _) (recD_S _) h8 hg x.2 y.2) ?_
 refine ow_ml rfl ?_
 refine ow_nil ?_
 refine sk_n (by simp only [ze] <;> exact rfl) ?_
 refine cw_ret ?_
 refine ⟨_, by simp only [F49, resultD, resDs, resD, List.getD_cons_zero, List.getD_cons_succ, zd, rowsOf, partD, List.getElem?_cons_zero, List.getElem?_cons_succ, if_true, if_false, Bool.false_eq_true, List.take, List.drop, zm] <;> exact rfl, ?_⟩
 simp [leave, LP, snapR, snapV, snap, D.freeR, D.freeV, D.free, cK]

/-- the blocks so far: k elements have changed places -/
theorem range_step {α : Type} {p u w q r : List α} {x y : α} {i j : Nat} (hi : i = p.length) (hj : j = p.length + 1 + q.length) : ((p ++ x :: q ++ y :: r).set i y).set j x = p ++ y :: q ++ x :: r := by
 subst hi hj
 exact swap_parts p q r x y
theorem app_at {α : Type} (p r : List α) (x : α) {i : Nat} (hi : i = p.length) : (p ++ x :: r)[i]? = some x := by
 subst hi; simp

theorem swapR_run {d : Nat} (hd : 1 ≤ d) {H : List AObj} {g v n gk : Nat} (hgl : g < H.length) (hgk : gk ≠ g) (P U M V Q : List RecT) (hn : (P ++ U ++ M ++ V ++ Q).length = n) (hn6 : n ≤ 1000000) (hUV : U.length = V.length) (f : D) (lo0 : Nat) : ∃ S2, (∃ lo, S2 = (⟨put H g v (P ++ V ++ M ++ U ++ Q), lo⟩ : St)) ∧ runF LP NN d 161 [.msl g v 0 n none, .int .i64 (P.length : Nat), .int .i64 ((P.length + U.length + M.length : Nat) : Int), .int .i64 (U.length : Nat), f] ⟨put H g v (P ++ U ++ M ++ V ++ Q), lo0⟩ = some (.tup [], ⟨S2.heap, min lo0 S2.low⟩, true) := by
 have hn0 : P.length + U.length + M.length + V.length + Q.length = n := by rw [← hn]; simp only [List.length_append]
 refine run_raw (F := F161) rfl rfl rfl (by simp only [LP, zf, List.all_cons, List.all_nil, Bool.and_true, Bool.true_and, Bool.false_and, Bool.and_false]) (by simp only [F161, zv] <;> exact rfl) rfl (by omega) ?_
 rintro d rfl
 refine cw_seq (cw_region ?_)
 refine ow_mc ?_
 refine ow_nil ?_
 refine sk_n (by simp only [ze] <;> exact rfl) ?_
 refine cw_block ?_
 refine cw_loop (fun rr env S' => ∃ (k : Nat) (u5 : D) (lo : Nat) (m1 : List RecT), k ≤ U.length ∧ rr = U.length - k ∧ m1 = P ++ (V.take k ++ U.drop k) ++ M ++ (U.take k ++ V.drop k) ++ Q ∧ S' = ⟨put H g v m1, lo⟩ ∧ env = [.msl g v 0 n none, .int .i64 (P.length : Nat), .int .i64 ((P.length + U.length + M.length : Nat) : Int), .int .i64 (U.length : Nat), .int .i64 k, u5]) (U.length) (by omega) (⟨0, _, _, _, by omega, by omega, by simp, rfl, rfl⟩) ?_
 rintro rr env S' ⟨k, u5, lo, m1, hk, rfl, hm, rfl, rfl⟩
 refine cw_seq (cw_seq (cw_region ?_))
 refine ow_me rfl ?_
 refine ow_me rfl ?_
 refine ow_op (by simp only [zo, binD, zb, Int.reduceEq, Int.reduceToNat, Int.reduceLT] <;> exact rfl) ?_
 refine ow_nil ?_
 refine sk_n (by simp only [ze] <;> exact rfl) ?_
 refine cw_cond (by simp only [opd, zv] <;> exact rfl) (fun hcA => ?_) (fun hcA => ?_)
 ·
  have hlt : k < U.length := by have := of_decide_eq_true hcA; omega
  obtain ⟨x, hx⟩ : ∃ x, U[k]? = some x := ⟨_, List.getElem?_eq_getElem hlt⟩
  obtain ⟨y, hy⟩ : ∃ y, V[k]? = some y := ⟨_, List.getElem?_eq_getElem (by omega)⟩
  have hU : U.drop k = x :: U.drop (k + 1) := by rw [List.drop_eq_getElem_cons hlt]; congr 1; exact (List.getElem?_eq_some_iff.1 hx).2
  have hV : V.drop k = y :: V.drop (k + 1) := by rw [List.drop_eq_getElem_cons (by omega)]; congr 1; exact (List.getElem?_eq_some_iff.1 hy).2
  have l1 : (V.take k).length = k := by rw [List.length_take]; omega
  have l2 : (U.drop (k + 1)).length = U.length - (k + 1) := List.length_drop
  have l3 : (U.take k).length = k := by rw [List.length_take]; omega
  have l4 : (V.drop (k + 1)).length = V.length - (k + 1) := List.length_drop
  have hm' : m1 = (P ++ V.take k) ++ x :: (U.drop (k + 1) ++ M ++ U.take k) ++ y :: (V.drop (k + 1) ++ Q) := by rw [hm, hU, hV]; simp
  have hml : m1.length = n := by rw [hm', ← hn]; simp only [List.length_append, List.length_cons]; omega
  have w0 := wrap_nat k (by omega)
  have w1 : IntKind.i64.wrap (((P.length : Nat) : Int) + (k : Int)) = ((P.length + k : Nat) : Int) := by rw [IntKind.wrap_i64]; omega
  have w2 : IntKind.i64.wrap (((P.length + U.length + M.length : Nat) : Int) + (k : Int)) = ((P.length + U.length + M.length + k : Nat) : Int) := by rw [IntKind.wrap_i64]; omega
  have g1 : m1[P.length + k]? = some x := by rw [hm', List.append_assoc]; exact app_at _ _ _ (by simp only [List.length_append, l1])
  have g2 : m1[P.length + U.length + M.length + k]? = some y := by rw [hm']; exact app_at _ _ _ (by simp only [List.length_append, List.length_cons, l1, l2, l3]; omega)
  have hnx : (m1.set (P.length + k) y).set (P.length + U.length + M.length + k) x = P ++ (V.take (k + 1) ++ U.drop (k + 1)) ++ M ++ (U.take (k + 1) ++ V.drop (k + 1)) ++ Q := by
   rw [hm', range_step (p := P ++ V.take k) (u := []) (w := []) (by simp only [List.length_append, l1]) (by simp only [List.length_append, l1, l2, l3]; omega), List.take_add_one, List.take_add_one, hx, hy]
   simp
  refine cw_skip (sk_n rfl (cw_seq (cw_block ?_)))
  refine cw_drawn (by simp only [newsVals, zw, Nat.reduceAdd] <;> exact rfl) (by simp only [zw, newsObj, St.eta] <;> exact rfl) ?_
  refine dw_me rfl rfl ?_
  refine dw_me rfl rfl ?_
  refine dw_me rfl rfl ?_
  refine dw_quiet (by simp only [zo, binD, zb, Int.reduceEq, Int.reduceToNat, Int.reduceLT, w0, w1, w2] <;> exact rfl) rfl rfl ?_
  refine dw_me rfl rfl ?_
  refine dw_me rfl rfl ?_
  refine dw_me rfl rfl ?_
  refine dw_quiet (by simp only [zo, binD, zb, Int.reduceEq, Int.reduceToNat, Int.reduceLT, w0, w1, w2] <;> exact rfl) rfl rfl ?_
  refine dw_me rfl rfl ?_
  refine dw_me rfl rfl ?_
  refine dw_me rfl rfl ?_
  refine dw_quiet (by simp only [zo, binD, zb, Int.reduceEq, Int.reduceToNat, Int.reduceLT, w0, w1, w2] <;> exact rfl) rfl rfl ?_
  refine dw_op (by simp only [opd, zv, w1, w2]; exact pi_iaddr hgl _ (by omega)) (by simp only [fpHere, zo, zq, plainV_recD, if_true] <;> exact rfl) rfl ?_
  refine dw_op (by simp only [opd, zv]; first | exact pl_load hgl g1 | exact pl_load hgl g2) (by simp only [fpHere, zo, zq, plainV_recD, if_true] <;> exact rfl) rfl ?_
  refine dw_me rfl rfl ?_
  refine dw_me rfl rfl ?_
  refine dw_me rfl rfl ?_
  refine dw_quiet (by simp only [zo, binD, zb, Int.reduceEq, Int.reduceToNat, Int.reduceLT, w0, w1, w2] <;> exact rfl) rfl rfl ?_
  refine dw_op (by simp only [opd, zv, w1, w2]; exact pi_iaddr hgl _ (by omega)) (by simp only [fpHere, zo, zq, plainV_recD, if_true] <;> exact rfl) rfl ?_
  refine dw_op (by simp only [opd, zv]; first | exact pl_load hgl g1 | exact pl_load hgl g2) (by simp only [fpHere, zo, zq, plainV_recD, if_true] <;> exact rfl) rfl ?_
  refine dw_op (by simp only [opd, zv, w1, w2]; exact pi_iaddr hgl _ (by omega)) (by simp only [fpHere, zo, zq, plainV_recD, if_true] <;> exact rfl) rfl ?_
  refine dw_op (by simp only [opd, zv]; exact ps_store hgl (by (try simp only [List.length_set]); omega)) (by simp only [fpHere, zo, zq, plainV_recD, if_true] <;> exact rfl) rfl ?_
  refine dw_op (by simp only [opd, zv, w1, w2]; exact pi_iaddr hgl _ (by omega)) (by simp only [fpHere, zo, zq, plainV_recD, if_true] <;> exact rfl) rfl ?_
  refine dw_op (by simp only [opd, zv]; exact ps_store hgl (by (try simp only [List.length_set]); omega)) (by simp only [fpHere, zo, zq, plainV_recD, if_true] <;> exact rfl) rfl ?_
  refine dw_nil (bk_n ?_)
  refine sk_n (by simp only [ze] <;> exact rfl) ?_
  refine cw_region ?_
  refine ow_me rfl ?_
  refine ow_op (by simp only [zo, binD, zb, Int.reduceEq, Int.reduceToNat, Int.reduceLT, w0, w1, w2] <;> exact rfl) ?_
  refine ow_ml rfl ?_
  refine ow_nil ?_
  refine lk_n (by simp only [ze] <;> exact rfl) ?_
  exact ⟨U.length - (k + 1), by omega, k + 1, _, _, _, by omega, rfl, hnx, rfl, rfl⟩
 ·
  obtain rfl : k = U.length := by have := of_decide_eq_false hcA; omega
  refine cw_exit (sk_e (lk_e (bk_e ?_)))
  exact ⟨lo, by rw [hm]; simp [List.take_of_length_le (Nat.le_of_eq hUV.symm), List.drop_eq_nil_of_le (Nat.le_of_eq hUV.symm)]⟩

end Go.Proofs.YtabgobmeibjeeaaGreatDoor

namespace Go.Proofs.YtabgobmeibjeeaaGreatDoor
set_option linter.unusedSimpArgs false
set_option linter.unusedVariables false
set_option maxRecDepth 10000

theorem insert_run {d : Nat} (hd : 17 ≤ d) {H : List AObj} {g v n gk : Nat} (hgl : g < H.length) (hgk : gk ≠ g) {ks : List Ke} {kx : D} (hS : SlD 14 (keRows ks) kx) (h8 : ks.length ≤ 8) (hg : ∀ k ∈ ks, GK k) (hkk : H[gk]? = some ⟨26, 1, [[kx]], 0, 0, false⟩) (m : List RecT) (hn : m.length = n) (hn6 : n ≤ 1000000) (a b : Nat) (hab : a ≤ b) (hb : b ≤ n) (lo0 : Nat) : ∃ S2, (∃ (m' : List RecT) (lo : Nat), S2 = (⟨put H g v m', lo⟩ : St) ∧ Same (cK ks) m m' ∧ Srt (cK ks) m' a b ∧ Eqr m m' 0 a ∧ Eqr m m' b n) ∧ runF LP NN d 118 [.msl g v 0 n none, .int .i64 (a : Nat), .int .i64 (b : Nat), .fn 49 [.ptr gk 0 0 0]] ⟨put H g v m, lo0⟩ = some (.tup [], ⟨S2.heap, min lo0 S2.low⟩, true) := by
 have wa := wrap_nat a (by omega)
 refine run_raw (F := F118) rfl rfl rfl (by simp only [LP, zf, List.all_cons, List.all_nil, Bool.and_true, Bool.true_and, Bool.false_and, Bool.and_false]) (by simp only [F118, zv] <;> exact rfl) rfl (by omega) ?_
 rintro d rfl
 refine cw_seq (cw_region ?_)
 refine ow_me rfl ?_
 refine ow_op (by simp only [zo, binD, zb, Int.reduceEq, Int.reduceToNat, Int.reduceLT, wa] <;> exact rfl) ?_
 refine ow_ml rfl ?_
 refine ow_nil ?_
 refine sk_n (by simp only [ze] <;> exact rfl) ?_
 refine cw_block ?_
 refine cw_loop (fun rr env S' => ∃ (i : Nat) (m1 : List RecT) (lo : Nat) (u5 u6 u7 : D), a + 1 ≤ i ∧ (i ≤ b ∨ i = a + 1) ∧ rr = b - i ∧ Same (cK ks) m m1 ∧ Srt (cK ks) m1 a i ∧ Eqr m m1 0 a ∧ Eqr m m1 b n ∧ S' = ⟨put H g v m1, lo⟩ ∧ env = [.msl g v 0 n none, .int .i64 (a : Nat), .int .i64 (b : Nat), .fn 49 [.ptr gk 0 0 0], .int .i64 (i : Nat), u5, u6, u7]) (b - (a + 1)) (by omega) (⟨a + 1, m, _, _, _, _, by omega, by omega, rfl, Same.refl _, Srt.small (cK_cmp ks) (by omega), Eqr.refl _ _ _, Eqr.refl _ _ _, rfl, rfl⟩) ?_
 rintro rr env S' ⟨i, m1, lo, u5, u6, u7, hi, hib, rfl, hsame, hsrt, he1, he2, rfl, rfl⟩
 refine cw_seq (cw_seq (cw_region ?_))
 refine ow_me rfl ?_
 refine ow_me rfl ?_
 refine ow_op (by simp only [zo, binD, zb, Int.reduceEq, Int.reduceToNat, Int.reduceLT, wa] <;> exact rfl) ?_
 refine ow_nil ?_
 refine sk_n (by simp only [ze] <;> exact rfl) ?_
 refine cw_cond (by simp only [opd, zv, wa] <;> exact rfl) (fun hcA => ?_) (fun hcA => ?_)
 ·
  have hib2 : i < b := by have := of_decide_eq_true hcA; omega
  have wi := wrap_nat i (by omega)
  refine cw_skip (sk_n rfl (cw_seq (cw_block (cw_seq (cw_region ?_)))))
  refine ow_me rfl ?_
  refine ow_ml rfl ?_
  refine ow_nil ?_
  refine sk_n (by simp only [ze] <;> exact rfl) ?_
  refine cw_block ?_
  refine cw_loop (fun rr env S' => ∃ (j : Nat) (m2 : List RecT) (lo2 : Nat) (v6 v7 : D), a ≤ j ∧ j ≤ i ∧ rr = j - a ∧ Same (cK ks) m m2 ∧ But (cK ks) m2 a i j ∧ Eqr m m2 0 a ∧ Eqr m m2 b n ∧ S' = ⟨put H g v m2, lo2⟩ ∧ env = [.msl g v 0 n none, .int .i64 (a : Nat), .int .i64 (b : Nat), .fn 49 [.ptr gk 0 0 0], .int .i64 (i : Nat), .int .i64 (j : Nat), v6, v7]) (i - a) (by omega) (⟨i, m1, _, _, _, by omega, by omega, rfl, hsame, But.start hsrt, he1, he2, rfl, rfl⟩) ?_
  rintro rr env S' ⟨j, m2, lo2, v6, v7, hj1, hj2, rfl, hsame2, hbut, he3, he4, rfl, rfl⟩
  have hml : m2.length = n := by rw [hsame2.1, hn]
  refine cw_seq (cw_seq ?_)
  refine cw_drawn (by simp only [newsVals, zw, Nat.reduceAdd] <;> exact rfl) (by simp only [zw, newsObj, St.eta] <;> exact rfl) ?_
  refine dw_me rfl rfl ?_
  refine dw_me rfl rfl ?_
  refine dw_quiet (by simp only [zo, binD, zb, Int.reduceEq, Int.reduceToNat, Int.reduceLT, wa, wi] <;> exact rfl) rfl rfl ?_
  refine dw_ml rfl rfl ?_
  refine dw_split 0 (by simp only [opd, zv] <;> exact rfl) (by simp only [zn] <;> exact rfl) (by simp only [zn] <;> exact rfl) (fun hgATB => ?_) (fun hgATB => ?_)
  ·
   obtain ⟨j, rfl⟩ : ∃ j', j = j' + 1 := ⟨j - 1, by have := of_decide_eq_true hgATB; omega⟩
   have hja : a ≤ j := by have := of_decide_eq_true hgATB; omega
   have wj : IntKind.i64.wrap (((j + 1 : Nat) : Int) - 1) = ((j : Nat) : Int) := by rw [IntKind.wrap_i64]; omega
   obtain ⟨x, hx⟩ : ∃ x, m2[j]? = some x := ⟨_, List.getElem?_eq_getElem (by omega)⟩
   obtain ⟨y, hy⟩ : ∃ y, m2[j + 1]? = some y := ⟨_, List.getElem?_eq_getElem (by omega)⟩
   refine dw_on (by simp only [opd, zv]) ?_
   refine dw_me rfl rfl ?_
   refine dw_on (by simp only [opd, zv]) ?_
   refine dw_me rfl rfl ?_
   refine dw_on (by simp only [opd, zv]) ?_
   refine dw_me rfl rfl ?_
   refine dw_on (by simp only [opd, zv]) ?_
   refine dw_op (by simp only [opd, zv, wj]; exact pi_iaddr hgl _ (by omega)) (by simp only [fpHere, zo, zq, plainV_recD, if_true] <;> exact rfl) rfl ?_
   refine dw_on (by simp only [opd, zv]) ?_
   refine dw_op (by simp only [opd, zv]; first | exact pl_load hgl hx | exact pl_load hgl hy) (by simp only [fpHere, zo, zq, plainV_recD, if_true] <;> exact rfl) rfl ?_
   refine dw_on (by simp only [opd, zv]) ?_
   refine dw_me rfl rfl ?_
   refine dw_on (by simp only [opd, zv]) ?_
   refine dw_me rfl rfl ?_
   refine dw_on (by simp only [opd, zv]) ?_
   refine dw_quiet (by simp only [zo, binD, zb, Int.reduceEq, Int.reduceToNat, Int.reduceLT, wa, wi, wj] <;> exact rfl) rfl rfl ?_
   refine dw_on (by simp only [opd, zv]) ?_
   refine dw_op (by simp only [opd, zv, wj]; exact pi_iaddr hgl _ (by omega)) (by simp only [fpHere, zo, zq, plainV_recD, if_true] <;> exact rfl) rfl ?_
   refine dw_on (by simp only [opd, zv]) ?_
   refine dw_op (by simp only [opd, zv]; first | exact pl_load hgl hx | exact pl_load hgl hy) (by simp only [fpHere, zo, zq, plainV_recD, if_true] <;> exact rfl) rfl ?_
   refine dw_on (by simp only [opd, zv]) ?_
   refine dw_op (by simp only [zo, wa, wi, wj]; exact (cmp49_run (by omega) _ hS h8 hg (by rw [put_ne hgk]; exact hkk) y x)) (by simp only [fpHere, zo, zq, plainV_recD, if_true] <;> exact rfl) rfl ?_
   refine dw_on (by simp only [opd, zv]) ?_
   refine dw_quiet (by simp only [zo, binD, zb, Int.reduceEq, Int.reduceToNat, Int.reduceLT, wa, wi, wj] <;> exact rfl) rfl rfl ?_
   refine dw_quiet (by simp only [zo, wa, wi, wj] <;> exact rfl) rfl rfl ?_
   refine dw_nil ?_
   refine sk_n (by simp only [ze] <;> exact rfl) ?_
   refine cw_cond (by simp only [opd, zv, wa, wi, wj] <;> exact rfl) (fun hcATBT => ?_) (fun hcATBT => ?_)
   ·
    have hlt : cK ks y x < 0 := of_decide_eq_true hcATBT
    refine cw_skip (sk_n rfl (cw_seq (cw_block ?_)))
    refine cw_drawn (by simp only [newsVals, zw, Nat.reduceAdd] <;> exact rfl) (by simp only [zw, newsObj, St.eta] <;> exact rfl) ?_
    refine dw_me rfl rfl ?_
    refine dw_me rfl rfl ?_
    refine dw_me rfl rfl ?_
    refine dw_me rfl rfl ?_
    refine dw_quiet (by simp only [zo, binD, zb, Int.reduceEq, Int.reduceToNat, Int.reduceLT, wa, wi, wj] <;> exact rfl) rfl rfl ?_
    refine dw_me rfl rfl ?_
    refine dw_me rfl rfl ?_
    refine dw_quiet (by simp only [zo, binD, zb, Int.reduceEq, Int.reduceToNat, Int.reduceLT, wa, wi, wj] <;> exact rfl) rfl rfl ?_
    refine dw_op (by simp only [opd, zv, wj]; exact pi_iaddr hgl _ (by omega)) (by simp only [fpHere, zo, zq, plainV_recD, if_true] <;> exact rfl) rfl ?_
    refine dw_op (by simp only [opd, zv]; first | exact pl_load hgl hx | exact pl_load hgl hy) (by simp only [fpHere, zo, zq, plainV_recD, if_true] <;> exact rfl) rfl ?_
    refine dw_me rfl rfl ?_
    refine dw_me rfl rfl ?_
    refine dw_op (by simp only [opd, zv, wj]; exact pi_iaddr hgl _ (by omega)) (by simp only [fpHere, zo, zq, plainV_recD, if_true] <;> exact rfl) rfl ?_
    refine dw_op (by simp only [opd, zv]; first | exact pl_load hgl hx | exact pl_load hgl hy) (by simp only [fpHere, zo, zq, plainV_recD, if_true] <;> exact rfl) rfl ?_
    refine dw_op (by simp only [opd, zv, wj]; exact pi_iaddr hgl _ (by omega)) (by simp only [fpHere, zo, zq, plainV_recD, if_true] <;> exact rfl) rfl ?_
    refine dw_op (by simp only [opd, zv]; exact ps_store hgl (by (try simp only [List.length_set]); omega)) (by simp only [fpHere, zo, zq, plainV_recD, if_true] <;> exact rfl) rfl ?_
    refine dw_op (by simp only [opd, zv, wj]; exact pi_iaddr hgl _ (by omega)) (by simp only [fpHere, zo, zq, plainV_recD, if_true] <;> exact rfl) rfl ?_
    refine dw_op (by simp only [opd, zv]; exact ps_store hgl (by (try simp only [List.length_set]); omega)) (by simp only [fpHere, zo, zq, plainV_recD, if_true] <;> exact rfl) rfl ?_
    refine dw_nil (bk_n ?_)
    refine sk_n (by simp only [ze] <;> exact rfl) ?_
    refine cw_region ?_
    refine ow_me rfl ?_
    refine ow_op (by simp only [zo, binD, zb, Int.reduceEq, Int.reduceToNat, Int.reduceLT, wa, wi, wj] <;> exact rfl) ?_
    refine ow_ml rfl ?_
    refine ow_nil ?_
    refine lk_n (by simp only [ze] <;> exact rfl) ?_
    exact ⟨j - a, by omega, j, swp m2 j x y, _, _, _, by omega, by omega, rfl, hsame2.trans (swp_same (cK_cmp ks) hx hy (by have := (cK_cmp ks).swap x y; omega)), hbut.next (cK_cmp ks) (by omega) (by omega) hx hy hlt, he3.trans (swp_eqr hx hy (by omega)), he4.trans (swp_eqr hx hy (by omega)), by rw [swp, List.set_comm _ _ (by omega)], rfl⟩
   ·
    have hsr : Srt (cK ks) m2 a (i + 1) := hbut.stop (cK_cmp ks) hja (by omega) hx hy (of_decide_eq_false hcATBT)
    refine cw_exit (sk_e (lk_e (bk_e (bk_n (sk_n rfl (cw_region ?_))))))
    refine ow_me rfl ?_
    refine ow_op (by simp only [zo, binD, zb, Int.reduceEq, Int.reduceToNat, Int.reduceLT, wa, wi, wj] <;> exact rfl) ?_
    refine ow_ml rfl ?_
    refine ow_nil ?_
    refine lk_n (by simp only [ze] <;> exact rfl) ?_
    exact ⟨b - (i + 1), by omega, i + 1, m2, lo2, _, _, _, by omega, by omega, rfl, hsame2, hsr, he3, he4, rfl, rfl⟩
  ·
   obtain rfl : j = a := by have := of_decide_eq_false hgATB; omega
   have hsr : Srt (cK ks) m2 j (i + 1) := hbut.low (cK_cmp ks)
   refine dw_off (b' := false) (by simp only [opd, zv]) rfl ?_
   refine dw_off (b' := false) (by simp only [opd, zv]) rfl ?_
   refine dw_off (b' := false) (by simp only [opd, zv]) rfl ?_
   refine dw_off (b' := false) (by simp only [opd, zv]) rfl ?_
   refine dw_off (b' := false) (by simp only [opd, zv]) rfl ?_
   refine dw_off (b' := false) (by simp only [opd, zv]) rfl ?_
   refine dw_off (b' := false) (by simp only [opd, zv]) rfl ?_
   refine dw_off (b' := false) (by simp only [opd, zv]) rfl ?_
   refine dw_off (b' := false) (by simp only [opd, zv]) rfl ?_
   refine dw_off (b' := false) (by simp only [opd, zv]) rfl ?_
   refine dw_off (b' := false) (by simp only [opd, zv]) rfl ?_
   refine dw_off (b' := false) (by simp only [opd, zv]) rfl ?_
   refine dw_quiet (by simp only [zo, wa, wi] <;> exact rfl) rfl rfl ?_
   refine dw_nil ?_
   refine sk_n (by simp only [ze] <;> exact rfl) ?_
   refine cw_false (by simp only [opd, zv, wa, wi]) ?_
   refine cw_exit (sk_e (lk_e (bk_e (bk_n (sk_n rfl (cw_region ?_))))))
   refine ow_me rfl ?_
   refine ow_op (by simp only [zo, binD, zb, Int.reduceEq, Int.reduceToNat, Int.reduceLT, wa, wi] <;> exact rfl) ?_
   refine ow_ml rfl ?_
   refine ow_nil ?_
   refine lk_n (by simp only [ze] <;> exact rfl) ?_
   exact ⟨b - (i + 1), by omega, i + 1, m2, lo2, _, _, _, by omega, by omega, rfl, hsame2, hsr, he3, he4, rfl, rfl⟩
 ·
  have hbi : b ≤ i := by have := of_decide_eq_false hcA; omega
  refine cw_exit (sk_e (lk_e (bk_e ?_)))
  exact ⟨m1, lo, rfl, hsame, hsrt.sub (Nat.le_refl _) hbi, he1, he2⟩

end Go.Proofs.YtabgobmeibjeeaaGreatDoor

namespace Go.Proofs.YtabgobmeibjeeaaGreatDoor
set_option linter.unusedSimpArgs false
set_option linter.unusedVariables false
set_option maxRecDepth 10000

theorem swapR {d : Nat} (hd : 1 ≤ d) {H : List AObj} {g v n gk : Nat} (hgl : g < H.length) (hgk : gk ≠ g) (P U M V Q : List RecT) {m : List RecT} (hm : m = P ++ U ++ M ++ V ++ Q) (hn : m.length = n) (hn6 : n ≤ 1000000) (hUV : U.length = V.length) {a b k : Nat} (ha : a = P.length) (hb : b = P.length + U.length + M.length) (hk : k = U.length) (f : D) (lo0 : Nat) : ∃ lo, runF LP NN d 161 [.msl g v 0 n none, .int .i64 (a : Nat), .int .i64 (b : Nat), .int .i64 (k : Nat), f] ⟨put H g v m, lo0⟩ = some (.tup [], ⟨put H g v (P ++ V ++ M ++ U ++ Q), lo⟩, true) := by
 subst ha hb hk hm
 obtain ⟨S2, ⟨lo, rfl⟩, h⟩ := swapR_run (H := H) (v := v) hd hgl hgk P U M V Q hn hn6 hUV f lo0
 exact ⟨_, h⟩

theorem rotate_run {d : Nat} (hd : 2 ≤ d) {H : List AObj} {g v n gk : Nat} (hgl : g < H.length) (hgk : gk ≠ g) (P A B Q : List RecT) (hn : (P ++ A ++ B ++ Q).length = n) (hn6 : n ≤ 1000000) (hA : 0 < A.length) (hB : 0 < B.length) (f : D) (lo0 : Nat) : ∃ S2, (∃ lo, S2 = (⟨put H g v (P ++ B ++ A ++ Q), lo⟩ : St)) ∧ runF LP NN d 146 [.msl g v 0 n none, .int .i64 (P.length : Nat), .int .i64 ((P.length + A.length : Nat) : Int), .int .i64 ((P.length + A.length + B.length : Nat) : Int), f] ⟨put H g v (P ++ A ++ B ++ Q), lo0⟩ = some (.tup [], ⟨S2.heap, min lo0 S2.low⟩, true) := by
 have hn0 : P.length + A.length + B.length + Q.length = n := by rw [← hn]; simp only [List.length_append]
 have v1 : IntKind.i64.wrap (((P.length + A.length : Nat) : Int) - ((P.length : Nat) : Int)) = ((A.length : Nat) : Int) := by rw [IntKind.wrap_i64]; omega
 have v2 : IntKind.i64.wrap (((P.length + A.length + B.length : Nat) : Int) - ((P.length + A.length : Nat) : Int)) = ((B.length : Nat) : Int) := by rw [IntKind.wrap_i64]; omega
 refine run_raw (F := F146) rfl rfl rfl (by simp only [LP, zf, List.all_cons, List.all_nil, Bool.and_true, Bool.true_and, Bool.false_and, Bool.and_false]) (by simp only [F146, zv] <;> exact rfl) rfl (by omega) ?_
 rintro d rfl
 refine cw_seq (cw_region ?_)
 refine ow_me rfl ?_
 refine ow_me rfl ?_
 refine ow_op (by simp only [zo, binD, zb, Int.reduceEq, Int.reduceToNat, Int.reduceLT, v1, v2] <;> exact rfl) ?_
 refine ow_ml rfl ?_
 refine ow_nil ?_
 refine sk_n (by simp only [ze] <;> exact rfl) ?_
 refine cw_seq (cw_region ?_)
 refine ow_me rfl ?_
 refine ow_me rfl ?_
 refine ow_op (by simp only [zo, binD, zb, Int.reduceEq, Int.reduceToNat, Int.reduceLT, v1, v2] <;> exact rfl) ?_
 refine ow_ml rfl ?_
 refine ow_nil ?_
 refine sk_n (by simp only [ze] <;> exact rfl) ?_
 refine cw_seq (cw_block ?_)
 refine cw_loop (fun rr env S' => ∃ (P1 A1 B1 Q1 : List RecT) (lo : Nat) (u7 u8 : D), P1 ++ B1 ++ A1 ++ Q1 = P ++ B ++ A ++ Q ∧ P1.length + A1.length = P.length + A.length ∧ 0 < A1.length ∧ 0 < B1.length ∧ (P1 ++ A1 ++ B1 ++ Q1).length = n ∧ rr = A1.length + B1.length ∧ S' = ⟨put H g v (P1 ++ A1 ++ B1 ++ Q1), lo⟩ ∧ env = [.msl g v 0 n none, .int .i64 (P.length : Nat), .int .i64 ((P.length + A.length : Nat) : Int), .int .i64 ((P.length + A.length + B.length : Nat) : Int), f, .int .i64 (A1.length : Nat), .int .i64 (B1.length : Nat), u7, u8]) (A.length + B.length) (by omega) (⟨P, A, B, Q, _, _, _, rfl, rfl, hA, hB, hn, rfl, rfl, rfl⟩) ?_
 rintro rr env S' ⟨P1, A1, B1, Q1, lo, u7, u8, hG, hmid, hA1, hB1, hn1, rfl, rfl, rfl⟩
 have hn2 : P1.length + A1.length + B1.length + Q1.length = n := by rw [← hn1]; simp only [List.length_append]
 have w1 : IntKind.i64.wrap (((P.length + A.length : Nat) : Int) - (A1.length : Int)) = ((P1.length : Nat) : Int) := by rw [IntKind.wrap_i64]; omega
 refine cw_seq (cw_seq (cw_region ?_))
 refine ow_me rfl ?_
 refine ow_me rfl ?_
 refine ow_op (by simp only [zo, binD, zb, Int.reduceEq, Int.reduceToNat, Int.reduceLT, v1, v2, w1] <;> exact rfl) ?_
 refine ow_nil ?_
 refine sk_n (by simp only [ze] <;> exact rfl) ?_
 refine cw_cond (by simp only [opd, zv, v1, v2, w1] <;> exact rfl) (fun hcA => ?_) (fun hcA => ?_)
 ·
  have hne : A1.length ≠ B1.length := by have := hcA; simp only [bne_iff_ne, ne_eq] at this; omega
  refine cw_skip (sk_n rfl (cw_block (cw_seq (cw_region ?_))))
  refine ow_me rfl ?_
  refine ow_me rfl ?_
  refine ow_op (by simp only [zo, binD, zb, Int.reduceEq, Int.reduceToNat, Int.reduceLT, v1, v2, w1] <;> exact rfl) ?_
  refine ow_nil ?_
  refine sk_n (by simp only [ze] <;> exact rfl) ?_
  refine cw_cond (by simp only [opd, zv, v1, v2, w1] <;> exact rfl) (fun hcAT => ?_) (fun hcAT => ?_)
  ·
   have hgt : B1.length < A1.length := by have := of_decide_eq_true hcAT; omega
   obtain ⟨X, hX⟩ : ∃ X, X = A1.take B1.length := ⟨_, rfl⟩
   obtain ⟨Y, hY⟩ : ∃ Y, Y = A1.drop B1.length := ⟨_, rfl⟩
   have hXY : A1 = X ++ Y := by rw [hX, hY, List.take_append_drop]
   have hXl : X.length = B1.length := by rw [hX, List.length_take]; omega
   have hYe : Y.length = A1.length - B1.length := by rw [hY, List.length_drop]
   have hYl : ((A1.length - B1.length : Nat) : Int) = ((Y.length : Nat) : Int) := by rw [hYe]
   have w2 : IntKind.i64.wrap ((A1.length : Int) - (B1.length : Int)) = ((A1.length - B1.length : Nat) : Int) := by rw [IntKind.wrap_i64]; omega
   obtain ⟨lo2, hrun⟩ := swapR (H := H) (v := v) (d := d) (by omega) hgl hgk P1 X Y B1 Q1 (m := P1 ++ A1 ++ B1 ++ Q1) (by rw [hXY]; simp) hn1 hn6 hXl (a := P1.length) (b := P.length + A.length) (k := B1.length) rfl (by omega) hXl.symm f lo
   refine cw_seq (cw_region ?_)
   refine ow_me rfl ?_
   refine ow_me rfl ?_
   refine ow_me rfl ?_
   refine ow_op (by simp only [zo, binD, zb, Int.reduceEq, Int.reduceToNat, Int.reduceLT, v1, v2, w1, w2] <;> exact rfl) ?_
   refine ow_me rfl ?_
   refine ow_me rfl ?_
   refine ow_me rfl ?_
   refine ow_op (by simp only [zo, v1, v2, w1, w2]; exact hrun) ?_
   refine ow_nil ?_
   refine sk_n (by simp only [ze] <;> exact rfl) ?_
   refine cw_region ?_
   refine ow_me rfl ?_
   refine ow_me rfl ?_
   refine ow_op (by simp only [zo, binD, zb, Int.reduceEq, Int.reduceToNat, Int.reduceLT, v1, v2, w1, w2] <;> exact rfl) ?_
   refine ow_ml rfl ?_
   refine ow_nil (bk_n ?_)
   refine lk_n (by simp only [ze] <;> exact rfl) ?_
   exact ⟨Y.length + X.length, by omega, P1 ++ B1, Y, X, Q1, lo2, _, _, by rw [← hG, hXY]; simp, by rw [List.length_append]; omega, by omega, by omega, by simp only [List.length_append]; omega, rfl, rfl, by rw [hYl, hXl]⟩
  ·
   have hgt : A1.length < B1.length := by have := of_decide_eq_false hcAT; omega
   obtain ⟨X, hX⟩ : ∃ X, X = B1.take (B1.length - A1.length) := ⟨_, rfl⟩
   obtain ⟨Y, hY⟩ : ∃ Y, Y = B1.drop (B1.length - A1.length) := ⟨_, rfl⟩
   have hXY : B1 = X ++ Y := by rw [hX, hY, List.take_append_drop]
   have hXe : X.length = B1.length - A1.length := by rw [hX, List.length_take]; omega
   have hYe : Y.length = A1.length := by rw [hY, List.length_drop]; omega
   have hXl : ((B1.length - A1.length : Nat) : Int) = ((X.length : Nat) : Int) := by rw [hXe]
   have hYl : ((A1.length : Nat) : Int) = ((Y.length : Nat) : Int) := by rw [hYe]
   have w2 : IntKind.i64.wrap ((B1.length : Int) - (A1.length : Int)) = ((B1.length - A1.length : Nat) : Int) := by rw [IntKind.wrap_i64]; omega
   have w3 : IntKind.i64.wrap (((P.length + A.length : Nat) : Int) + (B1.length : Int)) = ((P.length + A.length + B1.length : Nat) : Int) := by rw [IntKind.wrap_i64]; omega
   have w4 : IntKind.i64.wrap (((P.length + A.length + B1.length : Nat) : Int) - (A1.length : Int)) = ((P.length + A.length + B1.length - A1.length : Nat) : Int) := by rw [IntKind.wrap_i64]; omega
   obtain ⟨lo2, hrun⟩ := swapR (H := H) (v := v) (d := d) (by omega) hgl hgk P1 A1 X Y Q1 (m := P1 ++ A1 ++ B1 ++ Q1) (by rw [hXY]; simp) hn1 hn6 hYe.symm (a := P1.length) (b := P.length + A.length + B1.length - A1.length) (k := A1.length) rfl (by omega) rfl f lo
   refine cw_seq (cw_region ?_)
   refine ow_me rfl ?_
   refine ow_me rfl ?_
   refine ow_me rfl ?_
   refine ow_op (by simp only [zo, binD, zb, Int.reduceEq, Int.reduceToNat, Int.reduceLT, v1, v2, w1, w2, w3, w4] <;> exact rfl) ?_
   refine ow_me rfl ?_
   refine ow_me rfl ?_
   refine ow_op (by simp only [zo, binD, zb, Int.reduceEq, Int.reduceToNat, Int.reduceLT, v1, v2, w1, w2, w3, w4] <;> exact rfl) ?_
   refine ow_me rfl ?_
   refine ow_op (by simp only [zo, binD, zb, Int.reduceEq, Int.reduceToNat, Int.reduceLT, v1, v2, w1, w2, w3, w4] <;> exact rfl) ?_
   refine ow_me rfl ?_
   refine ow_me rfl ?_
   refine ow_op (by simp only [zo, v1, v2, w1, w2, w3, w4]; exact hrun) ?_
   refine ow_nil ?_
   refine sk_n (by simp only [ze] <;> exact rfl) ?_
   refine cw_region ?_
   refine ow_me rfl ?_
   refine ow_me rfl ?_
   refine ow_op (by simp only [zo, binD, zb, Int.reduceEq, Int.reduceToNat, Int.reduceLT, v1, v2, w1, w2, w3, w4] <;> exact rfl) ?_
   refine ow_ml rfl ?_
   refine ow_nil (bk_n ?_)
   refine lk_n (by simp only [ze] <;> exact rfl) ?_
   exact ⟨Y.length + X.length, by omega, P1, Y, X, A1 ++ Q1, lo2, _, _, by rw [← hG, hXY]; simp, by omega, by omega, by omega, by simp only [List.length_append]; omega, rfl, by rw [← List.append_assoc], by rw [hXl, hYl]⟩
 ·
  have heq : A1.length = B1.length := by have := hcA; simp only [bne_eq_false_iff_eq] at this; omega
  obtain ⟨lo2, hrun⟩ := swapR (H := H) (v := v) (d := d) (by omega) hgl hgk P1 A1 [] B1 Q1 (m := P1 ++ A1 ++ B1 ++ Q1) (by simp) hn1 hn6 heq (a := P1.length) (b := P.length + A.length) (k := A1.length) rfl (by simp; omega) rfl f lo
  refine cw_exit (sk_e (lk_e (bk_e (sk_n rfl (cw_region ?_)))))
  refine ow_me rfl ?_
  refine ow_me rfl ?_
  refine ow_me rfl ?_
  refine ow_op (by simp only [zo, binD, zb, Int.reduceEq, Int.reduceToNat, Int.reduceLT, v1, v2, w1] <;> exact rfl) ?_
  refine ow_me rfl ?_
  refine ow_me rfl ?_
  refine ow_me rfl ?_
  refine ow_op (by simp only [zo, v1, v2, w1]; exact hrun) ?_
  refine ow_nil ?_
  simp only [ze]
  exact ⟨_, by rw [← hG]; simp <;> rfl⟩

end Go.Proofs.YtabgobmeibjeeaaGreatDoor

namespace Go.Proofs.YtabgobmeibjeeaaGreatDoor
set_option linter.unusedVariables false
set_option linter.unusedSimpArgs false

section
variable {α : Type} {c : α → α → Int}
/-- from s to k and from k to e change places -/
def rot (m : List α) (s k e : Nat) : List α := m.take s ++ (m.drop k).take (e - k) ++ (m.drop s).take (k - s) ++ m.drop e
theorem rot_parts (m : List α) {s k e : Nat} (h1 : s ≤ k) (h2 : k ≤ e) (h3 : e ≤ m.length) : m = m.take s ++ (m.drop s).take (k - s) ++ (m.drop k).take (e - k) ++ m.drop e := by
  have e1 := parts2 m h1 (Nat.le_trans h2 h3)
  have e2 : m.drop k = (m.drop k).take (e - k) ++ m.drop e := by
    have := (List.take_append_drop (e - k) (m.drop k)).symm
    rw [List.drop_drop, show k + (e - k) = e by omega] at this
    exact this
  conv => lhs; rw [e1, e2]
  simp
theorem rot_get (m : List α) {s k e : Nat} (h1 : s ≤ k) (h2 : k ≤ e) (h3 : e ≤ m.length) (i : Nat) : (rot m s k e)[i]? = if i < s then m[i]? else if i < s + (e - k) then m[i - s + k]? else if i < e then m[i - (e - k)]? else m[i]? := by
  have l1 : (m.take s).length = s := by rw [List.length_take]; omega
  have l2 : ((m.drop k).take (e - k)).length = e - k := by rw [List.length_take, List.length_drop]; omega
  have l3 : ((m.drop s).take (k - s)).length = k - s := by rw [List.length_take, List.length_drop]; omega
  unfold rot
  rw [List.append_assoc, List.append_assoc, List.getElem?_append, l1]
  by_cases a : i < s
  · rw [if_pos a, if_pos a, List.getElem?_take_of_lt a]
  · rw [if_neg a, if_neg a, List.getElem?_append, l2]
    by_cases b : i < s + (e - k)
    · rw [if_pos (by omega), if_pos b, get_part m k e _ (by omega)]
      congr 1; omega
    · rw [if_neg (by omega), if_neg b, List.getElem?_append, l3]
      by_cases d : i < e
      · rw [if_pos (by omega), if_pos d, get_part m s k _ (by omega)]
        congr 1; omega
      · rw [if_neg (by omega), if_neg d, List.getElem?_drop]
        congr 1; omega
theorem rot_len (m : List α) {s k e : Nat} (h1 : s ≤ k) (h2 : k ≤ e) (h3 : e ≤ m.length) : (rot m s k e).length = m.length := by
  unfold rot
  simp only [List.length_append, List.length_take, List.length_drop]; omega
theorem rot_none (m : List α) {s k e : Nat} (h1 : s ≤ k) (h2 : k ≤ e) (h3 : e ≤ m.length) (h : s = k ∨ e = k) : rot m s k e = m := by
  apply List.ext_getElem?
  intro i
  rw [rot_get m h1 h2 h3]
  by_cases a : i < s
  · rw [if_pos a]
  · rw [if_neg a]
    by_cases b : i < s + (e - k)
    · rw [if_pos b]; congr 1; omega
    · rw [if_neg b]
      by_cases d : i < e
      · rw [if_pos d]; congr 1; omega
      · rw [if_neg d]
theorem rot_same (hc : Cmp c) {m : List α} {a s k e b : Nat} (ha : a ≤ s) (h1 : s ≤ k) (h2 : k ≤ e) (he : e ≤ b) (hb : b ≤ m.length) (s1 : Srt c m a k) (s2 : Srt c m k b) (hlt : s = k ∨ e = k ∨ ∃ x y, m[e - 1]? = some x ∧ m[s]? = some y ∧ c x y < 0) : Same c m (rot m s k e) := by
  have hp := rot_parts m h1 h2 (by omega)
  conv => arg 2; rw [hp]
  refine Same.mid hc _ _ ?_
  intro x hx y hy hxy
  obtain ⟨p, p1, p2, p3⟩ := mem_part hx
  obtain ⟨q, q1, q2, q3⟩ := mem_part hy
  rcases hlt with h | h | ⟨u, w, hu, hw, huw⟩
  · omega
  · omega
  · have c1 := s1 s p w x ha p1 p2 hw p3
    have c2 := s2 q (e - 1) y u q1 (by omega) (by omega) q3 hu
    have c3 := hc.trans w x y c1 (by omega)
    have c4 := hc.trans w y u c3 c2
    have c5 := hc.swap w u
    omega
/-- what is known behind it -/
structure RotF (c : α → α → Int) (m m' : List α) (a s mid e b : Nat) : Prop where
  same : Same c m m'
  e1 : Eqr m m' 0 a
  e2 : Eqr m m' b m.length
  s1 : Srt c m' a s
  s2 : Srt c m' s mid
  s3 : Srt c m' mid e
  s4 : Srt c m' e b
  cross : ∀ (i j : Nat) (x y : α), a ≤ i → i < mid → mid ≤ j → j < b → m'[i]? = some x → m'[j]? = some y → c x y ≤ 0
theorem rot_facts (hc : Cmp c) {m : List α} {a s k e b : Nat} (ha : a ≤ s) (h1 : s ≤ k) (h2 : k ≤ e) (he : e ≤ b) (hb : b ≤ m.length) (s1 : Srt c m a k) (s2 : Srt c m k b) (hlt : s = k ∨ e = k ∨ ∃ x y, m[e - 1]? = some x ∧ m[s]? = some y ∧ c x y < 0)
    (hge : s = a ∨ e = b ∨ ∃ x y, m[e]? = some x ∧ m[s - 1]? = some y ∧ ¬ c x y < 0) : RotF c m (rot m s k e) a s (s + (e - k)) e b := by
  have G := rot_get m h1 h2 (show e ≤ m.length by omega)
  have low : ∀ i, i < s → (rot m s k e)[i]? = m[i]? := fun i hi => by rw [G, if_pos hi]
  have v1 : ∀ i, s ≤ i → i < s + (e - k) → (rot m s k e)[i]? = m[i - s + k]? := fun i hi hj => by rw [G, if_neg (by omega), if_pos hj]
  have u2 : ∀ i, s + (e - k) ≤ i → i < e → (rot m s k e)[i]? = m[i - (e - k)]? := fun i hi hj => by rw [G, if_neg (by omega), if_neg (by omega), if_pos hj]
  have hi : ∀ i, e ≤ i → (rot m s k e)[i]? = m[i]? := fun i hi => by rw [G, if_neg (by omega), if_neg (by omega), if_neg (by omega)]
  refine ⟨rot_same hc ha h1 h2 he hb s1 s2 hlt, fun i _ h => low i (by omega), fun i h _ => hi i (by omega), ?_, ?_, ?_, ?_, ?_⟩
  · exact (s1.sub (Nat.le_refl _) h1).cong fun i _ h => low i h
  · intro i j x y h3 h4 h5 e1 e2
    rw [v1 i h3 (by omega)] at e1
    rw [v1 j (by omega) h5] at e2
    exact s2 _ _ x y (by omega) (by omega) (by omega) e1 e2
  · intro i j x y h3 h4 h5 e1 e2
    rw [u2 i h3 (by omega)] at e1
    rw [u2 j (by omega) h5] at e2
    exact s1 _ _ x y (by omega) (by omega) (by omega) e1 e2
  · exact (s2.sub (by omega) (Nat.le_refl _)).cong fun i h _ => hi i h
  · intro i j x y h3 h4 h5 h6 e1 e2
    by_cases hs : i < s
    · rw [low i hs] at e1
      by_cases hj : j < e
      · rw [u2 j h5 hj] at e2
        exact s1 _ _ x y (by omega) (by omega) (by omega) e1 e2
      · rw [hi j (by omega)] at e2
        rcases hge with h | h | ⟨u, w, hu, hw, huw⟩
        · omega
        · omega
        · have c1 := s1 i (s - 1) x w h3 (by omega) (by omega) e1 hw
          have c2 := s2 e j u y (by omega) (by omega) h6 hu e2
          have c3 := hc.swap u w
          exact hc.trans x w y c1 (hc.trans w u y (by omega) c2)
    · rw [v1 i (by omega) h4] at e1
      by_cases hj : j < e
      · rw [u2 j h5 hj] at e2
        rcases hlt with h | h | ⟨u, w, hu, hw, huw⟩
        · omega
        · omega
        · have c1 := s2 _ (e - 1) x u (by omega) (by omega) (by omega) e1 hu
          have c2 := s1 s _ w y ha (by omega) (by omega) hw e2
          exact hc.trans x u y c1 (hc.trans u w y (by omega) c2)
      · rw [hi j (by omega)] at e2
        exact s2 _ j x y (by omega) (by omega) h6 e1 e2
/-- the element at a is moved on by one -/
theorem rot_up (m : List α) {a t : Nat} {x z : α} (hx : m[a]? = some x) (hz : m[a + t + 1]? = some z) : (rot m a (a + 1) (a + 1 + t))[a + t]? = some x ∧ (rot m a (a + 1) (a + 1 + t))[a + t + 1]? = some z ∧ swp (rot m a (a + 1) (a + 1 + t)) (a + t) x z = rot m a (a + 1) (a + 1 + t + 1) := by
  have hl := (List.getElem?_eq_some_iff.1 hz).1
  have G := rot_get m (show a ≤ a + 1 by omega) (show a + 1 ≤ a + 1 + t by omega) (show a + 1 + t ≤ m.length by omega)
  have G' := rot_get m (show a ≤ a + 1 by omega) (show a + 1 ≤ a + 1 + t + 1 by omega) (show a + 1 + t + 1 ≤ m.length by omega)
  have g1 : (rot m a (a + 1) (a + 1 + t))[a + t]? = some x := by
    rw [G, if_neg (by omega), if_neg (by omega), if_pos (by omega), show a + t - (a + 1 + t - (a + 1)) = a by omega]; exact hx
  have g2 : (rot m a (a + 1) (a + 1 + t))[a + t + 1]? = some z := by
    rw [G, if_neg (by omega), if_neg (by omega), if_neg (by omega)]; exact hz
  refine ⟨g1, g2, ?_⟩
  apply List.ext_getElem?
  intro i
  rw [swp_get g1 g2, G, G']
  by_cases c1 : i = a + t
  · subst c1
    rw [if_pos rfl, if_neg (by omega), if_pos (by omega), show a + t - a + (a + 1) = a + t + 1 by omega]; exact hz.symm
  · rw [if_neg c1]
    by_cases c2 : i = a + t + 1
    · subst c2
      rw [if_pos rfl, if_neg (by omega), if_neg (by omega), if_pos (by omega), show a + t + 1 - (a + 1 + t + 1 - (a + 1)) = a by omega]; exact hx.symm
    · rw [if_neg c2]
      by_cases c3 : i < a
      · rw [if_pos c3, if_pos c3]
      · rw [if_neg c3, if_neg c3]
        by_cases c4 : i < a + t
        · rw [if_pos (by omega), if_pos (by omega)]
        · rw [if_neg (by omega), if_neg (by omega), if_neg (by omega), if_neg (by omega)]
/-- the element at k is moved back by one -/
theorem rot_down (m : List α) {k t : Nat} {y z : α} (ht : t + 1 ≤ k) (hy : m[k]? = some y) (hz : m[k - (t + 1)]? = some z) : (rot m (k - t) k (k + 1))[k - (t + 1)]? = some z ∧ (rot m (k - t) k (k + 1))[k - (t + 1) + 1]? = some y ∧ swp (rot m (k - t) k (k + 1)) (k - (t + 1)) z y = rot m (k - (t + 1)) k (k + 1) := by
  have hl := (List.getElem?_eq_some_iff.1 hy).1
  have G := rot_get m (show k - t ≤ k by omega) (show k ≤ k + 1 by omega) (show k + 1 ≤ m.length by omega)
  have G' := rot_get m (show k - (t + 1) ≤ k by omega) (show k ≤ k + 1 by omega) (show k + 1 ≤ m.length by omega)
  have g1 : (rot m (k - t) k (k + 1))[k - (t + 1)]? = some z := by
    rw [G, if_pos (by omega)]; exact hz
  have g2 : (rot m (k - t) k (k + 1))[k - (t + 1) + 1]? = some y := by
    rw [G, if_neg (by omega), if_pos (by omega), show k - (t + 1) + 1 - (k - t) + k = k by omega]; exact hy
  refine ⟨g1, g2, ?_⟩
  apply List.ext_getElem?
  intro i
  rw [swp_get g1 g2, G, G']
  by_cases c1 : i = k - (t + 1)
  · subst c1
    rw [if_pos rfl, if_neg (by omega), if_pos (by omega), show k - (t + 1) - (k - (t + 1)) + k = k by omega]; exact hy.symm
  · rw [if_neg c1]
    by_cases c2 : i = k - (t + 1) + 1
    · subst c2
      rw [if_pos rfl, if_neg (by omega), if_neg (by omega), if_pos (by omega), show k - (t + 1) + 1 - (k + 1 - k) = k - (t + 1) by omega]; exact hz.symm
    · rw [if_neg c2]
      by_cases c3 : i < k - (t + 1)
      · rw [if_pos (by omega), if_pos c3]
      · rw [if_neg (by omega : ¬ i < k - t), if_neg (by omega : ¬ i < k - t + (k + 1 - k)), if_neg c3, if_neg (by omega : ¬ i < k - (t + 1) + (k + 1 - k))]
end
end Go.Proofs.YtabgobmeibjeeaaGreatDoor

namespace Go.Proofs.YtabgobmeibjeeaaGreatDoor
set_option linter.unusedVariables false
set_option linter.unusedSimpArgs false

/-- behind a cut -/
def CutK (I : List D → St → Prop) : LExit → List D → St → Prop
  | .normal, env, S => I env S
  | _, _, _ => False
theorem ck_n {I : List D → St → Prop} {env env' : List D} {S : St} (h : env = env') (h2 : I env' S) : CutK I .normal env S := by subst h; exact h2
theorem cw_cut {call : CallF} {Q : LExit → List D → St → Prop} {env : List D} {S : St} {a b : LCode} (I : List D → St → Prop) (h1 : CW call a (CutK I) env S) (h2 : ∀ env S, I env S → CW call b Q env S) : CW call (.seq a b) Q env S := by
  refine cw_seq (cw_mono h1 ?_)
  intro e env' S' h
  cases e with
  | normal => exact h2 env' S' h
  | ret => exact h.elim
  | exit i => exact h.elim
theorem shr1 (x : Nat) : ((x : Nat) : Int).fdiv (2 ^ (min 1 IntKind.u64.bits)) = ((x / 2 : Nat) : Int) := by
  rw [show min 1 IntKind.u64.bits = 1 from rfl, Int.fdiv_eq_ediv_of_nonneg _ (by decide)]
  omega
theorem u64_nat (x : Nat) (h : x < 1000000000) : IntKind.u64.wrap ((x : Nat) : Int) = ((x : Nat) : Int) := by
  simp only [IntKind.wrap, IntKind.signed, IntKind.bits, Bool.false_and, Bool.false_eq_true, if_false]; omega
theorem i64_nat (x : Nat) (h : x < 1000000000) : IntKind.i64.wrap ((x : Nat) : Int) = ((x : Nat) : Int) := by
  rw [IntKind.wrap_i64]; omega
theorem i64_add (x y : Nat) (h : x + y < 1000000000) : IntKind.i64.wrap (((x : Nat) : Int) + ((y : Nat) : Int)) = ((x + y : Nat) : Int) := by
  rw [IntKind.wrap_i64]; omega
theorem i64_sub (x y : Nat) (h : y ≤ x) (hx : x < 1000000000) : IntKind.i64.wrap (((x : Nat) : Int) - ((y : Nat) : Int)) = ((x - y : Nat) : Int) := by
  rw [IntKind.wrap_i64]; omega
theorem rotate_at {d : Nat} (hd : 2 ≤ d) {H : List AObj} {g v n gk : Nat} (hgl : g < H.length) (hgk : gk ≠ g) {m : List RecT} (hn : m.length = n) (hn6 : n ≤ 1000000) {s k e : Nat} (h1 : s < k) (h2 : k < e) (h3 : e ≤ n) (f : D) (lo0 : Nat) : ∃ lo, runF LP NN d 146 [.msl g v 0 n none, .int .i64 (s : Nat), .int .i64 (k : Nat), .int .i64 (e : Nat), f] ⟨put H g v m, lo0⟩ = some (.tup [], ⟨put H g v (rot m s k e), lo⟩, true) := by
  have hp := rot_parts m (Nat.le_of_lt h1) (Nat.le_of_lt h2) (by omega)
  have l1 : (m.take s).length = s := by rw [List.length_take]; omega
  have l2 : ((m.drop k).take (e - k)).length = e - k := by rw [List.length_take, List.length_drop]; omega
  have l3 : ((m.drop s).take (k - s)).length = k - s := by rw [List.length_take, List.length_drop]; omega
  obtain ⟨S2, ⟨lo, rfl⟩, h⟩ := rotate_run (H := H) (v := v) (n := n) hd hgl hgk (m.take s) ((m.drop s).take (k - s)) ((m.drop k).take (e - k)) (m.drop e) (by rw [← hp]; exact hn) hn6 (by omega) (by omega) f lo0
  rw [← hp, l1, l2, l3, show s + (k - s) = k by omega, show k + (e - k) = e by omega] at h
  exact ⟨_, h⟩
section
variable {α : Type} {c : α → α → Int}
theorem Eqr.take {m m' : List α} {a : Nat} (h : Eqr m m' 0 a) : m'.take a = m.take a := by
  apply List.ext_getElem?
  intro i
  by_cases hi : i < a
  · rw [List.getElem?_take_of_lt hi, List.getElem?_take_of_lt hi]; exact h i (by omega) hi
  · rw [List.getElem?_take_eq_none (by omega), List.getElem?_take_eq_none (by omega)]
theorem Eqr.drop {m m' : List α} {b : Nat} (h : Eqr m m' b m.length) (hl : m'.length = m.length) : m'.drop b = m.drop b := by
  apply List.ext_getElem?
  intro i
  rw [List.getElem?_drop, List.getElem?_drop]
  by_cases hi : b + i < m.length
  · exact h (b + i) (by omega) hi
  · rw [List.getElem?_eq_none (by omega), List.getElem?_eq_none (by omega)]
/-- what lies in a part lay there before -/
theorem seg_mem (hc : Cmp c) {m m' : List α} {a b : Nat} (hs : Same c m m') (e1 : Eqr m m' 0 a) (e2 : Eqr m m' b m.length) (hab : a ≤ b) (hb : b ≤ m.length) {i : Nat} {x : α} (h1 : a ≤ i) (h2 : i < b) (hx : m'[i]? = some x) : ∃ j, a ≤ j ∧ j < b ∧ m[j]? = some x := by
  have p1 := parts2 m hab hb
  have p2 := parts2 m' hab (by rw [hs.1]; exact hb)
  rw [e1.take, e2.drop hs.1] at p2
  have hf := hs.2 x
  rw [p1, p2] at hf
  simp only [List.filter_append, List.append_cancel_left_eq, List.append_cancel_right_eq] at hf
  have hm : x ∈ ((m'.drop a).take (b - a)).filter (fun y => c x y == 0) := by
    rw [List.mem_filter]
    refine ⟨?_, by simp [hc.refl]⟩
    have := get_part m' a b (i - a) (by omega)
    rw [show a + (i - a) = i by omega, hx] at this
    exact List.mem_of_getElem? this
  rw [← hf] at hm
  obtain ⟨k, k1, k2, k3⟩ := mem_part (List.mem_filter.1 hm).1
  exact ⟨k, k1, k2, k3⟩
end
end Go.Proofs.YtabgobmeibjeeaaGreatDoor

namespace Go.Proofs.YtabgobmeibjeeaaGreatDoor
set_option linter.unusedSimpArgs false
set_option linter.unusedVariables false
set_option maxRecDepth 10000
set_option maxHeartbeats 4000000

/-! where a search stands -/
def LtA (ks : List Ke) (m : List RecT) (i0 i : Nat) (x : RecT) : Prop := i = i0 ∨ ∃ y, m[i - 1]? = some y ∧ cK ks y x < 0
def GeA (ks : List Ke) (m : List RecT) (j0 j : Nat) (x : RecT) : Prop := j = j0 ∨ ∃ y, m[j]? = some y ∧ ¬ cK ks y x < 0
def GeB (ks : List Ke) (m : List RecT) (i0 i : Nat) (y : RecT) : Prop := i = i0 ∨ ∃ z, m[i - 1]? = some z ∧ ¬ cK ks y z < 0
def LtB (ks : List Ke) (m : List RecT) (j0 j : Nat) (y : RecT) : Prop := j = j0 ∨ ∃ z, m[j]? = some z ∧ cK ks y z < 0
def GeE (ks : List Ke) (m : List RecT) (q s0 s : Nat) : Prop := s = s0 ∨ ∃ x y, m[q - s]? = some x ∧ m[s - 1]? = some y ∧ ¬ cK ks x y < 0
def LtE (ks : List Ke) (m : List RecT) (q r0 r : Nat) : Prop := r = r0 ∨ ∃ x y, m[q - r - 1]? = some x ∧ m[r]? = some y ∧ cK ks x y < 0

theorem symM_run {H : List AObj} {g v n gk : Nat} (hgl : g < H.length) (hgk : gk ≠ g) {ks : List Ke} {kx : D} (hS : SlD 14 (keRows ks) kx) (h8 : ks.length ≤ 8) (hg : ∀ k ∈ ks, GK k) (hkk : H[gk]? = some ⟨26, 1, [[kx]], 0, 0, false⟩) (hn6 : n ≤ 1000000) : ∀ (sz d : Nat), 17 + sz ≤ d → ∀ (m : List RecT), m.length = n → ∀ (a k b : Nat), a < k → k < b → b ≤ n → b - a ≤ sz → Srt (cK ks) m a k → Srt (cK ks) m k b → ∀ lo0 : Nat, ∃ S2, (∃ (m' : List RecT) (lo : Nat), S2 = (⟨put H g v m', lo⟩ : St) ∧ Same (cK ks) m m' ∧ Srt (cK ks) m' a b ∧ Eqr m m' 0 a ∧ Eqr m m' b n) ∧ runF LP NN d 119 [.msl g v 0 n none, .int .i64 (a : Nat), .int .i64 (k : Nat), .int .i64 (b : Nat), .fn 49 [.ptr gk 0 0 0]] ⟨put H g v m, lo0⟩ = some (.tup [], ⟨S2.heap, min lo0 S2.low⟩, true) := by
 intro sz
 induction sz with
 | zero => intro d hd m hn a k b h1 h2 h3 h4; omega
 | succ sz ih =>
  intro d hd m hn a k b hak hkb hbn hsz s1 s2 lo0
  have wka := i64_sub k a (by omega) (by omega)
  have wbk := i64_sub b k (by omega) (by omega)
  refine run_raw (F := F119) rfl rfl rfl (by simp only [LP, zf, List.all_cons, List.all_nil, Bool.and_true, Bool.true_and, Bool.false_and, Bool.and_false]) (by simp only [F119, zv] <;> exact rfl) rfl (by omega) ?_
  rintro d rfl
  refine cw_seq (cw_seq (cw_region ?_))
  refine ow_me rfl ?_
  refine ow_me rfl ?_
  refine ow_op (by simp only [zo, binD, zb, Int.reduceEq, Int.reduceToNat, Int.reduceLT, wka, wbk] <;> exact rfl) ?_
  refine ow_op (by simp only [zo, binD, zb, Int.reduceEq, Int.reduceToNat, Int.reduceLT, wka, wbk] <;> exact rfl) ?_
  refine ow_nil ?_
  refine sk_n (by simp only [ze] <;> exact rfl) ?_
  refine cw_cond (by simp only [opd, zv, wka, wbk] <;> exact rfl) (fun hc => ?_) (fun hc => ?_)
  ·
   obtain rfl : k = a + 1 := by have := hc; simp only [beq_iff_eq] at this; omega
   obtain ⟨x, hx⟩ : ∃ x, m[a]? = some x := ⟨_, List.getElem?_eq_getElem (by omega)⟩
   refine cw_seq (cw_region ?_)
   refine ow_me rfl ?_
   refine ow_ml rfl ?_
   refine ow_nil ?_
   refine sk_n (by simp only [ze] <;> exact rfl) ?_
   refine cw_seq (cw_region ?_)
   refine ow_me rfl ?_
   refine ow_ml rfl ?_
   refine ow_nil ?_
   refine sk_n (by simp only [ze] <;> exact rfl) ?_
   refine cw_seq (cw_block ?_)
   refine cw_loop (fun rr env S' => ∃ (i j lo : Nat) (p7 p8 p9 p10 p11 p12 p13 p14 p15 p16 p17 p18 p19 p20 p21 p22 p23 p24 p25 p26 p27 p28 p29 p30 p31 p32 p33 : D), a + 1 ≤ i ∧ i ≤ j ∧ j ≤ b ∧ rr = j - i ∧ LtA ks m (a + 1) i x ∧ GeA ks m b j x ∧ S' = ⟨put H g v m, lo⟩ ∧ env = [.msl g v 0 n none, .int .i64 (a : Nat), .int .i64 ((a + 1 : Nat) : Int), .int .i64 (b : Nat), .fn 49 [.ptr gk 0 0 0], .int .i64 (i : Nat), .int .i64 (j : Nat), p7, p8, p9, p10, p11, p12, p13, p14, p15, p16, p17, p18, p19, p20, p21, p22, p23, p24, p25, p26, p27, p28, p29, p30, p31, p32, p33]) (b - (a + 1)) (by omega) (⟨a + 1, b, _, _, _, _, _, _, _, _, _, _, _, _, _, _, _, _, _, _, _, _, _, _, _, _, _, _, _, _, by omega, by omega, by omega, rfl, Or.inl rfl, Or.inl rfl, rfl, rfl⟩) ?_
   rintro rr env S' ⟨i, j, lo, p7, p8, p9, p10, p11, p12, p13, p14, p15, p16, p17, p18, p19, p20, p21, p22, p23, p24, p25, p26, p27, p28, p29, p30, p31, p32, p33, fA0, fA1, fA2, rfl, fA4, fA5, rfl, rfl⟩
   refine cw_seq (cw_seq (cw_region ?_))
   refine ow_me rfl ?_
   refine ow_me rfl ?_
   refine ow_op (by simp only [zo, binD, zb, Int.reduceEq, Int.reduceToNat, Int.reduceLT, wka, wbk] <;> exact rfl) ?_
   refine ow_nil ?_
   refine sk_n (by simp only [ze] <;> exact rfl) ?_
   refine cw_cond (by simp only [opd, zv, wka, wbk] <;> exact rfl) (fun hcTA => ?_) (fun hcTA => ?_)
   ·
    have hij : i < j := by have := of_decide_eq_true hcTA; omega
    have hw1 := i64_add i j (by omega)
    have hw2 := u64_nat (i + j) (by omega)
    have hw3 := shr1 (i + j)
    obtain ⟨h, he⟩ : ∃ h, h = (i + j) / 2 := ⟨_, rfl⟩
    have hw4 : IntKind.i64.wrap (((i + j) / 2 : Nat) : Int) = ((h : Nat) : Int) := by rw [i64_nat _ (by omega), he]
    have wh := wrap_nat h (by omega)
    obtain ⟨y, hy⟩ : ∃ y, m[h]? = some y := ⟨_, List.getElem?_eq_getElem (by omega)⟩
    refine cw_skip (sk_n rfl (cw_block (cw_seq (cw_region ?_))))
    refine ow_me rfl ?_
    refine ow_me rfl ?_
    refine ow_op (by simp only [zo, binD, zb, Int.reduceEq, Int.reduceToNat, Int.reduceLT, wka, wbk, hw1, hw2, hw3, hw4, wh] <;> exact rfl) ?_
    refine ow_op (by simp only [zo, wka, wbk, hw1, hw2, hw3, hw4, wh] <;> exact rfl) ?_
    refine ow_op (by simp only [zo, binD, zb, Int.reduceEq, Int.reduceToNat, Int.reduceLT, wka, wbk, hw1, hw2, hw3, hw4, wh] <;> exact rfl) ?_
    refine ow_op (by simp only [zo, wka, wbk, hw1, hw2, hw3, hw4, wh] <;> exact rfl) ?_
    refine ow_ml rfl ?_
    refine ow_nil ?_
    refine sk_n (by simp only [ze] <;> exact rfl) ?_
    refine cw_seq ?_
    refine cw_drawn (by simp only [newsVals, zw, Nat.reduceAdd] <;> exact rfl) (by simp only [zw, newsObj, St.eta] <;> exact rfl) ?_
    refine dw_me rfl rfl ?_
    refine dw_me rfl rfl ?_
    refine dw_me rfl rfl ?_
    refine dw_op (by simp only [opd, zv, hw1, hw2, hw3, hw4]; exact pi_iaddr hgl _ (by omega)) (by simp only [fpHere, zo, zq, plainV_recD, if_true] <;> exact rfl) rfl ?_
    refine dw_op (by simp only [opd, zv]; first | exact pl_load hgl hy | exact pl_load hgl hx) (by simp only [fpHere, zo, zq, plainV_recD, if_true] <;> exact rfl) rfl ?_
    refine dw_me rfl rfl ?_
    refine dw_me rfl rfl ?_
    refine dw_op (by simp only [opd, zv, hw1, hw2, hw3, hw4]; exact pi_iaddr hgl _ (by omega)) (by simp only [fpHere, zo, zq, plainV_recD, if_true] <;> exact rfl) rfl ?_
    refine dw_op (by simp only [opd, zv]; first | exact pl_load hgl hy | exact pl_load hgl hx) (by simp only [fpHere, zo, zq, plainV_recD, if_true] <;> exact rfl) rfl ?_
    refine dw_op (by simp only [zo, wka, wbk, hw1, hw2, hw3, hw4, wh]; exact (cmp49_run (by omega) _ hS h8 hg (by rw [put_ne hgk]; exact hkk) y x)) (by simp only [fpHere, zo, zq, plainV_recD, if_true] <;> exact rfl) rfl ?_
    refine dw_quiet (by simp only [zo, binD, zb, Int.reduceEq, Int.reduceToNat, Int.reduceLT, wka, wbk, hw1, hw2, hw3, hw4, wh] <;> exact rfl) rfl rfl ?_
    refine dw_nil ?_
    refine sk_n (by simp only [ze] <;> exact rfl) ?_
    refine cw_cond (by simp only [opd, zv, wka, wbk, hw1, hw2, hw3, hw4, wh] <;> exact rfl) (fun hcTAT => ?_) (fun hcTAT => ?_)
    ·
     refine cw_region ?_
     refine ow_me rfl ?_
     refine ow_op (by simp only [zo, binD, zb, Int.reduceEq, Int.reduceToNat, Int.reduceLT, wka, wbk, hw1, hw2, hw3, hw4, wh] <;> exact rfl) ?_
     refine ow_ml rfl ?_
     refine ow_nil (bk_n ?_)
     refine lk_n (by simp only [ze] <;> exact rfl) ?_
     exact ⟨j - (h + 1), by omega, h + 1, j, _, _, _, _, _, _, _, _, _, _, _, _, _, _, _, _, _, _, _, _, _, _, _, _, _, _, _, _, by omega, by omega, by omega, rfl, Or.inr ⟨y, by simpa using hy, of_decide_eq_true hcTAT⟩, fA5, rfl, rfl⟩
    ·
     refine cw_region ?_
     refine ow_me rfl ?_
     refine ow_ml rfl ?_
     refine ow_nil (bk_n ?_)
     refine lk_n (by simp only [ze] <;> exact rfl) ?_
     exact ⟨h - i, by omega, i, h, _, _, _, _, _, _, _, _, _, _, _, _, _, _, _, _, _, _, _, _, _, _, _, _, _, _, _, _, by omega, by omega, by omega, rfl, fA4, Or.inr ⟨y, hy, of_decide_eq_false hcTAT⟩, rfl, rfl⟩
   ·
    obtain rfl : i = j := by have := of_decide_eq_false hcTA; omega
    have wi1 : IntKind.i64.wrap (((i : Nat) : Int) - 1) = ((i - 1 : Nat) : Int) := by rw [IntKind.wrap_i64]; omega
    refine cw_exit (sk_e (lk_e (bk_e (sk_n rfl (cw_seq (cw_seq (cw_region ?_)))))))
    refine ow_me rfl ?_
    refine ow_ml rfl ?_
    refine ow_nil ?_
    refine sk_n (by simp only [ze] <;> exact rfl) ?_
    refine cw_block ?_
    refine cw_loop (fun rr env S' => ∃ (t lo : Nat) (q7 q9 q10 q11 q12 q13 q14 q15 q16 q17 q18 q19 q20 q21 q22 q23 q24 q25 q26 q27 q28 q29 q30 q31 q32 q33 : D), t ≤ i - (a + 1) ∧ rr = i - (a + 1) - t ∧ S' = ⟨put H g v (rot m a (a + 1) (a + 1 + t)), lo⟩ ∧ env = [.msl g v 0 n none, .int .i64 (a : Nat), .int .i64 ((a + 1 : Nat) : Int), .int .i64 (b : Nat), .fn 49 [.ptr gk 0 0 0], .int .i64 (i : Nat), .int .i64 (i : Nat), q7, .int .i64 ((a + t) : Nat), q9, q10, q11, q12, q13, q14, q15, q16, q17, q18, q19, q20, q21, q22, q23, q24, q25, q26, q27, q28, q29, q30, q31, q32, q33]) (i - (a + 1)) (by omega) (⟨0, _, _, _, _, _, _, _, _, _, _, _, _, _, _, _, _, _, _, _, _, _, _, _, _, _, _, _, by omega, rfl, by rw [rot_none m (by omega) (by omega) (by omega) (.inr rfl)], rfl⟩) ?_
    rintro rr env S' ⟨t, lo, q7, q9, q10, q11, q12, q13, q14, q15, q16, q17, q18, q19, q20, q21, q22, q23, q24, q25, q26, q27, q28, q29, q30, q31, q32, q33, fB0, rfl, rfl, rfl⟩
    refine cw_seq (cw_seq (cw_region ?_))
    refine ow_me rfl ?_
    refine ow_me rfl ?_
    refine ow_op (by simp only [zo, binD, zb, Int.reduceEq, Int.reduceToNat, Int.reduceLT, wka, wbk, wi1] <;> exact rfl) ?_
    refine ow_op (by simp only [zo, binD, zb, Int.reduceEq, Int.reduceToNat, Int.reduceLT, wka, wbk, wi1] <;> exact rfl) ?_
    refine ow_nil ?_
    refine sk_n (by simp only [ze] <;> exact rfl) ?_
    refine cw_cond (by simp only [opd, zv, wka, wbk, wi1] <;> exact rfl) (fun hcTAFB => ?_) (fun hcTAFB => ?_)
    ·
     have ht : t < i - (a + 1) := by have := of_decide_eq_true hcTAFB; omega
     obtain ⟨z, hz⟩ : ∃ z, m[a + t + 1]? = some z := ⟨_, List.getElem?_eq_getElem (by omega)⟩
     obtain ⟨g1, g2, hsw⟩ := rot_up m hx hz
     have hrl : (rot m a (a + 1) (a + 1 + t)).length = n := by rw [rot_len m (by omega) (by omega) (by omega), hn]
     have wt := wrap_nat (a + t) (by omega)
     refine cw_skip (sk_n rfl (cw_seq (cw_block ?_)))
     refine cw_drawn (by simp only [newsVals, zw, Nat.reduceAdd] <;> exact rfl) (by simp only [zw, newsObj, St.eta] <;> exact rfl) ?_
     refine dw_me rfl rfl ?_
     refine dw_me rfl rfl ?_
     refine dw_me rfl rfl ?_
     refine dw_me rfl rfl ?_
     refine dw_quiet (by simp only [zo, binD, zb, Int.reduceEq, Int.reduceToNat, Int.reduceLT, wka, wbk, wi1, wt] <;> exact rfl) rfl rfl ?_
     refine dw_me rfl rfl ?_
     refine dw_me rfl rfl ?_
     refine dw_quiet (by simp only [zo, binD, zb, Int.reduceEq, Int.reduceToNat, Int.reduceLT, wka, wbk, wi1, wt] <;> exact rfl) rfl rfl ?_
     refine dw_op (by simp only [opd, zv, wt]; exact pi_iaddr hgl _ (by omega)) (by simp only [fpHere, zo, zq, plainV_recD, if_true] <;> exact rfl) rfl ?_
     refine dw_op (by simp only [opd, zv]; first | exact pl_load hgl g1 | exact pl_load hgl g2) (by simp only [fpHere, zo, zq, plainV_recD, if_true] <;> exact rfl) rfl ?_
     refine dw_me rfl rfl ?_
     refine dw_me rfl rfl ?_
     refine dw_op (by simp only [opd, zv, wt]; exact pi_iaddr hgl _ (by omega)) (by simp only [fpHere, zo, zq, plainV_recD, if_true] <;> exact rfl) rfl ?_
     refine dw_op (by simp only [opd, zv]; first | exact pl_load hgl g1 | exact pl_load hgl g2) (by simp only [fpHere, zo, zq, plainV_recD, if_true] <;> exact rfl) rfl ?_
     refine dw_op (by simp only [opd, zv, wt]; exact pi_iaddr hgl _ (by omega)) (by simp only [fpHere, zo, zq, plainV_recD, if_true] <;> exact rfl) rfl ?_
     refine dw_op (by simp only [opd, zv]; exact ps_store hgl (by (try simp only [List.length_set]); omega)) (by simp only [fpHere, zo, zq, plainV_recD, if_true] <;> exact rfl) rfl ?_
     refine dw_op (by simp only [opd, zv, wt]; exact pi_iaddr hgl _ (by omega)) (by simp only [fpHere, zo, zq, plainV_recD, if_true] <;> exact rfl) rfl ?_
     refine dw_op (by simp only [opd, zv]; exact ps_store hgl (by (try simp only [List.length_set]); omega)) (by simp only [fpHere, zo, zq, plainV_recD, if_true] <;> exact rfl) rfl ?_
     refine dw_nil (bk_n ?_)
     refine sk_n (by simp only [ze] <;> exact rfl) ?_
     refine cw_region ?_
     refine ow_me rfl ?_
     refine ow_op (by simp only [zo, binD, zb, Int.reduceEq, Int.reduceToNat, Int.reduceLT, wka, wbk, wi1, wt] <;> exact rfl) ?_
     refine ow_ml rfl ?_
     refine ow_nil ?_
     refine lk_n (by simp only [ze] <;> exact rfl) ?_
     exact ⟨i - (a + 1) - (t + 1), by omega, t + 1, _, _, _, _, _, _, _, _, _, _, _, _, _, _, _, _, _, _, _, _, _, _, _, _, _, _, _, by omega, rfl, by rw [show a + 1 + (t + 1) = a + 1 + t + 1 by omega, ← hsw]; rfl, rfl⟩
    ·
     obtain rfl : t = i - (a + 1) := by have := of_decide_eq_false hcTAFB; omega
     have RF : RotF (cK ks) m (rot m a (a + 1) i) a a (a + (i - (a + 1))) i b := rot_facts (cK_cmp ks) (Nat.le_refl _) (by omega) fA0 (by omega) (by omega) s1 s2 (by
       rcases fA4 with h | ⟨y, hy, hyx⟩
       ·
        exact .inr (.inl h)
       ·
        exact .inr (.inr ⟨y, x, hy, hx, hyx⟩)) (.inl rfl)
     have hri : a + 1 + (i - (a + 1)) = i := by omega
     have hxi : (rot m a (a + 1) i)[i - 1]? = some x := by
      rw [rot_get m (by omega) fA0 (by omega), if_neg (by omega), if_neg (by omega), if_pos (by omega), show i - 1 - (i - (a + 1)) = a by omega]; exact hx
     have hall : Srt (cK ks) (rot m a (a + 1) i) a b := by
      refine Srt.join RF.s2 (Srt.join RF.s3 RF.s4 ?_) RF.cross
      intro p q u w p1 p2 q1 q2 e1 e2
      obtain rfl : p = i - 1 := by omega
      rw [hxi] at e1
      obtain rfl := Option.some.inj e1
      rw [rot_get m (by omega) fA0 (by omega), if_neg (by omega), if_neg (by omega), if_neg (by omega)] at e2
      rcases fA5 with h | ⟨y, hy, hyx⟩
      ·
       omega
      ·
       have c1 := s2 i q y w (by omega) q1 q2 hy e2
       have c2 := (cK_cmp ks).swap x y
       exact (cK_cmp ks).trans x y w (by omega) c1
     refine cw_exit (sk_e (lk_e (bk_e (sk_n rfl (cw_ret (sk_r ?_))))))
     rw [hri]
     exact ⟨_, _, rfl, RF.same, hall, RF.e1, by have := RF.e2; rw [hn] at this; exact this⟩
  ·
   refine cw_skip (sk_n rfl (cw_seq (cw_seq (cw_region ?_))))
   refine ow_me rfl ?_
   refine ow_me rfl ?_
   refine ow_op (by simp only [zo, binD, zb, Int.reduceEq, Int.reduceToNat, Int.reduceLT, wka, wbk] <;> exact rfl) ?_
   refine ow_op (by simp only [zo, binD, zb, Int.reduceEq, Int.reduceToNat, Int.reduceLT, wka, wbk] <;> exact rfl) ?_
   refine ow_nil ?_
   refine sk_n (by simp only [ze] <;> exact rfl) ?_
   refine cw_cond (by simp only [opd, zv, wka, wbk] <;> exact rfl) (fun hcF => ?_) (fun hcF => ?_)
   ·
    obtain rfl : b = k + 1 := by have := hcF; simp only [beq_iff_eq] at this; omega
    obtain ⟨y, hy⟩ : ∃ y, m[k]? = some y := ⟨_, List.getElem?_eq_getElem (by omega)⟩
    refine cw_seq (cw_region ?_)
    refine ow_me rfl ?_
    refine ow_ml rfl ?_
    refine ow_nil ?_
    refine sk_n (by simp only [ze] <;> exact rfl) ?_
    refine cw_seq (cw_region ?_)
    refine ow_me rfl ?_
    refine ow_ml rfl ?_
    refine ow_nil ?_
    refine sk_n (by simp only [ze] <;> exact rfl) ?_
    refine cw_seq (cw_block ?_)
    refine cw_loop (fun rr env S' => ∃ (i j lo : Nat) (r5 r6 r7 r8 r11 r12 r13 r14 r15 r16 r17 r18 r19 r20 r21 r22 r23 r24 r25 r26 r27 r28 r29 r30 r31 r32 r33 : D), a ≤ i ∧ i ≤ j ∧ j ≤ k ∧ rr = j - i ∧ GeB ks m a i y ∧ LtB ks m k j y ∧ S' = ⟨put H g v m, lo⟩ ∧ env = [.msl g v 0 n none, .int .i64 (a : Nat), .int .i64 (k : Nat), .int .i64 ((k + 1 : Nat) : Int), .fn 49 [.ptr gk 0 0 0], r5, r6, r7, r8, .int .i64 (i : Nat), .int .i64 (j : Nat), r11, r12, r13, r14, r15, r16, r17, r18, r19, r20, r21, r22, r23, r24, r25, r26, r27, r28, r29, r30, r31, r32, r33]) (k - a) (by omega) (⟨a, k, _, _, _, _, _, _, _, _, _, _, _, _, _, _, _, _, _, _, _, _, _, _, _, _, _, _, _, _, by omega, by omega, by omega, rfl, Or.inl rfl, Or.inl rfl, rfl, rfl⟩) ?_
    rintro rr env S' ⟨i, j, lo, r5, r6, r7, r8, r11, r12, r13, r14, r15, r16, r17, r18, r19, r20, r21, r22, r23, r24, r25, r26, r27, r28, r29, r30, r31, r32, r33, fC0, fC1, fC2, rfl, fC4, fC5, rfl, rfl⟩
    refine cw_seq (cw_seq (cw_region ?_))
    refine ow_me rfl ?_
    refine ow_me rfl ?_
    refine ow_op (by simp only [zo, binD, zb, Int.reduceEq, Int.reduceToNat, Int.reduceLT, wka, wbk] <;> exact rfl) ?_
    refine ow_nil ?_
    refine sk_n (by simp only [ze] <;> exact rfl) ?_
    refine cw_cond (by simp only [opd, zv, wka, wbk] <;> exact rfl) (fun hcFTC => ?_) (fun hcFTC => ?_)
    ·
     have hij : i < j := by have := of_decide_eq_true hcFTC; omega
     have hw1 := i64_add i j (by omega)
     have hw2 := u64_nat (i + j) (by omega)
     have hw3 := shr1 (i + j)
     obtain ⟨h, he⟩ : ∃ h, h = (i + j) / 2 := ⟨_, rfl⟩
     have hw4 : IntKind.i64.wrap (((i + j) / 2 : Nat) : Int) = ((h : Nat) : Int) := by rw [i64_nat _ (by omega), he]
     have wh := wrap_nat h (by omega)
     obtain ⟨z, hz⟩ : ∃ z, m[h]? = some z := ⟨_, List.getElem?_eq_getElem (by omega)⟩
     refine cw_skip (sk_n rfl (cw_block (cw_seq (cw_region ?_))))
     refine ow_me rfl ?_
     refine ow_me rfl ?_
     refine ow_op (by simp only [zo, binD, zb, Int.reduceEq, Int.reduceToNat, Int.reduceLT, wka, wbk, hw1, hw2, hw3, hw4, wh] <;> exact rfl) ?_
     refine ow_op (by simp only [zo, wka, wbk, hw1, hw2, hw3, hw4, wh] <;> exact rfl) ?_
     refine ow_op (by simp only [zo, binD, zb, Int.reduceEq, Int.reduceToNat, Int.reduceLT, wka, wbk, hw1, hw2, hw3, hw4, wh] <;> exact rfl) ?_
     refine ow_op (by simp only [zo, wka, wbk, hw1, hw2, hw3, hw4, wh] <;> exact rfl) ?_
     refine ow_ml rfl ?_
     refine ow_nil ?_
     refine sk_n (by simp only [ze] <;> exact rfl) ?_
     refine cw_seq ?_
     refine cw_drawn (by simp only [newsVals, zw, Nat.reduceAdd] <;> exact rfl) (by simp only [zw, newsObj, St.eta] <;> exact rfl) ?_
     refine dw_me rfl rfl ?_
     refine dw_me rfl rfl ?_
     refine dw_me rfl rfl ?_
     refine dw_op (by simp only [opd, zv, hw1, hw2, hw3, hw4]; exact pi_iaddr hgl _ (by omega)) (by simp only [fpHere, zo, zq, plainV_recD, if_true] <;> exact rfl) rfl ?_
     refine dw_op (by simp only [opd, zv]; first | exact pl_load hgl hy | exact pl_load hgl hz) (by simp only [fpHere, zo, zq, plainV_recD, if_true] <;> exact rfl) rfl ?_
     refine dw_me rfl rfl ?_
     refine dw_me rfl rfl ?_
     refine dw_op (by simp only [opd, zv, hw1, hw2, hw3, hw4]; exact pi_iaddr hgl _ (by omega)) (by simp only [fpHere, zo, zq, plainV_recD, if_true] <;> exact rfl) rfl ?_
     refine dw_op (by simp only [opd, zv]; first | exact pl_load hgl hy | exact pl_load hgl hz) (by simp only [fpHere, zo, zq, plainV_recD, if_true] <;> exact rfl) rfl ?_
     refine dw_op (by simp only [zo, wka, wbk, hw1, hw2, hw3, hw4, wh]; exact (cmp49_run (by omega) _ hS h8 hg (by rw [put_ne hgk]; exact hkk) y z)) (by simp only [fpHere, zo, zq, plainV_recD, if_true] <;> exact rfl) rfl ?_
     refine dw_quiet (by simp only [zo, binD, zb, Int.reduceEq, Int.reduceToNat, Int.reduceLT, wka, wbk, hw1, hw2, hw3, hw4, wh] <;> exact rfl) rfl rfl ?_
     refine dw_quiet (by simp only [zo, unD, wka, wbk, hw1, hw2, hw3, hw4, wh] <;> exact rfl) rfl rfl ?_
     refine dw_nil ?_
     refine sk_n (by simp only [ze] <;> exact rfl) ?_
     refine cw_cond (by simp only [opd, zv, wka, wbk, hw1, hw2, hw3, hw4, wh] <;> exact rfl) (fun hcFTCT => ?_) (fun hcFTCT => ?_)
     ·
      have hyz : ¬ cK ks y z < 0 := by have := hcFTCT; simp only [Bool.not_eq_true'] at this; exact of_decide_eq_false this
      refine cw_region ?_
      refine ow_me rfl ?_
      refine ow_op (by simp only [zo, binD, zb, Int.reduceEq, Int.reduceToNat, Int.reduceLT, wka, wbk, hw1, hw2, hw3, hw4, wh] <;> exact rfl) ?_
      refine ow_ml rfl ?_
      refine ow_nil (bk_n ?_)
      refine lk_n (by simp only [ze] <;> exact rfl) ?_
      exact ⟨j - (h + 1), by omega, h + 1, j, _, _, _, _, _, _, _, _, _, _, _, _, _, _, _, _, _, _, _, _, _, _, _, _, _, _, _, _, by omega, by omega, by omega, rfl, Or.inr ⟨z, by simpa using hz, hyz⟩, fC5, rfl, rfl⟩
     ·
      have hyz : cK ks y z < 0 := by have := hcFTCT; simp only [Bool.not_eq_false'] at this; exact of_decide_eq_true this
      refine cw_region ?_
      refine ow_me rfl ?_
      refine ow_ml rfl ?_
      refine ow_nil (bk_n ?_)
      refine lk_n (by simp only [ze] <;> exact rfl) ?_
      exact ⟨h - i, by omega, i, h, _, _, _, _, _, _, _, _, _, _, _, _, _, _, _, _, _, _, _, _, _, _, _, _, _, _, _, _, by omega, by omega, by omega, rfl, fC4, Or.inr ⟨z, hz, hyz⟩, rfl, rfl⟩
    ·
     obtain rfl : i = j := by have := of_decide_eq_false hcFTC; omega
     refine cw_exit (sk_e (lk_e (bk_e (sk_n rfl (cw_seq (cw_seq (cw_region ?_)))))))
     refine ow_me rfl ?_
     refine ow_ml rfl ?_
     refine ow_nil ?_
     refine sk_n (by simp only [ze] <;> exact rfl) ?_
     refine cw_block ?_
     refine cw_loop (fun rr env S' => ∃ (t lo : Nat) (o5 o6 o7 o8 o11 o13 o14 o15 o16 o17 o18 o19 o20 o21 o22 o23 o24 o25 o26 o27 o28 o29 o30 o31 o32 o33 : D), t ≤ k - i ∧ rr = k - i - t ∧ S' = ⟨put H g v (rot m (k - t) k (k + 1)), lo⟩ ∧ env = [.msl g v 0 n none, .int .i64 (a : Nat), .int .i64 (k : Nat), .int .i64 ((k + 1 : Nat) : Int), .fn 49 [.ptr gk 0 0 0], o5, o6, o7, o8, .int .i64 (i : Nat), .int .i64 (i : Nat), o11, .int .i64 ((k - t) : Nat), o13, o14, o15, o16, o17, o18, o19, o20, o21, o22, o23, o24, o25, o26, o27, o28, o29, o30, o31, o32, o33]) (k - i) (by omega) (⟨0, _, _, _, _, _, _, _, _, _, _, _, _, _, _, _, _, _, _, _, _, _, _, _, _, _, _, _, by omega, rfl, by rw [rot_none m (by omega) (by omega) (by omega) (.inl (by omega))], rfl⟩) ?_
     rintro rr env S' ⟨t, lo, o5, o6, o7, o8, o11, o13, o14, o15, o16, o17, o18, o19, o20, o21, o22, o23, o24, o25, o26, o27, o28, o29, o30, o31, o32, o33, fD0, rfl, rfl, rfl⟩
     refine cw_seq (cw_seq (cw_region ?_))
     refine ow_me rfl ?_
     refine ow_me rfl ?_
     refine ow_op (by simp only [zo, binD, zb, Int.reduceEq, Int.reduceToNat, Int.reduceLT, wka, wbk] <;> exact rfl) ?_
     refine ow_nil ?_
     refine sk_n (by simp only [ze] <;> exact rfl) ?_
     refine cw_cond (by simp only [opd, zv, wka, wbk] <;> exact rfl) (fun hcFTCFD => ?_) (fun hcFTCFD => ?_)
     ·
      have ht : t < k - i := by have := of_decide_eq_true hcFTCFD; omega
      obtain ⟨z, hz⟩ : ∃ z, m[k - (t + 1)]? = some z := ⟨_, List.getElem?_eq_getElem (by omega)⟩
      obtain ⟨g1, g2, hsw⟩ := rot_down m (by omega) hy hz
      have hrl : (rot m (k - t) k (k + 1)).length = n := by rw [rot_len m (by omega) (by omega) (by omega), hn]
      obtain ⟨q, hqe⟩ : ∃ q, q = k - (t + 1) := ⟨_, rfl⟩
      rw [← hqe] at g1 g2 hsw
      have hq1 : ((k - t : Nat) : Int) = ((q + 1 : Nat) : Int) := by rw [hqe]; omega
      have wq : IntKind.i64.wrap (((q + 1 : Nat) : Int) - 1) = ((q : Nat) : Int) := by rw [IntKind.wrap_i64]; omega
      refine cw_skip (sk_n rfl (cw_seq (cw_block ?_)))
      refine cw_drawn (by simp only [newsVals, zw, Nat.reduceAdd] <;> exact rfl) (by simp only [zw, newsObj, St.eta] <;> exact rfl) ?_
      refine dw_me rfl rfl ?_
      refine dw_me rfl rfl ?_
      refine dw_me rfl rfl ?_
      refine dw_me rfl rfl ?_
      refine dw_quiet (by simp only [zo, binD, zb, Int.reduceEq, Int.reduceToNat, Int.reduceLT, wka, wbk, hq1, wq] <;> exact rfl) rfl rfl ?_
      refine dw_me rfl rfl ?_
      refine dw_me rfl rfl ?_
      refine dw_quiet (by simp only [zo, binD, zb, Int.reduceEq, Int.reduceToNat, Int.reduceLT, wka, wbk, hq1, wq] <;> exact rfl) rfl rfl ?_
      refine dw_op (by simp only [opd, zv, hq1, wq]; exact pi_iaddr hgl _ (by omega)) (by simp only [fpHere, zo, zq, plainV_recD, if_true] <;> exact rfl) rfl ?_
      refine dw_op (by simp only [opd, zv]; first | exact pl_load hgl g1 | exact pl_load hgl g2) (by simp only [fpHere, zo, zq, plainV_recD, if_true] <;> exact rfl) rfl ?_
      refine dw_me rfl rfl ?_
      refine dw_me rfl rfl ?_
      refine dw_op (by simp only [opd, zv, hq1, wq]; exact pi_iaddr hgl _ (by omega)) (by simp only [fpHere, zo, zq, plainV_recD, if_true] <;> exact rfl) rfl ?_
      refine dw_op (by simp only [opd, zv]; first | exact pl_load hgl g1 | exact pl_load hgl g2) (by simp only [fpHere, zo, zq, plainV_recD, if_true] <;> exact rfl) rfl ?_
      refine dw_op (by simp only [opd, zv, hq1, wq]; exact pi_iaddr hgl _ (by omega)) (by simp only [fpHere, zo, zq, plainV_recD, if_true] <;> exact rfl) rfl ?_
      refine dw_op (by simp only [opd, zv]; exact ps_store hgl (by (try simp only [List.length_set]); omega)) (by simp only [fpHere, zo, zq, plainV_recD, if_true] <;> exact rfl) rfl ?_
      refine dw_op (by simp only [opd, zv, hq1, wq]; exact pi_iaddr hgl _ (by omega)) (by simp only [fpHere, zo, zq, plainV_recD, if_true] <;> exact rfl) rfl ?_
      refine dw_op (by simp only [opd, zv]; exact ps_store hgl (by (try simp only [List.length_set]); omega)) (by simp only [fpHere, zo, zq, plainV_recD, if_true] <;> exact rfl) rfl ?_
      refine dw_nil (bk_n ?_)
      refine sk_n (by simp only [ze] <;> exact rfl) ?_
      refine cw_region ?_
      refine ow_me rfl ?_
      refine ow_op (by simp only [zo, binD, zb, Int.reduceEq, Int.reduceToNat, Int.reduceLT, wka, wbk, hq1, wq] <;> exact rfl) ?_
      refine ow_ml rfl ?_
      refine ow_nil ?_
      refine lk_n (by simp only [ze] <;> exact rfl) ?_
      exact ⟨k - i - (t + 1), by omega, t + 1, _, _, _, _, _, _, _, _, _, _, _, _, _, _, _, _, _, _, _, _, _, _, _, _, _, _, _, by omega, rfl, by rw [← hqe, ← hsw, swp, List.set_comm _ _ (by omega)], by rw [← hqe]⟩
     ·
      obtain rfl : t = k - i := by have := of_decide_eq_false hcFTCFD; omega
      have RF : RotF (cK ks) m (rot m i k (k + 1)) a i (i + (k + 1 - k)) (k + 1) (k + 1) := rot_facts (cK_cmp ks) fC0 (by omega) (by omega) (Nat.le_refl _) (by omega) s1 s2 (by
        rcases fC5 with h | ⟨z, hz, hyz⟩
        ·
         exact .inl h
        ·
         exact .inr (.inr ⟨y, z, by simpa using hy, hz, hyz⟩)) (.inr (.inl rfl))
      have hri : k - (k - i) = i := by omega
      have hyi : (rot m i k (k + 1))[i]? = some y := by
       rw [rot_get m (by omega) (by omega) (by omega), if_neg (by omega), if_pos (by omega), show i - i + k = k by omega]; exact hy
      have hall : Srt (cK ks) (rot m i k (k + 1)) a (k + 1) := by
       refine Srt.join (Srt.join RF.s1 RF.s2 ?_) RF.s3 RF.cross
       intro p q u w p1 p2 q1 q2 e1 e2
       obtain rfl : q = i := by omega
       rw [hyi] at e2
       obtain rfl := Option.some.inj e2
       rw [rot_get m (by omega) (by omega) (by omega), if_pos (by omega)] at e1
       rcases fC4 with h | ⟨z, hz, hyz⟩
       ·
        omega
       ·
        have c1 := s1 p (q - 1) u z p1 (by omega) (by omega) e1 hz
        have c2 := (cK_cmp ks).swap z y
        exact (cK_cmp ks).trans u z y c1 (by omega)
      refine cw_exit (sk_e (lk_e (bk_e (sk_n rfl (cw_ret (sk_r ?_))))))
      rw [hri]
      exact ⟨_, _, rfl, RF.same, hall, RF.e1, by have := RF.e2; rw [hn] at this; exact this⟩
   ·
    have midw1 := i64_add a b (by omega)
    have midw2 := u64_nat (a + b) (by omega)
    have midw3 := shr1 (a + b)
    obtain ⟨mid, mide⟩ : ∃ mid, mid = (a + b) / 2 := ⟨_, rfl⟩
    have midw4 : IntKind.i64.wrap (((a + b) / 2 : Nat) : Int) = ((mid : Nat) : Int) := by rw [i64_nat _ (by omega), mide]
    have wn := i64_add mid k (by omega)
    have hk1 : k - a ≠ 1 := by have := hc; simp only [beq_eq_false_iff_ne, ne_eq] at this; omega
    have hb1 : b - k ≠ 1 := by have := hcF; simp only [beq_eq_false_iff_ne, ne_eq] at this; omega
    refine cw_skip (sk_n rfl (cw_seq (cw_region ?_)))
    refine ow_me rfl ?_
    refine ow_me rfl ?_
    refine ow_op (by simp only [zo, binD, zb, Int.reduceEq, Int.reduceToNat, Int.reduceLT, wka, wbk, midw1, midw2, midw3, midw4, wn] <;> exact rfl) ?_
    refine ow_op (by simp only [zo, wka, wbk, midw1, midw2, midw3, midw4, wn] <;> exact rfl) ?_
    refine ow_op (by simp only [zo, binD, zb, Int.reduceEq, Int.reduceToNat, Int.reduceLT, wka, wbk, midw1, midw2, midw3, midw4, wn] <;> exact rfl) ?_
    refine ow_op (by simp only [zo, wka, wbk, midw1, midw2, midw3, midw4, wn] <;> exact rfl) ?_
    refine ow_ml rfl ?_
    refine ow_nil ?_
    refine sk_n (by simp only [ze] <;> exact rfl) ?_
    refine cw_seq (cw_region ?_)
    refine ow_me rfl ?_
    refine ow_me rfl ?_
    refine ow_op (by simp only [zo, binD, zb, Int.reduceEq, Int.reduceToNat, Int.reduceLT, wka, wbk, midw1, midw2, midw3, midw4, wn] <;> exact rfl) ?_
    refine ow_ml rfl ?_
    refine ow_nil ?_
    refine sk_n (by simp only [ze] <;> exact rfl) ?_
    refine cw_seq (cw_region ?_)
    refine ow_mc ?_
    refine ow_mc ?_
    refine ow_nil ?_
    refine sk_n (by simp only [ze] <;> exact rfl) ?_
    refine cw_cut (fun env S' => ∃ (s0 r0 : Nat) (lo : Nat) (c5 c6 c7 c8 c9 c10 c11 c12 c17 c18 c19 c20 c21 c22 c23 c24 c25 c26 c27 c28 c29 c30 c31 c32 c33 : D), a ≤ s0 ∧ s0 ≤ r0 ∧ r0 ≤ k ∧ r0 ≤ mid ∧ mid + k - s0 ≤ b ∧ (s0 = a ∨ mid + k - s0 = b) ∧ (r0 = k ∨ r0 = mid) ∧ S' = ⟨put H g v m, lo⟩ ∧ env = [.msl g v 0 n none, .int .i64 (a : Nat), .int .i64 (k : Nat), .int .i64 (b : Nat), .fn 49 [.ptr gk 0 0 0], c5, c6, c7, c8, c9, c10, c11, c12, .int .i64 (mid : Nat), .int .i64 ((mid + k) : Nat), .int .i64 (s0 : Nat), .int .i64 (r0 : Nat), c17, c18, c19, c20, c21, c22, c23, c24, c25, c26, c27, c28, c29, c30, c31, c32, c33]) ?_ ?_
    ·
     refine cw_seq (cw_region ?_)
     refine ow_me rfl ?_
     refine ow_me rfl ?_
     refine ow_op (by simp only [zo, binD, zb, Int.reduceEq, Int.reduceToNat, Int.reduceLT, wka, wbk, midw1, midw2, midw3, midw4, wn] <;> exact rfl) ?_
     refine ow_nil ?_
     refine sk_n (by simp only [ze] <;> exact rfl) ?_
     refine cw_cond (by simp only [opd, zv, wka, wbk, midw1, midw2, midw3, midw4, wn] <;> exact rfl) (fun hcFF => ?_) (fun hcFF => ?_)
     ·
      have hkm : mid < k := by have := of_decide_eq_true hcFF; omega
      have wnb := i64_sub (mid + k) b (by omega) (by omega)
      refine cw_seq (cw_region ?_)
      refine ow_me rfl ?_
      refine ow_me rfl ?_
      refine ow_op (by simp only [zo, binD, zb, Int.reduceEq, Int.reduceToNat, Int.reduceLT, wka, wbk, midw1, midw2, midw3, midw4, wn, wnb] <;> exact rfl) ?_
      refine ow_ml rfl ?_
      refine ow_nil ?_
      refine sk_n (by simp only [ze] <;> exact rfl) ?_
      refine cw_region ?_
      refine ow_me rfl ?_
      refine ow_ml rfl ?_
      refine ow_nil ?_
      refine ck_n (by simp only [ze] <;> exact rfl) ?_
      exact ⟨mid + k - b, mid, _, _, _, _, _, _, _, _, _, _, _, _, _, _, _, _, _, _, _, _, _, _, _, _, _, _, by omega, by omega, by omega, by omega, by omega, .inr (by omega), .inr rfl, rfl, rfl⟩
     ·
      have hkm : k ≤ mid := by have := of_decide_eq_false hcFF; omega
      refine cw_seq (cw_region ?_)
      refine ow_me rfl ?_
      refine ow_ml rfl ?_
      refine ow_nil ?_
      refine sk_n (by simp only [ze] <;> exact rfl) ?_
      refine cw_region ?_
      refine ow_me rfl ?_
      refine ow_ml rfl ?_
      refine ow_nil ?_
      refine ck_n (by simp only [ze] <;> exact rfl) ?_
      exact ⟨a, k, _, _, _, _, _, _, _, _, _, _, _, _, _, _, _, _, _, _, _, _, _, _, _, _, _, _, by omega, by omega, by omega, by omega, by omega, Or.inl rfl, Or.inl rfl, rfl, rfl⟩
    rintro env S' ⟨s0, r0, lo, c5, c6, c7, c8, c9, c10, c11, c12, c17, c18, c19, c20, c21, c22, c23, c24, c25, c26, c27, c28, c29, c30, c31, c32, c33, fG0, fG1, fG2, fG3, fG4, fG5, fG6, rfl, rfl⟩
    have wp : IntKind.i64.wrap (((mid + k : Nat) : Int) - 1) = ((mid + k - 1 : Nat) : Int) := by rw [IntKind.wrap_i64]; omega
    refine cw_seq (cw_region ?_)
    refine ow_me rfl ?_
    refine ow_op (by simp only [zo, binD, zb, Int.reduceEq, Int.reduceToNat, Int.reduceLT, wka, wbk, midw1, midw2, midw3, midw4, wn, wp] <;> exact rfl) ?_
    refine ow_ml rfl ?_
    refine ow_nil ?_
    refine sk_n (by simp only [ze] <;> exact rfl) ?_
    refine cw_seq (cw_block ?_)
    refine cw_loop (fun rr env S' => ∃ (s r lo : Nat) (e5 e6 e7 e8 e9 e10 e11 e12 e18 e19 e20 e21 e22 e23 e24 e25 e26 e27 e28 e29 e30 e31 e32 e33 : D), s0 ≤ s ∧ s ≤ r ∧ r ≤ r0 ∧ rr = r - s ∧ GeE ks m (mid + k) s0 s ∧ LtE ks m (mid + k) r0 r ∧ S' = ⟨put H g v m, lo⟩ ∧ env = [.msl g v 0 n none, .int .i64 (a : Nat), .int .i64 (k : Nat), .int .i64 (b : Nat), .fn 49 [.ptr gk 0 0 0], e5, e6, e7, e8, e9, e10, e11, e12, .int .i64 (mid : Nat), .int .i64 ((mid + k) : Nat), .int .i64 (s : Nat), .int .i64 (r : Nat), .int .i64 ((mid + k - 1) : Nat), e18, e19, e20, e21, e22, e23, e24, e25, e26, e27, e28, e29, e30, e31, e32, e33]) (r0 - s0) (by omega) (⟨s0, r0, _, _, _, _, _, _, _, _, _, _, _, _, _, _, _, _, _, _, _, _, _, _, _, _, _, by omega, by omega, by omega, rfl, Or.inl rfl, Or.inl rfl, rfl, rfl⟩) ?_
    rintro rr env S' ⟨s, r, lo, e5, e6, e7, e8, e9, e10, e11, e12, e18, e19, e20, e21, e22, e23, e24, e25, e26, e27, e28, e29, e30, e31, e32, e33, fE0, fE1, fE2, rfl, fE4, fE5, rfl, rfl⟩
    refine cw_seq (cw_seq (cw_region ?_))
    refine ow_me rfl ?_
    refine ow_me rfl ?_
    refine ow_op (by simp only [zo, binD, zb, Int.reduceEq, Int.reduceToNat, Int.reduceLT, wka, wbk, midw1, midw2, midw3, midw4, wn, wp] <;> exact rfl) ?_
    refine ow_nil ?_
    refine sk_n (by simp only [ze] <;> exact rfl) ?_
    refine cw_cond (by simp only [opd, zv, wka, wbk, midw1, midw2, midw3, midw4, wn, wp] <;> exact rfl) (fun hcFFGE => ?_) (fun hcFFGE => ?_)
    ·
     have hij : s < r := by have := of_decide_eq_true hcFFGE; omega
     have hw1 := i64_add s r (by omega)
     have hw2 := u64_nat (s + r) (by omega)
     have hw3 := shr1 (s + r)
     obtain ⟨h, he⟩ : ∃ h, h = (s + r) / 2 := ⟨_, rfl⟩
     have hw4 : IntKind.i64.wrap (((s + r) / 2 : Nat) : Int) = ((h : Nat) : Int) := by rw [i64_nat _ (by omega), he]
     have wh := wrap_nat h (by omega)
     have wph := i64_sub (mid + k - 1) h (by omega) (by omega)
     obtain ⟨x, hx⟩ : ∃ x, m[mid + k - 1 - h]? = some x := ⟨_, List.getElem?_eq_getElem (by omega)⟩
     obtain ⟨y, hy⟩ : ∃ y, m[h]? = some y := ⟨_, List.getElem?_eq_getElem (by omega)⟩
     refine cw_skip (sk_n rfl (cw_block (cw_seq (cw_region ?_))))
     refine ow_me rfl ?_
     refine ow_me rfl ?_
     refine ow_op (by simp only [zo, binD, zb, Int.reduceEq, Int.reduceToNat, Int.reduceLT, wka, wbk, midw1, midw2, midw3, midw4, wn, wp, hw1, hw2, hw3, hw4, wh, wph] <;> exact rfl) ?_
     refine ow_op (by simp only [zo, wka, wbk, midw1, midw2, midw3, midw4, wn, wp, hw1, hw2, hw3, hw4, wh, wph] <;> exact rfl) ?_
     refine ow_op (by simp only [zo, binD, zb, Int.reduceEq, Int.reduceToNat, Int.reduceLT, wka, wbk, midw1, midw2, midw3, midw4, wn, wp, hw1, hw2, hw3, hw4, wh, wph] <;> exact rfl) ?_
     refine ow_op (by simp only [zo, wka, wbk, midw1, midw2, midw3, midw4, wn, wp, hw1, hw2, hw3, hw4, wh, wph] <;> exact rfl) ?_
     refine ow_ml rfl ?_
     refine ow_nil ?_
     refine sk_n (by simp only [ze] <;> exact rfl) ?_
     refine cw_seq ?_
     refine cw_drawn (by simp only [newsVals, zw, Nat.reduceAdd] <;> exact rfl) (by simp only [zw, newsObj, St.eta] <;> exact rfl) ?_
     refine dw_me rfl rfl ?_
     refine dw_me rfl rfl ?_
     refine dw_me rfl rfl ?_
     refine dw_me rfl rfl ?_
     refine dw_quiet (by simp only [zo, binD, zb, Int.reduceEq, Int.reduceToNat, Int.reduceLT, wka, wbk, midw1, midw2, midw3, midw4, wn, wp, hw1, hw2, hw3, hw4, wh, wph] <;> exact rfl) rfl rfl ?_
     refine dw_op (by simp only [opd, zv, wph]; exact pi_iaddr hgl _ (by omega)) (by simp only [fpHere, zo, zq, plainV_recD, if_true] <;> exact rfl) rfl ?_
     refine dw_op (by simp only [opd, zv]; first | exact pl_load hgl hx | exact pl_load hgl hy) (by simp only [fpHere, zo, zq, plainV_recD, if_true] <;> exact rfl) rfl ?_
     refine dw_me rfl rfl ?_
     refine dw_me rfl rfl ?_
     refine dw_op (by simp only [opd, zv, wph]; exact pi_iaddr hgl _ (by omega)) (by simp only [fpHere, zo, zq, plainV_recD, if_true] <;> exact rfl) rfl ?_
     refine dw_op (by simp only [opd, zv]; first | exact pl_load hgl hx | exact pl_load hgl hy) (by simp only [fpHere, zo, zq, plainV_recD, if_true] <;> exact rfl) rfl ?_
     refine dw_op (by simp only [zo, wka, wbk, midw1, midw2, midw3, midw4, wn, wp, hw1, hw2, hw3, hw4, wh, wph]; exact (cmp49_run (by omega) _ hS h8 hg (by rw [put_ne hgk]; exact hkk) x y)) (by simp only [fpHere, zo, zq, plainV_recD, if_true] <;> exact rfl) rfl ?_
     refine dw_quiet (by simp only [zo, binD, zb, Int.reduceEq, Int.reduceToNat, Int.reduceLT, wka, wbk, midw1, midw2, midw3, midw4, wn, wp, hw1, hw2, hw3, hw4, wh, wph] <;> exact rfl) rfl rfl ?_
     refine dw_quiet (by simp only [zo, unD, wka, wbk, midw1, midw2, midw3, midw4, wn, wp, hw1, hw2, hw3, hw4, wh, wph] <;> exact rfl) rfl rfl ?_
     refine dw_nil ?_
     refine sk_n (by simp only [ze] <;> exact rfl) ?_
     refine cw_cond (by simp only [opd, zv, wka, wbk, midw1, midw2, midw3, midw4, wn, wp, hw1, hw2, hw3, hw4, wh, wph] <;> exact rfl) (fun hcFFGET => ?_) (fun hcFFGET => ?_)
     ·
      have hxy : ¬ cK ks x y < 0 := by have := hcFFGET; simp only [Bool.not_eq_true'] at this; exact of_decide_eq_false this
      refine cw_region ?_
      refine ow_me rfl ?_
      refine ow_op (by simp only [zo, binD, zb, Int.reduceEq, Int.reduceToNat, Int.reduceLT, wka, wbk, midw1, midw2, midw3, midw4, wn, wp, hw1, hw2, hw3, hw4, wh, wph] <;> exact rfl) ?_
      refine ow_ml rfl ?_
      refine ow_nil (bk_n ?_)
      refine lk_n (by simp only [ze] <;> exact rfl) ?_
      exact ⟨r - (h + 1), by omega, h + 1, r, _, _, _, _, _, _, _, _, _, _, _, _, _, _, _, _, _, _, _, _, _, _, _, _, _, by omega, by omega, by omega, rfl, Or.inr ⟨x, y, by rw [show mid + k - (h + 1) = mid + k - 1 - h by omega]; exact hx, by simpa using hy, hxy⟩, fE5, rfl, rfl⟩
     ·
      have hxy : cK ks x y < 0 := by have := hcFFGET; simp only [Bool.not_eq_false'] at this; exact of_decide_eq_true this
      refine cw_region ?_
      refine ow_me rfl ?_
      refine ow_ml rfl ?_
      refine ow_nil (bk_n ?_)
      refine lk_n (by simp only [ze] <;> exact rfl) ?_
      exact ⟨h - s, by omega, s, h, _, _, _, _, _, _, _, _, _, _, _, _, _, _, _, _, _, _, _, _, _, _, _, _, _, by omega, by omega, by omega, rfl, fE4, Or.inr ⟨x, y, by rw [show mid + k - h - 1 = mid + k - 1 - h by omega]; exact hx, hy, hxy⟩, rfl, rfl⟩
    ·
     obtain rfl : s = r := by have := of_decide_eq_false hcFFGE; omega
     obtain ⟨e, hee⟩ : ∃ e, e = mid + k - s := ⟨_, rfl⟩
     have wes : IntKind.i64.wrap (((mid + k : Nat) : Int) - ((s : Nat) : Int)) = ((e : Nat) : Int) := by rw [i64_sub _ _ (by omega) (by omega), hee]
     have hmide : s + (e - k) = mid := by omega
     have RF : RotF (cK ks) m (rot m s k e) a s mid e b := by
      have := rot_facts (cK_cmp ks) (m := m) (a := a) (s := s) (k := k) (e := e) (b := b) (by omega) (by omega) (by omega) (by omega) (by omega) s1 s2 (by
       rcases fE5 with h | ⟨x, y, hx, hy, hxy⟩
       ·
        rcases fG6 with h' | h'
        ·
         exact .inl (by omega)
        ·
         exact .inr (.inl (by omega))
       ·
        exact .inr (.inr ⟨x, y, by rw [hee]; exact hx, hy, hxy⟩)) (by
       rcases fE4 with h | ⟨x, y, hx, hy, hxy⟩
       ·
        rcases fG5 with h' | h'
        ·
         exact .inl (by omega)
        ·
         exact .inr (.inl (by omega))
       ·
        exact .inr (.inr ⟨x, y, by rw [hee]; exact hx, hy, hxy⟩))
      rw [hmide] at this
      exact this
     refine cw_exit (sk_e (lk_e (bk_e (sk_n rfl (cw_seq (cw_region ?_))))))
     refine ow_me rfl ?_
     refine ow_me rfl ?_
     refine ow_op (by simp only [zo, binD, zb, Int.reduceEq, Int.reduceToNat, Int.reduceLT, wka, wbk, midw1, midw2, midw3, midw4, wn, wp, wes] <;> exact rfl) ?_
     refine ow_ml rfl ?_
     refine ow_nil ?_
     refine sk_n (by simp only [ze] <;> exact rfl) ?_
     refine cw_cut (fun env S' => ∃ (m1 : List RecT) (lo : Nat) (w5 w6 w7 w8 w9 w10 w11 w12 w18 w20 w21 w22 w23 w24 w25 w26 w27 w28 w29 w30 w31 w32 w33 : D), RotF (cK ks) m m1 a s mid e b ∧ S' = ⟨put H g v m1, lo⟩ ∧ env = [.msl g v 0 n none, .int .i64 (a : Nat), .int .i64 (k : Nat), .int .i64 (b : Nat), .fn 49 [.ptr gk 0 0 0], w5, w6, w7, w8, w9, w10, w11, w12, .int .i64 (mid : Nat), .int .i64 ((mid + k) : Nat), .int .i64 (s : Nat), .int .i64 (s : Nat), .int .i64 ((mid + k - 1) : Nat), w18, .int .i64 (e : Nat), w20, w21, w22, w23, w24, w25, w26, w27, w28, w29, w30, w31, w32, w33]) ?_ ?_
     ·
      refine cw_seq (cw_region ?_)
      refine ow_me rfl ?_
      refine ow_me rfl ?_
      refine ow_op (by simp only [zo, binD, zb, Int.reduceEq, Int.reduceToNat, Int.reduceLT, wka, wbk, midw1, midw2, midw3, midw4, wn, wp, wes] <;> exact rfl) ?_
      refine ow_ml rfl ?_
      refine ow_split 0 (by simp only [opd, zv] <;> exact rfl) (by simp only [zn] <;> exact rfl) (by simp only [zn] <;> exact rfl) (fun hgFFGEF => ?_) (fun hgFFGEF => ?_)
      ·
       have hsk : s < k := by have := of_decide_eq_true hgFFGEF; omega
       refine ow_on (by simp only [opd, zv]) ?_
       refine ow_me rfl ?_
       refine ow_on (by simp only [opd, zv]) ?_
       refine ow_me rfl ?_
       refine ow_on (by simp only [opd, zv]) ?_
       refine ow_op (by simp only [zo, binD, zb, Int.reduceEq, Int.reduceToNat, Int.reduceLT, wka, wbk, midw1, midw2, midw3, midw4, wn, wp, wes] <;> exact rfl) ?_
       refine ow_op (by simp only [zo, wka, wbk, midw1, midw2, midw3, midw4, wn, wp, wes] <;> exact rfl) ?_
       refine ow_nil ?_
       refine sk_n (by simp only [ze] <;> exact rfl) ?_
       refine cw_cond (by simp only [opd, zv, wka, wbk, midw1, midw2, midw3, midw4, wn, wp, wes] <;> exact rfl) (fun hcFFGEFT => ?_) (fun hcFFGEFT => ?_)
       ·
        have hke : k < e := by have := of_decide_eq_true hcFFGEFT; omega
        obtain ⟨lo2, hrot⟩ := rotate_at (d := d) (by omega) (H := H) (v := v) hgl hgk hn hn6 hsk hke (by omega) (.fn 49 [.ptr gk 0 0 0]) lo
        refine cw_region ?_
        refine ow_me rfl ?_
        refine ow_me rfl ?_
        refine ow_me rfl ?_
        refine ow_me rfl ?_
        refine ow_me rfl ?_
        refine ow_op (by simp only [zo, wka, wbk, midw1, midw2, midw3, midw4, wn, wp, wes]; exact hrot) ?_
        refine ow_nil ?_
        refine ck_n (by simp only [ze] <;> exact rfl) ?_
        exact ⟨rot m s k e, _, _, _, _, _, _, _, _, _, _, _, _, _, _, _, _, _, _, _, _, _, _, _, _, RF, rfl, rfl⟩
       ·
        have hke : e ≤ k := by have := of_decide_eq_false hcFFGEFT; omega
        have RF0 : RotF (cK ks) m m a s mid e b := by
         have hr := rot_none m (show s ≤ k by omega) (show k ≤ e by omega) (show e ≤ m.length by omega) (by omega)
         rw [hr] at RF
         exact RF
        refine cw_skip ?_
        refine ck_n rfl ?_
        exact ⟨m, _, _, _, _, _, _, _, _, _, _, _, _, _, _, _, _, _, _, _, _, _, _, _, _, RF0, rfl, rfl⟩
      ·
       have hsk : k ≤ s := by have := of_decide_eq_false hgFFGEF; omega
       have RF0 : RotF (cK ks) m m a s mid e b := by
        have hr := rot_none m (show s ≤ k by omega) (show k ≤ e by omega) (show e ≤ m.length by omega) (by omega)
        rw [hr] at RF
        exact RF
       refine ow_off (b' := false) (by simp only [opd, zv]) rfl ?_
       refine ow_off (b' := false) (by simp only [opd, zv]) rfl ?_
       refine ow_off (b' := false) (by simp only [opd, zv]) rfl ?_
       refine ow_op (by simp only [zo, wka, wbk, midw1, midw2, midw3, midw4, wn, wp, wes] <;> exact rfl) ?_
       refine ow_nil ?_
       refine sk_n (by simp only [ze] <;> exact rfl) ?_
       refine cw_false (by simp only [opd, zv, wka, wbk, midw1, midw2, midw3, midw4, wn, wp, wes]) ?_
       refine cw_skip ?_
       refine ck_n rfl ?_
       exact ⟨m, _, _, _, _, _, _, _, _, _, _, _, _, _, _, _, _, _, _, _, _, _, _, _, _, RF0, rfl, rfl⟩
     rintro env S' ⟨m1, lo, w5, w6, w7, w8, w9, w10, w11, w12, w18, w20, w21, w22, w23, w24, w25, w26, w27, w28, w29, w30, w31, w32, w33, RF1, rfl, rfl⟩
     have hm1 : m1.length = n := by rw [RF1.same.1, hn]
     have RF1e : Eqr m m1 b n := by have := RF1.e2; rw [hn] at this; exact this
     refine cw_cut (fun env S' => ∃ (m2 : List RecT) (lo : Nat) (z5 z6 z7 z8 z9 z10 z11 z12 z18 z20 z21 z22 z23 z24 z25 z26 z27 z28 z29 z30 z31 z32 z33 : D), Same (cK ks) m m2 ∧ Eqr m m2 0 a ∧ Eqr m m2 b n ∧ Srt (cK ks) m2 a mid ∧ Srt (cK ks) m2 mid e ∧ Srt (cK ks) m2 e b ∧ (∀ (i j : Nat) (x y : RecT), a ≤ i → i < mid → mid ≤ j → j < b → m2[i]? = some x → m2[j]? = some y → cK ks x y ≤ 0) ∧ S' = ⟨put H g v m2, lo⟩ ∧ env = [.msl g v 0 n none, .int .i64 (a : Nat), .int .i64 (k : Nat), .int .i64 (b : Nat), .fn 49 [.ptr gk 0 0 0], z5, z6, z7, z8, z9, z10, z11, z12, .int .i64 (mid : Nat), .int .i64 ((mid + k) : Nat), .int .i64 (s : Nat), .int .i64 (s : Nat), .int .i64 ((mid + k - 1) : Nat), z18, .int .i64 (e : Nat), z20, z21, z22, z23, z24, z25, z26, z27, z28, z29, z30, z31, z32, z33]) ?_ ?_
     ·
      refine cw_seq (cw_region ?_)
      refine ow_me rfl ?_
      refine ow_me rfl ?_
      refine ow_op (by simp only [zo, binD, zb, Int.reduceEq, Int.reduceToNat, Int.reduceLT, wka, wbk, midw1, midw2, midw3, midw4, wn, wp, wes] <;> exact rfl) ?_
      refine ow_ml rfl ?_
      refine ow_split 0 (by simp only [opd, zv] <;> exact rfl) (by simp only [zn] <;> exact rfl) (by simp only [zn] <;> exact rfl) (fun hgFFGEFI => ?_) (fun hgFFGEFI => ?_)
      ·
       have has : a < s := by have := of_decide_eq_true hgFFGEFI; omega
       refine ow_on (by simp only [opd, zv]) ?_
       refine ow_me rfl ?_
       refine ow_on (by simp only [opd, zv]) ?_
       refine ow_me rfl ?_
       refine ow_on (by simp only [opd, zv]) ?_
       refine ow_op (by simp only [zo, binD, zb, Int.reduceEq, Int.reduceToNat, Int.reduceLT, wka, wbk, midw1, midw2, midw3, midw4, wn, wp, wes] <;> exact rfl) ?_
       refine ow_op (by simp only [zo, wka, wbk, midw1, midw2, midw3, midw4, wn, wp, wes] <;> exact rfl) ?_
       refine ow_nil ?_
       refine sk_n (by simp only [ze] <;> exact rfl) ?_
       refine cw_cond (by simp only [opd, zv, wka, wbk, midw1, midw2, midw3, midw4, wn, wp, wes] <;> exact rfl) (fun hcFFGEFIT => ?_) (fun hcFFGEFIT => ?_)
       ·
        have hsm : s < mid := by have := of_decide_eq_true hcFFGEFIT; omega
        obtain ⟨_, ⟨m2, lo2, rfl, q1, q2, q3, q4⟩, hrun⟩ := ih d (by omega) m1 hm1 a s mid has hsm (by omega) (by omega) RF1.s1 RF1.s2 lo
        dsimp only at hrun
        have hcr : ∀ (i j : Nat) (x y : RecT), a ≤ i → i < mid → mid ≤ j → j < b → m2[i]? = some x → m2[j]? = some y → cK ks x y ≤ 0 := by
         intro i j x y h1 h2 h3 h4 ex ey
         obtain ⟨i', a1, a2, a3⟩ := seg_mem (cK_cmp ks) q1 q3 (by rw [hm1]; exact q4) (by omega) (by omega) h1 h2 ex
         rw [q4 j h3 (by omega)] at ey
         exact RF1.cross i' j x y a1 a2 h3 h4 a3 ey
        refine cw_region ?_
        refine ow_me rfl ?_
        refine ow_me rfl ?_
        refine ow_me rfl ?_
        refine ow_me rfl ?_
        refine ow_me rfl ?_
        refine ow_op (by simp only [zo, wka, wbk, midw1, midw2, midw3, midw4, wn, wp, wes]; exact hrun) ?_
        refine ow_nil ?_
        refine ck_n (by simp only [ze] <;> exact rfl) ?_
        exact ⟨m2, _, _, _, _, _, _, _, _, _, _, _, _, _, _, _, _, _, _, _, _, _, _, _, _, RF1.same.trans q1, RF1.e1.trans q3, RF1e.trans (q4.sub (by omega) (Nat.le_refl _)), q2, RF1.s3.cong (q4.sub (Nat.le_refl _) (by omega)), RF1.s4.cong (q4.sub (by omega) (by omega)), hcr, rfl, rfl⟩
       ·
        have hsm : s = mid := by have := of_decide_eq_false hcFFGEFIT; omega
        have hsr : Srt (cK ks) m1 a mid := by rw [← hsm]; exact RF1.s1
        refine cw_skip ?_
        refine ck_n rfl ?_
        exact ⟨m1, _, _, _, _, _, _, _, _, _, _, _, _, _, _, _, _, _, _, _, _, _, _, _, _, RF1.same, RF1.e1, RF1e, hsr, RF1.s3, RF1.s4, RF1.cross, rfl, rfl⟩
      ·
       have has : s = a := by have := of_decide_eq_false hgFFGEFI; omega
       have hsr : Srt (cK ks) m1 a mid := by have := RF1.s2; rw [has] at this; exact this
       refine ow_off (b' := false) (by simp only [opd, zv]) rfl ?_
       refine ow_off (b' := false) (by simp only [opd, zv]) rfl ?_
       refine ow_off (b' := false) (by simp only [opd, zv]) rfl ?_
       refine ow_op (by simp only [zo, wka, wbk, midw1, midw2, midw3, midw4, wn, wp, wes] <;> exact rfl) ?_
       refine ow_nil ?_
       refine sk_n (by simp only [ze] <;> exact rfl) ?_
       refine cw_false (by simp only [opd, zv, wka, wbk, midw1, midw2, midw3, midw4, wn, wp, wes]) ?_
       refine cw_skip ?_
       refine ck_n rfl ?_
       exact ⟨m1, _, _, _, _, _, _, _, _, _, _, _, _, _, _, _, _, _, _, _, _, _, _, _, _, RF1.same, RF1.e1, RF1e, hsr, RF1.s3, RF1.s4, RF1.cross, rfl, rfl⟩
     rintro env S' ⟨m2, lo, z5, z6, z7, z8, z9, z10, z11, z12, z18, z20, z21, z22, z23, z24, z25, z26, z27, z28, z29, z30, z31, z32, z33, j1, j2, j3, j4, j5, j6, j7, rfl, rfl⟩
     have hm2 : m2.length = n := by rw [j1.1, hn]
     refine cw_seq (cw_region ?_)
     refine ow_me rfl ?_
     refine ow_me rfl ?_
     refine ow_op (by simp only [zo, binD, zb, Int.reduceEq, Int.reduceToNat, Int.reduceLT, wka, wbk, midw1, midw2, midw3, midw4, wn, wp, wes] <;> exact rfl) ?_
     refine ow_ml rfl ?_
     refine ow_split 0 (by simp only [opd, zv] <;> exact rfl) (by simp only [zn] <;> exact rfl) (by simp only [zn] <;> exact rfl) (fun hgFFGEFIJ => ?_) (fun hgFFGEFIJ => ?_)
     ·
      have hme : mid < e := by have := of_decide_eq_true hgFFGEFIJ; omega
      refine ow_on (by simp only [opd, zv]) ?_
      refine ow_me rfl ?_
      refine ow_on (by simp only [opd, zv]) ?_
      refine ow_me rfl ?_
      refine ow_on (by simp only [opd, zv]) ?_
      refine ow_op (by simp only [zo, binD, zb, Int.reduceEq, Int.reduceToNat, Int.reduceLT, wka, wbk, midw1, midw2, midw3, midw4, wn, wp, wes] <;> exact rfl) ?_
      refine ow_op (by simp only [zo, wka, wbk, midw1, midw2, midw3, midw4, wn, wp, wes] <;> exact rfl) ?_
      refine ow_nil ?_
      refine sk_n (by simp only [ze] <;> exact rfl) ?_
      refine cw_cond (by simp only [opd, zv, wka, wbk, midw1, midw2, midw3, midw4, wn, wp, wes] <;> exact rfl) (fun hcFFGEFIJT => ?_) (fun hcFFGEFIJT => ?_)
      ·
       have heb : e < b := by have := of_decide_eq_true hcFFGEFIJT; omega
       obtain ⟨_, ⟨m3, lo3, rfl, q1, q2, q3, q4⟩, hrun⟩ := ih d (by omega) m2 hm2 mid e b hme heb (by omega) (by omega) j5 j6 lo
       dsimp only at hrun
       have hfin : Srt (cK ks) m3 a b := by
        refine Srt.join (j4.cong (q3.sub (by omega) (Nat.le_refl _))) q2 ?_
        intro i j x y h1 h2 h3 h4 ex ey
        obtain ⟨j', a1, a2, a3⟩ := seg_mem (cK_cmp ks) q1 q3 (by rw [hm2]; exact q4) (by omega) (by omega) h3 h4 ey
        rw [q3 i (by omega) h2] at ex
        exact j7 i j' x y h1 h2 a1 a2 ex a3
       refine cw_region ?_
       refine ow_me rfl ?_
       refine ow_me rfl ?_
       refine ow_me rfl ?_
       refine ow_me rfl ?_
       refine ow_me rfl ?_
       refine ow_op (by simp only [zo, wka, wbk, midw1, midw2, midw3, midw4, wn, wp, wes]; exact hrun) ?_
       refine ow_nil ?_
       simp only [ze]
       exact ⟨m3, _, rfl, j1.trans q1, hfin, j2.trans (q3.sub (Nat.le_refl _) (by omega)), j3.trans q4⟩
      ·
       have heb : e = b := by have := of_decide_eq_false hcFFGEFIJT; omega
       have hfin : Srt (cK ks) m2 a b := Srt.join j4 (by rw [← heb]; exact j5) j7
       refine cw_skip ?_
       exact ⟨m2, _, rfl, j1, hfin, j2, j3⟩
     ·
      have hme : e = mid := by have := of_decide_eq_false hgFFGEFIJ; omega
      have hfin : Srt (cK ks) m2 a b := Srt.join j4 (by have := j6; rw [hme] at this; exact this) j7
      refine ow_off (b' := false) (by simp only [opd, zv]) rfl ?_
      refine ow_off (b' := false) (by simp only [opd, zv]) rfl ?_
      refine ow_off (b' := false) (by simp only [opd, zv]) rfl ?_
      refine ow_op (by simp only [zo, wka, wbk, midw1, midw2, midw3, midw4, wn, wp, wes] <;> exact rfl) ?_
      refine ow_nil ?_
      refine sk_n (by simp only [ze] <;> exact rfl) ?_
      refine cw_false (by simp only [opd, zv, wka, wbk, midw1, midw2, midw3, midw4, wn, wp, wes]) ?_
      refine cw_skip ?_
      exact ⟨m2, _, rfl, j1, hfin, j2, j3⟩

end Go.Proofs.YtabgobmeibjeeaaGreatDoor

namespace Go.Proofs.YtabgobmeibjeeaaGreatDoor
set_option linter.unusedVariables false
set_option linter.unusedSimpArgs false

section
variable {α : Type} {c : α → α → Int}
/-- in blocks of a size, from a on -/
inductive Bl (c : α → α → Int) (m : List α) (n bs : Nat) : Nat → Prop
  | nil {a : Nat} (h : n ≤ a) : Bl c m n bs a
  | cons {a : Nat} (h : Srt c m a (min (a + bs) n)) (t : Bl c m n bs (a + bs)) : Bl c m n bs a
/-- in blocks of a size, up to a -/
inductive Pb (c : α → α → Int) (m : List α) (n bs : Nat) : Nat → Prop
  | nil : Pb c m n bs 0
  | cons {a : Nat} (t : Pb c m n bs a) (h : Srt c m a (a + bs)) (hb : a + bs ≤ n) : Pb c m n bs (a + bs)
theorem Pb.all {m : List α} {n bs a : Nat} (h : Pb c m n bs a) : Bl c m n bs a → Bl c m n bs 0 := by
  induction h with
  | nil => exact id
  | cons t h hb ih => exact fun k => ih (.cons (by rw [Nat.min_eq_left hb]; exact h) k)
theorem Bl.cong {m m' : List α} {n bs a : Nat} (h : Bl c m n bs a) (he : Eqr m m' a n) : Bl c m' n bs a := by
  induction h with
  | nil h => exact .nil h
  | cons h t ih => exact .cons (h.cong (he.sub (Nat.le_refl _) (Nat.min_le_right _ _))) (ih (he.sub (by omega) (Nat.le_refl _)))
theorem Pb.cong {m m' : List α} {n bs a : Nat} (h : Pb c m n bs a) (he : Eqr m m' 0 a) : Pb c m' n bs a := by
  induction h with
  | nil => exact .nil
  | cons t h hb ih => exact .cons (ih (he.sub (Nat.le_refl _) (by omega))) (h.cong (he.sub (by omega) (Nat.le_refl _))) hb
theorem Bl.head {m : List α} {n bs a : Nat} (h : Bl c m n bs a) (ha : a < n) : Srt c m a (min (a + bs) n) ∧ Bl c m n bs (a + bs) := by
  cases h with
  | nil h => omega
  | cons h t => exact ⟨h, t⟩
theorem Bl.last {m : List α} {n bs a : Nat} (h : Srt c m a n) (hn : n ≤ a + bs) : Bl c m n bs a := .cons (by rw [Nat.min_eq_right hn]; exact h) (.nil hn)
theorem Bl.whole (hc : Cmp c) {m : List α} {n bs : Nat} (h : Bl c m n bs 0) (hn : n ≤ bs) : Srt c m 0 n := by
  by_cases h0 : n = 0
  · exact Srt.small hc (by omega)
  · have := (h.head (by omega)).1
    rw [Nat.min_eq_right (by omega)] at this
    exact this
/-- the last block in a pass of merges -/
theorem Bl.rest (hc : Cmp c) {m : List α} {n bs a : Nat} (h : Bl c m n bs a) (hn : n ≤ a + bs) : Bl c m n (2 * bs) a := by
  by_cases h0 : n ≤ a
  · exact .nil h0
  · have := (h.head (by omega)).1
    rw [Nat.min_eq_right hn] at this
    exact Bl.last this (by omega)
end
end Go.Proofs.YtabgobmeibjeeaaGreatDoor

namespace Go.Proofs.YtabgobmeibjeeaaGreatDoor
set_option linter.unusedSimpArgs false
set_option linter.unusedVariables false
set_option maxRecDepth 10000
set_option maxHeartbeats 4000000

theorem stable_run {d : Nat} {H : List AObj} {g v n gk : Nat} (hgl : g < H.length) (hgk : gk ≠ g) (hd : 18 + n ≤ d) {ks : List Ke} {kx : D} (hS : SlD 14 (keRows ks) kx) (h8 : ks.length ≤ 8) (hg : ∀ k ∈ ks, GK k) (hkk : H[gk]? = some ⟨26, 1, [[kx]], 0, 0, false⟩) (m : List RecT) (hn : m.length = n) (hn6 : n ≤ 1000000) (lo0 : Nat) : ∃ S2, (∃ (m' : List RecT) (lo : Nat), S2 = (⟨put H g v m', lo⟩ : St) ∧ IsS (cK ks) m m') ∧ runF LP NN d 79 [.msl g v 0 n none, .int .i64 (n : Nat), .fn 49 [.ptr gk 0 0 0]] ⟨put H g v m, lo0⟩ = some (.tup [], ⟨S2.heap, min lo0 S2.low⟩, true) := by
 refine run_raw (F := F79) rfl rfl rfl (by simp only [LP, zf, List.all_cons, List.all_nil, Bool.and_true, Bool.true_and, Bool.false_and, Bool.and_false]) (by simp only [F79, zv] <;> exact rfl) rfl (by omega) ?_
 rintro d rfl
 refine cw_seq (cw_region ?_)
 refine ow_mc ?_
 refine ow_nil ?_
 refine sk_n (by simp only [ze] <;> exact rfl) ?_
 refine cw_seq (cw_region ?_)
 refine ow_me rfl ?_
 refine ow_mc ?_
 refine ow_ml rfl ?_
 refine ow_nil ?_
 refine sk_n (by simp only [ze] <;> exact rfl) ?_
 refine cw_seq (cw_block ?_)
 refine cw_loop (fun rr env S' => ∃ (a : Nat) (m1 : List RecT) (lo : Nat) (u6 u7 u8 u9 u10 : D), a ≤ n ∧ rr = n - a ∧ Same (cK ks) m m1 ∧ Pb (cK ks) m1 n 20 a ∧ S' = ⟨put H g v m1, lo⟩ ∧ env = [.msl g v 0 n none, .int .i64 (n : Nat), .fn 49 [.ptr gk 0 0 0], .int .i64 ((20 : Nat) : Int), .int .i64 ((a : Nat) : Int), .int .i64 ((a + 20 : Nat) : Int), u6, u7, u8, u9, u10]) (n) (by omega) (⟨0, m, _, _, _, _, _, _, by omega, by omega, Same.refl _, .nil, rfl, rfl⟩) ?_
 rintro rr env S' ⟨a, m1, lo, u6, u7, u8, u9, u10, ha, rfl, hs1, hp1, rfl, rfl⟩
 have hm1 : m1.length = n := by rw [hs1.1, hn]
 refine cw_seq (cw_seq (cw_region ?_))
 refine ow_me rfl ?_
 refine ow_me rfl ?_
 refine ow_op (by simp only [zo, binD, zb, Int.reduceEq, Int.reduceToNat, Int.reduceLT] <;> exact rfl) ?_
 refine ow_nil ?_
 refine sk_n (by simp only [ze] <;> exact rfl) ?_
 refine cw_cond (by simp only [opd, zv] <;> exact rfl) (fun hcA => ?_) (fun hcA => ?_)
 ·
  have hb : a + 20 ≤ n := by have := of_decide_eq_true hcA; omega
  obtain ⟨_, ⟨m2, lo2, rfl, q1, q2, q3, q4⟩, hrun⟩ := insert_run (d := d) (by omega) (v := v) hgl hgk hS h8 hg hkk m1 hm1 hn6 a (a + 20) (by omega) hb lo
  dsimp only at hrun
  have w20 : IntKind.i64.wrap (((a + 20 : Nat) : Int) + ((20 : Nat) : Int)) = ((a + 20 + 20 : Nat) : Int) := i64_add _ _ (by omega)
  refine cw_skip (sk_n rfl (cw_block (cw_seq (cw_region ?_))))
  refine ow_me rfl ?_
  refine ow_me rfl ?_
  refine ow_me rfl ?_
  refine ow_me rfl ?_
  refine ow_op (by simp only [zo, w20]; exact hrun) ?_
  refine ow_nil ?_
  refine sk_n (by simp only [ze] <;> exact rfl) ?_
  refine cw_seq (cw_region ?_)
  refine ow_me rfl ?_
  refine ow_ml rfl ?_
  refine ow_nil ?_
  refine sk_n (by simp only [ze] <;> exact rfl) ?_
  refine cw_region ?_
  refine ow_me rfl ?_
  refine ow_me rfl ?_
  refine ow_op (by simp only [zo, binD, zb, Int.reduceEq, Int.reduceToNat, Int.reduceLT, w20] <;> exact rfl) ?_
  refine ow_ml rfl ?_
  refine ow_nil (bk_n ?_)
  refine lk_n (by simp only [ze] <;> exact rfl) ?_
  exact ⟨n - (a + 20), by omega, a + 20, m2, _, _, _, _, _, _, hb, rfl, hs1.trans q1, .cons (hp1.cong q3) q2 hb, rfl, rfl⟩
 ·
  have hb : n < a + 20 := by have := of_decide_eq_false hcA; omega
  obtain ⟨_, ⟨m2, lo2, rfl, q1, q2, q3, q4⟩, hrun⟩ := insert_run (d := d) (by omega) (v := v) hgl hgk hS h8 hg hkk m1 hm1 hn6 a n ha (Nat.le_refl _) lo
  dsimp only at hrun
  refine cw_exit (sk_e (lk_e (bk_e (sk_n rfl (cw_seq (cw_region ?_))))))
  refine ow_me rfl ?_
  refine ow_me rfl ?_
  refine ow_me rfl ?_
  refine ow_me rfl ?_
  refine ow_op (by simp only [zo]; exact hrun) ?_
  refine ow_nil ?_
  refine sk_n (by simp only [ze] <;> exact rfl) ?_
  refine cw_block ?_
  refine cw_loop (fun rr env S' => ∃ (bs : Nat) (m3 : List RecT) (lo : Nat) (u4 u5 u6 u7 u8 u9 u10 : D), 1 ≤ bs ∧ bs ≤ 2000000 ∧ rr = n - bs ∧ Same (cK ks) m m3 ∧ Bl (cK ks) m3 n bs 0 ∧ S' = ⟨put H g v m3, lo⟩ ∧ env = [.msl g v 0 n none, .int .i64 (n : Nat), .fn 49 [.ptr gk 0 0 0], .int .i64 ((bs : Nat) : Int), u4, u5, u6, u7, u8, u9, u10]) (n - 20) (by omega) (⟨20, m2, _, _, _, _, _, _, _, _, by omega, by omega, rfl, hs1.trans q1, (hp1.cong q3).all (.last q2 (by omega)), rfl, rfl⟩) ?_
  rintro rr env S' ⟨bs, m3, lo, u4, u5, u6, u7, u8, u9, u10, hbs, hbs2, rfl, hs3, hb3, rfl, rfl⟩
  refine cw_seq (cw_seq (cw_region ?_))
  refine ow_me rfl ?_
  refine ow_me rfl ?_
  refine ow_op (by simp only [zo, binD, zb, Int.reduceEq, Int.reduceToNat, Int.reduceLT] <;> exact rfl) ?_
  refine ow_nil ?_
  refine sk_n (by simp only [ze] <;> exact rfl) ?_
  refine cw_cond (by simp only [opd, zv] <;> exact rfl) (fun hcAFC => ?_) (fun hcAFC => ?_)
  ·
   have hbn : bs < n := by have := of_decide_eq_true hcAFC; omega
   have wb2 : IntKind.i64.wrap (2 * ((bs : Nat) : Int)) = ((2 * bs : Nat) : Int) := by rw [IntKind.wrap_i64]; omega
   have wb3 : IntKind.i64.wrap (((bs : Nat) : Int) * 2) = ((2 * bs : Nat) : Int) := by rw [IntKind.wrap_i64]; omega
   refine cw_skip (sk_n rfl (cw_block (cw_seq (cw_region ?_))))
   refine ow_me rfl ?_
   refine ow_op (by simp only [zo, binD, zb, Int.reduceEq, Int.reduceToNat, Int.reduceLT, wb2, wb3] <;> exact rfl) ?_
   refine ow_mc ?_
   refine ow_ml rfl ?_
   refine ow_nil ?_
   refine sk_n (by simp only [ze] <;> exact rfl) ?_
   refine cw_seq (cw_block ?_)
   refine cw_loop (fun rr env S' => ∃ (a : Nat) (m4 : List RecT) (lo : Nat) (v6 v7 v8 v9 v10 : D), a ≤ n ∧ rr = n - a ∧ Same (cK ks) m m4 ∧ Pb (cK ks) m4 n (2 * bs) a ∧ Bl (cK ks) m4 n bs a ∧ S' = ⟨put H g v m4, lo⟩ ∧ env = [.msl g v 0 n none, .int .i64 (n : Nat), .fn 49 [.ptr gk 0 0 0], .int .i64 ((bs : Nat) : Int), .int .i64 ((a : Nat) : Int), .int .i64 ((a + 2 * bs : Nat) : Int), v6, v7, v8, v9, v10]) (n) (by omega) (⟨0, m3, _, _, _, _, _, _, by omega, by omega, hs3, .nil, hb3, rfl, by rw [Nat.zero_add] <;> rfl⟩) ?_
   rintro rr env S' ⟨a, m4, lo, v6, v7, v8, v9, v10, ha, rfl, hs4, hp4, hb4, rfl, rfl⟩
   have hm4 : m4.length = n := by rw [hs4.1, hn]
   have wab := i64_add a bs (by omega)
   refine cw_seq (cw_seq (cw_region ?_))
   refine ow_me rfl ?_
   refine ow_me rfl ?_
   refine ow_op (by simp only [zo, binD, zb, Int.reduceEq, Int.reduceToNat, Int.reduceLT, wb2, wb3, wab] <;> exact rfl) ?_
   refine ow_nil ?_
   refine sk_n (by simp only [ze] <;> exact rfl) ?_
   refine cw_cond (by simp only [opd, zv, wb2, wb3, wab] <;> exact rfl) (fun hcAFCTD => ?_) (fun hcAFCTD => ?_)
   ·
    have hb : a + 2 * bs ≤ n := by have := of_decide_eq_true hcAFCTD; omega
    obtain ⟨h1, hb4'⟩ := hb4.head (by omega)
    obtain ⟨h2, hbb⟩ := hb4'.head (by omega)
    rw [Nat.min_eq_left (by omega)] at h1 h2
    rw [show a + bs + bs = a + 2 * bs by omega] at h2 hbb
    obtain ⟨_, ⟨m5, lo5, rfl, r1, r2, r3, r4⟩, hrun⟩ := symM_run (v := v) hgl hgk hS h8 hg hkk hn6 n d (by omega) m4 hm4 a (a + bs) (a + 2 * bs) (by omega) (by omega) hb (by omega) h1 h2 lo
    dsimp only at hrun
    have wa2 := i64_add (a + 2 * bs) (2 * bs) (by omega)
    refine cw_skip (sk_n rfl (cw_block (cw_seq (cw_region ?_))))
    refine ow_me rfl ?_
    refine ow_me rfl ?_
    refine ow_me rfl ?_
    refine ow_me rfl ?_
    refine ow_op (by simp only [zo, binD, zb, Int.reduceEq, Int.reduceToNat, Int.reduceLT, wb2, wb3, wab, wa2] <;> exact rfl) ?_
    refine ow_me rfl ?_
    refine ow_me rfl ?_
    refine ow_op (by simp only [zo, wb2, wb3, wab, wa2]; exact hrun) ?_
    refine ow_nil ?_
    refine sk_n (by simp only [ze] <;> exact rfl) ?_
    refine cw_seq (cw_region ?_)
    refine ow_me rfl ?_
    refine ow_ml rfl ?_
    refine ow_nil ?_
    refine sk_n (by simp only [ze] <;> exact rfl) ?_
    refine cw_region ?_
    refine ow_me rfl ?_
    refine ow_me rfl ?_
    refine ow_op (by simp only [zo, binD, zb, Int.reduceEq, Int.reduceToNat, Int.reduceLT, wb2, wb3, wab, wa2] <;> exact rfl) ?_
    refine ow_op (by simp only [zo, binD, zb, Int.reduceEq, Int.reduceToNat, Int.reduceLT, wb2, wb3, wab, wa2] <;> exact rfl) ?_
    refine ow_ml rfl ?_
    refine ow_nil (bk_n ?_)
    refine lk_n (by simp only [ze] <;> exact rfl) ?_
    exact ⟨n - (a + 2 * bs), by omega, a + 2 * bs, m5, _, _, _, _, _, _, hb, rfl, hs4.trans r1, .cons (hp4.cong r3) r2 hb, hbb.cong r4, rfl, rfl⟩
   ·
    have hb : n < a + 2 * bs := by have := of_decide_eq_false hcAFCTD; omega
    refine cw_exit (sk_e (lk_e (bk_e (sk_n rfl (cw_seq (cw_seq (cw_region ?_)))))))
    refine ow_me rfl ?_
    refine ow_me rfl ?_
    refine ow_op (by simp only [zo, binD, zb, Int.reduceEq, Int.reduceToNat, Int.reduceLT, wb2, wb3, wab] <;> exact rfl) ?_
    refine ow_ml rfl ?_
    refine ow_nil ?_
    refine sk_n (by simp only [ze] <;> exact rfl) ?_
    refine cw_seq (cw_region ?_)
    refine ow_me rfl ?_
    refine ow_me rfl ?_
    refine ow_op (by simp only [zo, binD, zb, Int.reduceEq, Int.reduceToNat, Int.reduceLT, wb2, wb3, wab] <;> exact rfl) ?_
    refine ow_nil ?_
    refine sk_n (by simp only [ze] <;> exact rfl) ?_
    refine cw_cond (by simp only [opd, zv, wb2, wb3, wab] <;> exact rfl) (fun hcAFCTDF => ?_) (fun hcAFCTDF => ?_)
    ·
     have hmn : a + bs < n := by have := of_decide_eq_true hcAFCTDF; omega
     obtain ⟨h1, hb4'⟩ := hb4.head (by omega)
     obtain ⟨h2, hbb⟩ := hb4'.head (by omega)
     rw [Nat.min_eq_left (by omega)] at h1
     rw [Nat.min_eq_right (by omega)] at h2
     obtain ⟨_, ⟨m5, lo5, rfl, r1, r2, r3, r4⟩, hrun⟩ := symM_run (v := v) hgl hgk hS h8 hg hkk hn6 n d (by omega) m4 hm4 a (a + bs) n (by omega) hmn (Nat.le_refl _) (by omega) h1 h2 lo
     dsimp only at hrun
     refine cw_region ?_
     refine ow_me rfl ?_
     refine ow_me rfl ?_
     refine ow_me rfl ?_
     refine ow_me rfl ?_
     refine ow_me rfl ?_
     refine ow_op (by simp only [zo, wb2, wb3, wab]; exact hrun) ?_
     refine ow_nil ?_
     refine sk_n (by simp only [ze] <;> exact rfl) ?_
     refine cw_region ?_
     refine ow_me rfl ?_
     refine ow_op (by simp only [zo, binD, zb, Int.reduceEq, Int.reduceToNat, Int.reduceLT, wb2, wb3, wab] <;> exact rfl) ?_
     refine ow_ml rfl ?_
     refine ow_nil (bk_n ?_)
     refine lk_n (by simp only [ze] <;> exact rfl) ?_
     exact ⟨n - 2 * bs, by omega, 2 * bs, m5, _, _, _, _, _, _, _, _, by omega, by omega, rfl, hs4.trans r1, (hp4.cong r3).all (.last r2 (by omega)), rfl, rfl⟩
    ·
     have hmn : n ≤ a + bs := by have := of_decide_eq_false hcAFCTDF; omega
     refine cw_skip (sk_n rfl (cw_region ?_))
     refine ow_me rfl ?_
     refine ow_op (by simp only [zo, binD, zb, Int.reduceEq, Int.reduceToNat, Int.reduceLT, wb2, wb3, wab] <;> exact rfl) ?_
     refine ow_ml rfl ?_
     refine ow_nil (bk_n ?_)
     refine lk_n (by simp only [ze] <;> exact rfl) ?_
     exact ⟨n - 2 * bs, by omega, 2 * bs, m4, _, _, _, _, _, _, _, _, by omega, by omega, rfl, hs4, hp4.all (hb4.rest (cK_cmp ks) (by omega)), rfl, rfl⟩
  ·
   have hbn : n ≤ bs := by have := of_decide_eq_false hcAFC; omega
   refine cw_exit (sk_e (lk_e (bk_e ?_)))
   exact ⟨m3, _, rfl, hs3, by have := hb3.whole (cK_cmp ks) hbn; rw [hs3.1, hn]; exact this⟩

theorem sortS_run {d : Nat} {H : List AObj} {g v n gk : Nat} (hgl : g < H.length) (hgk : gk ≠ g) (hd : 19 + n ≤ d) {ks : List Ke} {kx : D} (hS : SlD 14 (keRows ks) kx) (h8 : ks.length ≤ 8) (hg : ∀ k ∈ ks, GK k) (hkk : H[gk]? = some ⟨26, 1, [[kx]], 0, 0, false⟩) (m : List RecT) (hn : m.length = n) (hn6 : n ≤ 1000000) (lo0 : Nat) : ∃ S2, (∃ (m' : List RecT) (lo : Nat), S2 = (⟨put H g v m', lo⟩ : St) ∧ IsS (cK ks) m m') ∧ runF LP NN d 48 [.msl g v 0 n none, .fn 49 [.ptr gk 0 0 0]] ⟨put H g v m, lo0⟩ = some (.tup [], ⟨S2.heap, min lo0 S2.low⟩, true) := by
 refine run_raw (F := F48) rfl rfl rfl (by simp only [LP, zf, List.all_cons, List.all_nil, Bool.and_true, Bool.true_and, Bool.false_and, Bool.and_false]) (by simp only [F48, zv] <;> exact rfl) rfl (by omega) ?_
 rintro d rfl
 obtain ⟨_, ⟨m', lo', rfl, hm'⟩, hrun⟩ := stable_run (d := d) (v := v) hgl hgk (by omega) hS h8 hg hkk m hn hn6 (put H g v m).length
 dsimp only at hrun
 refine cw_region ?_
 refine ow_me rfl ?_
 refine ow_me rfl ?_
 refine ow_op (by simp only [zo, lenD_str, lenD_nils, lenD_sl, lenD_msl] <;> exact rfl) ?_
 refine ow_me rfl ?_
 refine ow_op (by simp only [zo]; exact hrun) ?_
 refine ow_nil ?_
 simp only [ze]
 exact ⟨m', _, rfl, hm'⟩

end Go.Proofs.YtabgobmeibjeeaaGreatDoor

namespace Go.Proofs.YtabgobmeibjeeaaGreatDoor
set_option linter.unusedSimpArgs false
set_option linter.unusedVariables false
set_option maxRecDepth 10000
set_option maxHeartbeats 4000000

theorem clone_run {d : Nat} (hd : 1 ≤ d) (S : St) (l : List UInt8) (c : Option Nat) (h0 : l ≠ []) (hl : l.length ≤ 1000000) : runF LP NN d 45 [.sl 1 (bR l) c] S = some (.sl 1 (bR l) none, S, false) := by
 have happ : appendD 5 1 1 1 (.sl 1 [] (some 0)) (.sl 1 (bR l) c) ⟨[], 0⟩ = some (.msl 0 0 0 l.length none, ⟨[⟨5, 1, bR l, 0, 1, true⟩], 0⟩, true) := by
  have h1 : (bR l).isEmpty = false := by cases l <;> simp [bR] at h0 ⊢
  have h2 : ((bR l).length) * 1 ≤ 140737488355328 := by rw [bR_len]; omega
  simp [appendD, readRows, appendRows, h1, bR_len, newAt]
  omega
 refine run_pure (F := F45) rfl (by simp only [LP, fnOf, snapVs, snaps, zs, Bool.false_eq_true, if_false, Option.map_some, List.map_cons, List.map_nil] <;> exact rfl) rfl (by simp only [LP, zf, List.all_cons, List.all_nil, Bool.and_true, Bool.true_and]; try rfl) (by simp only [F45, zv] <;> exact rfl) (by omega) ?_
 rintro d rfl
 refine cw_seq (cw_region ?_)
 refine ow_mc ?_
 refine ow_nil ?_
 refine sk_n (by simp only [ze] <;> exact rfl) ?_
 refine cw_seq (cw_seq (cw_region ?_))
 refine ow_me rfl ?_
 refine ow_op (by simp only [zo, eqnilD, happ] <;> exact rfl) ?_
 refine ow_nil ?_
 refine sk_n (by simp only [ze] <;> exact rfl) ?_
 skip
 refine cw_false (by simp only [opd, zv, happ] <;> rfl) ?_
 refine cw_skip (sk_n rfl (cw_seq (cw_region ?_)))
 refine ow_op (by simp only [zl, zm, fillRows, List.replicate, snapVs, snaps, zs, zc, zf, happ] <;> exact rfl) ?_
 refine ow_me rfl ?_
 refine ow_op (by simp only [opd, zv, exOp, aop, LOp.loud, lop, if_true, happ] <;> exact rfl) ?_
 refine ow_ml rfl ?_
 refine ow_nil ?_
 refine sk_n (by simp only [ze] <;> exact rfl) ?_
 refine cw_ret ?_
 refine ⟨_, by simp only [F45, resultD, resDs, resD, List.getD_cons_zero, List.getD_cons_succ, zd, rowsOf, partD, List.getElem?_cons_zero, List.getElem?_cons_succ, if_true, if_false, Bool.false_eq_true, List.take, List.drop, zm] <;> exact rfl, ?_⟩
 exact leaveP_app (by rfl) (by rw [bR_len])

theorem clip_run {d : Nat} (hd : 1 ≤ d) (S : St) (l : List UInt8) (c : Option Nat) : runF LP NN d 47 [.sl 1 (bR l) c] S = some (.sl 1 (bR l) (some l.length), S, false) := by
 have hS : SlD 1 (bR l) (.sl 1 (bR l) c) := .of _ _ _
 have hcl : ∀ T : St, sliceD T 1 (.sl 1 (bR l) c) none (some (.int .i64 ((l.length : Nat) : Int))) (some (.int .i64 ((l.length : Nat) : Int))) = some (.sl 1 (bR l) (some l.length)) := by
  intro T
  have := hS.slice_clip T
  rw [bR_len] at this
  rw [this]; simp [clipD, bR_len]
 refine run_pure (F := F47) rfl (by simp only [LP, fnOf, snapVs, snaps, zs, Bool.false_eq_true, if_false, Option.map_some, List.map_cons, List.map_nil] <;> exact rfl) rfl (by simp only [LP, zf, List.all_cons, List.all_nil, Bool.and_true, Bool.true_and]; try rfl) (by simp only [F47, zv] <;> exact rfl) (by omega) ?_
 rintro d rfl
 refine cw_seq (cw_region ?_)
 refine ow_mc ?_
 refine ow_nil ?_
 refine sk_n (by simp only [ze] <;> exact rfl) ?_
 refine cw_seq (cw_region ?_)
 refine ow_me rfl ?_
 refine ow_me rfl ?_
 refine ow_op (by simp only [zo, lenD_str, lenD_nils, lenD_sl, lenD_msl, hS.len, bR_len, hcl] <;> exact rfl) ?_
 refine ow_me rfl ?_
 refine ow_op (by simp only [zo, lenD_str, lenD_nils, lenD_sl, lenD_msl, hS.len, bR_len, hcl] <;> exact rfl) ?_
 refine ow_op (by simp only [opd, zv, exOp, aop, LOp.loud, lop, if_true, sliceArgs, Option.map_some, hS.len, bR_len, hcl] <;> exact rfl) ?_
 refine ow_ml rfl ?_
 refine ow_nil ?_
 refine sk_n (by simp only [ze] <;> exact rfl) ?_
 refine cw_ret ?_
 refine ⟨_, by simp only [F47, resultD, resDs, resD, List.getD_cons_zero, List.getD_cons_succ, zd, rowsOf, partD, List.getElem?_cons_zero, List.getElem?_cons_succ, if_true, if_false, Bool.false_eq_true, List.take, List.drop, zm] <;> exact rfl, ?_⟩
 simp only [leaveP, leave, snapVs, snaps, zs, zf, zk]

/-- rows that hold these records -/
def RowsOf (m : List RecT) (rows : List (List D)) : Prop := rows.length = m.length ∧ ∀ (i : Nat) (l : RecT), m[i]? = some l → ∃ c : Option Nat, rows[i]? = some [.sl 1 (bR l.1) c]
theorem RowsOf.rR (m : List RecT) : RowsOf m (rR m) := ⟨rR_len m, fun i l h => ⟨some 6, rR_at h⟩⟩
/-- records that are laid so far -/
def filled (m : List RecT) (i : Nat) : List (List D) := rR (m.take i) ++ List.replicate (m.length - i) [.nils]
theorem filled_0 (m : List RecT) : filled m 0 = List.replicate m.length [.nils] := by simp [filled, rR]
theorem filled_n (m : List RecT) : filled m m.length = rR m := by simp [filled]
theorem filled_at (m : List RecT) {i : Nat} (h : i < m.length) : (filled m i)[i]? = some [.nils] := by
 have e : (rR (m.take i)).length = i := by rw [rR_len, List.length_take]; omega
 rw [filled, List.getElem?_append_right (by omega), e, Nat.sub_self, List.getElem?_replicate, if_pos (by omega)]
theorem filled_set (m : List RecT) {i : Nat} {l : RecT} (h : m[i]? = some l) : (filled m i).set i [recD l.1] = filled m (i + 1) := by
 have hi := (List.getElem?_eq_some_iff.1 h).1
 have e : (rR (m.take i)).length = i := by rw [rR_len, List.length_take]; omega
 rw [filled, List.set_append_right _ _ (by omega), e, Nat.sub_self, show m.length - i = (m.length - (i + 1)) + 1 by omega, List.replicate_succ, List.set_cons_zero, filled, List.take_add_one, h]
 simp [rR]
theorem fill_iaddr {call : CallF} (o0 : AObj) (m : List RecT) (n : Nat) {i : Nat} (hi : i < n) (lo : Nat) : exOp call (.iaddr 1) [.msl 1 0 0 n none, .int .i64 (i : Int)] ⟨[o0, ⟨43, 1, filled m i, 0, 2, false⟩], lo⟩ = some (.ptr 1 0 i 0, ⟨[o0, ⟨43, 1, filled m i, 0, 2, false⟩], lo⟩, false) := by
 have h : (0 : Int) ≤ (i : Int) ∧ (i : Int) < (n : Int) := by omega
 simp only [exOp, aop, LOp.loud, lop, if_true, iaddrD, rowsOf, List.getElem?_cons_succ, List.getElem?_cons_zero, true_and, h, and_self, Nat.zero_add, Int.toNat_natCast, Option.map_some]
theorem fill_store {call : CallF} (o0 : AObj) (m : List RecT) {i : Nat} {l : RecT} (h : m[i]? = some l) : exOp call (.store 1) [.ptr 1 0 i 0, recD l.1] ⟨[o0, ⟨43, 1, filled m i, 0, 2, false⟩], 0⟩ = some (.undef, ⟨[o0, ⟨43, 1, filled m (i + 1), 0, 2, false⟩], 0⟩, true) := by
 have ha := filled_at m (List.getElem?_eq_some_iff.1 h).1
 simp only [exOp, aop, LOp.loud, lop, if_true, storeD, rowsOf, List.getElem?_cons_succ, List.getElem?_cons_zero, ha, Nat.reduceEqDiff, if_false, recD, snapV_sl, val_sl, cells_sl, List.length_cons, List.length_nil, Nat.zero_add, beq_self_eq_true, Nat.le_refl, decide_true, Bool.and_true, Bool.true_and, Bool.or_true, decide_false, Bool.false_or, List.all_cons, List.all_nil, free_sl, overlay, List.take_zero, List.drop_succ_cons, List.drop_nil, List.append_nil, List.nil_append, setAt, Option.map_some]
 rw [show ([D.sl 1 (bR l.1) (some 6)] : List D) = [recD l.1] from rfl, filled_set m h]
 rfl

theorem sorted_leave {o0 : AObj} {lo : Nat} {n : Nat} (m' : List RecT) (hn : m'.length = n) : leaveP ⟨[], 0⟩ (.msl 1 0 0 n none) ⟨[o0, ⟨43, 1, rR m', 0, 2, false⟩], lo⟩ = some (.sl 1 (rR m') (some n), ⟨[], 0⟩, false) := by
 have e : (rR m').take n = rR m' := by rw [← hn, ← rR_len m']; exact List.take_length
 simp [leaveP, leave, snapR_msl, snapV_msl, snap_msl, freeR_sl, e, rR_len, hn]

/-- a function on the empty heap whose result is one of some -/
def FinE (F : LFunc) (P : D → Prop) : LExit → List D → St → Prop
 | .exit _, _, _ => False
 | _, env', S2 => ∃ r0 r, resultD env' S2 F.res = some r0 ∧ P r ∧ leaveP ⟨[], 0⟩ r0 S2 = some (r, ⟨[], 0⟩, false)
theorem run_pureE {L : Prg} {d : Nat} {f : FuncId} {F : LFunc} {args args' env0 : List D} {S : St} {P : D → Prop} (hF : L.fns f = some F) (ha : (if L.raw f then some args else snapVs S.heap.length S.heap args) = some args') (hl : args'.length = F.nargs) (hp : (L.pure f && args'.all D.freeV) = true) (he : (F.slots.map fun s => args'.getD s .undef) = env0) (hd : 0 < d)
  (hb : ∀ d', d = d' + 1 → CW (runF L NN d') F.body (FinE F P) env0 ⟨[], 0⟩) : ∃ r, P r ∧ runF L NN d f args S = some (r, S, false) := by
 subst he
 obtain ⟨d', rfl⟩ : ∃ d', d = d' + 1 := ⟨d - 1, by omega⟩
 obtain ⟨e, env', S2, h1, h2⟩ := hb d' rfl
 cases e with
 | exit i => exact h2.elim
 | normal =>
  obtain ⟨r0, r, h3, h4, h5⟩ := h2
  refine ⟨r, h4, ?_⟩
  simp only [runF, hF, ha, hl, hp, ne_eq, not_true_eq_false, if_false, if_true, h1, h3]
  exact leaveP_any h5
 | ret =>
  obtain ⟨r0, r, h3, h4, h5⟩ := h2
  refine ⟨r, h4, ?_⟩
  simp only [runF, hF, ha, hl, hp, ne_eq, not_true_eq_false, if_false, if_true, h1, h3]
  exact leaveP_any h5

theorem sorted_run {d : Nat} (S : St) {x y : D} {ks : List Ke} {rows : List (List D)} (m : List RecT) (hd : 20 + m.length ≤ d) (hX : SlD 14 (keRows ks) x) (hY : SlD 1 rows y) (hR : RowsOf m rows) (h8 : ks.length ≤ 8) (hg : ∀ k ∈ ks, GK k) (hn6 : m.length ≤ 1000000) : ∃ r, (∃ m', IsS (cK ks) m m' ∧ r = D.sl 1 (rR m') (some m.length)) ∧ runF LP NN d 32 [x, y] S = some (r, S, false) := by
 have hmk : 0 ≤ (m.length : Int) ∧ (m.length : Int) ≤ (m.length : Int) ∧ (m.length : Int).toNat * 24 ≤ 140737488355328 := by omega
 refine run_pureE (F := F32) rfl (by simp only [LP, fnOf, snapVs, snaps, zs, Bool.false_eq_true, if_false, Option.map_some, List.map_cons, List.map_nil, hX.snapV, hX.freeV, hY.snapV, hY.freeV] <;> exact rfl) rfl (by simp only [LP, zf, List.all_cons, List.all_nil, Bool.and_true, Bool.true_and, hX.snapV, hX.freeV, hY.snapV, hY.freeV]; try rfl) (by simp only [F32, zv] <;> exact rfl) (by omega) ?_
 rintro d rfl
 refine cw_seq (cw_region ?_)
 refine ow_op (by simp only [zl, zm, zc, hX.val, hX.cells, hX.isCell, hY.len, hR.1] <;> exact rfl) ?_
 refine ow_mc ?_
 refine ow_nil ?_
 refine sk_n (by simp only [ze] <;> exact rfl) ?_
 refine cw_seq (cw_region ?_)
 refine ow_me rfl ?_
 refine ow_op (by simp only [zo, lenD_str, lenD_nils, lenD_sl, lenD_msl, hX.val, hX.cells, hX.isCell, hY.len, hR.1] <;> exact rfl) ?_
 refine ow_op (show _ = some (D.msl 1 0 0 m.length none, (⟨[⟨26, 1, [[x]], 0, 0, false⟩, ⟨43, 1, List.replicate m.length [.nils], 0, 2, false⟩], 0⟩ : St), true) by simp only [opd, zv, exOp, aop, LOp.loud, lop, if_true]; rw [if_pos hmk]; simp only [newAt, Int.toNat_natCast, List.cons_append, List.nil_append, List.length_cons, List.length_nil, ne_eq, not_true_eq_false, decide_false]) ?_
 refine ow_ml rfl ?_
 refine ow_nil ?_
 refine sk_n (by simp only [ze] <;> exact rfl) ?_
 refine cw_seq (cw_seq (cw_region ?_))
 refine ow_me rfl ?_
 refine ow_op (by simp only [zo, lenD_str, lenD_nils, lenD_sl, lenD_msl, hX.val, hX.cells, hX.isCell, hY.len, hR.1] <;> exact rfl) ?_
 refine ow_mc ?_
 refine ow_nil ?_
 refine sk_n (by simp only [ze] <;> exact rfl) ?_
 refine cw_block ?_
 refine cw_loop (fun rr env S' => ∃ (i : Nat) (u5 u6 u10 : D), i ≤ m.length ∧ rr = m.length - i ∧ S' = ⟨[⟨26, 1, [[x]], 0, 0, false⟩, ⟨43, 1, filled m i, 0, 2, false⟩], 0⟩ ∧ env = [x, y, .ptr 0 0 0 0, .nils, .msl 1 0 0 m.length none, u5, u6, y, .int .i64 (m.length : Nat), .int .i64 (i : Nat), u10]) (m.length) (by omega) (⟨0, _, _, _, by omega, by omega, by rw [filled_0] <;> rfl, rfl⟩) ?_
 rintro rr env S' ⟨i, u5, u6, u10, hi, rfl, rfl, rfl⟩
 have h0 : (0 : Int) ≤ (i : Int) := by omega
 refine cw_seq (cw_region ?_)
 refine ow_op (by simp only [zo, binD, zb, Int.reduceEq, Int.reduceToNat, Int.reduceLT, hX.val, hX.cells, hX.isCell, hY.len, hR.1, h0] <;> exact rfl) ?_
 refine ow_nil ?_
 refine sk_n (by simp only [ze] <;> exact rfl) ?_
 refine cw_seq ?_
 refine cw_cond (by simp only [opd, zv, hX.val, hX.cells, hX.isCell, hY.len, hR.1, h0] <;> exact rfl) (fun hcA => ?_) (fun hcA => ?_)
 ·
  have hlt : i < m.length := by have := of_decide_eq_true hcA; omega
  have wi := wrap_nat i (by omega)
  obtain ⟨l, hl⟩ : ∃ l, m[i]? = some l := ⟨_, List.getElem?_eq_getElem hlt⟩
  obtain ⟨c, hc⟩ := hR.2 i l hl
  have hia := fun (S : St) => hY.iaddrN S .i64 hc
  have hl6 := l.2.1
  refine cw_skip (sk_n rfl (cw_seq (cw_block (cw_seq (cw_region ?_)))))
  refine ow_me rfl ?_
  refine ow_op (by simp only [zl, zm, iaddrD_sl, iaddrD_msl, Int.toNat_natCast, Int.toNat_zero, List.getElem?_map, Option.map_some, Int.le_refl, hX.val, hX.cells, hX.isCell, hY.len, hR.1, h0, wi, hia] <;> exact rfl) ?_
  refine ow_op (by simp only [zl, zm, zd, partD, List.take, List.drop, hX.val, hX.cells, hX.isCell, hY.len, hR.1, h0, wi, hia] <;> exact rfl) ?_
  refine ow_ml rfl ?_
  refine ow_ml rfl ?_
  refine ow_nil ?_
  refine sk_n (by simp only [ze] <;> exact rfl) ?_
  refine cw_region ?_
  refine ow_me rfl ?_
  refine ow_me rfl ?_
  refine ow_me rfl ?_
  refine ow_op (by simp only [zo, hX.val, hX.cells, hX.isCell, hY.len, hR.1, h0, wi, hia]; exact clone_run (by omega) _ l.1 c (by intro h; rw [h] at hl6; simp at hl6) (by omega)) ?_
  refine ow_op (by simp only [zo, hX.val, hX.cells, hX.isCell, hY.len, hR.1, h0, wi, hia]; exact (clip_run (by omega) _ l.1 none).trans (by rw [hl6] <;> rfl)) ?_
  refine ow_op (by simp only [opd, zv]; exact fill_iaddr _ m m.length hlt 0) ?_
  refine ow_op (by simp only [opd, zv]; exact fill_store _ m hl) ?_
  refine ow_nil (bk_n ?_)
  refine sk_n (by simp only [ze] <;> exact rfl) ?_
  refine cw_region ?_
  refine ow_op (by simp only [zo, binD, zb, Int.reduceEq, Int.reduceToNat, Int.reduceLT, hX.val, hX.cells, hX.isCell, hY.len, hR.1, h0, wi, hia] <;> exact rfl) ?_
  refine ow_ml rfl ?_
  refine ow_nil ?_
  refine lk_n (by simp only [ze] <;> exact rfl) ?_
  exact ⟨m.length - (i + 1), by omega, i + 1, _, _, _, by omega, rfl, rfl, rfl⟩
 ·
  obtain rfl : i = m.length := by have := of_decide_eq_false hcA; omega
  rw [filled_n]
  obtain ⟨_, ⟨m', lo', rfl, hm'⟩, hrun⟩ := sortS_run (d := d) (H := [⟨26, 1, [[x]], 0, 0, false⟩, ⟨43, 1, [], 0, 2, false⟩]) (g := 1) (v := 0) (n := m.length) (gk := 0) (by simp) (by omega) (by omega) hX h8 hg rfl m rfl hn6 0
  dsimp only at hrun
  rw [show put [⟨26, 1, [[x]], 0, 0, false⟩, ⟨43, 1, [], 0, 2, false⟩] 1 0 m = [⟨26, 1, [[x]], 0, 0, false⟩, ⟨43, 1, rR m, 0, 2, false⟩] from rfl, show put [⟨26, 1, [[x]], 0, 0, false⟩, ⟨43, 1, [], 0, 2, false⟩] 1 0 m' = [⟨26, 1, [[x]], 0, 0, false⟩, ⟨43, 1, rR m', 0, 2, false⟩] from rfl] at hrun
  refine cw_exit (sk_e (lk_e (bk_e (sk_n rfl (cw_seq (cw_region ?_))))))
  refine ow_me rfl ?_
  refine ow_op (by simp only [zo, hX.val, hX.cells, hX.isCell, hY.len, hR.1, h0] <;> exact rfl) ?_
  refine ow_op (by simp only [zo, hX.val, hX.cells, hX.isCell, hY.len, hR.1, h0]; exact hrun) ?_
  refine ow_nil ?_
  refine sk_n (by simp only [ze] <;> exact rfl) ?_
  refine cw_seq (cw_region ?_)
  refine ow_me rfl ?_
  refine ow_ml rfl ?_
  refine ow_nil ?_
  refine sk_n (by simp only [ze] <;> exact rfl) ?_
  refine cw_ret ?_
  refine ⟨_, _, by simp only [F32, resultD, resDs, resD, List.getD_cons_zero, List.getD_cons_succ] <;> exact rfl, ⟨m', hm', rfl⟩, sorted_leave m' hm'.1.1⟩

end Go.Proofs.YtabgobmeibjeeaaGreatDoor

namespace Go.Proofs.YtabgobmeibjeeaaGreatDoor
set_option linter.unusedSimpArgs false
set_option linter.unusedVariables false
set_option maxRecDepth 10000
set_option maxHeartbeats 4000000

/-- the records in their stable order -/
noncomputable def srt (ks : List Ke) (m : List RecT) : List RecT := open Classical in if h : ∃ m', IsS (cK ks) m m' then Classical.choose h else m
theorem srt_is {ks : List Ke} {m m' : List RecT} (h : IsS (cK ks) m m') : IsS (cK ks) m (srt ks m) := by
 have hx : ∃ m', IsS (cK ks) m m' := ⟨m', h⟩
 unfold srt
 rw [dif_pos hx]
 exact Classical.choose_spec hx
theorem srt_eq {ks : List Ke} {m m' : List RecT} (h : IsS (cK ks) m m') : m' = srt ks m := IsS.uniq (cK_cmp ks) h (srt_is h)
/-- there is one -/
theorem srt_ok (l : List (Nat × Nat × Nat)) (m : List RecT) (hn6 : m.length ≤ 1000000) : IsS (cK (keysF l)) m (srt (keysF l) m) := by
 obtain ⟨_, ⟨m', h, _⟩, _⟩ := sorted_run (d := 20 + m.length) (x := .sl 14 (keRows (keysF l)) none) (y := .sl 1 (rR m) none) ⟨[], 0⟩ m (Nat.le_refl _) (.of _ _ _) (.of _ _ _) (.rR m) (by have := (keysF_len l).2; omega) (keysF_gk l) hn6
 exact srt_is h
theorem sortedF_run {d : Nat} (S : St) {x y : D} {ks : List Ke} {rows : List (List D)} (m : List RecT) (hd : 20 + m.length ≤ d) (hX : SlD 14 (keRows ks) x) (hY : SlD 1 rows y) (hR : RowsOf m rows) (h8 : ks.length ≤ 8) (hg : ∀ k ∈ ks, GK k) (hn6 : m.length ≤ 1000000) : runF LP NN d 32 [x, y] S = some (.sl 1 (rR (srt ks m)) (some m.length), S, false) := by
 obtain ⟨_, ⟨m', h, rfl⟩, hr⟩ := sorted_run S m hd hX hY hR h8 hg hn6
 rw [← srt_eq h]; exact hr
/-- lists of records -/
def ListsOf (ms : List (List RecT)) (rows : List (List D)) : Prop := rows.length = ms.length ∧ ∀ (i : Nat) (m : List RecT), ms[i]? = some m → ∃ (y : D) (r : List (List D)), rows[i]? = some [y] ∧ SlD 1 r y ∧ RowsOf m r
def tot (ms : List (List RecT)) : Nat := (ms.map List.length).sum
end Go.Proofs.YtabgobmeibjeeaaGreatDoor

namespace Go.Proofs.YtabgobmeibjeeaaGreatDoor
set_option linter.unusedSimpArgs false
set_option linter.unusedVariables false
set_option maxRecDepth 10000
set_option maxHeartbeats 4000000

def recOf (n : Nat) : RecT := ⟨digs n, digs_rec n⟩
theorem numRows_at {l : List Nat} {i n : Nat} (h : l[i]? = some n) : (numRows l)[i]? = some [.int .u32 (n : Int)] := by simp [numRows, h]
theorem numRows_len (l : List Nat) : (numRows l).length = l.length := by simp [numRows]
theorem rR_snoc (m : List RecT) (x : RecT) : rR m ++ [[recD x.1]] = rR (m ++ [x]) := by simp [rR]

theorem mkS_def (l : List UInt8) : (⟨l.toArray⟩ : ByteArray) = mkS l := rfl

end Go.Proofs.YtabgobmeibjeeaaGreatDoor

namespace Go.Proofs.YtabgobmeibjeeaaGreatDoor
set_option linter.unusedSimpArgs false
set_option linter.unusedVariables false
set_option maxRecDepth 10000
set_option maxHeartbeats 4000000

/-- the records that were inserted so far -/
def OutAt (m1 : List RecT) (H : List AObj) (ox : D) : Prop := (m1 = [] ∧ ox = .nils) ∨ (m1 ≠ [] ∧ ∃ g v, ox = .msl g v 0 m1.length none ∧ H[g]? = some ⟨43, 1, rR m1, v, 2, true⟩)
theorem OutAt.len {m1 : List RecT} {H : List AObj} {ox : D} (h : OutAt m1 H ox) : lenD false ox = some (.int .i64 m1.length) := by
 rcases h with ⟨rfl, rfl⟩ | ⟨_, g, v, rfl, _⟩ <;> rfl
theorem OutAt.msl {m1 : List RecT} {H : List AObj} {ox : D} (h : OutAt m1 H ox) (hl : 0 < m1.length) : ∃ g v, ox = .msl g v 0 m1.length none ∧ H[g]? = some ⟨43, 1, rR m1, v, 2, true⟩ := by
 rcases h with ⟨rfl, rfl⟩ | ⟨_, h⟩
 ·
  simp at hl
 ·
  exact h
theorem OutAt.leave {m1 : List RecT} {H : List AObj} {ox : D} {lo : Nat} (h : OutAt m1 H ox) : leaveP ⟨[], 0⟩ ox ⟨H, lo⟩ = some (appY 1 (rR m1), ⟨[], 0⟩, false) := by
 rcases h with ⟨rfl, rfl⟩ | ⟨hne, g, v, rfl, hg⟩
 ·
  rfl
 ·
  have h1 : snap 0 H (.msl g v 0 m1.length none) = some (.sl 1 (rR m1) none) := by
   have e : (rR m1).take m1.length = rR m1 := by rw [← rR_len m1]; exact List.take_length
   simp [snap_msl, hg, e]
  have h2 : appY 1 (rR m1) = .sl 1 (rR m1) none := by
   cases m1 with
   | nil => exact absurd rfl hne
   | cons a l => rfl
  rw [h2]
  simp [leaveP, Go.Proofs.YtabgobmeibjeeaaGreatDoor.leave, snapR_msl, snapV_msl, h1, freeR_sl]
theorem OutAt.app {call : CallF} {m1 : List RecT} {H : List AObj} {ox : D} (h : OutAt m1 H ox) (hl : m1.length ≤ 1000000) : ∃ g v H2, exOp call (.append 43 1 24 2) [ox, .msl H.length 0 0 1 none] ⟨H ++ [⟨43, 1, [[.nils]], 0, 2, false⟩], 0⟩ = some (.msl g v 0 (m1.length + 1) none, ⟨H2, 0⟩, true) ∧ H2[g]? = some ⟨43, 1, rR m1 ++ [[.nils]], v, 2, true⟩ := by
 have hr : readRows ⟨H ++ [⟨43, 1, [[.nils]], 0, 2, false⟩], 0⟩ 1 (.msl H.length 0 0 1 none) = some [[.nils]] := by simp [readRows, rowsOf]
 rcases h with ⟨rfl, rfl⟩ | ⟨hne, g, v, rfl, hg⟩
 ·
  refine ⟨H.length + 1, 0, H ++ [⟨43, 1, [[.nils]], 0, 2, false⟩] ++ [⟨43, 1, [[.nils]], 0, 2, true⟩], ?_, ?_⟩
  ·
   simp only [exOp, aop, LOp.loud, lop, if_true, appendD, hr, appendRows, List.isEmpty_cons, Bool.false_eq_true, if_false, newAt, List.length_cons, List.length_nil, List.length_append]
   rfl
  ·
   simp [rR]
 ·
  have hg' := get_app hg [⟨43, 1, [[.nils]], 0, 2, false⟩]
  have hb : (m1.length + 1) * 24 ≤ 140737488355328 := by omega
  refine ⟨g, v + 1, (H ++ [(⟨43, 1, [[.nils]], 0, 2, false⟩ : AObj)]).set g ⟨43, 1, rR m1 ++ [[.nils]], v + 1, 2, true⟩, ?_, ?_⟩
  ·
   simp only [exOp, aop, LOp.loud, lop, if_true, appendD, hr, appendRows, rowsOf, hg', rR_len, List.length_cons, List.length_nil, Nat.zero_add, hb, or_true, and_self, setAt, Nat.zero_min]
  ·
   exact get_set_self hg' _
section
variable {call : CallF} {H : List AObj} {g v n : Nat} {rows : List (List D)} {gr : Bool} {lo : Nat}
theorem gi_iaddr (hg : H[g]? = some ⟨43, 1, rows, v, 2, gr⟩) (k : IntKind) {i : Nat} (hi : i < n) : exOp call (.iaddr 1) [.msl g v 0 n none, .int k (i : Int)] ⟨H, lo⟩ = some (.ptr g v i 0, ⟨H, lo⟩, false) := by
 have h : (0 : Int) ≤ (i : Int) ∧ (i : Int) < (n : Int) := by omega
 simp only [exOp, aop, LOp.loud, lop, if_true, iaddrD, rowsOf, hg, true_and, h, and_self, Nat.zero_add, Int.toNat_natCast, Option.map_some]
theorem gl_load (hg : H[g]? = some ⟨43, 1, rows, v, 2, gr⟩) {i : Nat} {y : D} (h : rows[i]? = some [y]) : exOp call (.load 1 false) [.ptr g v i 0] ⟨H, lo⟩ = some (y, ⟨H, lo⟩, false) := by
 simp only [exOp, aop, LOp.loud, lop, if_true, loadD, rowsOf, hg, h, partD, Bool.false_eq_true, if_false, List.getElem?_cons_zero, Option.map_some]
theorem gs_store (hg : H[g]? = some ⟨43, 1, rows, v, 2, gr⟩) {i : Nat} {w : D} {l : List UInt8} (h : rows[i]? = some [w]) : exOp call (.store 1) [.ptr g v i 0, recD l] ⟨H, 0⟩ = some (.undef, ⟨H.set g ⟨43, 1, rows.set i [recD l], v, 2, gr⟩, 0⟩, true) := by
 simp only [exOp, aop, LOp.loud, lop, if_true, storeD, rowsOf, hg, h, Nat.reduceEqDiff, if_false, recD, snapV_sl, val_sl, cells_sl, List.length_cons, List.length_nil, Nat.zero_add, beq_self_eq_true, Nat.le_refl, decide_true, Bool.and_true, Bool.true_and, Bool.or_true, decide_false, Bool.false_or, List.all_cons, List.all_nil, free_sl, overlay, List.take_zero, List.drop_succ_cons, List.drop_nil, List.append_nil, List.nil_append, setAt, Option.map_some, Nat.zero_min]
end
/-- the rows while they are moved on -/
def hole (m1 : List RecT) (k : Nat) (w : D) : List (List D) := rR (m1.take k) ++ [w] :: rR (m1.drop k)
theorem hole_at {m1 : List RecT} {k : Nat} (hk : k ≤ m1.length) (w : D) : (hole m1 k w)[k]? = some [w] := app_at _ _ _ (by rw [rR_len, List.length_take]; omega)
theorem hole_low {m1 : List RecT} {k : Nat} (hk : k ≤ m1.length) (w : D) {i : Nat} {z : RecT} (hi : i < k) (h : m1[i]? = some z) : (hole m1 k w)[i]? = some [recD z.1] := by
 have e : (rR (m1.take k)).length = k := by rw [rR_len, List.length_take]; omega
 rw [hole, List.getElem?_append_left (by omega)]
 exact rR_at (by rw [List.getElem?_take_of_lt hi]; exact h)
theorem hole_set {m1 : List RecT} {k : Nat} (hk : k ≤ m1.length) (w x : D) : (hole m1 k w).set k [x] = hole m1 k x := by
 have e : (rR (m1.take k)).length = k := by rw [rR_len, List.length_take]; omega
 rw [hole, List.set_append_right _ _ (by omega), e, Nat.sub_self, List.set_cons_zero]; rfl
theorem hole_down {m1 : List RecT} {k : Nat} {z : RecT} (h : m1[k]? = some z) : hole m1 (k + 1) (recD z.1) = hole m1 k (recD z.1) := by
 obtain ⟨hk, e⟩ := List.getElem?_eq_some_iff.1 h
 rw [hole, hole, List.take_add_one, h, List.drop_eq_getElem_cons hk, e]
 simp [rR]
theorem hole_top (m1 : List RecT) : rR m1 ++ [[.nils]] = hole m1 m1.length .nils := by
 rw [hole, List.take_length, List.drop_length]; simp [rR]
theorem hole_done (m1 : List RecT) (k : Nat) (z : RecT) : hole m1 k (recD z.1) = rR (m1.take k ++ z :: m1.drop k) := by simp [hole, rR]
theorem ins_rot (m1 : List RecT) (p : Nat) (z : RecT) (hp : p ≤ m1.length) : rot (m1 ++ [z]) p m1.length (m1.length + 1) = m1.take p ++ z :: m1.drop p := by
 unfold rot
 rw [List.take_append_of_le_length hp, List.drop_append_of_le_length hp, List.drop_left, List.take_append_of_le_length (by rw [List.length_drop]; exact Nat.le_refl _)]
 simp
 rw [List.take_of_length_le (by simp)]
/-- one more record is inserted -/
theorem ins_is {ks : List Ke} {m m1 : List RecT} {i p : Nat} {z : RecT} (h : IsS (cK ks) (m.take i) m1) (hz : m[i]? = some z) (hl : m1.length = i) (hp : p ≤ i) (h1 : LtB ks m1 i p z) (h2 : GeB ks m1 0 p z) : IsS (cK ks) (m.take (i + 1)) (m1.take p ++ z :: m1.drop p) := by
 subst hl
 have hc := cK_cmp ks
 have s0 : Srt (cK ks) (m1 ++ [z]) 0 m1.length := h.2.cong fun j _ hj => List.getElem?_append_left hj
 have hzz : (m1 ++ [z])[m1.length]? = some z := by simp
 have RF := rot_facts hc (m := m1 ++ [z]) (a := 0) (s := p) (k := m1.length) (e := m1.length + 1) (b := m1.length + 1) (by omega) hp (by omega) (by omega) (by simp) s0 (Srt.small hc (by omega)) (by
  rcases h1 with h | ⟨w, hw, hlt⟩
  ·
   exact .inl h
  ·
   exact .inr (.inr ⟨z, w, by simp, by rw [List.getElem?_append_left (List.getElem?_eq_some_iff.1 hw).1]; exact hw, hlt⟩)) (.inr (.inl rfl))
 have hzp : (rot (m1 ++ [z]) p m1.length (m1.length + 1))[p]? = some z := by
  rw [rot_get _ hp (by omega) (by simp), if_neg (by omega), if_pos (by omega), Nat.sub_self, Nat.zero_add]; exact hzz
 have hall : Srt (cK ks) (rot (m1 ++ [z]) p m1.length (m1.length + 1)) 0 (m1.length + 1) := by
  refine Srt.join (Srt.join RF.s1 RF.s2 ?_) RF.s3 RF.cross
  intro q q' u w p1 p2 q1 q2 e1 e2
  obtain rfl : q' = p := by omega
  rw [hzp] at e2
  obtain rfl := Option.some.inj e2
  rw [rot_get _ hp (by omega) (by simp), if_pos p2, List.getElem?_append_left (by omega)] at e1
  rcases h2 with h' | ⟨w, hw, hge⟩
  ·
   omega
  ·
   have c1 := h.2 q (q' - 1) u w (by omega) (by omega) (by omega) e1 hw
   have c2 := hc.swap w z
   exact hc.trans u w z c1 (by omega)
 have hsame := RF.same
 rw [ins_rot m1 p z hp] at hall hsame
 refine ⟨?_, ?_⟩
 ·
  rw [List.take_add_one, hz]
  exact (h.1.app (Same.refl [z])).trans hsame
 ·
  have : (m1.take p ++ z :: m1.drop p).length = m1.length + 1 := by simp; omega
  rw [this]; exact hall

theorem inserted_run {d : Nat} (hd : 2 ≤ d) (S : St) {x y : D} {ks : List Ke} (hX : SlD 14 (keRows ks) x) (h8 : ks.length ≤ 8) (hg : ∀ k ∈ ks, GK k) {m : List RecT} (hY : SlD 1 (rR m) y) (hn6 : m.length ≤ 100000) : runF LP NN d 14 [x, y] S = some (appY 1 (rR (srt ks m)), S, false) := by
 refine run_pure (F := F14) rfl (by simp only [LP, fnOf, snapVs, snaps, zs, Bool.false_eq_true, if_false, Option.map_some, List.map_cons, List.map_nil, hX.snapV, hX.freeV, hY.snapV, hY.freeV] <;> exact rfl) rfl (by simp only [LP, zf, List.all_cons, List.all_nil, Bool.and_true, Bool.true_and, hX.snapV, hX.freeV, hY.snapV, hY.freeV]; try rfl) (by simp only [F14, zv] <;> exact rfl) (by omega) ?_
 rintro d rfl
 refine cw_seq (cw_region ?_)
 refine ow_mc ?_
 refine ow_nil ?_
 refine sk_n (by simp only [ze] <;> exact rfl) ?_
 refine cw_seq (cw_region ?_)
 refine ow_mc ?_
 refine ow_nil ?_
 refine sk_n (by simp only [ze] <;> exact rfl) ?_
 refine cw_seq (cw_seq (cw_region ?_))
 refine ow_mc ?_
 refine ow_nil ?_
 refine sk_n (by simp only [ze] <;> exact rfl) ?_
 refine cw_block ?_
 refine cw_loop (fun rr env S' => ∃ (i : Nat) (m1 : List RecT) (H : List AObj) (ox u5 u6 u7 u8 u9 : D), i ≤ m.length ∧ rr = m.length - i ∧ IsS (cK ks) (m.take i) m1 ∧ OutAt m1 H ox ∧ S' = ⟨H, 0⟩ ∧ env = [x, y, .nils, ox, .int .i64 (i : Nat), u5, u6, u7, u8, u9]) (m.length) (by omega) (⟨0, [], _, _, _, _, _, _, _, by omega, by omega, ⟨Same.refl _, Srt.small (cK_cmp ks) (by simp)⟩, .inl ⟨rfl, rfl⟩, rfl, rfl⟩) ?_
 rintro rr env S' ⟨i, m1, H, ox, u5, u6, u7, u8, u9, hi, rfl, hI, hO, rfl, rfl⟩
 have hml : m1.length = i := by rw [hI.1.1, List.length_take]; omega
 have hol := hO.len
 rw [hml] at hol
 refine cw_seq (cw_seq (cw_region ?_))
 refine ow_me rfl ?_
 refine ow_me rfl ?_
 refine ow_op (by simp only [zo, lenD_str, lenD_nils, lenD_sl, lenD_msl, hY.len, rR_len, hol] <;> exact rfl) ?_
 refine ow_op (by simp only [zo, binD, zb, Int.reduceEq, Int.reduceToNat, Int.reduceLT, hY.len, rR_len, hol] <;> exact rfl) ?_
 refine ow_nil ?_
 refine sk_n (by simp only [ze] <;> exact rfl) ?_
 refine cw_cond (by simp only [opd, zv, hY.len, rR_len, hol] <;> exact rfl) (fun hcA => ?_) (fun hcA => ?_)
 ·
  have hlt2 : i < m.length := by have := of_decide_eq_true hcA; omega
  have wi := wrap_nat i (by omega)
  obtain ⟨z, hz⟩ : ∃ z, m[i]? = some z := ⟨_, List.getElem?_eq_getElem hlt2⟩
  have hia := fun (S : St) => hY.iaddrN S .i64 (rR_at hz)
  refine cw_skip (sk_n rfl (cw_seq (cw_block (cw_seq (cw_region ?_)))))
  refine ow_me rfl ?_
  refine ow_op (by simp only [zo, lenD_str, lenD_nils, lenD_sl, lenD_msl, hY.len, rR_len, hol, wi, hia] <;> exact rfl) ?_
  refine ow_ml rfl ?_
  refine ow_nil ?_
  refine sk_n (by simp only [ze] <;> exact rfl) ?_
  refine cw_seq (cw_block ?_)
  refine cw_loop (fun rr env S' => ∃ (p : Nat) (v8 : D), p ≤ i ∧ p = rr ∧ LtB ks m1 i p z ∧ S' = ⟨H, 0⟩ ∧ env = [x, y, .nils, ox, .int .i64 (i : Nat), .int .i64 (p : Nat), u6, .bool (decide (((i : Nat) : Int) < ((m.length : Nat) : Int))), v8, u9]) (i) (by omega) (⟨i, _, by omega, rfl, Or.inl rfl, rfl, rfl⟩) ?_
  rintro rr env S' ⟨p, v8, hp2, rfl, hLt, rfl, rfl⟩
  refine cw_seq (cw_seq ?_)
  refine cw_drawn (by simp only [newsVals, zw, Nat.reduceAdd] <;> exact rfl) (by simp only [zw, newsObj, St.eta] <;> exact rfl) ?_
  refine dw_me rfl rfl ?_
  refine dw_quiet (by simp only [zo, binD, zb, Int.reduceEq, Int.reduceToNat, Int.reduceLT, hY.len, rR_len, hol, wi, hia] <;> exact rfl) rfl rfl ?_
  refine dw_ml rfl rfl ?_
  refine dw_split 0 (by simp only [opd, zv] <;> exact rfl) (by simp only [zn] <;> exact rfl) (by simp only [zn] <;> exact rfl) (fun hgATB => ?_) (fun hgATB => ?_)
  ·
   have hp0 : 0 < p := by have := of_decide_eq_true hgATB; omega
   obtain ⟨g, v, hox, hHg⟩ := hO.msl (by omega)
   subst hox
   rw [hml]
   have wp : IntKind.i64.wrap (((p : Nat) : Int) - 1) = ((p - 1 : Nat) : Int) := by rw [IntKind.wrap_i64]; omega
   obtain ⟨w, hw⟩ : ∃ w, m1[p - 1]? = some w := ⟨_, List.getElem?_eq_getElem (by omega)⟩
   refine dw_on (by simp only [opd, zv]) ?_
   refine dw_me rfl rfl ?_
   refine dw_on (by simp only [opd, zv]) ?_
   refine dw_me rfl rfl ?_
   refine dw_on (by simp only [opd, zv]) ?_
   refine dw_me rfl rfl ?_
   refine dw_on (by simp only [opd, zv]) ?_
   refine dw_quiet (by simp only [zo, binD, zb, Int.reduceEq, Int.reduceToNat, Int.reduceLT, hY.len, rR_len, hol, wi, hia, wp] <;> exact rfl) rfl rfl ?_
   refine dw_on (by simp only [opd, zv]) ?_
   refine dw_op (by simp only [opd, zv, wp]; exact gi_iaddr hHg _ (by omega)) (by simp only [fpHere, zo, zq, hY.fpi] <;> exact rfl) rfl ?_
   refine dw_on (by simp only [opd, zv]) ?_
   refine dw_op (by simp only [opd, zv]; exact gl_load hHg (rR_at hw)) (by simp only [fpHere, zo, zq, hY.fpi] <;> exact rfl) rfl ?_
   refine dw_on (by simp only [opd, zv]) ?_
   refine dw_me rfl rfl ?_
   refine dw_on (by simp only [opd, zv]) ?_
   refine dw_me rfl rfl ?_
   refine dw_on (by simp only [opd, zv]) ?_
   refine dw_op (by simp only [zl, zm, iaddrD_sl, iaddrD_msl, Int.toNat_natCast, Int.toNat_zero, List.getElem?_map, Option.map_some, Int.le_refl, hY.len, rR_len, hol, wi, hia, wp] <;> exact rfl) (by simp only [fpHere, zo, zq, hY.fpi] <;> exact rfl) rfl ?_
   refine dw_on (by simp only [opd, zv]) ?_
   refine dw_op (by simp only [zl, zm, zd, partD, List.take, List.drop, hY.len, rR_len, hol, wi, hia, wp] <;> exact rfl) (by simp only [fpHere, zo, zq, hY.fpi] <;> exact rfl) rfl ?_
   refine dw_on (by simp only [opd, zv]) ?_
   refine dw_op (by simp only [zo, hY.len, rR_len, hol, wi, hia, wp]; exact (show _ = some (D.int .i64 (cK ks w z), _, false) from orderR_run (by omega) _ hX (recD_S _) (recD_S _) h8 hg w.2 z.2)) (by simp only [fpHere, zo, zq, hY.fpi] <;> exact rfl) rfl ?_
   refine dw_on (by simp only [opd, zv]) ?_
   refine dw_quiet (by simp only [zo, binD, zb, Int.reduceEq, Int.reduceToNat, Int.reduceLT, hY.len, rR_len, hol, wi, hia, wp] <;> exact rfl) rfl rfl ?_
   refine dw_quiet (by simp only [zo, hY.len, rR_len, hol, wi, hia, wp] <;> exact rfl) rfl rfl ?_
   refine dw_nil ?_
   refine sk_n (by simp only [ze] <;> exact rfl) ?_
   refine cw_cond (by simp only [opd, zv, hY.len, rR_len, hol, wi, hia, wp] <;> exact rfl) (fun hcATBT => ?_) (fun hcATBT => ?_)
   ·
    have hlt : cK ks z w < 0 := by have h1 := of_decide_eq_true hcATBT; have h2 := (cK_cmp ks).swap w z; omega
    refine cw_skip (sk_n rfl (cw_block (cw_region ?_)))
    refine ow_me rfl ?_
    refine ow_op (by simp only [zo, binD, zb, Int.reduceEq, Int.reduceToNat, Int.reduceLT, hY.len, rR_len, hol, wi, hia, wp] <;> exact rfl) ?_
    refine ow_ml rfl ?_
    refine ow_nil (bk_n ?_)
    refine lk_n (by simp only [ze] <;> exact rfl) ?_
    exact ⟨p - 1, by omega, p - 1, _, by omega, rfl, Or.inr ⟨w, hw, hlt⟩, rfl, rfl⟩
   ·
    have hGe : GeB ks m1 0 p z := Or.inr ⟨w, hw, by have h1 := of_decide_eq_false hcATBT; have h2 := (cK_cmp ks).swap w z; omega⟩
    obtain ⟨g2, v2, H2, hap, hH2⟩ := hO.app (call := runF LP NN d) (by omega)
    rw [hml] at hap
    rw [hole_top, hml] at hH2
    have wn1 : IntKind.i64.wrap (((i + 1 : Nat) : Int) - 1) = ((i : Nat) : Int) := by rw [IntKind.wrap_i64]; omega
    refine cw_exit (sk_e (lk_e (bk_e (sk_n rfl (cw_seq (cw_region ?_))))))
    refine ow_me rfl ?_
    refine ow_op (by simp only [zl, zm, fillRows, List.replicate, snapVs, snaps, zs, zc, zf, hY.len, rR_len, hol, wi, hia, wp, wn1] <;> exact rfl) ?_
    refine ow_op (by simp only [opd, zv]; exact hap) ?_
    refine ow_ml rfl ?_
    refine ow_nil ?_
    refine sk_n (by simp only [ze] <;> exact rfl) ?_
    refine cw_seq (cw_seq (cw_region ?_))
    refine ow_me rfl ?_
    refine ow_op (by simp only [zo, lenD_str, lenD_nils, lenD_sl, lenD_msl, hY.len, rR_len, hol, wi, hia, wp, wn1] <;> exact rfl) ?_
    refine ow_op (by simp only [zo, binD, zb, Int.reduceEq, Int.reduceToNat, Int.reduceLT, hY.len, rR_len, hol, wi, hia, wp, wn1] <;> exact rfl) ?_
    refine ow_ml rfl ?_
    refine ow_nil ?_
    refine sk_n (by simp only [ze] <;> exact rfl) ?_
    refine cw_block ?_
    refine cw_loop (fun rr env S' => ∃ (k : Nat) (wv : D) (H3 : List AObj) (t9 : D), p ≤ k ∧ k ≤ i ∧ rr = k - p ∧ H3[g2]? = some ⟨43, 1, hole m1 k wv, v2, 2, true⟩ ∧ S' = ⟨H3, 0⟩ ∧ env = [x, y, .nils, .msl g2 v2 0 (i + 1) none, .int .i64 (i : Nat), .int .i64 (p : Nat), .int .i64 (k : Nat), .bool (decide (((i : Nat) : Int) < ((m.length : Nat) : Int))), .bool (decide (cK ks w z > 0)), t9]) (i - p) (by omega) (⟨i, .nils, _, _, hp2, Nat.le_refl _, rfl, hH2, rfl, rfl⟩) ?_
    rintro rr env S' ⟨k, wd, H3, t9, hk1, hk2, rfl, hH3, rfl, rfl⟩
    refine cw_seq (cw_seq (cw_region ?_))
    refine ow_me rfl ?_
    refine ow_me rfl ?_
    refine ow_op (by simp only [zo, binD, zb, Int.reduceEq, Int.reduceToNat, Int.reduceLT, hY.len, rR_len, hol, wi, hia, wp, wn1] <;> exact rfl) ?_
    refine ow_nil ?_
    refine sk_n (by simp only [ze] <;> exact rfl) ?_
    refine cw_cond (by simp only [opd, zv, hY.len, rR_len, hol, wi, hia, wp, wn1] <;> exact rfl) (fun hcATBTFC => ?_) (fun hcATBTFC => ?_)
    ·
     have hkp : p < k := by have := of_decide_eq_true hcATBTFC; omega
     have wk : IntKind.i64.wrap (((k : Nat) : Int) - 1) = ((k - 1 : Nat) : Int) := by rw [IntKind.wrap_i64]; omega
     obtain ⟨zz, hzz⟩ : ∃ zz, m1[k - 1]? = some zz := ⟨_, List.getElem?_eq_getElem (by omega)⟩
     have hld := hole_low (m1 := m1) (k := k) (by omega) wd (show k - 1 < k by omega) hzz
     have hst := hole_at (m1 := m1) (k := k) (by omega) wd
     have heq : (hole m1 k wd).set k [recD zz.1] = hole m1 (k - 1) (recD zz.1) := by
      have h5 := hole_down hzz
      rw [show k - 1 + 1 = k by omega] at h5
      rw [hole_set (by omega), h5]
     have hH4 : (H3.set g2 ⟨43, 1, (hole m1 k wd).set k [recD zz.1], v2, 2, true⟩)[g2]? = some ⟨43, 1, hole m1 (k - 1) (recD zz.1), v2, 2, true⟩ := by rw [get_set_self hH3, heq]
     refine cw_skip (sk_n rfl (cw_seq (cw_block (cw_region ?_))))
     refine ow_me rfl ?_
     refine ow_me rfl ?_
     refine ow_me rfl ?_
     refine ow_me rfl ?_
     refine ow_op (by simp only [zo, binD, zb, Int.reduceEq, Int.reduceToNat, Int.reduceLT, hY.len, rR_len, hol, wi, hia, wp, wn1, wk] <;> exact rfl) ?_
     refine ow_op (by simp only [opd, zv, wk]; exact gi_iaddr hH3 _ (by omega)) ?_
     refine ow_op (by simp only [opd, zv]; exact gl_load hH3 hld) ?_
     refine ow_op (by simp only [opd, zv, wk]; exact gi_iaddr hH3 _ (by omega)) ?_
     refine ow_op (by simp only [opd, zv]; exact gs_store hH3 hst) ?_
     refine ow_nil (bk_n ?_)
     refine sk_n (by simp only [ze] <;> exact rfl) ?_
     refine cw_region ?_
     refine ow_me rfl ?_
     refine ow_op (by simp only [zo, binD, zb, Int.reduceEq, Int.reduceToNat, Int.reduceLT, hY.len, rR_len, hol, wi, hia, wp, wn1, wk] <;> exact rfl) ?_
     refine ow_ml rfl ?_
     refine ow_nil ?_
     refine lk_n (by simp only [ze] <;> exact rfl) ?_
     exact ⟨k - 1 - p, by omega, k - 1, recD zz.1, _, _, by omega, by omega, rfl, hH4, rfl, rfl⟩
    ·
     obtain rfl : k = p := by have := of_decide_eq_false hcATBTFC; omega
     have hst := hole_at (m1 := m1) (k := k) (by omega) wd
     have hfin : (H3.set g2 ⟨43, 1, (hole m1 k wd).set k [recD z.1], v2, 2, true⟩)[g2]? = some ⟨43, 1, rR (m1.take k ++ z :: m1.drop k), v2, 2, true⟩ := by rw [get_set_self hH3, hole_set (by omega), hole_done]
     refine cw_exit (sk_e (lk_e (bk_e (sk_n rfl (cw_region ?_)))))
     refine ow_me rfl ?_
     refine ow_me rfl ?_
     refine ow_me rfl ?_
     refine ow_me rfl ?_
     refine ow_op (by simp only [zl, zm, iaddrD_sl, iaddrD_msl, Int.toNat_natCast, Int.toNat_zero, List.getElem?_map, Option.map_some, Int.le_refl, hY.len, rR_len, hol, wi, hia, wp, wn1] <;> exact rfl) ?_
     refine ow_op (by simp only [zl, zm, zd, partD, List.take, List.drop, hY.len, rR_len, hol, wi, hia, wp, wn1] <;> exact rfl) ?_
     refine ow_op (by simp only [opd, zv]; exact gi_iaddr hH3 _ (by omega)) ?_
     refine ow_op (by simp only [opd, zv]; exact gs_store hH3 hst) ?_
     refine ow_nil (bk_n ?_)
     refine sk_n (by simp only [ze] <;> exact rfl) ?_
     refine cw_region ?_
     refine ow_me rfl ?_
     refine ow_op (by simp only [zo, binD, zb, Int.reduceEq, Int.reduceToNat, Int.reduceLT, hY.len, rR_len, hol, wi, hia, wp, wn1] <;> exact rfl) ?_
     refine ow_ml rfl ?_
     refine ow_nil ?_
     refine lk_n (by simp only [ze] <;> exact rfl) ?_
     exact ⟨m.length - (i + 1), by omega, i + 1, _, _, _, _, _, _, _, _, by omega, rfl, ins_is hI hz hml hp2 hLt hGe, .inr ⟨by simp, g2, v2, by rw [show (m1.take k ++ z :: m1.drop k).length = i + 1 by simp; omega], hfin⟩, rfl, rfl⟩
  ·
   have hGe : GeB ks m1 0 p z := Or.inl (by have := of_decide_eq_false hgATB; omega)
   obtain ⟨g2, v2, H2, hap, hH2⟩ := hO.app (call := runF LP NN d) (by omega)
   rw [hml] at hap
   rw [hole_top, hml] at hH2
   have wn1 : IntKind.i64.wrap (((i + 1 : Nat) : Int) - 1) = ((i : Nat) : Int) := by rw [IntKind.wrap_i64]; omega
   refine dw_off (b' := false) (by simp only [opd, zv]) rfl ?_
   refine dw_off (b' := false) (by simp only [opd, zv]) rfl ?_
   refine dw_off (b' := false) (by simp only [opd, zv]) rfl ?_
   refine dw_off (b' := false) (by simp only [opd, zv]) rfl ?_
   refine dw_off (b' := false) (by simp only [opd, zv]) rfl ?_
   refine dw_off (b' := false) (by simp only [opd, zv]) rfl ?_
   refine dw_off (b' := false) (by simp only [opd, zv]) rfl ?_
   refine dw_off (b' := false) (by simp only [opd, zv]) rfl ?_
   refine dw_off (b' := false) (by simp only [opd, zv]) rfl ?_
   refine dw_off (b' := false) (by simp only [opd, zv]) rfl ?_
   refine dw_off (b' := false) (by simp only [opd, zv]) rfl ?_
   refine dw_off (b' := false) (by simp only [opd, zv]) rfl ?_
   refine dw_quiet (by simp only [zo, hY.len, rR_len, hol, wi, hia, wn1] <;> exact rfl) rfl rfl ?_
   refine dw_nil ?_
   refine sk_n (by simp only [ze] <;> exact rfl) ?_
   refine cw_false (by simp only [opd, zv, hY.len, rR_len, hol, wi, hia, wn1]) ?_
   refine cw_exit (sk_e (lk_e (bk_e (sk_n rfl (cw_seq (cw_region ?_))))))
   refine ow_me rfl ?_
   refine ow_op (by simp only [zl, zm, fillRows, List.replicate, snapVs, snaps, zs, zc, zf, hY.len, rR_len, hol, wi, hia, wn1] <;> exact rfl) ?_
   refine ow_op (by simp only [opd, zv]; exact hap) ?_
   refine ow_ml rfl ?_
   refine ow_nil ?_
   refine sk_n (by simp only [ze] <;> exact rfl) ?_
   refine cw_seq (cw_seq (cw_region ?_))
   refine ow_me rfl ?_
   refine ow_op (by simp only [zo, lenD_str, lenD_nils, lenD_sl, lenD_msl, hY.len, rR_len, hol, wi, hia, wn1] <;> exact rfl) ?_
   refine ow_op (by simp only [zo, binD, zb, Int.reduceEq, Int.reduceToNat, Int.reduceLT, hY.len, rR_len, hol, wi, hia, wn1] <;> exact rfl) ?_
   refine ow_ml rfl ?_
   refine ow_nil ?_
   refine sk_n (by simp only [ze] <;> exact rfl) ?_
   refine cw_block ?_
   refine cw_loop (fun rr env S' => ∃ (k : Nat) (wv : D) (H3 : List AObj) (t9 : D), p ≤ k ∧ k ≤ i ∧ rr = k - p ∧ H3[g2]? = some ⟨43, 1, hole m1 k wv, v2, 2, true⟩ ∧ S' = ⟨H3, 0⟩ ∧ env = [x, y, .nils, .msl g2 v2 0 (i + 1) none, .int .i64 (i : Nat), .int .i64 (p : Nat), .int .i64 (k : Nat), .bool (decide (((i : Nat) : Int) < ((m.length : Nat) : Int))), .bool false, t9]) (i - p) (by omega) (⟨i, .nils, _, _, hp2, Nat.le_refl _, rfl, hH2, rfl, rfl⟩) ?_
   rintro rr env S' ⟨k, wd, H3, t9, hk1, hk2, rfl, hH3, rfl, rfl⟩
   refine cw_seq (cw_seq (cw_region ?_))
   refine ow_me rfl ?_
   refine ow_me rfl ?_
   refine ow_op (by simp only [zo, binD, zb, Int.reduceEq, Int.reduceToNat, Int.reduceLT, hY.len, rR_len, hol, wi, hia, wn1] <;> exact rfl) ?_
   refine ow_nil ?_
   refine sk_n (by simp only [ze] <;> exact rfl) ?_
   refine cw_cond (by simp only [opd, zv, hY.len, rR_len, hol, wi, hia, wn1] <;> exact rfl) (fun hcATBFC => ?_) (fun hcATBFC => ?_)
   ·
    have hkp : p < k := by have := of_decide_eq_true hcATBFC; omega
    have wk : IntKind.i64.wrap (((k : Nat) : Int) - 1) = ((k - 1 : Nat) : Int) := by rw [IntKind.wrap_i64]; omega
    obtain ⟨zz, hzz⟩ : ∃ zz, m1[k - 1]? = some zz := ⟨_, List.getElem?_eq_getElem (by omega)⟩
    have hld := hole_low (m1 := m1) (k := k) (by omega) wd (show k - 1 < k by omega) hzz
    have hst := hole_at (m1 := m1) (k := k) (by omega) wd
    have heq : (hole m1 k wd).set k [recD zz.1] = hole m1 (k - 1) (recD zz.1) := by
     have h5 := hole_down hzz
     rw [show k - 1 + 1 = k by omega] at h5
     rw [hole_set (by omega), h5]
    have hH4 : (H3.set g2 ⟨43, 1, (hole m1 k wd).set k [recD zz.1], v2, 2, true⟩)[g2]? = some ⟨43, 1, hole m1 (k - 1) (recD zz.1), v2, 2, true⟩ := by rw [get_set_self hH3, heq]
    refine cw_skip (sk_n rfl (cw_seq (cw_block (cw_region ?_))))
    refine ow_me rfl ?_
    refine ow_me rfl ?_
    refine ow_me rfl ?_
    refine ow_me rfl ?_
    refine ow_op (by simp only [zo, binD, zb, Int.reduceEq, Int.reduceToNat, Int.reduceLT, hY.len, rR_len, hol, wi, hia, wn1, wk] <;> exact rfl) ?_
    refine ow_op (by simp only [opd, zv, wk]; exact gi_iaddr hH3 _ (by omega)) ?_
    refine ow_op (by simp only [opd, zv]; exact gl_load hH3 hld) ?_
    refine ow_op (by simp only [opd, zv, wk]; exact gi_iaddr hH3 _ (by omega)) ?_
    refine ow_op (by simp only [opd, zv]; exact gs_store hH3 hst) ?_
    refine ow_nil (bk_n ?_)
    refine sk_n (by simp only [ze] <;> exact rfl) ?_
    refine cw_region ?_
    refine ow_me rfl ?_
    refine ow_op (by simp only [zo, binD, zb, Int.reduceEq, Int.reduceToNat, Int.reduceLT, hY.len, rR_len, hol, wi, hia, wn1, wk] <;> exact rfl) ?_
    refine ow_ml rfl ?_
    refine ow_nil ?_
    refine lk_n (by simp only [ze] <;> exact rfl) ?_
    exact ⟨k - 1 - p, by omega, k - 1, recD zz.1, _, _, by omega, by omega, rfl, hH4, rfl, rfl⟩
   ·
    obtain rfl : k = p := by have := of_decide_eq_false hcATBFC; omega
    have hst := hole_at (m1 := m1) (k := k) (by omega) wd
    have hfin : (H3.set g2 ⟨43, 1, (hole m1 k wd).set k [recD z.1], v2, 2, true⟩)[g2]? = some ⟨43, 1, rR (m1.take k ++ z :: m1.drop k), v2, 2, true⟩ := by rw [get_set_self hH3, hole_set (by omega), hole_done]
    refine cw_exit (sk_e (lk_e (bk_e (sk_n rfl (cw_region ?_)))))
    refine ow_me rfl ?_
    refine ow_me rfl ?_
    refine ow_me rfl ?_
    refine ow_me rfl ?_
    refine ow_op (by simp only [zl, zm, iaddrD_sl, iaddrD_msl, Int.toNat_natCast, Int.toNat_zero, List.getElem?_map, Option.map_some, Int.le_refl, hY.len, rR_len, hol, wi, hia, wn1] <;> exact rfl) ?_
    refine ow_op (by simp only [zl, zm, zd, partD, List.take, List.drop, hY.len, rR_len, hol, wi, hia, wn1] <;> exact rfl) ?_
    refine ow_op (by simp only [opd, zv]; exact gi_iaddr hH3 _ (by omega)) ?_
    refine ow_op (by simp only [opd, zv]; exact gs_store hH3 hst) ?_
    refine ow_nil (bk_n ?_)
    refine sk_n (by simp only [ze] <;> exact rfl) ?_
    refine cw_region ?_
    refine ow_me rfl ?_
    refine ow_op (by simp only [zo, binD, zb, Int.reduceEq, Int.reduceToNat, Int.reduceLT, hY.len, rR_len, hol, wi, hia, wn1] <;> exact rfl) ?_
    refine ow_ml rfl ?_
    refine ow_nil ?_
    refine lk_n (by simp only [ze] <;> exact rfl) ?_
    exact ⟨m.length - (i + 1), by omega, i + 1, _, _, _, _, _, _, _, _, by omega, rfl, ins_is hI hz hml hp2 hLt hGe, .inr ⟨by simp, g2, v2, by rw [show (m1.take k ++ z :: m1.drop k).length = i + 1 by simp; omega], hfin⟩, rfl, rfl⟩
 ·
  obtain rfl : i = m.length := by have := of_decide_eq_false hcA; omega
  rw [List.take_length] at hI
  refine cw_exit (sk_e (lk_e (bk_e (sk_n rfl (cw_seq (cw_region ?_))))))
  refine ow_me rfl ?_
  refine ow_ml rfl ?_
  refine ow_nil ?_
  refine sk_n (by simp only [ze] <;> exact rfl) ?_
  refine cw_ret ?_
  refine ⟨_, by simp only [F14, resultD, resDs, resD, List.getD_cons_zero, List.getD_cons_succ, zd, rowsOf, partD, List.getElem?_cons_zero, List.getElem?_cons_succ, if_true, if_false, Bool.false_eq_true, List.take, List.drop, zm] <;> exact rfl, ?_⟩
  rw [← srt_eq hI]
  exact hO.leave

end Go.Proofs.YtabgobmeibjeeaaGreatDoor

namespace Go.Proofs.YtabgobmeibjeeaaGreatDoor
set_option linter.unusedSimpArgs false
set_option linter.unusedVariables false
set_option maxRecDepth 10000
set_option maxHeartbeats 4000000

end Go.Proofs.YtabgobmeibjeeaaGreatDoor

namespace Go.Proofs.YtabgobmeibjeeaaGreatDoor
set_option linter.unusedVariables false
set_option linter.unusedSimpArgs false

/-- rows that are appended to, in object g (none: no object yet) -/
def AppG (e : TypeId) (sz : Nat) (rows : List (List D)) (H : List AObj) (x : D) (g : Option Nat) : Prop :=
  (rows = [] ∧ x = .nils ∧ g = none) ∨ (rows ≠ [] ∧ ∃ q v, g = some q ∧ x = .msl q v 0 rows.length none ∧ H[q]? = some ⟨e, sz, rows, v, 1, true⟩)
section
variable {e : TypeId} {sz : Nat} {rows : List (List D)} {H : List AObj} {x : D} {g : Option Nat}
theorem AppG.at (h : AppG e sz rows H x g) : AppAt e sz rows H x := by
  rcases h with ⟨h1, h2, _⟩ | ⟨h0, q, v, _, h1, h2⟩
  · exact .inl ⟨h1, h2⟩
  · exact .inr ⟨h0, q, v, h1, h2⟩
theorem AppG.keep {H' : List AObj} (h : AppG e sz rows H x g) (hk : ∀ q o, g = some q → H[q]? = some o → H'[q]? = some o) : AppG e sz rows H' x g := by
  rcases h with h | ⟨h0, q, v, h1, h2, h3⟩
  · exact .inl h
  · exact .inr ⟨h0, q, v, h1, h2, hk q _ h1 h3⟩
theorem AppG.app (h : AppG e sz rows H x g) (bytes : Nat) {new : List (List D)} {y : D} (hy : SlD sz new y) (hn : new ≠ []) (hb : (rows.length + new.length) * bytes ≤ 140737488355328) (lo : Nat) :
    ∃ x' H' g', (∀ c : CallF, exOp c (.append e sz bytes 1) [x, y] ⟨H, lo⟩ = some (x', ⟨H', if g = some g' then min lo g' else lo⟩, true)) ∧ AppG e sz (rows ++ new) H' x' (some g') ∧ (g = some g' ∨ (g = none ∧ g' = H.length)) ∧ H.length ≤ H'.length ∧ ∀ (k : Nat) (o : AObj), H[k]? = some o → k ≠ g' → H'[k]? = some o := by
  have hne : rows ++ new ≠ [] := by simp [hn]
  have hn' : new.isEmpty = false := by cases new <;> simp at hn ⊢
  rcases h with ⟨rfl, rfl, rfl⟩ | ⟨h0, q, v, rfl, rfl, h2⟩
  · simp only [List.length_nil, Nat.zero_add] at hb
    refine ⟨.msl H.length 0 0 new.length none, H ++ [⟨e, sz, new, 0, 1, true⟩], H.length, fun c => ?_, .inr ⟨hne, H.length, 0, rfl, by simp, by simp⟩, .inr ⟨rfl, rfl⟩, by simp, fun k o ho _ => get_app ho _⟩
    simp [exOp, aop, LOp.loud, lop, appendD, hy.read, appendRows, hn', hb, newAt]
  · refine ⟨.msl q (v + 1) 0 (rows.length + new.length) none, H.set q ⟨e, sz, rows ++ new, v + 1, 1, true⟩, q, fun c => ?_, .inr ⟨hne, q, v + 1, rfl, by simp, get_set_self h2 _⟩, .inl rfl, by simp, fun k o ho hk => get_set_ne ho (fun h => hk h.symm) _⟩
    simp [exOp, aop, LOp.loud, lop, appendD, hy.read, appendRows, rowsOf, h2, hb, setAt]
end
end Go.Proofs.YtabgobmeibjeeaaGreatDoor

/- Proved here: what the functions of package declaratives and of the law compute, in the abstract machine; no condition. -/
import Derived.Test.YtnihohodcogpeaaE4
import Derived.Test.YtnihohodcogpeaaLo19
import Derived.Test.YtnihohodcogpeaaLoZ
namespace Go.Proofs.Ytnihohodcogpeaa
set_option linter.unusedSimpArgs false
set_option linter.unusedVariables false
set_option maxRecDepth 10000

/-- what files reads: the names, or the token of a name that is there already -/
def filesF (rl : List Ru) : List Tok → List ByteArray → List ByteArray ⊕ Tok
  | [], o => .inl o
  | t :: ts, o => if (o.any fun x => t.text.toList == x.toList) || (rl.any fun r => r.names.any fun x => t.text.toList == x.toList) then .inr t else filesF rl ts (o ++ [t.text])
def filesD : List ByteArray ⊕ Tok → D
  | .inl o => .tup [clipD (appY 1 (strRows o)), .agg [.int .i64 0, .int .i64 0, .int .i64 0]]
  | .inr t => .tup [.nils, .agg [.int .i64 8, .int .i64 t.line, .int .i64 t.col]]
def progD (fx ux : D) : D := .agg [.str ⟨#[]⟩, fx, .nils, .nils, .nils, .nils, .nils, ux, .nils]
def okTok (fl : List Fi) (t : Tok) : Prop := t.kind = 1 ∧ (fl.any fun f => f.nm.toList == t.text.toList) = true
theorem strRows_app (o : List ByteArray) (s : ByteArray) : strRows (o ++ [s]) = strRows o ++ [[.str s]] := by simp [strRows]

theorem files_run {d : Nat} (hd : 6 ≤ d) (S : St) {fx ux rx ay lx : D} {fl : List Fi} {rl : List Ru} {tl : List Tok} {ur ar : List (List D)} (hX : SlD 12 (fiRows fl) fx) (hU : SlD 3 ur ux) (hR : SlD 3 (ruRows rl) rx) (hY : SlD 5 ar ay) (hL : SlD 5 (tokRows tl) lx) (hfl6 : fl.length ≤ 1000000) (hrl : rl.length ≤ 1000000) (htl : tl.length ≤ 1000) (hok : ∀ t ∈ tl, okTok fl t) :
    runF LP NN d 26 [progD fx ux, rx, ay, lx] S = some (filesD (filesF rl tl []), S, false) := by
  unfold progD
  refine run_pure (F := F26) rfl (by simp only [LP, fnOf, snapVs, snaps, zs, Bool.false_eq_true, if_false, Option.map_some, List.map_cons, List.map_nil, hX.snap, hX.free, hU.snap, hU.free, hR.snapV, hR.freeV, hY.snapV, hY.freeV, hL.snapV, hL.freeV] <;> exact rfl) rfl (by simp only [LP, zf, List.all_cons, List.all_nil, Bool.and_true, Bool.true_and, hX.snap, hX.free, hU.snap, hU.free, hR.snapV, hR.freeV, hY.snapV, hY.freeV, hL.snapV, hL.freeV]; try rfl) (by simp only [F26, zv] <;> exact rfl) (by omega) ?_
  rintro d rfl
  refine cw_seq ?_
  refine cw_region ?_
  refine ow_op (by simp only [opd, zv, exOp, aop, LOp.loud, lop, rowsOf, newAt, setAt, zh, zm, zc, hX.isCell, hX.val, hU.isCell, hU.val, tokRows_len, Nat.zero_min] <;> exact rfl) ?_
  refine ow_op (by simp only [opd, zv, exOp, aop, LOp.loud, pop, zp, hX.isCell, hX.val, hU.isCell, hU.val, tokRows_len, Nat.zero_min] <;> exact rfl) ?_
  refine ow_op (by simp only [opd, zv, exOp, aop, LOp.loud, lop, rowsOf, newAt, setAt, zh, zm, hX.isCell, hX.val, hU.isCell, hU.val, tokRows_len, Nat.zero_min] <;> exact rfl) ?_
  refine ow_nil ?_
  refine sk_n (by simp only [exports, zn, zg] <;> exact rfl) ?_
  refine cw_seq ?_
  refine cw_region ?_
  refine ow_op (by simp only [opd, zv, exOp, aop, LOp.loud, pop, zp, hX.isCell, hX.val, hU.isCell, hU.val, tokRows_len, Nat.zero_min] <;> exact rfl) ?_
  refine ow_nil ?_
  refine sk_n (by simp only [exports, zn, zg] <;> exact rfl) ?_
  refine cw_seq ?_
  refine cw_block ?_
  refine cw_loop (fun n env S' => ∃ (H : List AObj) (o : List ByteArray) (ts : List Tok) (lx ox u8 u9 u10 u11 u12 : D), H[0]? = some ⟨39, 9, [[.str ⟨#[]⟩, fx, .nils, .nils, .nils, .nils, .nils, ux, .nils]], 0, 0, false⟩ ∧ H[1]? = some ⟨29, 3, [[.int .i64 0, .int .i64 0, .int .i64 0]], 0, 0, false⟩ ∧ AppAt 9 1 (strRows o) H ox ∧ SlD 5 (tokRows ts) lx ∧ filesF rl ts o = filesF rl tl [] ∧ (∀ t ∈ ts, okTok fl t) ∧ ts.length = n ∧ o.length + ts.length = tl.length ∧ S' = ⟨H, 0⟩ ∧ env = [.agg [.str ⟨#[]⟩, fx, .nils, .nils, .nils, .nils, .nils, ux, .nils], rx, ay, lx, .ptr 0 0 0 0, .nils, .ptr 1 0 0 0, ox, u8, u9, u10, u11, u12]) (tl.length) (by omega) (⟨_, [], tl, lx, _, _, _, _, _, _, rfl, rfl, AppAt.nil _ _ _, hL, rfl, hok, rfl, by simp, rfl, rfl⟩) ?_
  rintro n env S' ⟨H, o, ts, lx, ox, u8, u9, u10, u11, u12, h0, h1, hA, hL, hF, hT, rfl, hn, rfl, rfl⟩
  refine cw_seq ?_
  refine cw_seq ?_
  refine cw_region ?_
  refine ow_op (by simp only [opd, zv, exOp, aop, LOp.loud, pop, zp, hX.isCell, hX.val, hU.isCell, hU.val, tokRows_len, Nat.zero_min, h0, h1, hL.len] <;> exact rfl) ?_
  refine ow_op (by simp only [opd, zv, exOp, aop, LOp.loud, pop, zp, lenD_str, lenD_nils, lenD_sl, lenD_msl, hX.isCell, hX.val, hU.isCell, hU.val, tokRows_len, Nat.zero_min, h0, h1, hL.len] <;> exact rfl) ?_
  refine ow_op (by simp only [opd, zv, exOp, aop, LOp.loud, pop, zp, binD, eq_self, ne_eq, not_false_eq_true, true_and, Int.reduceEq, ite_true, ite_false, not_true_eq_false, Int.reduceToNat, Int.reduceLT, hX.isCell, hX.val, hU.isCell, hU.val, tokRows_len, Nat.zero_min, h0, h1, hL.len] <;> exact rfl) ?_
  refine ow_nil ?_
  refine sk_n (by simp only [exports, zn, zg] <;> exact rfl) ?_
  refine cw_cond (by simp only [opd, zv, hX.isCell, hX.val, hU.isCell, hU.val, tokRows_len, Nat.zero_min, h0, h1, hL.len] <;> exact rfl) (fun hcA => ?_) (fun hcA => ?_)
  · skip -- AT
    obtain ⟨t, ts', rfl⟩ : ∃ t ts', ts = t :: ts' := by
      cases ts with
      | nil => simp at hcA
      | cons t l => exact ⟨t, l, rfl⟩
    rename List Tok => ts
    have hT1 := hT t List.mem_cons_self
    obtain ⟨hk1', hfl⟩ := hT1
    have hia := fun (S : St) => hL.iaddr S .i64 (i := 0) (by omega) (tokRows_0 t ts)
    have hsl := fun (S : St) => hL.slice_1 S (by rw [tokRows_len]; simp)
    have hA2 := hA.push [⟨9, 1, [[.str t.text]], 0, 0, false⟩]
    obtain ⟨ox', H', hap, hA', hlen', hkeep⟩ := hA2.app 16 (new := [[.str t.text]]) (c := some 1) rfl (by rw [strRows_len]; simp at hn ⊢; omega)
    have hk0 := hkeep 0 _ (get_app h0 _) (.inl rfl)
    have hk1 := hkeep 1 _ (get_app h1 _) (.inl rfl)
    have hst := fun (o : AObj) => get_set_self (get_app h1 [(⟨9, 1, [[.str t.text]], 0, 0, false⟩ : AObj)]) o
    refine cw_skip ?_
    refine sk_n rfl ?_
    refine cw_seq ?_
    refine cw_block ?_
    refine cw_seq ?_
    refine cw_region ?_
    refine ow_op (by simp only [opd, zv, exOp, aop, LOp.loud, pop, zp, hX.isCell, hX.val, hU.isCell, hU.val, tokRows_len, Nat.zero_min, h0, h1, hL.len, hia, hk1', bne_self_eq_false, hfl, Bool.not_true, get_app h0, get_app h1] <;> exact rfl) ?_
    refine ow_op (by simp only [opd, zv, exOp, aop, LOp.loud, lop, rowsOf, newAt, setAt, zh, zm, iaddrD_sl, iaddrD_msl, Int.toNat_natCast, Int.toNat_zero, List.getElem?_map, Option.map_some, Int.le_refl, hX.isCell, hX.val, hU.isCell, hU.val, tokRows_len, Nat.zero_min, h0, h1, hL.len, hia, hk1', bne_self_eq_false, hfl, Bool.not_true, get_app h0, get_app h1] <;> exact rfl) ?_
    refine ow_op (by simp only [opd, zv, exOp, aop, LOp.loud, pop, zp, faddrD_ptr, faddrD_cptr, zm, hX.isCell, hX.val, hU.isCell, hU.val, tokRows_len, Nat.zero_min, h0, h1, hL.len, hia, hk1', bne_self_eq_false, hfl, Bool.not_true, get_app h0, get_app h1] <;> exact rfl) ?_
    refine ow_op (by simp only [opd, zv, exOp, aop, LOp.loud, lop, rowsOf, newAt, setAt, zh, zm, loadD_cptr, loadD_ptr, partD, List.take, List.drop, hX.isCell, hX.val, hU.isCell, hU.val, tokRows_len, Nat.zero_min, h0, h1, hL.len, hia, hk1', bne_self_eq_false, hfl, Bool.not_true, get_app h0, get_app h1] <;> exact rfl) ?_
    refine ow_op (by simp only [opd, zv, exOp, aop, LOp.loud, lop, rowsOf, newAt, setAt, zh, zm, hX.isCell, hX.val, hU.isCell, hU.val, tokRows_len, Nat.zero_min, h0, h1, hL.len, hia, hk1', bne_self_eq_false, hfl, Bool.not_true, get_app h0, get_app h1] <;> exact rfl) ?_
    refine ow_op (by simp only [opd, zv, exOp, aop, LOp.loud, lop, rowsOf, newAt, setAt, zh, zm, storeD, overlay, snapVs, snaps, zs, zc, zf, List.take, List.drop, hX.isCell, hX.val, hU.isCell, hU.val, tokRows_len, Nat.zero_min, h0, h1, hL.len, hia, hk1', bne_self_eq_false, hfl, Bool.not_true, get_app h0, get_app h1] <;> exact rfl) ?_
    refine ow_nil ?_
    refine sk_n (by simp only [exports, zn, zg] <;> exact rfl) ?_
    refine cw_seq ?_
    refine cw_block ?_
    refine cw_seq ?_
    refine cw_region ?_
    refine ow_op (by simp only [opd, zv, exOp, aop, LOp.loud, pop, zp, hX.isCell, hX.val, hU.isCell, hU.val, tokRows_len, Nat.zero_min, h0, h1, hL.len, hia, hk1', bne_self_eq_false, hfl, Bool.not_true, get_app h0, get_app h1] <;> exact rfl) ?_
    refine ow_op (by simp only [opd, zv, exOp, aop, LOp.loud, lop, rowsOf, newAt, setAt, zh, zm, iaddrD_sl, iaddrD_msl, Int.toNat_natCast, Int.toNat_zero, List.getElem?_map, Option.map_some, Int.le_refl, hX.isCell, hX.val, hU.isCell, hU.val, tokRows_len, Nat.zero_min, h0, h1, hL.len, hia, hk1', bne_self_eq_false, hfl, Bool.not_true, get_app h0, get_app h1] <;> exact rfl) ?_
    refine ow_op (by simp only [opd, zv, exOp, aop, LOp.loud, pop, zp, faddrD_ptr, faddrD_cptr, zm, hX.isCell, hX.val, hU.isCell, hU.val, tokRows_len, Nat.zero_min, h0, h1, hL.len, hia, hk1', bne_self_eq_false, hfl, Bool.not_true, get_app h0, get_app h1] <;> exact rfl) ?_
    refine ow_op (by simp only [opd, zv, exOp, aop, LOp.loud, lop, rowsOf, newAt, setAt, zh, zm, loadD_cptr, loadD_ptr, partD, List.take, List.drop, hX.isCell, hX.val, hU.isCell, hU.val, tokRows_len, Nat.zero_min, h0, h1, hL.len, hia, hk1', bne_self_eq_false, hfl, Bool.not_true, get_app h0, get_app h1] <;> exact rfl) ?_
    refine ow_op (by simp only [opd, zv, exOp, aop, LOp.loud, pop, zp, binD, eq_self, ne_eq, not_false_eq_true, true_and, Int.reduceEq, ite_true, ite_false, not_true_eq_false, Int.reduceToNat, Int.reduceLT, hX.isCell, hX.val, hU.isCell, hU.val, tokRows_len, Nat.zero_min, h0, h1, hL.len, hia, hk1', bne_self_eq_false, hfl, Bool.not_true, get_app h0, get_app h1] <;> exact rfl) ?_
    refine ow_op (by simp only [opd, zv, exOp, aop, LOp.loud, pop, zp, hX.isCell, hX.val, hU.isCell, hU.val, tokRows_len, Nat.zero_min, h0, h1, hL.len, hia, hk1', bne_self_eq_false, hfl, Bool.not_true, get_app h0, get_app h1] <;> exact rfl) ?_
    refine ow_nil ?_
    refine sk_n (by simp only [exports, zn, zg] <;> exact rfl) ?_
    skip
    refine cw_false (by simp only [opd, zv, hX.isCell, hX.val, hU.isCell, hU.val, tokRows_len, Nat.zero_min, h0, h1, hL.len, hia, hk1', bne_self_eq_false, hfl, Bool.not_true, get_app h0, get_app h1] <;> rfl) ?_
    refine cw_seq ?_
    refine cw_region ?_
    refine ow_op (by simp only [opd, zv, exOp, aop, LOp.loud, pop, zp, faddrD_ptr, faddrD_cptr, zm, hX.isCell, hX.val, hU.isCell, hU.val, tokRows_len, Nat.zero_min, h0, h1, hL.len, hia, hk1', bne_self_eq_false, hfl, Bool.not_true, get_app h0, get_app h1] <;> exact rfl) ?_
    refine ow_op (by simp only [opd, zv, exOp, aop, LOp.loud, lop, rowsOf, newAt, setAt, zh, zm, loadD_cptr, loadD_ptr, partD, List.take, List.drop, hX.isCell, hX.val, hU.isCell, hU.val, tokRows_len, Nat.zero_min, h0, h1, hL.len, hia, hk1', bne_self_eq_false, hfl, Bool.not_true, get_app h0, get_app h1] <;> exact rfl) ?_
    refine ow_op (by simp only [opd, zv, exOp, aop, LOp.loud, pop, zp, hX.isCell, hX.val, hU.isCell, hU.val, tokRows_len, Nat.zero_min, h0, h1, hL.len, hia, hk1', bne_self_eq_false, hfl, Bool.not_true, get_app h0, get_app h1] <;> exact rfl) ?_
    refine ow_op (by simp only [exOp, opd, zv, hX.isCell, hX.val, hU.isCell, hU.val, tokRows_len, Nat.zero_min, h0, h1, hL.len, hia, hk1', bne_self_eq_false, hfl, Bool.not_true, get_app h0, get_app h1]; exact containsFile_run (by omega) _ hX hfl6 30 [_] rfl (fun f => f.nm.toList == t.text.toList) (fun he r hr => by cases he; exact fil1_run (by omega) _ r _ _ 9 (by simp) (by simp))) ?_
    refine ow_op (by simp only [opd, zv, exOp, aop, LOp.loud, pop, zp, unD, hX.isCell, hX.val, hU.isCell, hU.val, tokRows_len, Nat.zero_min, h0, h1, hL.len, hia, hk1', bne_self_eq_false, hfl, Bool.not_true, get_app h0, get_app h1] <;> exact rfl) ?_
    refine ow_op (by simp only [opd, zv, exOp, aop, LOp.loud, pop, zp, hX.isCell, hX.val, hU.isCell, hU.val, tokRows_len, Nat.zero_min, h0, h1, hL.len, hia, hk1', bne_self_eq_false, hfl, Bool.not_true, get_app h0, get_app h1] <;> exact rfl) ?_
    refine ow_nil ?_
    refine sk_n (by simp only [exports, zn, zg] <;> exact rfl) ?_
    skip
    refine cw_false (by simp only [opd, zv, hX.isCell, hX.val, hU.isCell, hU.val, tokRows_len, Nat.zero_min, h0, h1, hL.len, hia, hk1', bne_self_eq_false, hfl, Bool.not_true, get_app h0, get_app h1] <;> rfl) ?_
    refine cw_seq ?_
    refine cw_region ?_
    refine ow_op (by simp only [opd, zv, exOp, aop, LOp.loud, pop, zp, hX.isCell, hX.val, hU.isCell, hU.val, tokRows_len, Nat.zero_min, h0, h1, hL.len, hia, hk1', bne_self_eq_false, hfl, Bool.not_true, get_app h0, get_app h1] <;> exact rfl) ?_
    refine ow_op (by simp only [opd, zv, exOp, aop, LOp.loud, lop, rowsOf, newAt, setAt, zh, zm, loadD_cptr, loadD_ptr, partD, List.take, List.drop, hX.isCell, hX.val, hU.isCell, hU.val, tokRows_len, Nat.zero_min, h0, h1, hL.len, hia, hk1', bne_self_eq_false, hfl, Bool.not_true, get_app h0, get_app h1] <;> exact rfl) ?_
    refine ow_op (by simp only [exOp, opd, zv, hX.isCell, hX.val, hU.isCell, hU.val, tokRows_len, Nat.zero_min, h0, h1, hL.len, hia, hk1', bne_self_eq_false, hfl, Bool.not_true, get_app h0, get_app h1]; exact (run_snap rfl (by simp only [snapVs, hA2.snapV, snapV_str] <;> exact rfl) (by simp only [snapVs, (appY_S 1 (strRows o)).snapV, snapV_str] <;> exact rfl)).trans (contains_run (by omega) _ (appY_S 1 (strRows o)) t.text (by omega))) ?_
    refine ow_op (by simp only [opd, zv, exOp, aop, LOp.loud, pop, zp, hX.isCell, hX.val, hU.isCell, hU.val, tokRows_len, Nat.zero_min, h0, h1, hL.len, hia, hk1', bne_self_eq_false, hfl, Bool.not_true, get_app h0, get_app h1] <;> exact rfl) ?_
    refine ow_split 0 (by simp only [opd, zv] <;> exact rfl) (by simp only [zn] <;> exact rfl) (by simp only [zn] <;> exact rfl) (fun hgAT => ?_) (fun hgAT => ?_)
    · skip -- ATT
      refine ow_off (b' := true) (by simp only [opd, zv]) rfl ?_
      refine ow_off (b' := true) (by simp only [opd, zv]) rfl ?_
      refine ow_off (b' := true) (by simp only [opd, zv]) rfl ?_
      refine ow_op (by simp only [opd, zv, exOp, aop, LOp.loud, pop, zp, hX.isCell, hX.val, hU.isCell, hU.val, tokRows_len, Nat.zero_min, h0, h1, hL.len, hia, hk1', bne_self_eq_false, hfl, Bool.not_true, get_app h0, get_app h1] <;> exact rfl) ?_
      refine ow_op (by simp only [opd, zv, exOp, aop, LOp.loud, pop, zp, hX.isCell, hX.val, hU.isCell, hU.val, tokRows_len, Nat.zero_min, h0, h1, hL.len, hia, hk1', bne_self_eq_false, hfl, Bool.not_true, get_app h0, get_app h1] <;> exact rfl) ?_
      refine ow_nil ?_
      refine sk_n (by simp only [exports, zn, zg] <;> exact rfl) ?_
      refine cw_true (by simp only [opd, zv, hX.isCell, hX.val, hU.isCell, hU.val, tokRows_len, Nat.zero_min, h0, h1, hL.len, hia, hk1', bne_self_eq_false, hfl, Bool.not_true, get_app h0, get_app h1]) ?_
      refine cw_seq ?_
      refine cw_region ?_
      refine ow_op (by simp only [opd, zv, exOp, aop, LOp.loud, pop, zp, hX.isCell, hX.val, hU.isCell, hU.val, tokRows_len, Nat.zero_min, h0, h1, hL.len, hia, hk1', bne_self_eq_false, hfl, Bool.not_true, get_app h0, get_app h1] <;> exact rfl) ?_
      refine ow_op (by simp only [opd, zv, exOp, aop, LOp.loud, pop, zp, hX.isCell, hX.val, hU.isCell, hU.val, tokRows_len, Nat.zero_min, h0, h1, hL.len, hia, hk1', bne_self_eq_false, hfl, Bool.not_true, get_app h0, get_app h1] <;> exact rfl) ?_
      refine ow_op (by simp only [exOp, opd, zv, hX.isCell, hX.val, hU.isCell, hU.val, tokRows_len, Nat.zero_min, h0, h1, hL.len, hia, hk1', bne_self_eq_false, hfl, Bool.not_true, get_app h0, get_app h1]; exact fault_run (by omega) _ 8 hL hY) ?_
      refine ow_op (by simp only [opd, zv, exOp, aop, LOp.loud, pop, zp, hX.isCell, hX.val, hU.isCell, hU.val, tokRows_len, Nat.zero_min, h0, h1, hL.len, hia, hk1', bne_self_eq_false, hfl, Bool.not_true, get_app h0, get_app h1] <;> exact rfl) ?_
      refine ow_op (by simp only [opd, zv, exOp, aop, LOp.loud, lop, rowsOf, newAt, setAt, zh, zm, storeD, overlay, snapVs, snaps, zs, zc, zf, List.take, List.drop, hX.isCell, hX.val, hU.isCell, hU.val, tokRows_len, Nat.zero_min, h0, h1, hL.len, hia, hk1', bne_self_eq_false, hfl, Bool.not_true, get_app h0, get_app h1] <;> exact rfl) ?_
      refine ow_nil ?_
      refine sk_n (by simp only [exports, zn, zg] <;> exact rfl) ?_
      refine cw_ret ?_
      refine bk_r ?_
      refine sk_r ?_
      refine bk_r ?_
      refine sk_r ?_
      refine lk_r ?_
      refine bk_r ?_
      refine sk_r ?_
      refine ⟨_, by simp only [F26, resultD, resDs, resD, List.getD_cons_zero, List.getD_cons_succ, loadD_cptr, loadD_ptr, rowsOf, partD, List.getElem?_cons_zero, List.getElem?_cons_succ, if_true, if_false, Bool.false_eq_true, List.take, List.drop, zm, hst] <;> exact rfl, ?_⟩
      rw [← hF, filesF, hgAT, Bool.true_or, if_pos rfl]
      simp only [leaveP, leave, snapVs, snaps, zs, zf, Option.map_some, List.all_cons, List.all_nil, Bool.and_self, Bool.and_true, if_true, if_false, Bool.false_eq_true, List.length_nil, Nat.le_refl, Nat.zero_le]
      rfl
    · skip -- ATF
      refine ow_on (by simp only [opd, zv]) ?_
      refine ow_op (by simp only [opd, zv, exOp, aop, LOp.loud, pop, zp, hX.isCell, hX.val, hU.isCell, hU.val, tokRows_len, Nat.zero_min, h0, h1, hL.len, hia, hk1', bne_self_eq_false, hfl, Bool.not_true, get_app h0, get_app h1] <;> exact rfl) ?_
      refine ow_on (by simp only [opd, zv]) ?_
      refine ow_op (by simp only [opd, zv, exOp, aop, LOp.loud, pop, zp, hX.isCell, hX.val, hU.isCell, hU.val, tokRows_len, Nat.zero_min, h0, h1, hL.len, hia, hk1', bne_self_eq_false, hfl, Bool.not_true, get_app h0, get_app h1] <;> exact rfl) ?_
      refine ow_on (by simp only [opd, zv]) ?_
      refine ow_op (by simp only [exOp, opd, zv, hX.isCell, hX.val, hU.isCell, hU.val, tokRows_len, Nat.zero_min, h0, h1, hL.len, hia, hk1', bne_self_eq_false, hfl, Bool.not_true, get_app h0, get_app h1]; exact containsFunc_run (by omega) _ hR hrl 31 [_] rfl (fun r => r.names.any fun x => t.text.toList == x.toList) (fun he r hr => by cases he; exact fil2_run (by omega) _ r _ _ 9 (by simp) (by simp))) ?_
      refine ow_op (by simp only [opd, zv, exOp, aop, LOp.loud, pop, zp, hX.isCell, hX.val, hU.isCell, hU.val, tokRows_len, Nat.zero_min, h0, h1, hL.len, hia, hk1', bne_self_eq_false, hfl, Bool.not_true, get_app h0, get_app h1] <;> exact rfl) ?_
      refine ow_op (by simp only [opd, zv, exOp, aop, LOp.loud, pop, zp, hX.isCell, hX.val, hU.isCell, hU.val, tokRows_len, Nat.zero_min, h0, h1, hL.len, hia, hk1', bne_self_eq_false, hfl, Bool.not_true, get_app h0, get_app h1] <;> exact rfl) ?_
      refine ow_nil ?_
      refine sk_n (by simp only [exports, zn, zg] <;> exact rfl) ?_
      refine cw_cond (by simp only [opd, zv, hX.isCell, hX.val, hU.isCell, hU.val, tokRows_len, Nat.zero_min, h0, h1, hL.len, hia, hk1', bne_self_eq_false, hfl, Bool.not_true, get_app h0, get_app h1] <;> exact rfl) (fun hcATF => ?_) (fun hcATF => ?_)
      · skip -- ATFT
        refine cw_seq ?_
        refine cw_region ?_
        refine ow_op (by simp only [opd, zv, exOp, aop, LOp.loud, pop, zp, hX.isCell, hX.val, hU.isCell, hU.val, tokRows_len, Nat.zero_min, h0, h1, hL.len, hia, hk1', bne_self_eq_false, hfl, Bool.not_true, get_app h0, get_app h1] <;> exact rfl) ?_
        refine ow_op (by simp only [opd, zv, exOp, aop, LOp.loud, pop, zp, hX.isCell, hX.val, hU.isCell, hU.val, tokRows_len, Nat.zero_min, h0, h1, hL.len, hia, hk1', bne_self_eq_false, hfl, Bool.not_true, get_app h0, get_app h1] <;> exact rfl) ?_
        refine ow_op (by simp only [exOp, opd, zv, hX.isCell, hX.val, hU.isCell, hU.val, tokRows_len, Nat.zero_min, h0, h1, hL.len, hia, hk1', bne_self_eq_false, hfl, Bool.not_true, get_app h0, get_app h1]; exact fault_run (by omega) _ 8 hL hY) ?_
        refine ow_op (by simp only [opd, zv, exOp, aop, LOp.loud, pop, zp, hX.isCell, hX.val, hU.isCell, hU.val, tokRows_len, Nat.zero_min, h0, h1, hL.len, hia, hk1', bne_self_eq_false, hfl, Bool.not_true, get_app h0, get_app h1] <;> exact rfl) ?_
        refine ow_op (by simp only [opd, zv, exOp, aop, LOp.loud, lop, rowsOf, newAt, setAt, zh, zm, storeD, overlay, snapVs, snaps, zs, zc, zf, List.take, List.drop, hX.isCell, hX.val, hU.isCell, hU.val, tokRows_len, Nat.zero_min, h0, h1, hL.len, hia, hk1', bne_self_eq_false, hfl, Bool.not_true, get_app h0, get_app h1] <;> exact rfl) ?_
        refine ow_nil ?_
        refine sk_n (by simp only [exports, zn, zg] <;> exact rfl) ?_
        refine cw_ret ?_
        refine bk_r ?_
        refine sk_r ?_
        refine bk_r ?_
        refine sk_r ?_
        refine lk_r ?_
        refine bk_r ?_
        refine sk_r ?_
        refine ⟨_, by simp only [F26, resultD, resDs, resD, List.getD_cons_zero, List.getD_cons_succ, loadD_cptr, loadD_ptr, rowsOf, partD, List.getElem?_cons_zero, List.getElem?_cons_succ, if_true, if_false, Bool.false_eq_true, List.take, List.drop, zm, hst] <;> exact rfl, ?_⟩
        rw [← hF, filesF, hgAT, Bool.false_or, show (rl.any fun r => r.names.any fun x => t.text.toList == x.toList) = true from hcATF, if_pos rfl]
        simp only [leaveP, leave, snapVs, snaps, zs, zf, Option.map_some, List.all_cons, List.all_nil, Bool.and_self, Bool.and_true, if_true, if_false, Bool.false_eq_true, List.length_nil, Nat.le_refl, Nat.zero_le]
        rfl
      · skip -- ATFF
        refine cw_skip ?_
        refine bk_n ?_
        refine sk_n rfl ?_
        refine cw_region ?_
        refine ow_op (by simp only [opd, zv, exOp, aop, LOp.loud, pop, zp, hX.isCell, hX.val, hU.isCell, hU.val, tokRows_len, Nat.zero_min, h0, h1, hL.len, hia, hk1', bne_self_eq_false, hfl, Bool.not_true, get_app h0, get_app h1] <;> exact rfl) ?_
        refine ow_op (by simp only [opd, zv, exOp, aop, LOp.loud, lop, rowsOf, newAt, setAt, zh, zm, loadD_cptr, loadD_ptr, partD, List.take, List.drop, hX.isCell, hX.val, hU.isCell, hU.val, tokRows_len, Nat.zero_min, h0, h1, hL.len, hia, hk1', bne_self_eq_false, hfl, Bool.not_true, get_app h0, get_app h1] <;> exact rfl) ?_
        refine ow_op (by simp only [opd, zv, exOp, aop, LOp.loud, lop, rowsOf, newAt, setAt, zh, zm, fillRows, List.replicate, snapVs, snaps, zs, zc, zf, hX.isCell, hX.val, hU.isCell, hU.val, tokRows_len, Nat.zero_min, h0, h1, hL.len, hia, hk1', bne_self_eq_false, hfl, Bool.not_true, get_app h0, get_app h1] <;> exact rfl) ?_
        refine ow_op (by simp only [opd, zv, exOp, aop, LOp.loud, lop, if_true]; exact hap) ?_
        refine ow_op (by simp only [opd, zv, exOp, aop, LOp.loud, pop, zp, hX.isCell, hX.val, hU.isCell, hU.val, tokRows_len, Nat.zero_min, h0, h1, hL.len, hia, hk1', bne_self_eq_false, hfl, Bool.not_true, get_app h0, get_app h1] <;> exact rfl) ?_
        refine ow_nil ?_
        refine bk_n ?_
        refine sk_n (by simp only [exports, zn, zg] <;> exact rfl) ?_
        refine cw_region ?_
        refine ow_op (by simp only [opd, zv, exOp, aop, LOp.loud, pop, zp, hX.isCell, hX.val, hU.isCell, hU.val, tokRows_len, Nat.zero_min, h0, h1, hL.len, hia, hk1', bne_self_eq_false, hfl, Bool.not_true, get_app h0, get_app h1] <;> exact rfl) ?_
        refine ow_op (by simp only [opd, zv, exOp, aop, LOp.loud, lop, sliceArgs, if_true, Option.map_some, hX.isCell, hX.val, hU.isCell, hU.val, tokRows_len, Nat.zero_min, h0, h1, hL.len, hia, hk1', bne_self_eq_false, hfl, Bool.not_true, get_app h0, get_app h1, hsl] <;> exact rfl) ?_
        refine ow_op (by simp only [opd, zv, exOp, aop, LOp.loud, pop, zp, hX.isCell, hX.val, hU.isCell, hU.val, tokRows_len, Nat.zero_min, h0, h1, hL.len, hia, hk1', bne_self_eq_false, hfl, Bool.not_true, get_app h0, get_app h1] <;> exact rfl) ?_
        refine ow_nil ?_
        refine lk_n (by simp only [exports, zn, zg] <;> exact rfl) ?_
        exact ⟨ts.length, by simp, H', o ++ [t.text], ts, _, ox', _, _, _, _, _, hk0, hk1, by rw [strRows_app]; exact hA', hL.drop 1, by rw [← hF, filesF, hgAT, Bool.false_or]; rw [show (rl.any fun r => r.names.any fun x => t.text.toList == x.toList) = false from hcATF]; rfl, fun t' h' => hT t' (List.mem_cons_of_mem _ h'), rfl, by simp at hn ⊢; omega, rfl, rfl⟩
  · skip -- AF
    obtain rfl : ts = [] := by
      cases ts with
      | nil => rfl
      | cons t l => simp only [tokRows_len, List.length_cons] at hcA; have := of_decide_eq_false hcA; omega
    refine cw_exit ?_
    refine sk_e ?_
    refine lk_e ?_
    refine bk_e ?_
    refine sk_n rfl ?_
    refine cw_seq ?_
    refine cw_region ?_
    refine ow_op (by simp only [opd, zv, exOp, aop, LOp.loud, pop, zp, hX.isCell, hX.val, hU.isCell, hU.val, tokRows_len, Nat.zero_min, h0, h1, hL.len, get_set_self h1] <;> exact rfl) ?_
    refine ow_op (by simp only [exOp, opd, zv, hX.isCell, hX.val, hU.isCell, hU.val, tokRows_len, Nat.zero_min, h0, h1, hL.len, get_set_self h1]; exact (run_snap rfl (by simp only [snapVs, hA.snapV] <;> exact rfl) (by simp only [snapVs, (appY_S 1 (strRows o)).snapV] <;> exact rfl)).trans (clip1_run (by omega) _ (appY_S 1 (strRows o)))) ?_
    refine ow_op (by simp only [opd, zv, exOp, aop, LOp.loud, pop, zp, fillD, overlay, zc, List.take, List.drop, Nat.reduceAdd, Nat.reduceLeDiff, Nat.reduceBEq, zm, hX.isCell, hX.val, hU.isCell, hU.val, tokRows_len, Nat.zero_min, h0, h1, hL.len, get_set_self h1] <;> exact rfl) ?_
    refine ow_op (by simp only [opd, zv, exOp, aop, LOp.loud, pop, zp, hX.isCell, hX.val, hU.isCell, hU.val, tokRows_len, Nat.zero_min, h0, h1, hL.len, get_set_self h1] <;> exact rfl) ?_
    refine ow_op (by simp only [opd, zv, exOp, aop, LOp.loud, lop, rowsOf, newAt, setAt, zh, zm, storeD, overlay, snapVs, snaps, zs, zc, zf, List.take, List.drop, hX.isCell, hX.val, hU.isCell, hU.val, tokRows_len, Nat.zero_min, h0, h1, hL.len, get_set_self h1] <;> exact rfl) ?_
    refine ow_nil ?_
    refine sk_n (by simp only [exports, zn, zg] <;> exact rfl) ?_
    refine cw_ret ?_
    refine ⟨_, by simp only [F26, resultD, resDs, resD, List.getD_cons_zero, List.getD_cons_succ, loadD_cptr, loadD_ptr, rowsOf, partD, List.getElem?_cons_zero, List.getElem?_cons_succ, if_true, if_false, Bool.false_eq_true, List.take, List.drop, zm, get_set_self h1] <;> exact rfl, ?_⟩
    rw [← hF]
    simp only [leaveP, leave, snapVs, snaps, zs, zf, Option.map_some, List.all_cons, List.all_nil, Bool.and_self, Bool.and_true, if_true, if_false, Bool.false_eq_true, List.length_nil, Nat.le_refl, Nat.zero_le, (appY_S 1 (strRows o)).clip.snapV, (appY_S 1 (strRows o)).clip.freeV, (appY_S 1 (strRows o)).clip.snap, (appY_S 1 (strRows o)).clip.free, (appY_S 1 (strRows o)).clip.snapR, (appY_S 1 (strRows o)).clip.freeR]
    rfl

theorem rule_ok {d : Nat} (hd : 7 ≤ d) (S : St) {fx ux rx tx y : D} {fl : List Fi} {rl : List Ru} {r : Tok} {rs : List Tok} {sec : ByteArray} {ur tr : List (List D)} (hX : SlD 12 (fiRows fl) fx) (hU : SlD 3 ur ux) (hR : SlD 3 (ruRows rl) rx) (hT : SlD 5 tr tx) (hY : SlD 5 (tokRows (r :: rs)) y) (hfl6 : fl.length ≤ 1000000) (hrl : rl.length ≤ 1000000) (hk : r.kind = 1) (hh : ∀ (d : Nat) (S : St), 4 ≤ d → runF LP NN d 21 [tx] S = some (.tup [y, .bool true], S, false)) (hm0 : modeW r.text ≠ 0) (hrs : rs = []) (hz : (rl.any fun q => (q.mode : Int) == (modeW r.text : Int)) = false) :
    runF LP NN d 14 [progD fx ux, rx, .agg [.str sec, tx, .nils]] S = some (.tup [.agg [.str sec, .nils, .int .u8 (modeW r.text)], .agg [.int .i64 0, .int .i64 0, .int .i64 0]], S, false) := by
  unfold progD
  have hia := fun (S : St) => hY.iaddr S .i64 (i := 0) (by omega) (tokRows_0 r rs)
  have hm : ((modeW r.text : Int) != 0) = true := by simp; omega
  have hl1 : decide ((((r :: rs).length : Nat) : Int) > 1) = false := by subst hrs; rfl
  refine run_pure (F := F14) rfl (by simp only [LP, fnOf, snapVs, snaps, zs, Bool.false_eq_true, if_false, Option.map_some, List.map_cons, List.map_nil, hX.snap, hX.free, hU.snap, hU.free, hR.snapV, hR.freeV, hT.snap, hT.free] <;> exact rfl) rfl (by simp only [LP, zf, List.all_cons, List.all_nil, Bool.and_true, Bool.true_and, hX.snap, hX.free, hU.snap, hU.free, hR.snapV, hR.freeV, hT.snap, hT.free]; try rfl) (by simp only [F14, zv] <;> exact rfl) (by omega) ?_
  rintro d rfl
  refine cw_seq ?_
  refine cw_region ?_
  refine ow_op (by simp only [opd, zv, exOp, aop, LOp.loud, lop, rowsOf, newAt, setAt, zh, zm, zc, hX.isCell, hX.val, hU.isCell, hU.val, hT.isCell, hT.val, hY.len, tokRows_len, hia, hk, beq_self_eq_true, Bool.not_true, mapget_modes, plainV_int, Nat.zero_min, hm, hz, hl1] <;> exact rfl) ?_
  refine ow_op (by simp only [opd, zv, exOp, aop, LOp.loud, lop, rowsOf, newAt, setAt, zh, zm, zc, hX.isCell, hX.val, hU.isCell, hU.val, hT.isCell, hT.val, hY.len, tokRows_len, hia, hk, beq_self_eq_true, Bool.not_true, mapget_modes, plainV_int, Nat.zero_min, hm, hz, hl1] <;> exact rfl) ?_
  refine ow_op (by simp only [opd, zv, exOp, aop, LOp.loud, lop, rowsOf, newAt, setAt, zh, zm, hX.isCell, hX.val, hU.isCell, hU.val, hT.isCell, hT.val, hY.len, tokRows_len, hia, hk, beq_self_eq_true, Bool.not_true, mapget_modes, plainV_int, Nat.zero_min, hm, hz, hl1] <;> exact rfl) ?_
  refine ow_op (by simp only [opd, zv, exOp, aop, LOp.loud, lop, rowsOf, newAt, setAt, zh, zm, hX.isCell, hX.val, hU.isCell, hU.val, hT.isCell, hT.val, hY.len, tokRows_len, hia, hk, beq_self_eq_true, Bool.not_true, mapget_modes, plainV_int, Nat.zero_min, hm, hz, hl1] <;> exact rfl) ?_
  refine ow_nil ?_
  refine sk_n (by simp only [exports, zn, zg] <;> exact rfl) ?_
  refine cw_seq ?_
  refine cw_region ?_
  refine ow_op (by simp only [opd, zv, exOp, aop, LOp.loud, pop, zp, faddrD_ptr, faddrD_cptr, zm, hX.isCell, hX.val, hU.isCell, hU.val, hT.isCell, hT.val, hY.len, tokRows_len, hia, hk, beq_self_eq_true, Bool.not_true, mapget_modes, plainV_int, Nat.zero_min, hm, hz, hl1] <;> exact rfl) ?_
  refine ow_op (by simp only [opd, zv, exOp, aop, LOp.loud, lop, rowsOf, newAt, setAt, zh, zm, loadD_cptr, loadD_ptr, partD, List.take, List.drop, hX.isCell, hX.val, hU.isCell, hU.val, hT.isCell, hT.val, hY.len, tokRows_len, hia, hk, beq_self_eq_true, Bool.not_true, mapget_modes, plainV_int, Nat.zero_min, hm, hz, hl1] <;> exact rfl) ?_
  refine ow_op (by simp only [exOp, opd, zv, hX.isCell, hX.val, hU.isCell, hU.val, hT.isCell, hT.val, hY.len, tokRows_len, hia, hk, beq_self_eq_true, Bool.not_true, mapget_modes, plainV_int, Nat.zero_min, hm, hz, hl1]; exact hh _ _ (by omega)) ?_
  refine ow_op (by simp only [opd, zv, exOp, aop, LOp.loud, pop, zp, hX.isCell, hX.val, hU.isCell, hU.val, hT.isCell, hT.val, hY.len, tokRows_len, hia, hk, beq_self_eq_true, Bool.not_true, mapget_modes, plainV_int, Nat.zero_min, hm, hz, hl1] <;> exact rfl) ?_
  refine ow_op (by simp only [opd, zv, exOp, aop, LOp.loud, pop, zp, List.getElem?_cons_zero, List.getElem?_cons_succ, hX.isCell, hX.val, hU.isCell, hU.val, hT.isCell, hT.val, hY.len, tokRows_len, hia, hk, beq_self_eq_true, Bool.not_true, mapget_modes, plainV_int, Nat.zero_min, hm, hz, hl1] <;> exact rfl) ?_
  refine ow_op (by simp only [opd, zv, exOp, aop, LOp.loud, pop, zp, List.getElem?_cons_zero, List.getElem?_cons_succ, hX.isCell, hX.val, hU.isCell, hU.val, hT.isCell, hT.val, hY.len, tokRows_len, hia, hk, beq_self_eq_true, Bool.not_true, mapget_modes, plainV_int, Nat.zero_min, hm, hz, hl1] <;> exact rfl) ?_
  refine ow_op (by simp only [opd, zv, exOp, aop, LOp.loud, pop, zp, hX.isCell, hX.val, hU.isCell, hU.val, hT.isCell, hT.val, hY.len, tokRows_len, hia, hk, beq_self_eq_true, Bool.not_true, mapget_modes, plainV_int, Nat.zero_min, hm, hz, hl1] <;> exact rfl) ?_
  refine ow_op (by simp only [opd, zv, exOp, aop, LOp.loud, pop, zp, hX.isCell, hX.val, hU.isCell, hU.val, hT.isCell, hT.val, hY.len, tokRows_len, hia, hk, beq_self_eq_true, Bool.not_true, mapget_modes, plainV_int, Nat.zero_min, hm, hz, hl1] <;> exact rfl) ?_
  refine ow_nil ?_
  refine sk_n (by simp only [exports, zn, zg] <;> exact rfl) ?_
  refine cw_seq ?_
  refine cw_seq ?_
  refine cw_region ?_
  refine ow_op (by simp only [opd, zv, exOp, aop, LOp.loud, pop, zp, hX.isCell, hX.val, hU.isCell, hU.val, hT.isCell, hT.val, hY.len, tokRows_len, hia, hk, beq_self_eq_true, Bool.not_true, mapget_modes, plainV_int, Nat.zero_min, hm, hz, hl1] <;> exact rfl) ?_
  refine ow_op (by simp only [opd, zv, exOp, aop, LOp.loud, pop, zp, unD, hX.isCell, hX.val, hU.isCell, hU.val, hT.isCell, hT.val, hY.len, tokRows_len, hia, hk, beq_self_eq_true, Bool.not_true, mapget_modes, plainV_int, Nat.zero_min, hm, hz, hl1] <;> exact rfl) ?_
  refine ow_nil ?_
  refine sk_n (by simp only [exports, zn, zg] <;> exact rfl) ?_
  skip
  refine cw_false (by simp only [opd, zv, hX.isCell, hX.val, hU.isCell, hU.val, hT.isCell, hT.val, hY.len, tokRows_len, hia, hk, beq_self_eq_true, Bool.not_true, mapget_modes, plainV_int, Nat.zero_min, hm, hz, hl1] <;> rfl) ?_
  refine cw_skip ?_
  refine sk_n rfl ?_
  refine cw_seq ?_
  refine cw_seq ?_
  refine cw_drawn (by simp only [newsVals, List.length_nil, List.length_cons, List.range_succ, List.range_zero, List.nil_append, List.map_nil, List.reverse_nil, List.cons_append, List.map_cons, List.reverse_cons, Nat.zero_add, Nat.add_zero, Nat.reduceAdd] <;> exact rfl) (by simp only [List.map_nil, List.map_cons, newsObj, St.eta, List.append_nil, List.cons_append, List.nil_append, List.length_cons, List.length_nil] <;> exact rfl) ?_
  refine dw_op (by simp only [exOp, opd, zv, hX.isCell, hX.val, hU.isCell, hU.val, hT.isCell, hT.val, hY.len, tokRows_len, hia, hk, beq_self_eq_true, Bool.not_true, mapget_modes, plainV_int, Nat.zero_min, hm, hz, hl1]; exact modes_run (by omega) _) (by simp only [fpHere, opd, List.map_cons, List.map_nil, List.getD_cons_zero, List.getD_cons_succ, zq, plainV_int, hY.fpi] <;> exact rfl) rfl ?_
  refine dw_quiet (by simp only [opd, zv, exOp, aop, LOp.loud, pop, zp, hX.isCell, hX.val, hU.isCell, hU.val, hT.isCell, hT.val, hY.len, tokRows_len, hia, hk, beq_self_eq_true, Bool.not_true, mapget_modes, plainV_int, Nat.zero_min, hm, hz, hl1] <;> exact rfl) rfl rfl ?_
  refine dw_op (by simp only [opd, zv, exOp, aop, LOp.loud, lop, rowsOf, newAt, setAt, zh, zm, iaddrD_sl, iaddrD_msl, Int.toNat_natCast, Int.toNat_zero, List.getElem?_map, Option.map_some, Int.le_refl, hX.isCell, hX.val, hU.isCell, hU.val, hT.isCell, hT.val, hY.len, tokRows_len, hia, hk, beq_self_eq_true, Bool.not_true, mapget_modes, plainV_int, Nat.zero_min, hm, hz, hl1] <;> exact rfl) (by simp only [fpHere, opd, List.map_cons, List.map_nil, List.getD_cons_zero, List.getD_cons_succ, zq, plainV_int, hY.fpi] <;> exact rfl) rfl ?_
  refine dw_quiet (by simp only [opd, zv, exOp, aop, LOp.loud, pop, zp, faddrD_ptr, faddrD_cptr, zm, hX.isCell, hX.val, hU.isCell, hU.val, hT.isCell, hT.val, hY.len, tokRows_len, hia, hk, beq_self_eq_true, Bool.not_true, mapget_modes, plainV_int, Nat.zero_min, hm, hz, hl1] <;> exact rfl) rfl rfl ?_
  refine dw_op (by simp only [opd, zv, exOp, aop, LOp.loud, lop, rowsOf, newAt, setAt, zh, zm, loadD_cptr, loadD_ptr, partD, List.take, List.drop, hX.isCell, hX.val, hU.isCell, hU.val, hT.isCell, hT.val, hY.len, tokRows_len, hia, hk, beq_self_eq_true, Bool.not_true, mapget_modes, plainV_int, Nat.zero_min, hm, hz, hl1] <;> exact rfl) (by simp only [fpHere, opd, List.map_cons, List.map_nil, List.getD_cons_zero, List.getD_cons_succ, zq, plainV_int, hY.fpi] <;> exact rfl) rfl ?_
  refine dw_op (by simp only [opd, zv, exOp, aop, LOp.loud, lop, if_true, Option.map_some, hX.isCell, hX.val, hU.isCell, hU.val, hT.isCell, hT.val, hY.len, tokRows_len, hia, hk, beq_self_eq_true, Bool.not_true, mapget_modes, plainV_int, Nat.zero_min, hm, hz, hl1] <;> exact rfl) (by simp only [fpHere, opd, List.map_cons, List.map_nil, List.getD_cons_zero, List.getD_cons_succ, zq, plainV_int, hY.fpi] <;> exact rfl) rfl ?_
  refine dw_op (by simp only [opd, zv, exOp, aop, LOp.loud, pop, zp, hX.isCell, hX.val, hU.isCell, hU.val, hT.isCell, hT.val, hY.len, tokRows_len, hia, hk, beq_self_eq_true, Bool.not_true, mapget_modes, plainV_int, Nat.zero_min, hm, hz, hl1] <;> exact rfl) rfl rfl ?_
  refine dw_op (by simp only [opd, zv, exOp, aop, LOp.loud, lop, rowsOf, newAt, setAt, zh, zm, storeD, overlay, snapVs, snaps, zs, zc, zf, List.take, List.drop, hX.isCell, hX.val, hU.isCell, hU.val, hT.isCell, hT.val, hY.len, tokRows_len, hia, hk, beq_self_eq_true, Bool.not_true, mapget_modes, plainV_int, Nat.zero_min, hm, hz, hl1] <;> exact rfl) (by simp only [fpHere, opd, List.map_cons, List.map_nil, List.getD_cons_zero, List.getD_cons_succ, zq, plainV_int, hY.fpi] <;> exact rfl) rfl ?_
  refine dw_nil ?_
  refine sk_n (by simp only [exports, zn, zg] <;> exact rfl) ?_
  refine cw_seq ?_
  refine cw_region ?_
  refine ow_op (by simp only [opd, zv, exOp, aop, LOp.loud, pop, zp, hX.isCell, hX.val, hU.isCell, hU.val, hT.isCell, hT.val, hY.len, tokRows_len, hia, hk, beq_self_eq_true, Bool.not_true, mapget_modes, plainV_int, Nat.zero_min, hm, hz, hl1] <;> exact rfl) ?_
  refine ow_op (by simp only [opd, zv, exOp, aop, LOp.loud, lop, rowsOf, newAt, setAt, zh, zm, iaddrD_sl, iaddrD_msl, Int.toNat_natCast, Int.toNat_zero, List.getElem?_map, Option.map_some, Int.le_refl, hX.isCell, hX.val, hU.isCell, hU.val, hT.isCell, hT.val, hY.len, tokRows_len, hia, hk, beq_self_eq_true, Bool.not_true, mapget_modes, plainV_int, Nat.zero_min, hm, hz, hl1] <;> exact rfl) ?_
  refine ow_op (by simp only [opd, zv, exOp, aop, LOp.loud, pop, zp, faddrD_ptr, faddrD_cptr, zm, hX.isCell, hX.val, hU.isCell, hU.val, hT.isCell, hT.val, hY.len, tokRows_len, hia, hk, beq_self_eq_true, Bool.not_true, mapget_modes, plainV_int, Nat.zero_min, hm, hz, hl1] <;> exact rfl) ?_
  refine ow_op (by simp only [opd, zv, exOp, aop, LOp.loud, lop, rowsOf, newAt, setAt, zh, zm, loadD_cptr, loadD_ptr, partD, List.take, List.drop, hX.isCell, hX.val, hU.isCell, hU.val, hT.isCell, hT.val, hY.len, tokRows_len, hia, hk, beq_self_eq_true, Bool.not_true, mapget_modes, plainV_int, Nat.zero_min, hm, hz, hl1] <;> exact rfl) ?_
  refine ow_op (by simp only [opd, zv, exOp, aop, LOp.loud, pop, zp, binD, eq_self, ne_eq, not_false_eq_true, true_and, Int.reduceEq, ite_true, ite_false, not_true_eq_false, Int.reduceToNat, Int.reduceLT, hX.isCell, hX.val, hU.isCell, hU.val, hT.isCell, hT.val, hY.len, tokRows_len, hia, hk, beq_self_eq_true, Bool.not_true, mapget_modes, plainV_int, Nat.zero_min, hm, hz, hl1] <;> exact rfl) ?_
  refine ow_op (by simp only [opd, zv, exOp, aop, LOp.loud, pop, zp, hX.isCell, hX.val, hU.isCell, hU.val, hT.isCell, hT.val, hY.len, tokRows_len, hia, hk, beq_self_eq_true, Bool.not_true, mapget_modes, plainV_int, Nat.zero_min, hm, hz, hl1] <;> exact rfl) ?_
  refine ow_know 0 (b := true) (by simp only [opd, zv, hX.isCell, hX.val, hU.isCell, hU.val, hT.isCell, hT.val, hY.len, tokRows_len, hia, hk, beq_self_eq_true, Bool.not_true, mapget_modes, plainV_int, Nat.zero_min, hm, hz, hl1] <;> rfl) (by simp only [zn] <;> exact rfl) ?_
  refine ow_on (by simp only [opd, zv]) ?_
  refine ow_op (by simp only [opd, zv, exOp, aop, LOp.loud, lop, rowsOf, newAt, setAt, zh, zm, loadD_cptr, loadD_ptr, partD, List.take, List.drop, hX.isCell, hX.val, hU.isCell, hU.val, hT.isCell, hT.val, hY.len, tokRows_len, hia, hk, beq_self_eq_true, Bool.not_true, mapget_modes, plainV_int, Nat.zero_min, hm, hz, hl1] <;> exact rfl) ?_
  refine ow_on (by simp only [opd, zv]) ?_
  refine ow_op (by simp only [opd, zv, exOp, aop, LOp.loud, pop, zp, binD, eq_self, ne_eq, not_false_eq_true, true_and, Int.reduceEq, ite_true, ite_false, not_true_eq_false, Int.reduceToNat, Int.reduceLT, hX.isCell, hX.val, hU.isCell, hU.val, hT.isCell, hT.val, hY.len, tokRows_len, hia, hk, beq_self_eq_true, Bool.not_true, mapget_modes, plainV_int, Nat.zero_min, hm, hz, hl1] <;> exact rfl) ?_
  refine ow_op (by simp only [opd, zv, exOp, aop, LOp.loud, pop, zp, hX.isCell, hX.val, hU.isCell, hU.val, hT.isCell, hT.val, hY.len, tokRows_len, hia, hk, beq_self_eq_true, Bool.not_true, mapget_modes, plainV_int, Nat.zero_min, hm, hz, hl1] <;> exact rfl) ?_
  refine ow_nil ?_
  refine sk_n (by simp only [exports, zn, zg] <;> exact rfl) ?_
  skip
  refine cw_true (by simp only [opd, zv, hX.isCell, hX.val, hU.isCell, hU.val, hT.isCell, hT.val, hY.len, tokRows_len, hia, hk, beq_self_eq_true, Bool.not_true, mapget_modes, plainV_int, Nat.zero_min, hm, hz, hl1] <;> rfl) ?_
  refine cw_seq ?_
  refine cw_seq ?_
  refine cw_region ?_
  refine ow_op (by simp only [opd, zv, exOp, aop, LOp.loud, pop, zp, hX.isCell, hX.val, hU.isCell, hU.val, hT.isCell, hT.val, hY.len, tokRows_len, hia, hk, beq_self_eq_true, Bool.not_true, mapget_modes, plainV_int, Nat.zero_min, hm, hz, hl1] <;> exact rfl) ?_
  refine ow_op (by simp only [opd, zv, exOp, aop, LOp.loud, pop, zp, hX.isCell, hX.val, hU.isCell, hU.val, hT.isCell, hT.val, hY.len, tokRows_len, hia, hk, beq_self_eq_true, Bool.not_true, mapget_modes, plainV_int, Nat.zero_min, hm, hz, hl1] <;> exact rfl) ?_
  refine ow_op (by simp only [exOp, opd, zv, hX.isCell, hX.val, hU.isCell, hU.val, hT.isCell, hT.val, hY.len, tokRows_len, hia, hk, beq_self_eq_true, Bool.not_true, mapget_modes, plainV_int, Nat.zero_min, hm, hz, hl1]; exact containsFunc_run (by omega) _ hR hrl 25 [_] rfl (fun q => (q.mode : Int) == (modeW r.text : Int)) (fun he q hq => by cases he; exact rul1_run (by omega) _ q _ _ 45 (by simp) (by simp))) ?_
  refine ow_nil ?_
  refine sk_n (by simp only [exports, zn, zg] <;> exact rfl) ?_
  skip
  refine cw_false (by simp only [opd, zv, hX.isCell, hX.val, hU.isCell, hU.val, hT.isCell, hT.val, hY.len, tokRows_len, hia, hk, beq_self_eq_true, Bool.not_true, mapget_modes, plainV_int, Nat.zero_min, hm, hz, hl1] <;> rfl) ?_
  refine cw_skip ?_
  refine sk_n rfl ?_
  refine cw_seq ?_
  refine cw_seq ?_
  refine cw_region ?_
  refine ow_op (by simp only [opd, zv, exOp, aop, LOp.loud, pop, zp, hX.isCell, hX.val, hU.isCell, hU.val, hT.isCell, hT.val, hY.len, tokRows_len, hia, hk, beq_self_eq_true, Bool.not_true, mapget_modes, plainV_int, Nat.zero_min, hm, hz, hl1] <;> exact rfl) ?_
  refine ow_op (by simp only [opd, zv, exOp, aop, LOp.loud, pop, zp, lenD_str, lenD_nils, lenD_sl, lenD_msl, hX.isCell, hX.val, hU.isCell, hU.val, hT.isCell, hT.val, hY.len, tokRows_len, hia, hk, beq_self_eq_true, Bool.not_true, mapget_modes, plainV_int, Nat.zero_min, hm, hz, hl1] <;> exact rfl) ?_
  refine ow_op (by simp only [opd, zv, exOp, aop, LOp.loud, pop, zp, binD, eq_self, ne_eq, not_false_eq_true, true_and, Int.reduceEq, ite_true, ite_false, not_true_eq_false, Int.reduceToNat, Int.reduceLT, hX.isCell, hX.val, hU.isCell, hU.val, hT.isCell, hT.val, hY.len, tokRows_len, hia, hk, beq_self_eq_true, Bool.not_true, mapget_modes, plainV_int, Nat.zero_min, hm, hz, hl1] <;> exact rfl) ?_
  refine ow_nil ?_
  refine sk_n (by simp only [exports, zn, zg] <;> exact rfl) ?_
  skip
  refine cw_false (by simp only [opd, zv, hX.isCell, hX.val, hU.isCell, hU.val, hT.isCell, hT.val, hY.len, tokRows_len, hia, hk, beq_self_eq_true, Bool.not_true, mapget_modes, plainV_int, Nat.zero_min, hm, hz, hl1] <;> rfl) ?_
  refine cw_skip ?_
  refine sk_n rfl ?_
  refine cw_seq ?_
  refine cw_region ?_
  refine ow_op (by simp only [opd, zv, exOp, aop, LOp.loud, pop, zp, faddrD_ptr, faddrD_cptr, zm, hX.isCell, hX.val, hU.isCell, hU.val, hT.isCell, hT.val, hY.len, tokRows_len, hia, hk, beq_self_eq_true, Bool.not_true, mapget_modes, plainV_int, Nat.zero_min, hm, hz, hl1] <;> exact rfl) ?_
  refine ow_op (by simp only [opd, zv, exOp, aop, LOp.loud, lop, rowsOf, newAt, setAt, zh, zm, loadD_cptr, loadD_ptr, partD, List.take, List.drop, hX.isCell, hX.val, hU.isCell, hU.val, hT.isCell, hT.val, hY.len, tokRows_len, hia, hk, beq_self_eq_true, Bool.not_true, mapget_modes, plainV_int, Nat.zero_min, hm, hz, hl1] <;> exact rfl) ?_
  refine ow_op (by simp only [opd, zv, exOp, aop, LOp.loud, lop, rowsOf, newAt, setAt, zh, zm, loadD_cptr, loadD_ptr, partD, List.take, List.drop, hX.isCell, hX.val, hU.isCell, hU.val, hT.isCell, hT.val, hY.len, tokRows_len, hia, hk, beq_self_eq_true, Bool.not_true, mapget_modes, plainV_int, Nat.zero_min, hm, hz, hl1] <;> exact rfl) ?_
  refine ow_op (by simp only [opd, zv, exOp, aop, LOp.loud, pop, zp, fillD, overlay, zc, List.take, List.drop, Nat.reduceAdd, Nat.reduceLeDiff, Nat.reduceBEq, zm, hX.isCell, hX.val, hU.isCell, hU.val, hT.isCell, hT.val, hY.len, tokRows_len, hia, hk, beq_self_eq_true, Bool.not_true, mapget_modes, plainV_int, Nat.zero_min, hm, hz, hl1] <;> exact rfl) ?_
  refine ow_op (by simp only [opd, zv, exOp, aop, LOp.loud, pop, zp, fillD, overlay, zc, List.take, List.drop, Nat.reduceAdd, Nat.reduceLeDiff, Nat.reduceBEq, zm, hX.isCell, hX.val, hU.isCell, hU.val, hT.isCell, hT.val, hY.len, tokRows_len, hia, hk, beq_self_eq_true, Bool.not_true, mapget_modes, plainV_int, Nat.zero_min, hm, hz, hl1] <;> exact rfl) ?_
  refine ow_op (by simp only [opd, zv, exOp, aop, LOp.loud, lop, rowsOf, newAt, setAt, zh, zm, storeD, overlay, snapVs, snaps, zs, zc, zf, List.take, List.drop, hX.isCell, hX.val, hU.isCell, hU.val, hT.isCell, hT.val, hY.len, tokRows_len, hia, hk, beq_self_eq_true, Bool.not_true, mapget_modes, plainV_int, Nat.zero_min, hm, hz, hl1] <;> exact rfl) ?_
  refine ow_op (by simp only [opd, zv, exOp, aop, LOp.loud, lop, rowsOf, newAt, setAt, zh, zm, storeD, overlay, snapVs, snaps, zs, zc, zf, List.take, List.drop, hX.isCell, hX.val, hU.isCell, hU.val, hT.isCell, hT.val, hY.len, tokRows_len, hia, hk, beq_self_eq_true, Bool.not_true, mapget_modes, plainV_int, Nat.zero_min, hm, hz, hl1] <;> exact rfl) ?_
  refine ow_nil ?_
  refine sk_n (by simp only [exports, zn, zg] <;> exact rfl) ?_
  refine cw_ret ?_
  refine sk_r ?_
  refine ⟨_, by simp only [F14, resultD, resDs, resD, List.getD_cons_zero, List.getD_cons_succ, loadD_cptr, loadD_ptr, rowsOf, partD, List.getElem?_cons_zero, List.getElem?_cons_succ, if_true, if_false, Bool.false_eq_true, List.take, List.drop, zm] <;> exact rfl, ?_⟩
  simp only [leaveP, leave, snapVs, snaps, zs, zf, Option.map_some, List.all_cons, List.all_nil, Bool.and_self, Bool.and_true, if_true, if_false, Bool.false_eq_true, List.length_nil, Nat.le_refl, Nat.zero_le]

theorem rule_dup {d : Nat} (hd : 7 ≤ d) (S : St) {fx ux rx tx y : D} {fl : List Fi} {rl : List Ru} {r : Tok} {rs : List Tok} {sec : ByteArray} {ur tr : List (List D)} (hX : SlD 12 (fiRows fl) fx) (hU : SlD 3 ur ux) (hR : SlD 3 (ruRows rl) rx) (hT : SlD 5 tr tx) (hY : SlD 5 (tokRows (r :: rs)) y) (hfl6 : fl.length ≤ 1000000) (hrl : rl.length ≤ 1000000) (hk : r.kind = 1) (hh : ∀ (d : Nat) (S : St), 4 ≤ d → runF LP NN d 21 [tx] S = some (.tup [y, .bool true], S, false)) (hm0 : modeW r.text ≠ 0) (hz : (rl.any fun q => (q.mode : Int) == (modeW r.text : Int)) = true) :
    runF LP NN d 14 [progD fx ux, rx, .agg [.str sec, tx, .nils]] S = some (.tup [.agg [.str ⟨#[]⟩, .nils, .int .u8 0], .agg [.int .i64 8, .int .i64 r.line, .int .i64 r.col]], S, false) := by
  unfold progD
  have hia := fun (S : St) => hY.iaddr S .i64 (i := 0) (by omega) (tokRows_0 r rs)
  have hm : ((modeW r.text : Int) != 0) = true := by simp; omega
  refine run_pure (F := F14) rfl (by simp only [LP, fnOf, snapVs, snaps, zs, Bool.false_eq_true, if_false, Option.map_some, List.map_cons, List.map_nil, hX.snap, hX.free, hU.snap, hU.free, hR.snapV, hR.freeV, hT.snap, hT.free] <;> exact rfl) rfl (by simp only [LP, zf, List.all_cons, List.all_nil, Bool.and_true, Bool.true_and, hX.snap, hX.free, hU.snap, hU.free, hR.snapV, hR.freeV, hT.snap, hT.free]; try rfl) (by simp only [F14, zv] <;> exact rfl) (by omega) ?_
  rintro d rfl
  refine cw_seq ?_
  refine cw_region ?_
  refine ow_op (by simp only [opd, zv, exOp, aop, LOp.loud, lop, rowsOf, newAt, setAt, zh, zm, zc, hX.isCell, hX.val, hU.isCell, hU.val, hT.isCell, hT.val, hY.len, tokRows_len, hia, hk, beq_self_eq_true, Bool.not_true, mapget_modes, plainV_int, Nat.zero_min, hm, hz] <;> exact rfl) ?_
  refine ow_op (by simp only [opd, zv, exOp, aop, LOp.loud, lop, rowsOf, newAt, setAt, zh, zm, zc, hX.isCell, hX.val, hU.isCell, hU.val, hT.isCell, hT.val, hY.len, tokRows_len, hia, hk, beq_self_eq_true, Bool.not_true, mapget_modes, plainV_int, Nat.zero_min, hm, hz] <;> exact rfl) ?_
  refine ow_op (by simp only [opd, zv, exOp, aop, LOp.loud, lop, rowsOf, newAt, setAt, zh, zm, hX.isCell, hX.val, hU.isCell, hU.val, hT.isCell, hT.val, hY.len, tokRows_len, hia, hk, beq_self_eq_true, Bool.not_true, mapget_modes, plainV_int, Nat.zero_min, hm, hz] <;> exact rfl) ?_
  refine ow_op (by simp only [opd, zv, exOp, aop, LOp.loud, lop, rowsOf, newAt, setAt, zh, zm, hX.isCell, hX.val, hU.isCell, hU.val, hT.isCell, hT.val, hY.len, tokRows_len, hia, hk, beq_self_eq_true, Bool.not_true, mapget_modes, plainV_int, Nat.zero_min, hm, hz] <;> exact rfl) ?_
  refine ow_nil ?_
  refine sk_n (by simp only [exports, zn, zg] <;> exact rfl) ?_
  refine cw_seq ?_
  refine cw_region ?_
  refine ow_op (by simp only [opd, zv, exOp, aop, LOp.loud, pop, zp, faddrD_ptr, faddrD_cptr, zm, hX.isCell, hX.val, hU.isCell, hU.val, hT.isCell, hT.val, hY.len, tokRows_len, hia, hk, beq_self_eq_true, Bool.not_true, mapget_modes, plainV_int, Nat.zero_min, hm, hz] <;> exact rfl) ?_
  refine ow_op (by simp only [opd, zv, exOp, aop, LOp.loud, lop, rowsOf, newAt, setAt, zh, zm, loadD_cptr, loadD_ptr, partD, List.take, List.drop, hX.isCell, hX.val, hU.isCell, hU.val, hT.isCell, hT.val, hY.len, tokRows_len, hia, hk, beq_self_eq_true, Bool.not_true, mapget_modes, plainV_int, Nat.zero_min, hm, hz] <;> exact rfl) ?_
  refine ow_op (by simp only [exOp, opd, zv, hX.isCell, hX.val, hU.isCell, hU.val, hT.isCell, hT.val, hY.len, tokRows_len, hia, hk, beq_self_eq_true, Bool.not_true, mapget_modes, plainV_int, Nat.zero_min, hm, hz]; exact hh _ _ (by omega)) ?_
  refine ow_op (by simp only [opd, zv, exOp, aop, LOp.loud, pop, zp, hX.isCell, hX.val, hU.isCell, hU.val, hT.isCell, hT.val, hY.len, tokRows_len, hia, hk, beq_self_eq_true, Bool.not_true, mapget_modes, plainV_int, Nat.zero_min, hm, hz] <;> exact rfl) ?_
  refine ow_op (by simp only [opd, zv, exOp, aop, LOp.loud, pop, zp, List.getElem?_cons_zero, List.getElem?_cons_succ, hX.isCell, hX.val, hU.isCell, hU.val, hT.isCell, hT.val, hY.len, tokRows_len, hia, hk, beq_self_eq_true, Bool.not_true, mapget_modes, plainV_int, Nat.zero_min, hm, hz] <;> exact rfl) ?_
  refine ow_op (by simp only [opd, zv, exOp, aop, LOp.loud, pop, zp, List.getElem?_cons_zero, List.getElem?_cons_succ, hX.isCell, hX.val, hU.isCell, hU.val, hT.isCell, hT.val, hY.len, tokRows_len, hia, hk, beq_self_eq_true, Bool.not_true, mapget_modes, plainV_int, Nat.zero_min, hm, hz] <;> exact rfl) ?_
  refine ow_op (by simp only [opd, zv, exOp, aop, LOp.loud, pop, zp, hX.isCell, hX.val, hU.isCell, hU.val, hT.isCell, hT.val, hY.len, tokRows_len, hia, hk, beq_self_eq_true, Bool.not_true, mapget_modes, plainV_int, Nat.zero_min, hm, hz] <;> exact rfl) ?_
  refine ow_op (by simp only [opd, zv, exOp, aop, LOp.loud, pop, zp, hX.isCell, hX.val, hU.isCell, hU.val, hT.isCell, hT.val, hY.len, tokRows_len, hia, hk, beq_self_eq_true, Bool.not_true, mapget_modes, plainV_int, Nat.zero_min, hm, hz] <;> exact rfl) ?_
  refine ow_nil ?_
  refine sk_n (by simp only [exports, zn, zg] <;> exact rfl) ?_
  refine cw_seq ?_
  refine cw_seq ?_
  refine cw_region ?_
  refine ow_op (by simp only [opd, zv, exOp, aop, LOp.loud, pop, zp, hX.isCell, hX.val, hU.isCell, hU.val, hT.isCell, hT.val, hY.len, tokRows_len, hia, hk, beq_self_eq_true, Bool.not_true, mapget_modes, plainV_int, Nat.zero_min, hm, hz] <;> exact rfl) ?_
  refine ow_op (by simp only [opd, zv, exOp, aop, LOp.loud, pop, zp, unD, hX.isCell, hX.val, hU.isCell, hU.val, hT.isCell, hT.val, hY.len, tokRows_len, hia, hk, beq_self_eq_true, Bool.not_true, mapget_modes, plainV_int, Nat.zero_min, hm, hz] <;> exact rfl) ?_
  refine ow_nil ?_
  refine sk_n (by simp only [exports, zn, zg] <;> exact rfl) ?_
  skip
  refine cw_false (by simp only [opd, zv, hX.isCell, hX.val, hU.isCell, hU.val, hT.isCell, hT.val, hY.len, tokRows_len, hia, hk, beq_self_eq_true, Bool.not_true, mapget_modes, plainV_int, Nat.zero_min, hm, hz] <;> rfl) ?_
  refine cw_skip ?_
  refine sk_n rfl ?_
  refine cw_seq ?_
  refine cw_seq ?_
  refine cw_drawn (by simp only [newsVals, List.length_nil, List.length_cons, List.range_succ, List.range_zero, List.nil_append, List.map_nil, List.reverse_nil, List.cons_append, List.map_cons, List.reverse_cons, Nat.zero_add, Nat.add_zero, Nat.reduceAdd] <;> exact rfl) (by simp only [List.map_nil, List.map_cons, newsObj, St.eta, List.append_nil, List.cons_append, List.nil_append, List.length_cons, List.length_nil] <;> exact rfl) ?_
  refine dw_op (by simp only [exOp, opd, zv, hX.isCell, hX.val, hU.isCell, hU.val, hT.isCell, hT.val, hY.len, tokRows_len, hia, hk, beq_self_eq_true, Bool.not_true, mapget_modes, plainV_int, Nat.zero_min, hm, hz]; exact modes_run (by omega) _) (by simp only [fpHere, opd, List.map_cons, List.map_nil, List.getD_cons_zero, List.getD_cons_succ, zq, plainV_int, hY.fpi] <;> exact rfl) rfl ?_
  refine dw_quiet (by simp only [opd, zv, exOp, aop, LOp.loud, pop, zp, hX.isCell, hX.val, hU.isCell, hU.val, hT.isCell, hT.val, hY.len, tokRows_len, hia, hk, beq_self_eq_true, Bool.not_true, mapget_modes, plainV_int, Nat.zero_min, hm, hz] <;> exact rfl) rfl rfl ?_
  refine dw_op (by simp only [opd, zv, exOp, aop, LOp.loud, lop, rowsOf, newAt, setAt, zh, zm, iaddrD_sl, iaddrD_msl, Int.toNat_natCast, Int.toNat_zero, List.getElem?_map, Option.map_some, Int.le_refl, hX.isCell, hX.val, hU.isCell, hU.val, hT.isCell, hT.val, hY.len, tokRows_len, hia, hk, beq_self_eq_true, Bool.not_true, mapget_modes, plainV_int, Nat.zero_min, hm, hz] <;> exact rfl) (by simp only [fpHere, opd, List.map_cons, List.map_nil, List.getD_cons_zero, List.getD_cons_succ, zq, plainV_int, hY.fpi] <;> exact rfl) rfl ?_
  refine dw_quiet (by simp only [opd, zv, exOp, aop, LOp.loud, pop, zp, faddrD_ptr, faddrD_cptr, zm, hX.isCell, hX.val, hU.isCell, hU.val, hT.isCell, hT.val, hY.len, tokRows_len, hia, hk, beq_self_eq_true, Bool.not_true, mapget_modes, plainV_int, Nat.zero_min, hm, hz] <;> exact rfl) rfl rfl ?_
  refine dw_op (by simp only [opd, zv, exOp, aop, LOp.loud, lop, rowsOf, newAt, setAt, zh, zm, loadD_cptr, loadD_ptr, partD, List.take, List.drop, hX.isCell, hX.val, hU.isCell, hU.val, hT.isCell, hT.val, hY.len, tokRows_len, hia, hk, beq_self_eq_true, Bool.not_true, mapget_modes, plainV_int, Nat.zero_min, hm, hz] <;> exact rfl) (by simp only [fpHere, opd, List.map_cons, List.map_nil, List.getD_cons_zero, List.getD_cons_succ, zq, plainV_int, hY.fpi] <;> exact rfl) rfl ?_
  refine dw_op (by simp only [opd, zv, exOp, aop, LOp.loud, lop, if_true, Option.map_some, hX.isCell, hX.val, hU.isCell, hU.val, hT.isCell, hT.val, hY.len, tokRows_len, hia, hk, beq_self_eq_true, Bool.not_true, mapget_modes, plainV_int, Nat.zero_min, hm, hz] <;> exact rfl) (by simp only [fpHere, opd, List.map_cons, List.map_nil, List.getD_cons_zero, List.getD_cons_succ, zq, plainV_int, hY.fpi] <;> exact rfl) rfl ?_
  refine dw_op (by simp only [opd, zv, exOp, aop, LOp.loud, pop, zp, hX.isCell, hX.val, hU.isCell, hU.val, hT.isCell, hT.val, hY.len, tokRows_len, hia, hk, beq_self_eq_true, Bool.not_true, mapget_modes, plainV_int, Nat.zero_min, hm, hz] <;> exact rfl) rfl rfl ?_
  refine dw_op (by simp only [opd, zv, exOp, aop, LOp.loud, lop, rowsOf, newAt, setAt, zh, zm, storeD, overlay, snapVs, snaps, zs, zc, zf, List.take, List.drop, hX.isCell, hX.val, hU.isCell, hU.val, hT.isCell, hT.val, hY.len, tokRows_len, hia, hk, beq_self_eq_true, Bool.not_true, mapget_modes, plainV_int, Nat.zero_min, hm, hz] <;> exact rfl) (by simp only [fpHere, opd, List.map_cons, List.map_nil, List.getD_cons_zero, List.getD_cons_succ, zq, plainV_int, hY.fpi] <;> exact rfl) rfl ?_
  refine dw_nil ?_
  refine sk_n (by simp only [exports, zn, zg] <;> exact rfl) ?_
  refine cw_seq ?_
  refine cw_region ?_
  refine ow_op (by simp only [opd, zv, exOp, aop, LOp.loud, pop, zp, hX.isCell, hX.val, hU.isCell, hU.val, hT.isCell, hT.val, hY.len, tokRows_len, hia, hk, beq_self_eq_true, Bool.not_true, mapget_modes, plainV_int, Nat.zero_min, hm, hz] <;> exact rfl) ?_
  refine ow_op (by simp only [opd, zv, exOp, aop, LOp.loud, lop, rowsOf, newAt, setAt, zh, zm, iaddrD_sl, iaddrD_msl, Int.toNat_natCast, Int.toNat_zero, List.getElem?_map, Option.map_some, Int.le_refl, hX.isCell, hX.val, hU.isCell, hU.val, hT.isCell, hT.val, hY.len, tokRows_len, hia, hk, beq_self_eq_true, Bool.not_true, mapget_modes, plainV_int, Nat.zero_min, hm, hz] <;> exact rfl) ?_
  refine ow_op (by simp only [opd, zv, exOp, aop, LOp.loud, pop, zp, faddrD_ptr, faddrD_cptr, zm, hX.isCell, hX.val, hU.isCell, hU.val, hT.isCell, hT.val, hY.len, tokRows_len, hia, hk, beq_self_eq_true, Bool.not_true, mapget_modes, plainV_int, Nat.zero_min, hm, hz] <;> exact rfl) ?_
  refine ow_op (by simp only [opd, zv, exOp, aop, LOp.loud, lop, rowsOf, newAt, setAt, zh, zm, loadD_cptr, loadD_ptr, partD, List.take, List.drop, hX.isCell, hX.val, hU.isCell, hU.val, hT.isCell, hT.val, hY.len, tokRows_len, hia, hk, beq_self_eq_true, Bool.not_true, mapget_modes, plainV_int, Nat.zero_min, hm, hz] <;> exact rfl) ?_
  refine ow_op (by simp only [opd, zv, exOp, aop, LOp.loud, pop, zp, binD, eq_self, ne_eq, not_false_eq_true, true_and, Int.reduceEq, ite_true, ite_false, not_true_eq_false, Int.reduceToNat, Int.reduceLT, hX.isCell, hX.val, hU.isCell, hU.val, hT.isCell, hT.val, hY.len, tokRows_len, hia, hk, beq_self_eq_true, Bool.not_true, mapget_modes, plainV_int, Nat.zero_min, hm, hz] <;> exact rfl) ?_
  refine ow_op (by simp only [opd, zv, exOp, aop, LOp.loud, pop, zp, hX.isCell, hX.val, hU.isCell, hU.val, hT.isCell, hT.val, hY.len, tokRows_len, hia, hk, beq_self_eq_true, Bool.not_true, mapget_modes, plainV_int, Nat.zero_min, hm, hz] <;> exact rfl) ?_
  refine ow_know 0 (b := true) (by simp only [opd, zv, hX.isCell, hX.val, hU.isCell, hU.val, hT.isCell, hT.val, hY.len, tokRows_len, hia, hk, beq_self_eq_true, Bool.not_true, mapget_modes, plainV_int, Nat.zero_min, hm, hz] <;> rfl) (by simp only [zn] <;> exact rfl) ?_
  refine ow_on (by simp only [opd, zv]) ?_
  refine ow_op (by simp only [opd, zv, exOp, aop, LOp.loud, lop, rowsOf, newAt, setAt, zh, zm, loadD_cptr, loadD_ptr, partD, List.take, List.drop, hX.isCell, hX.val, hU.isCell, hU.val, hT.isCell, hT.val, hY.len, tokRows_len, hia, hk, beq_self_eq_true, Bool.not_true, mapget_modes, plainV_int, Nat.zero_min, hm, hz] <;> exact rfl) ?_
  refine ow_on (by simp only [opd, zv]) ?_
  refine ow_op (by simp only [opd, zv, exOp, aop, LOp.loud, pop, zp, binD, eq_self, ne_eq, not_false_eq_true, true_and, Int.reduceEq, ite_true, ite_false, not_true_eq_false, Int.reduceToNat, Int.reduceLT, hX.isCell, hX.val, hU.isCell, hU.val, hT.isCell, hT.val, hY.len, tokRows_len, hia, hk, beq_self_eq_true, Bool.not_true, mapget_modes, plainV_int, Nat.zero_min, hm, hz] <;> exact rfl) ?_
  refine ow_op (by simp only [opd, zv, exOp, aop, LOp.loud, pop, zp, hX.isCell, hX.val, hU.isCell, hU.val, hT.isCell, hT.val, hY.len, tokRows_len, hia, hk, beq_self_eq_true, Bool.not_true, mapget_modes, plainV_int, Nat.zero_min, hm, hz] <;> exact rfl) ?_
  refine ow_nil ?_
  refine sk_n (by simp only [exports, zn, zg] <;> exact rfl) ?_
  skip
  refine cw_true (by simp only [opd, zv, hX.isCell, hX.val, hU.isCell, hU.val, hT.isCell, hT.val, hY.len, tokRows_len, hia, hk, beq_self_eq_true, Bool.not_true, mapget_modes, plainV_int, Nat.zero_min, hm, hz] <;> rfl) ?_
  refine cw_seq ?_
  refine cw_seq ?_
  refine cw_region ?_
  refine ow_op (by simp only [opd, zv, exOp, aop, LOp.loud, pop, zp, hX.isCell, hX.val, hU.isCell, hU.val, hT.isCell, hT.val, hY.len, tokRows_len, hia, hk, beq_self_eq_true, Bool.not_true, mapget_modes, plainV_int, Nat.zero_min, hm, hz] <;> exact rfl) ?_
  refine ow_op (by simp only [opd, zv, exOp, aop, LOp.loud, pop, zp, hX.isCell, hX.val, hU.isCell, hU.val, hT.isCell, hT.val, hY.len, tokRows_len, hia, hk, beq_self_eq_true, Bool.not_true, mapget_modes, plainV_int, Nat.zero_min, hm, hz] <;> exact rfl) ?_
  refine ow_op (by simp only [exOp, opd, zv, hX.isCell, hX.val, hU.isCell, hU.val, hT.isCell, hT.val, hY.len, tokRows_len, hia, hk, beq_self_eq_true, Bool.not_true, mapget_modes, plainV_int, Nat.zero_min, hm, hz]; exact containsFunc_run (by omega) _ hR hrl 25 [_] rfl (fun q => (q.mode : Int) == (modeW r.text : Int)) (fun he q hq => by cases he; exact rul1_run (by omega) _ q _ _ 45 (by simp) (by simp))) ?_
  refine ow_nil ?_
  refine sk_n (by simp only [exports, zn, zg] <;> exact rfl) ?_
  skip
  refine cw_true (by simp only [opd, zv, hX.isCell, hX.val, hU.isCell, hU.val, hT.isCell, hT.val, hY.len, tokRows_len, hia, hk, beq_self_eq_true, Bool.not_true, mapget_modes, plainV_int, Nat.zero_min, hm, hz] <;> rfl) ?_
  refine cw_seq ?_
  refine cw_region ?_
  refine ow_op (by simp only [opd, zv, exOp, aop, LOp.loud, pop, zp, fillD, overlay, zc, List.take, List.drop, Nat.reduceAdd, Nat.reduceLeDiff, Nat.reduceBEq, zm, hX.isCell, hX.val, hU.isCell, hU.val, hT.isCell, hT.val, hY.len, tokRows_len, hia, hk, beq_self_eq_true, Bool.not_true, mapget_modes, plainV_int, Nat.zero_min, hm, hz] <;> exact rfl) ?_
  refine ow_op (by simp only [opd, zv, exOp, aop, LOp.loud, pop, zp, hX.isCell, hX.val, hU.isCell, hU.val, hT.isCell, hT.val, hY.len, tokRows_len, hia, hk, beq_self_eq_true, Bool.not_true, mapget_modes, plainV_int, Nat.zero_min, hm, hz] <;> exact rfl) ?_
  refine ow_op (by simp only [opd, zv, exOp, aop, LOp.loud, pop, zp, faddrD_ptr, faddrD_cptr, zm, hX.isCell, hX.val, hU.isCell, hU.val, hT.isCell, hT.val, hY.len, tokRows_len, hia, hk, beq_self_eq_true, Bool.not_true, mapget_modes, plainV_int, Nat.zero_min, hm, hz] <;> exact rfl) ?_
  refine ow_op (by simp only [opd, zv, exOp, aop, LOp.loud, lop, rowsOf, newAt, setAt, zh, zm, loadD_cptr, loadD_ptr, partD, List.take, List.drop, hX.isCell, hX.val, hU.isCell, hU.val, hT.isCell, hT.val, hY.len, tokRows_len, hia, hk, beq_self_eq_true, Bool.not_true, mapget_modes, plainV_int, Nat.zero_min, hm, hz] <;> exact rfl) ?_
  refine ow_op (by simp only [exOp, opd, zv, hX.isCell, hX.val, hU.isCell, hU.val, hT.isCell, hT.val, hY.len, tokRows_len, hia, hk, beq_self_eq_true, Bool.not_true, mapget_modes, plainV_int, Nat.zero_min, hm, hz]; exact fault_run (by omega) _ 8 hY hT) ?_
  refine ow_op (by simp only [opd, zv, exOp, aop, LOp.loud, lop, rowsOf, newAt, setAt, zh, zm, storeD, overlay, snapVs, snaps, zs, zc, zf, List.take, List.drop, hX.isCell, hX.val, hU.isCell, hU.val, hT.isCell, hT.val, hY.len, tokRows_len, hia, hk, beq_self_eq_true, Bool.not_true, mapget_modes, plainV_int, Nat.zero_min, hm, hz] <;> exact rfl) ?_
  refine ow_op (by simp only [opd, zv, exOp, aop, LOp.loud, lop, rowsOf, newAt, setAt, zh, zm, storeD, overlay, snapVs, snaps, zs, zc, zf, List.take, List.drop, hX.isCell, hX.val, hU.isCell, hU.val, hT.isCell, hT.val, hY.len, tokRows_len, hia, hk, beq_self_eq_true, Bool.not_true, mapget_modes, plainV_int, Nat.zero_min, hm, hz] <;> exact rfl) ?_
  refine ow_nil ?_
  refine sk_n (by simp only [exports, zn, zg] <;> exact rfl) ?_
  refine cw_ret ?_
  refine sk_r ?_
  refine sk_r ?_
  refine ⟨_, by simp only [F14, resultD, resDs, resD, List.getD_cons_zero, List.getD_cons_succ, loadD_cptr, loadD_ptr, rowsOf, partD, List.getElem?_cons_zero, List.getElem?_cons_succ, if_true, if_false, Bool.false_eq_true, List.take, List.drop, zm] <;> exact rfl, ?_⟩
  simp only [leaveP, leave, snapVs, snaps, zs, zf, Option.map_some, List.all_cons, List.all_nil, Bool.and_self, Bool.and_true, if_true, if_false, Bool.false_eq_true, List.length_nil, Nat.le_refl, Nat.zero_le]

theorem rule_fok {d : Nat} (hd : 7 ≤ d) (S : St) {fx ux rx tx y : D} {fl : List Fi} {rl : List Ru} {r : Tok} {rs : List Tok} {sec : ByteArray} {ur tr : List (List D)} (hX : SlD 12 (fiRows fl) fx) (hU : SlD 3 ur ux) (hR : SlD 3 (ruRows rl) rx) (hT : SlD 5 tr tx) (hY : SlD 5 (tokRows (r :: rs)) y) (hfl6 : fl.length ≤ 1000000) (hrl : rl.length ≤ 1000000) (hk : r.kind = 1) (hh : ∀ (d : Nat) (S : St), 4 ≤ d → runF LP NN d 21 [tx] S = some (.tup [y, .bool true], S, false)) (hm : modeW r.text = 0) (o : List ByteArray) (hlen : rs.length ≤ 900) (hok : ∀ t ∈ r :: rs, okTok fl t) (hf : filesF rl (r :: rs) [] = .inl o) :
    runF LP NN d 14 [progD fx ux, rx, .agg [.str sec, tx, .nils]] S = some (.tup [.agg [.str sec, clipD (appY 1 (strRows o)), .int .u8 0], .agg [.int .i64 0, .int .i64 0, .int .i64 0]], S, false) := by
  unfold progD
  have hia := fun (S : St) => hY.iaddr S .i64 (i := 0) (by omega) (tokRows_0 r rs)
  have hq := (appY_S 1 (strRows o)).clip
  have hlen' : (r :: rs).length ≤ 1000 := by simp; omega
  refine run_pure (F := F14) rfl (by simp only [LP, fnOf, snapVs, snaps, zs, Bool.false_eq_true, if_false, Option.map_some, List.map_cons, List.map_nil, hX.snap, hX.free, hU.snap, hU.free, hR.snapV, hR.freeV, hT.snap, hT.free] <;> exact rfl) rfl (by simp only [LP, zf, List.all_cons, List.all_nil, Bool.and_true, Bool.true_and, hX.snap, hX.free, hU.snap, hU.free, hR.snapV, hR.freeV, hT.snap, hT.free]; try rfl) (by simp only [F14, zv] <;> exact rfl) (by omega) ?_
  rintro d rfl
  refine cw_seq ?_
  refine cw_region ?_
  refine ow_op (by simp only [opd, zv, exOp, aop, LOp.loud, lop, rowsOf, newAt, setAt, zh, zm, zc, hX.isCell, hX.val, hU.isCell, hU.val, hT.isCell, hT.val, hY.len, tokRows_len, hia, hk, beq_self_eq_true, Bool.not_true, mapget_modes, plainV_int, Nat.zero_min, hm, bne_self_eq_false, hf, filesD, hq.isCell, hq.val, hq.cells] <;> exact rfl) ?_
  refine ow_op (by simp only [opd, zv, exOp, aop, LOp.loud, lop, rowsOf, newAt, setAt, zh, zm, zc, hX.isCell, hX.val, hU.isCell, hU.val, hT.isCell, hT.val, hY.len, tokRows_len, hia, hk, beq_self_eq_true, Bool.not_true, mapget_modes, plainV_int, Nat.zero_min, hm, bne_self_eq_false, hf, filesD, hq.isCell, hq.val, hq.cells] <;> exact rfl) ?_
  refine ow_op (by simp only [opd, zv, exOp, aop, LOp.loud, lop, rowsOf, newAt, setAt, zh, zm, hX.isCell, hX.val, hU.isCell, hU.val, hT.isCell, hT.val, hY.len, tokRows_len, hia, hk, beq_self_eq_true, Bool.not_true, mapget_modes, plainV_int, Nat.zero_min, hm, bne_self_eq_false, hf, filesD, hq.isCell, hq.val, hq.cells] <;> exact rfl) ?_
  refine ow_op (by simp only [opd, zv, exOp, aop, LOp.loud, lop, rowsOf, newAt, setAt, zh, zm, hX.isCell, hX.val, hU.isCell, hU.val, hT.isCell, hT.val, hY.len, tokRows_len, hia, hk, beq_self_eq_true, Bool.not_true, mapget_modes, plainV_int, Nat.zero_min, hm, bne_self_eq_false, hf, filesD, hq.isCell, hq.val, hq.cells] <;> exact rfl) ?_
  refine ow_nil ?_
  refine sk_n (by simp only [exports, zn, zg] <;> exact rfl) ?_
  refine cw_seq ?_
  refine cw_region ?_
  refine ow_op (by simp only [opd, zv, exOp, aop, LOp.loud, pop, zp, faddrD_ptr, faddrD_cptr, zm, hX.isCell, hX.val, hU.isCell, hU.val, hT.isCell, hT.val, hY.len, tokRows_len, hia, hk, beq_self_eq_true, Bool.not_true, mapget_modes, plainV_int, Nat.zero_min, hm, bne_self_eq_false, hf, filesD, hq.isCell, hq.val, hq.cells] <;> exact rfl) ?_
  refine ow_op (by simp only [opd, zv, exOp, aop, LOp.loud, lop, rowsOf, newAt, setAt, zh, zm, loadD_cptr, loadD_ptr, partD, List.take, List.drop, hX.isCell, hX.val, hU.isCell, hU.val, hT.isCell, hT.val, hY.len, tokRows_len, hia, hk, beq_self_eq_true, Bool.not_true, mapget_modes, plainV_int, Nat.zero_min, hm, bne_self_eq_false, hf, filesD, hq.isCell, hq.val, hq.cells] <;> exact rfl) ?_
  refine ow_op (by simp only [exOp, opd, zv, hX.isCell, hX.val, hU.isCell, hU.val, hT.isCell, hT.val, hY.len, tokRows_len, hia, hk, beq_self_eq_true, Bool.not_true, mapget_modes, plainV_int, Nat.zero_min, hm, bne_self_eq_false, hf, filesD, hq.isCell, hq.val, hq.cells]; exact hh _ _ (by omega)) ?_
  refine ow_op (by simp only [opd, zv, exOp, aop, LOp.loud, pop, zp, hX.isCell, hX.val, hU.isCell, hU.val, hT.isCell, hT.val, hY.len, tokRows_len, hia, hk, beq_self_eq_true, Bool.not_true, mapget_modes, plainV_int, Nat.zero_min, hm, bne_self_eq_false, hf, filesD, hq.isCell, hq.val, hq.cells] <;> exact rfl) ?_
  refine ow_op (by simp only [opd, zv, exOp, aop, LOp.loud, pop, zp, List.getElem?_cons_zero, List.getElem?_cons_succ, hX.isCell, hX.val, hU.isCell, hU.val, hT.isCell, hT.val, hY.len, tokRows_len, hia, hk, beq_self_eq_true, Bool.not_true, mapget_modes, plainV_int, Nat.zero_min, hm, bne_self_eq_false, hf, filesD, hq.isCell, hq.val, hq.cells] <;> exact rfl) ?_
  refine ow_op (by simp only [opd, zv, exOp, aop, LOp.loud, pop, zp, List.getElem?_cons_zero, List.getElem?_cons_succ, hX.isCell, hX.val, hU.isCell, hU.val, hT.isCell, hT.val, hY.len, tokRows_len, hia, hk, beq_self_eq_true, Bool.not_true, mapget_modes, plainV_int, Nat.zero_min, hm, bne_self_eq_false, hf, filesD, hq.isCell, hq.val, hq.cells] <;> exact rfl) ?_
  refine ow_op (by simp only [opd, zv, exOp, aop, LOp.loud, pop, zp, hX.isCell, hX.val, hU.isCell, hU.val, hT.isCell, hT.val, hY.len, tokRows_len, hia, hk, beq_self_eq_true, Bool.not_true, mapget_modes, plainV_int, Nat.zero_min, hm, bne_self_eq_false, hf, filesD, hq.isCell, hq.val, hq.cells] <;> exact rfl) ?_
  refine ow_op (by simp only [opd, zv, exOp, aop, LOp.loud, pop, zp, hX.isCell, hX.val, hU.isCell, hU.val, hT.isCell, hT.val, hY.len, tokRows_len, hia, hk, beq_self_eq_true, Bool.not_true, mapget_modes, plainV_int, Nat.zero_min, hm, bne_self_eq_false, hf, filesD, hq.isCell, hq.val, hq.cells] <;> exact rfl) ?_
  refine ow_nil ?_
  refine sk_n (by simp only [exports, zn, zg] <;> exact rfl) ?_
  refine cw_seq ?_
  refine cw_seq ?_
  refine cw_region ?_
  refine ow_op (by simp only [opd, zv, exOp, aop, LOp.loud, pop, zp, hX.isCell, hX.val, hU.isCell, hU.val, hT.isCell, hT.val, hY.len, tokRows_len, hia, hk, beq_self_eq_true, Bool.not_true, mapget_modes, plainV_int, Nat.zero_min, hm, bne_self_eq_false, hf, filesD, hq.isCell, hq.val, hq.cells] <;> exact rfl) ?_
  refine ow_op (by simp only [opd, zv, exOp, aop, LOp.loud, pop, zp, unD, hX.isCell, hX.val, hU.isCell, hU.val, hT.isCell, hT.val, hY.len, tokRows_len, hia, hk, beq_self_eq_true, Bool.not_true, mapget_modes, plainV_int, Nat.zero_min, hm, bne_self_eq_false, hf, filesD, hq.isCell, hq.val, hq.cells] <;> exact rfl) ?_
  refine ow_nil ?_
  refine sk_n (by simp only [exports, zn, zg] <;> exact rfl) ?_
  skip
  refine cw_false (by simp only [opd, zv, hX.isCell, hX.val, hU.isCell, hU.val, hT.isCell, hT.val, hY.len, tokRows_len, hia, hk, beq_self_eq_true, Bool.not_true, mapget_modes, plainV_int, Nat.zero_min, hm, bne_self_eq_false, hf, filesD, hq.isCell, hq.val, hq.cells] <;> rfl) ?_
  refine cw_skip ?_
  refine sk_n rfl ?_
  refine cw_seq ?_
  refine cw_seq ?_
  refine cw_drawn (by simp only [newsVals, List.length_nil, List.length_cons, List.range_succ, List.range_zero, List.nil_append, List.map_nil, List.reverse_nil, List.cons_append, List.map_cons, List.reverse_cons, Nat.zero_add, Nat.add_zero, Nat.reduceAdd] <;> exact rfl) (by simp only [List.map_nil, List.map_cons, newsObj, St.eta, List.append_nil, List.cons_append, List.nil_append, List.length_cons, List.length_nil] <;> exact rfl) ?_
  refine dw_op (by simp only [exOp, opd, zv, hX.isCell, hX.val, hU.isCell, hU.val, hT.isCell, hT.val, hY.len, tokRows_len, hia, hk, beq_self_eq_true, Bool.not_true, mapget_modes, plainV_int, Nat.zero_min, hm, bne_self_eq_false, hf, filesD, hq.isCell, hq.val, hq.cells]; exact modes_run (by omega) _) (by simp only [fpHere, opd, List.map_cons, List.map_nil, List.getD_cons_zero, List.getD_cons_succ, zq, plainV_int, hY.fpi] <;> exact rfl) rfl ?_
  refine dw_quiet (by simp only [opd, zv, exOp, aop, LOp.loud, pop, zp, hX.isCell, hX.val, hU.isCell, hU.val, hT.isCell, hT.val, hY.len, tokRows_len, hia, hk, beq_self_eq_true, Bool.not_true, mapget_modes, plainV_int, Nat.zero_min, hm, bne_self_eq_false, hf, filesD, hq.isCell, hq.val, hq.cells] <;> exact rfl) rfl rfl ?_
  refine dw_op (by simp only [opd, zv, exOp, aop, LOp.loud, lop, rowsOf, newAt, setAt, zh, zm, iaddrD_sl, iaddrD_msl, Int.toNat_natCast, Int.toNat_zero, List.getElem?_map, Option.map_some, Int.le_refl, hX.isCell, hX.val, hU.isCell, hU.val, hT.isCell, hT.val, hY.len, tokRows_len, hia, hk, beq_self_eq_true, Bool.not_true, mapget_modes, plainV_int, Nat.zero_min, hm, bne_self_eq_false, hf, filesD, hq.isCell, hq.val, hq.cells] <;> exact rfl) (by simp only [fpHere, opd, List.map_cons, List.map_nil, List.getD_cons_zero, List.getD_cons_succ, zq, plainV_int, hY.fpi] <;> exact rfl) rfl ?_
  refine dw_quiet (by simp only [opd, zv, exOp, aop, LOp.loud, pop, zp, faddrD_ptr, faddrD_cptr, zm, hX.isCell, hX.val, hU.isCell, hU.val, hT.isCell, hT.val, hY.len, tokRows_len, hia, hk, beq_self_eq_true, Bool.not_true, mapget_modes, plainV_int, Nat.zero_min, hm, bne_self_eq_false, hf, filesD, hq.isCell, hq.val, hq.cells] <;> exact rfl) rfl rfl ?_
  refine dw_op (by simp only [opd, zv, exOp, aop, LOp.loud, lop, rowsOf, newAt, setAt, zh, zm, loadD_cptr, loadD_ptr, partD, List.take, List.drop, hX.isCell, hX.val, hU.isCell, hU.val, hT.isCell, hT.val, hY.len, tokRows_len, hia, hk, beq_self_eq_true, Bool.not_true, mapget_modes, plainV_int, Nat.zero_min, hm, bne_self_eq_false, hf, filesD, hq.isCell, hq.val, hq.cells] <;> exact rfl) (by simp only [fpHere, opd, List.map_cons, List.map_nil, List.getD_cons_zero, List.getD_cons_succ, zq, plainV_int, hY.fpi] <;> exact rfl) rfl ?_
  refine dw_op (by simp only [opd, zv, exOp, aop, LOp.loud, lop, if_true, Option.map_some, hX.isCell, hX.val, hU.isCell, hU.val, hT.isCell, hT.val, hY.len, tokRows_len, hia, hk, beq_self_eq_true, Bool.not_true, mapget_modes, plainV_int, Nat.zero_min, hm, bne_self_eq_false, hf, filesD, hq.isCell, hq.val, hq.cells] <;> exact rfl) (by simp only [fpHere, opd, List.map_cons, List.map_nil, List.getD_cons_zero, List.getD_cons_succ, zq, plainV_int, hY.fpi] <;> exact rfl) rfl ?_
  refine dw_op (by simp only [opd, zv, exOp, aop, LOp.loud, pop, zp, hX.isCell, hX.val, hU.isCell, hU.val, hT.isCell, hT.val, hY.len, tokRows_len, hia, hk, beq_self_eq_true, Bool.not_true, mapget_modes, plainV_int, Nat.zero_min, hm, bne_self_eq_false, hf, filesD, hq.isCell, hq.val, hq.cells] <;> exact rfl) rfl rfl ?_
  refine dw_op (by simp only [opd, zv, exOp, aop, LOp.loud, lop, rowsOf, newAt, setAt, zh, zm, storeD, overlay, snapVs, snaps, zs, zc, zf, List.take, List.drop, hX.isCell, hX.val, hU.isCell, hU.val, hT.isCell, hT.val, hY.len, tokRows_len, hia, hk, beq_self_eq_true, Bool.not_true, mapget_modes, plainV_int, Nat.zero_min, hm, bne_self_eq_false, hf, filesD, hq.isCell, hq.val, hq.cells] <;> exact rfl) (by simp only [fpHere, opd, List.map_cons, List.map_nil, List.getD_cons_zero, List.getD_cons_succ, zq, plainV_int, hY.fpi] <;> exact rfl) rfl ?_
  refine dw_nil ?_
  refine sk_n (by simp only [exports, zn, zg] <;> exact rfl) ?_
  refine cw_seq ?_
  refine cw_region ?_
  refine ow_op (by simp only [opd, zv, exOp, aop, LOp.loud, pop, zp, hX.isCell, hX.val, hU.isCell, hU.val, hT.isCell, hT.val, hY.len, tokRows_len, hia, hk, beq_self_eq_true, Bool.not_true, mapget_modes, plainV_int, Nat.zero_min, hm, bne_self_eq_false, hf, filesD, hq.isCell, hq.val, hq.cells] <;> exact rfl) ?_
  refine ow_op (by simp only [opd, zv, exOp, aop, LOp.loud, lop, rowsOf, newAt, setAt, zh, zm, iaddrD_sl, iaddrD_msl, Int.toNat_natCast, Int.toNat_zero, List.getElem?_map, Option.map_some, Int.le_refl, hX.isCell, hX.val, hU.isCell, hU.val, hT.isCell, hT.val, hY.len, tokRows_len, hia, hk, beq_self_eq_true, Bool.not_true, mapget_modes, plainV_int, Nat.zero_min, hm, bne_self_eq_false, hf, filesD, hq.isCell, hq.val, hq.cells] <;> exact rfl) ?_
  refine ow_op (by simp only [opd, zv, exOp, aop, LOp.loud, pop, zp, faddrD_ptr, faddrD_cptr, zm, hX.isCell, hX.val, hU.isCell, hU.val, hT.isCell, hT.val, hY.len, tokRows_len, hia, hk, beq_self_eq_true, Bool.not_true, mapget_modes, plainV_int, Nat.zero_min, hm, bne_self_eq_false, hf, filesD, hq.isCell, hq.val, hq.cells] <;> exact rfl) ?_
  refine ow_op (by simp only [opd, zv, exOp, aop, LOp.loud, lop, rowsOf, newAt, setAt, zh, zm, loadD_cptr, loadD_ptr, partD, List.take, List.drop, hX.isCell, hX.val, hU.isCell, hU.val, hT.isCell, hT.val, hY.len, tokRows_len, hia, hk, beq_self_eq_true, Bool.not_true, mapget_modes, plainV_int, Nat.zero_min, hm, bne_self_eq_false, hf, filesD, hq.isCell, hq.val, hq.cells] <;> exact rfl) ?_
  refine ow_op (by simp only [opd, zv, exOp, aop, LOp.loud, pop, zp, binD, eq_self, ne_eq, not_false_eq_true, true_and, Int.reduceEq, ite_true, ite_false, not_true_eq_false, Int.reduceToNat, Int.reduceLT, hX.isCell, hX.val, hU.isCell, hU.val, hT.isCell, hT.val, hY.len, tokRows_len, hia, hk, beq_self_eq_true, Bool.not_true, mapget_modes, plainV_int, Nat.zero_min, hm, bne_self_eq_false, hf, filesD, hq.isCell, hq.val, hq.cells] <;> exact rfl) ?_
  refine ow_op (by simp only [opd, zv, exOp, aop, LOp.loud, pop, zp, hX.isCell, hX.val, hU.isCell, hU.val, hT.isCell, hT.val, hY.len, tokRows_len, hia, hk, beq_self_eq_true, Bool.not_true, mapget_modes, plainV_int, Nat.zero_min, hm, bne_self_eq_false, hf, filesD, hq.isCell, hq.val, hq.cells] <;> exact rfl) ?_
  refine ow_know 0 (b := true) (by simp only [opd, zv, hX.isCell, hX.val, hU.isCell, hU.val, hT.isCell, hT.val, hY.len, tokRows_len, hia, hk, beq_self_eq_true, Bool.not_true, mapget_modes, plainV_int, Nat.zero_min, hm, bne_self_eq_false, hf, filesD, hq.isCell, hq.val, hq.cells] <;> rfl) (by simp only [zn] <;> exact rfl) ?_
  refine ow_on (by simp only [opd, zv]) ?_
  refine ow_op (by simp only [opd, zv, exOp, aop, LOp.loud, lop, rowsOf, newAt, setAt, zh, zm, loadD_cptr, loadD_ptr, partD, List.take, List.drop, hX.isCell, hX.val, hU.isCell, hU.val, hT.isCell, hT.val, hY.len, tokRows_len, hia, hk, beq_self_eq_true, Bool.not_true, mapget_modes, plainV_int, Nat.zero_min, hm, bne_self_eq_false, hf, filesD, hq.isCell, hq.val, hq.cells] <;> exact rfl) ?_
  refine ow_on (by simp only [opd, zv]) ?_
  refine ow_op (by simp only [opd, zv, exOp, aop, LOp.loud, pop, zp, binD, eq_self, ne_eq, not_false_eq_true, true_and, Int.reduceEq, ite_true, ite_false, not_true_eq_false, Int.reduceToNat, Int.reduceLT, hX.isCell, hX.val, hU.isCell, hU.val, hT.isCell, hT.val, hY.len, tokRows_len, hia, hk, beq_self_eq_true, Bool.not_true, mapget_modes, plainV_int, Nat.zero_min, hm, bne_self_eq_false, hf, filesD, hq.isCell, hq.val, hq.cells] <;> exact rfl) ?_
  refine ow_op (by simp only [opd, zv, exOp, aop, LOp.loud, pop, zp, hX.isCell, hX.val, hU.isCell, hU.val, hT.isCell, hT.val, hY.len, tokRows_len, hia, hk, beq_self_eq_true, Bool.not_true, mapget_modes, plainV_int, Nat.zero_min, hm, bne_self_eq_false, hf, filesD, hq.isCell, hq.val, hq.cells] <;> exact rfl) ?_
  refine ow_nil ?_
  refine sk_n (by simp only [exports, zn, zg] <;> exact rfl) ?_
  skip
  refine cw_false (by simp only [opd, zv, hX.isCell, hX.val, hU.isCell, hU.val, hT.isCell, hT.val, hY.len, tokRows_len, hia, hk, beq_self_eq_true, Bool.not_true, mapget_modes, plainV_int, Nat.zero_min, hm, bne_self_eq_false, hf, filesD, hq.isCell, hq.val, hq.cells] <;> rfl) ?_
  refine cw_skip ?_
  refine sk_n rfl ?_
  refine cw_seq ?_
  refine cw_region ?_
  refine ow_op (by simp only [opd, zv, exOp, aop, LOp.loud, lop, rowsOf, newAt, setAt, zh, zm, loadD_cptr, loadD_ptr, partD, List.take, List.drop, hX.isCell, hX.val, hU.isCell, hU.val, hT.isCell, hT.val, hY.len, tokRows_len, hia, hk, beq_self_eq_true, Bool.not_true, mapget_modes, plainV_int, Nat.zero_min, hm, bne_self_eq_false, hf, filesD, hq.isCell, hq.val, hq.cells] <;> exact rfl) ?_
  refine ow_op (by simp only [opd, zv, exOp, aop, LOp.loud, pop, zp, hX.isCell, hX.val, hU.isCell, hU.val, hT.isCell, hT.val, hY.len, tokRows_len, hia, hk, beq_self_eq_true, Bool.not_true, mapget_modes, plainV_int, Nat.zero_min, hm, bne_self_eq_false, hf, filesD, hq.isCell, hq.val, hq.cells] <;> exact rfl) ?_
  refine ow_op (by simp only [opd, zv, exOp, aop, LOp.loud, pop, zp, faddrD_ptr, faddrD_cptr, zm, hX.isCell, hX.val, hU.isCell, hU.val, hT.isCell, hT.val, hY.len, tokRows_len, hia, hk, beq_self_eq_true, Bool.not_true, mapget_modes, plainV_int, Nat.zero_min, hm, bne_self_eq_false, hf, filesD, hq.isCell, hq.val, hq.cells] <;> exact rfl) ?_
  refine ow_op (by simp only [opd, zv, exOp, aop, LOp.loud, lop, rowsOf, newAt, setAt, zh, zm, loadD_cptr, loadD_ptr, partD, List.take, List.drop, hX.isCell, hX.val, hU.isCell, hU.val, hT.isCell, hT.val, hY.len, tokRows_len, hia, hk, beq_self_eq_true, Bool.not_true, mapget_modes, plainV_int, Nat.zero_min, hm, bne_self_eq_false, hf, filesD, hq.isCell, hq.val, hq.cells] <;> exact rfl) ?_
  refine ow_op (by simp only [opd, zv, exOp, aop, LOp.loud, pop, zp, hX.isCell, hX.val, hU.isCell, hU.val, hT.isCell, hT.val, hY.len, tokRows_len, hia, hk, beq_self_eq_true, Bool.not_true, mapget_modes, plainV_int, Nat.zero_min, hm, bne_self_eq_false, hf, filesD, hq.isCell, hq.val, hq.cells] <;> exact rfl) ?_
  refine ow_op (by simp only [exOp, opd, zv, hX.isCell, hX.val, hU.isCell, hU.val, hT.isCell, hT.val, hY.len, tokRows_len, hia, hk, beq_self_eq_true, Bool.not_true, mapget_modes, plainV_int, Nat.zero_min, hm, bne_self_eq_false, hf, filesD, hq.isCell, hq.val, hq.cells]; exact files_run (by omega) _ hX hU hR hT hY hfl6 hrl (by omega) hok) ?_
  refine ow_op (by simp only [opd, zv, exOp, aop, LOp.loud, pop, zp, hX.isCell, hX.val, hU.isCell, hU.val, hT.isCell, hT.val, hY.len, tokRows_len, hia, hk, beq_self_eq_true, Bool.not_true, mapget_modes, plainV_int, Nat.zero_min, hm, bne_self_eq_false, hf, filesD, hq.isCell, hq.val, hq.cells] <;> exact rfl) ?_
  refine ow_op (by simp only [opd, zv, exOp, aop, LOp.loud, pop, zp, List.getElem?_cons_zero, List.getElem?_cons_succ, hX.isCell, hX.val, hU.isCell, hU.val, hT.isCell, hT.val, hY.len, tokRows_len, hia, hk, beq_self_eq_true, Bool.not_true, mapget_modes, plainV_int, Nat.zero_min, hm, bne_self_eq_false, hf, filesD, hq.isCell, hq.val, hq.cells] <;> exact rfl) ?_
  refine ow_op (by simp only [opd, zv, exOp, aop, LOp.loud, pop, zp, List.getElem?_cons_zero, List.getElem?_cons_succ, hX.isCell, hX.val, hU.isCell, hU.val, hT.isCell, hT.val, hY.len, tokRows_len, hia, hk, beq_self_eq_true, Bool.not_true, mapget_modes, plainV_int, Nat.zero_min, hm, bne_self_eq_false, hf, filesD, hq.isCell, hq.val, hq.cells] <;> exact rfl) ?_
  refine ow_op (by simp only [opd, zv, exOp, aop, LOp.loud, lop, rowsOf, newAt, setAt, zh, zm, hX.isCell, hX.val, hU.isCell, hU.val, hT.isCell, hT.val, hY.len, tokRows_len, hia, hk, beq_self_eq_true, Bool.not_true, mapget_modes, plainV_int, Nat.zero_min, hm, bne_self_eq_false, hf, filesD, hq.isCell, hq.val, hq.cells] <;> exact rfl) ?_
  refine ow_op (by simp only [opd, zv, exOp, aop, LOp.loud, pop, zp, hX.isCell, hX.val, hU.isCell, hU.val, hT.isCell, hT.val, hY.len, tokRows_len, hia, hk, beq_self_eq_true, Bool.not_true, mapget_modes, plainV_int, Nat.zero_min, hm, bne_self_eq_false, hf, filesD, hq.isCell, hq.val, hq.cells] <;> exact rfl) ?_
  refine ow_op (by simp only [opd, zv, exOp, aop, LOp.loud, lop, rowsOf, newAt, setAt, zh, zm, storeD, overlay, snapVs, snaps, zs, zc, zf, List.take, List.drop, hX.isCell, hX.val, hU.isCell, hU.val, hT.isCell, hT.val, hY.len, tokRows_len, hia, hk, beq_self_eq_true, Bool.not_true, mapget_modes, plainV_int, Nat.zero_min, hm, bne_self_eq_false, hf, filesD, hq.isCell, hq.val, hq.cells] <;> exact rfl) ?_
  refine ow_nil ?_
  refine sk_n (by simp only [exports, zn, zg] <;> exact rfl) ?_
  refine cw_seq ?_
  refine cw_seq ?_
  refine cw_region ?_
  refine ow_op (by simp only [opd, zv, exOp, aop, LOp.loud, pop, zp, faddrD_ptr, faddrD_cptr, zm, hX.isCell, hX.val, hU.isCell, hU.val, hT.isCell, hT.val, hY.len, tokRows_len, hia, hk, beq_self_eq_true, Bool.not_true, mapget_modes, plainV_int, Nat.zero_min, hm, bne_self_eq_false, hf, filesD, hq.isCell, hq.val, hq.cells] <;> exact rfl) ?_
  refine ow_op (by simp only [opd, zv, exOp, aop, LOp.loud, lop, rowsOf, newAt, setAt, zh, zm, loadD_cptr, loadD_ptr, partD, List.take, List.drop, hX.isCell, hX.val, hU.isCell, hU.val, hT.isCell, hT.val, hY.len, tokRows_len, hia, hk, beq_self_eq_true, Bool.not_true, mapget_modes, plainV_int, Nat.zero_min, hm, bne_self_eq_false, hf, filesD, hq.isCell, hq.val, hq.cells] <;> exact rfl) ?_
  refine ow_op (by simp only [opd, zv, exOp, aop, LOp.loud, pop, zp, binD, eq_self, ne_eq, not_false_eq_true, true_and, Int.reduceEq, ite_true, ite_false, not_true_eq_false, Int.reduceToNat, Int.reduceLT, hX.isCell, hX.val, hU.isCell, hU.val, hT.isCell, hT.val, hY.len, tokRows_len, hia, hk, beq_self_eq_true, Bool.not_true, mapget_modes, plainV_int, Nat.zero_min, hm, bne_self_eq_false, hf, filesD, hq.isCell, hq.val, hq.cells] <;> exact rfl) ?_
  refine ow_nil ?_
  refine sk_n (by simp only [exports, zn, zg] <;> exact rfl) ?_
  skip
  refine cw_false (by simp only [opd, zv, hX.isCell, hX.val, hU.isCell, hU.val, hT.isCell, hT.val, hY.len, tokRows_len, hia, hk, beq_self_eq_true, Bool.not_true, mapget_modes, plainV_int, Nat.zero_min, hm, bne_self_eq_false, hf, filesD, hq.isCell, hq.val, hq.cells] <;> rfl) ?_
  refine cw_skip ?_
  refine sk_n rfl ?_
  refine cw_seq ?_
  refine cw_region ?_
  refine ow_op (by simp only [opd, zv, exOp, aop, LOp.loud, pop, zp, faddrD_ptr, faddrD_cptr, zm, hX.isCell, hX.val, hU.isCell, hU.val, hT.isCell, hT.val, hY.len, tokRows_len, hia, hk, beq_self_eq_true, Bool.not_true, mapget_modes, plainV_int, Nat.zero_min, hm, bne_self_eq_false, hf, filesD, hq.isCell, hq.val, hq.cells] <;> exact rfl) ?_
  refine ow_op (by simp only [opd, zv, exOp, aop, LOp.loud, lop, rowsOf, newAt, setAt, zh, zm, loadD_cptr, loadD_ptr, partD, List.take, List.drop, hX.isCell, hX.val, hU.isCell, hU.val, hT.isCell, hT.val, hY.len, tokRows_len, hia, hk, beq_self_eq_true, Bool.not_true, mapget_modes, plainV_int, Nat.zero_min, hm, bne_self_eq_false, hf, filesD, hq.isCell, hq.val, hq.cells] <;> exact rfl) ?_
  refine ow_op (by simp only [opd, zv, exOp, aop, LOp.loud, pop, zp, hX.isCell, hX.val, hU.isCell, hU.val, hT.isCell, hT.val, hY.len, tokRows_len, hia, hk, beq_self_eq_true, Bool.not_true, mapget_modes, plainV_int, Nat.zero_min, hm, bne_self_eq_false, hf, filesD, hq.isCell, hq.val, hq.cells] <;> exact rfl) ?_
  refine ow_op (by simp only [opd, zv, exOp, aop, LOp.loud, pop, zp, fillD, overlay, zc, List.take, List.drop, Nat.reduceAdd, Nat.reduceLeDiff, Nat.reduceBEq, zm, hX.isCell, hX.val, hU.isCell, hU.val, hT.isCell, hT.val, hY.len, tokRows_len, hia, hk, beq_self_eq_true, Bool.not_true, mapget_modes, plainV_int, Nat.zero_min, hm, bne_self_eq_false, hf, filesD, hq.isCell, hq.val, hq.cells] <;> exact rfl) ?_
  refine ow_op (by simp only [opd, zv, exOp, aop, LOp.loud, pop, zp, fillD, overlay, zc, List.take, List.drop, Nat.reduceAdd, Nat.reduceLeDiff, Nat.reduceBEq, zm, hX.isCell, hX.val, hU.isCell, hU.val, hT.isCell, hT.val, hY.len, tokRows_len, hia, hk, beq_self_eq_true, Bool.not_true, mapget_modes, plainV_int, Nat.zero_min, hm, bne_self_eq_false, hf, filesD, hq.isCell, hq.val, hq.cells] <;> exact rfl) ?_
  refine ow_op (by simp only [opd, zv, exOp, aop, LOp.loud, lop, rowsOf, newAt, setAt, zh, zm, storeD, overlay, snapVs, snaps, zs, zc, zf, List.take, List.drop, hX.isCell, hX.val, hU.isCell, hU.val, hT.isCell, hT.val, hY.len, tokRows_len, hia, hk, beq_self_eq_true, Bool.not_true, mapget_modes, plainV_int, Nat.zero_min, hm, bne_self_eq_false, hf, filesD, hq.isCell, hq.val, hq.cells] <;> exact rfl) ?_
  refine ow_op (by simp only [opd, zv, exOp, aop, LOp.loud, lop, rowsOf, newAt, setAt, zh, zm, storeD, overlay, snapVs, snaps, zs, zc, zf, List.take, List.drop, hX.isCell, hX.val, hU.isCell, hU.val, hT.isCell, hT.val, hY.len, tokRows_len, hia, hk, beq_self_eq_true, Bool.not_true, mapget_modes, plainV_int, Nat.zero_min, hm, bne_self_eq_false, hf, filesD, hq.isCell, hq.val, hq.cells] <;> exact rfl) ?_
  refine ow_nil ?_
  refine sk_n (by simp only [exports, zn, zg] <;> exact rfl) ?_
  refine cw_ret ?_
  refine ⟨_, by simp only [F14, resultD, resDs, resD, List.getD_cons_zero, List.getD_cons_succ, loadD_cptr, loadD_ptr, rowsOf, partD, List.getElem?_cons_zero, List.getElem?_cons_succ, if_true, if_false, Bool.false_eq_true, List.take, List.drop, zm] <;> exact rfl, ?_⟩
  simp only [leaveP, leave, snapVs, snaps, zs, zf, Option.map_some, List.all_cons, List.all_nil, Bool.and_self, Bool.and_true, if_true, if_false, Bool.false_eq_true, List.length_nil, Nat.le_refl, Nat.zero_le, hq.snapV, hq.freeV, hq.snap, hq.free, hq.snapR, hq.freeR]

theorem rule_fdup {d : Nat} (hd : 7 ≤ d) (S : St) {fx ux rx tx y : D} {fl : List Fi} {rl : List Ru} {r : Tok} {rs : List Tok} {sec : ByteArray} {ur tr : List (List D)} (hX : SlD 12 (fiRows fl) fx) (hU : SlD 3 ur ux) (hR : SlD 3 (ruRows rl) rx) (hT : SlD 5 tr tx) (hY : SlD 5 (tokRows (r :: rs)) y) (hfl6 : fl.length ≤ 1000000) (hrl : rl.length ≤ 1000000) (hk : r.kind = 1) (hh : ∀ (d : Nat) (S : St), 4 ≤ d → runF LP NN d 21 [tx] S = some (.tup [y, .bool true], S, false)) (hm : modeW r.text = 0) (t : Tok) (hlen : rs.length ≤ 900) (hok : ∀ t ∈ r :: rs, okTok fl t) (hf : filesF rl (r :: rs) [] = .inr t) :
    runF LP NN d 14 [progD fx ux, rx, .agg [.str sec, tx, .nils]] S = some (.tup [.agg [.str ⟨#[]⟩, .nils, .int .u8 0], .agg [.int .i64 8, .int .i64 t.line, .int .i64 t.col]], S, false) := by
  unfold progD
  have hia := fun (S : St) => hY.iaddr S .i64 (i := 0) (by omega) (tokRows_0 r rs)
  have hlen' : (r :: rs).length ≤ 1000 := by simp; omega
  refine run_pure (F := F14) rfl (by simp only [LP, fnOf, snapVs, snaps, zs, Bool.false_eq_true, if_false, Option.map_some, List.map_cons, List.map_nil, hX.snap, hX.free, hU.snap, hU.free, hR.snapV, hR.freeV, hT.snap, hT.free] <;> exact rfl) rfl (by simp only [LP, zf, List.all_cons, List.all_nil, Bool.and_true, Bool.true_and, hX.snap, hX.free, hU.snap, hU.free, hR.snapV, hR.freeV, hT.snap, hT.free]; try rfl) (by simp only [F14, zv] <;> exact rfl) (by omega) ?_
  rintro d rfl
  refine cw_seq ?_
  refine cw_region ?_
  refine ow_op (by simp only [opd, zv, exOp, aop, LOp.loud, lop, rowsOf, newAt, setAt, zh, zm, zc, hX.isCell, hX.val, hU.isCell, hU.val, hT.isCell, hT.val, hY.len, tokRows_len, hia, hk, beq_self_eq_true, Bool.not_true, mapget_modes, plainV_int, Nat.zero_min, hm, hf, filesD, bne_self_eq_false] <;> exact rfl) ?_
  refine ow_op (by simp only [opd, zv, exOp, aop, LOp.loud, lop, rowsOf, newAt, setAt, zh, zm, zc, hX.isCell, hX.val, hU.isCell, hU.val, hT.isCell, hT.val, hY.len, tokRows_len, hia, hk, beq_self_eq_true, Bool.not_true, mapget_modes, plainV_int, Nat.zero_min, hm, hf, filesD, bne_self_eq_false] <;> exact rfl) ?_
  refine ow_op (by simp only [opd, zv, exOp, aop, LOp.loud, lop, rowsOf, newAt, setAt, zh, zm, hX.isCell, hX.val, hU.isCell, hU.val, hT.isCell, hT.val, hY.len, tokRows_len, hia, hk, beq_self_eq_true, Bool.not_true, mapget_modes, plainV_int, Nat.zero_min, hm, hf, filesD, bne_self_eq_false] <;> exact rfl) ?_
  refine ow_op (by simp only [opd, zv, exOp, aop, LOp.loud, lop, rowsOf, newAt, setAt, zh, zm, hX.isCell, hX.val, hU.isCell, hU.val, hT.isCell, hT.val, hY.len, tokRows_len, hia, hk, beq_self_eq_true, Bool.not_true, mapget_modes, plainV_int, Nat.zero_min, hm, hf, filesD, bne_self_eq_false] <;> exact rfl) ?_
  refine ow_nil ?_
  refine sk_n (by simp only [exports, zn, zg] <;> exact rfl) ?_
  refine cw_seq ?_
  refine cw_region ?_
  refine ow_op (by simp only [opd, zv, exOp, aop, LOp.loud, pop, zp, faddrD_ptr, faddrD_cptr, zm, hX.isCell, hX.val, hU.isCell, hU.val, hT.isCell, hT.val, hY.len, tokRows_len, hia, hk, beq_self_eq_true, Bool.not_true, mapget_modes, plainV_int, Nat.zero_min, hm, hf, filesD, bne_self_eq_false] <;> exact rfl) ?_
  refine ow_op (by simp only [opd, zv, exOp, aop, LOp.loud, lop, rowsOf, newAt, setAt, zh, zm, loadD_cptr, loadD_ptr, partD, List.take, List.drop, hX.isCell, hX.val, hU.isCell, hU.val, hT.isCell, hT.val, hY.len, tokRows_len, hia, hk, beq_self_eq_true, Bool.not_true, mapget_modes, plainV_int, Nat.zero_min, hm, hf, filesD, bne_self_eq_false] <;> exact rfl) ?_
  refine ow_op (by simp only [exOp, opd, zv, hX.isCell, hX.val, hU.isCell, hU.val, hT.isCell, hT.val, hY.len, tokRows_len, hia, hk, beq_self_eq_true, Bool.not_true, mapget_modes, plainV_int, Nat.zero_min, hm, hf, filesD, bne_self_eq_false]; exact hh _ _ (by omega)) ?_
  refine ow_op (by simp only [opd, zv, exOp, aop, LOp.loud, pop, zp, hX.isCell, hX.val, hU.isCell, hU.val, hT.isCell, hT.val, hY.len, tokRows_len, hia, hk, beq_self_eq_true, Bool.not_true, mapget_modes, plainV_int, Nat.zero_min, hm, hf, filesD, bne_self_eq_false] <;> exact rfl) ?_
  refine ow_op (by simp only [opd, zv, exOp, aop, LOp.loud, pop, zp, List.getElem?_cons_zero, List.getElem?_cons_succ, hX.isCell, hX.val, hU.isCell, hU.val, hT.isCell, hT.val, hY.len, tokRows_len, hia, hk, beq_self_eq_true, Bool.not_true, mapget_modes, plainV_int, Nat.zero_min, hm, hf, filesD, bne_self_eq_false] <;> exact rfl) ?_
  refine ow_op (by simp only [opd, zv, exOp, aop, LOp.loud, pop, zp, List.getElem?_cons_zero, List.getElem?_cons_succ, hX.isCell, hX.val, hU.isCell, hU.val, hT.isCell, hT.val, hY.len, tokRows_len, hia, hk, beq_self_eq_true, Bool.not_true, mapget_modes, plainV_int, Nat.zero_min, hm, hf, filesD, bne_self_eq_false] <;> exact rfl) ?_
  refine ow_op (by simp only [opd, zv, exOp, aop, LOp.loud, pop, zp, hX.isCell, hX.val, hU.isCell, hU.val, hT.isCell, hT.val, hY.len, tokRows_len, hia, hk, beq_self_eq_true, Bool.not_true, mapget_modes, plainV_int, Nat.zero_min, hm, hf, filesD, bne_self_eq_false] <;> exact rfl) ?_
  refine ow_op (by simp only [opd, zv, exOp, aop, LOp.loud, pop, zp, hX.isCell, hX.val, hU.isCell, hU.val, hT.isCell, hT.val, hY.len, tokRows_len, hia, hk, beq_self_eq_true, Bool.not_true, mapget_modes, plainV_int, Nat.zero_min, hm, hf, filesD, bne_self_eq_false] <;> exact rfl) ?_
  refine ow_nil ?_
  refine sk_n (by simp only [exports, zn, zg] <;> exact rfl) ?_
  refine cw_seq ?_
  refine cw_seq ?_
  refine cw_region ?_
  refine ow_op (by simp only [opd, zv, exOp, aop, LOp.loud, pop, zp, hX.isCell, hX.val, hU.isCell, hU.val, hT.isCell, hT.val, hY.len, tokRows_len, hia, hk, beq_self_eq_true, Bool.not_true, mapget_modes, plainV_int, Nat.zero_min, hm, hf, filesD, bne_self_eq_false] <;> exact rfl) ?_
  refine ow_op (by simp only [opd, zv, exOp, aop, LOp.loud, pop, zp, unD, hX.isCell, hX.val, hU.isCell, hU.val, hT.isCell, hT.val, hY.len, tokRows_len, hia, hk, beq_self_eq_true, Bool.not_true, mapget_modes, plainV_int, Nat.zero_min, hm, hf, filesD, bne_self_eq_false] <;> exact rfl) ?_
  refine ow_nil ?_
  refine sk_n (by simp only [exports, zn, zg] <;> exact rfl) ?_
  skip
  refine cw_false (by simp only [opd, zv, hX.isCell, hX.val, hU.isCell, hU.val, hT.isCell, hT.val, hY.len, tokRows_len, hia, hk, beq_self_eq_true, Bool.not_true, mapget_modes, plainV_int, Nat.zero_min, hm, hf, filesD, bne_self_eq_false] <;> rfl) ?_
  refine cw_skip ?_
  refine sk_n rfl ?_
  refine cw_seq ?_
  refine cw_seq ?_
  refine cw_drawn (by simp only [newsVals, List.length_nil, List.length_cons, List.range_succ, List.range_zero, List.nil_append, List.map_nil, List.reverse_nil, List.cons_append, List.map_cons, List.reverse_cons, Nat.zero_add, Nat.add_zero, Nat.reduceAdd] <;> exact rfl) (by simp only [List.map_nil, List.map_cons, newsObj, St.eta, List.append_nil, List.cons_append, List.nil_append, List.length_cons, List.length_nil] <;> exact rfl) ?_
  refine dw_op (by simp only [exOp, opd, zv, hX.isCell, hX.val, hU.isCell, hU.val, hT.isCell, hT.val, hY.len, tokRows_len, hia, hk, beq_self_eq_true, Bool.not_true, mapget_modes, plainV_int, Nat.zero_min, hm, hf, filesD, bne_self_eq_false]; exact modes_run (by omega) _) (by simp only [fpHere, opd, List.map_cons, List.map_nil, List.getD_cons_zero, List.getD_cons_succ, zq, plainV_int, hY.fpi] <;> exact rfl) rfl ?_
  refine dw_quiet (by simp only [opd, zv, exOp, aop, LOp.loud, pop, zp, hX.isCell, hX.val, hU.isCell, hU.val, hT.isCell, hT.val, hY.len, tokRows_len, hia, hk, beq_self_eq_true, Bool.not_true, mapget_modes, plainV_int, Nat.zero_min, hm, hf, filesD, bne_self_eq_false] <;> exact rfl) rfl rfl ?_
  refine dw_op (by simp only [opd, zv, exOp, aop, LOp.loud, lop, rowsOf, newAt, setAt, zh, zm, iaddrD_sl, iaddrD_msl, Int.toNat_natCast, Int.toNat_zero, List.getElem?_map, Option.map_some, Int.le_refl, hX.isCell, hX.val, hU.isCell, hU.val, hT.isCell, hT.val, hY.len, tokRows_len, hia, hk, beq_self_eq_true, Bool.not_true, mapget_modes, plainV_int, Nat.zero_min, hm, hf, filesD, bne_self_eq_false] <;> exact rfl) (by simp only [fpHere, opd, List.map_cons, List.map_nil, List.getD_cons_zero, List.getD_cons_succ, zq, plainV_int, hY.fpi] <;> exact rfl) rfl ?_
  refine dw_quiet (by simp only [opd, zv, exOp, aop, LOp.loud, pop, zp, faddrD_ptr, faddrD_cptr, zm, hX.isCell, hX.val, hU.isCell, hU.val, hT.isCell, hT.val, hY.len, tokRows_len, hia, hk, beq_self_eq_true, Bool.not_true, mapget_modes, plainV_int, Nat.zero_min, hm, hf, filesD, bne_self_eq_false] <;> exact rfl) rfl rfl ?_
  refine dw_op (by simp only [opd, zv, exOp, aop, LOp.loud, lop, rowsOf, newAt, setAt, zh, zm, loadD_cptr, loadD_ptr, partD, List.take, List.drop, hX.isCell, hX.val, hU.isCell, hU.val, hT.isCell, hT.val, hY.len, tokRows_len, hia, hk, beq_self_eq_true, Bool.not_true, mapget_modes, plainV_int, Nat.zero_min, hm, hf, filesD, bne_self_eq_false] <;> exact rfl) (by simp only [fpHere, opd, List.map_cons, List.map_nil, List.getD_cons_zero, List.getD_cons_succ, zq, plainV_int, hY.fpi] <;> exact rfl) rfl ?_
  refine dw_op (by simp only [opd, zv, exOp, aop, LOp.loud, lop, if_true, Option.map_some, hX.isCell, hX.val, hU.isCell, hU.val, hT.isCell, hT.val, hY.len, tokRows_len, hia, hk, beq_self_eq_true, Bool.not_true, mapget_modes, plainV_int, Nat.zero_min, hm, hf, filesD, bne_self_eq_false] <;> exact rfl) (by simp only [fpHere, opd, List.map_cons, List.map_nil, List.getD_cons_zero, List.getD_cons_succ, zq, plainV_int, hY.fpi] <;> exact rfl) rfl ?_
  refine dw_op (by simp only [opd, zv, exOp, aop, LOp.loud, pop, zp, hX.isCell, hX.val, hU.isCell, hU.val, hT.isCell, hT.val, hY.len, tokRows_len, hia, hk, beq_self_eq_true, Bool.not_true, mapget_modes, plainV_int, Nat.zero_min, hm, hf, filesD, bne_self_eq_false] <;> exact rfl) rfl rfl ?_
  refine dw_op (by simp only [opd, zv, exOp, aop, LOp.loud, lop, rowsOf, newAt, setAt, zh, zm, storeD, overlay, snapVs, snaps, zs, zc, zf, List.take, List.drop, hX.isCell, hX.val, hU.isCell, hU.val, hT.isCell, hT.val, hY.len, tokRows_len, hia, hk, beq_self_eq_true, Bool.not_true, mapget_modes, plainV_int, Nat.zero_min, hm, hf, filesD, bne_self_eq_false] <;> exact rfl) (by simp only [fpHere, opd, List.map_cons, List.map_nil, List.getD_cons_zero, List.getD_cons_succ, zq, plainV_int, hY.fpi] <;> exact rfl) rfl ?_
  refine dw_nil ?_
  refine sk_n (by simp only [exports, zn, zg] <;> exact rfl) ?_
  refine cw_seq ?_
  refine cw_region ?_
  refine ow_op (by simp only [opd, zv, exOp, aop, LOp.loud, pop, zp, hX.isCell, hX.val, hU.isCell, hU.val, hT.isCell, hT.val, hY.len, tokRows_len, hia, hk, beq_self_eq_true, Bool.not_true, mapget_modes, plainV_int, Nat.zero_min, hm, hf, filesD, bne_self_eq_false] <;> exact rfl) ?_
  refine ow_op (by simp only [opd, zv, exOp, aop, LOp.loud, lop, rowsOf, newAt, setAt, zh, zm, iaddrD_sl, iaddrD_msl, Int.toNat_natCast, Int.toNat_zero, List.getElem?_map, Option.map_some, Int.le_refl, hX.isCell, hX.val, hU.isCell, hU.val, hT.isCell, hT.val, hY.len, tokRows_len, hia, hk, beq_self_eq_true, Bool.not_true, mapget_modes, plainV_int, Nat.zero_min, hm, hf, filesD, bne_self_eq_false] <;> exact rfl) ?_
  refine ow_op (by simp only [opd, zv, exOp, aop, LOp.loud, pop, zp, faddrD_ptr, faddrD_cptr, zm, hX.isCell, hX.val, hU.isCell, hU.val, hT.isCell, hT.val, hY.len, tokRows_len, hia, hk, beq_self_eq_true, Bool.not_true, mapget_modes, plainV_int, Nat.zero_min, hm, hf, filesD, bne_self_eq_false] <;> exact rfl) ?_
  refine ow_op (by simp only [opd, zv, exOp, aop, LOp.loud, lop, rowsOf, newAt, setAt, zh, zm, loadD_cptr, loadD_ptr, partD, List.take, List.drop, hX.isCell, hX.val, hU.isCell, hU.val, hT.isCell, hT.val, hY.len, tokRows_len, hia, hk, beq_self_eq_true, Bool.not_true, mapget_modes, plainV_int, Nat.zero_min, hm, hf, filesD, bne_self_eq_false] <;> exact rfl) ?_
  refine ow_op (by simp only [opd, zv, exOp, aop, LOp.loud, pop, zp, binD, eq_self, ne_eq, not_false_eq_true, true_and, Int.reduceEq, ite_true, ite_false, not_true_eq_false, Int.reduceToNat, Int.reduceLT, hX.isCell, hX.val, hU.isCell, hU.val, hT.isCell, hT.val, hY.len, tokRows_len, hia, hk, beq_self_eq_true, Bool.not_true, mapget_modes, plainV_int, Nat.zero_min, hm, hf, filesD, bne_self_eq_false] <;> exact rfl) ?_
  refine ow_op (by simp only [opd, zv, exOp, aop, LOp.loud, pop, zp, hX.isCell, hX.val, hU.isCell, hU.val, hT.isCell, hT.val, hY.len, tokRows_len, hia, hk, beq_self_eq_true, Bool.not_true, mapget_modes, plainV_int, Nat.zero_min, hm, hf, filesD, bne_self_eq_false] <;> exact rfl) ?_
  refine ow_know 0 (b := true) (by simp only [opd, zv, hX.isCell, hX.val, hU.isCell, hU.val, hT.isCell, hT.val, hY.len, tokRows_len, hia, hk, beq_self_eq_true, Bool.not_true, mapget_modes, plainV_int, Nat.zero_min, hm, hf, filesD, bne_self_eq_false] <;> rfl) (by simp only [zn] <;> exact rfl) ?_
  refine ow_on (by simp only [opd, zv]) ?_
  refine ow_op (by simp only [opd, zv, exOp, aop, LOp.loud, lop, rowsOf, newAt, setAt, zh, zm, loadD_cptr, loadD_ptr, partD, List.take, List.drop, hX.isCell, hX.val, hU.isCell, hU.val, hT.isCell, hT.val, hY.len, tokRows_len, hia, hk, beq_self_eq_true, Bool.not_true, mapget_modes, plainV_int, Nat.zero_min, hm, hf, filesD, bne_self_eq_false] <;> exact rfl) ?_
  refine ow_on (by simp only [opd, zv]) ?_
  refine ow_op (by simp only [opd, zv, exOp, aop, LOp.loud, pop, zp, binD, eq_self, ne_eq, not_false_eq_true, true_and, Int.reduceEq, ite_true, ite_false, not_true_eq_false, Int.reduceToNat, Int.reduceLT, hX.isCell, hX.val, hU.isCell, hU.val, hT.isCell, hT.val, hY.len, tokRows_len, hia, hk, beq_self_eq_true, Bool.not_true, mapget_modes, plainV_int, Nat.zero_min, hm, hf, filesD, bne_self_eq_false] <;> exact rfl) ?_
  refine ow_op (by simp only [opd, zv, exOp, aop, LOp.loud, pop, zp, hX.isCell, hX.val, hU.isCell, hU.val, hT.isCell, hT.val, hY.len, tokRows_len, hia, hk, beq_self_eq_true, Bool.not_true, mapget_modes, plainV_int, Nat.zero_min, hm, hf, filesD, bne_self_eq_false] <;> exact rfl) ?_
  refine ow_nil ?_
  refine sk_n (by simp only [exports, zn, zg] <;> exact rfl) ?_
  skip
  refine cw_false (by simp only [opd, zv, hX.isCell, hX.val, hU.isCell, hU.val, hT.isCell, hT.val, hY.len, tokRows_len, hia, hk, beq_self_eq_true, Bool.not_true, mapget_modes, plainV_int, Nat.zero_min, hm, hf, filesD, bne_self_eq_false] <;> rfl) ?_
  refine cw_skip ?_
  refine sk_n rfl ?_
  refine cw_seq ?_
  refine cw_region ?_
  refine ow_op (by simp only [opd, zv, exOp, aop, LOp.loud, lop, rowsOf, newAt, setAt, zh, zm, loadD_cptr, loadD_ptr, partD, List.take, List.drop, hX.isCell, hX.val, hU.isCell, hU.val, hT.isCell, hT.val, hY.len, tokRows_len, hia, hk, beq_self_eq_true, Bool.not_true, mapget_modes, plainV_int, Nat.zero_min, hm, hf, filesD, bne_self_eq_false] <;> exact rfl) ?_
  refine ow_op (by simp only [opd, zv, exOp, aop, LOp.loud, pop, zp, hX.isCell, hX.val, hU.isCell, hU.val, hT.isCell, hT.val, hY.len, tokRows_len, hia, hk, beq_self_eq_true, Bool.not_true, mapget_modes, plainV_int, Nat.zero_min, hm, hf, filesD, bne_self_eq_false] <;> exact rfl) ?_
  refine ow_op (by simp only [opd, zv, exOp, aop, LOp.loud, pop, zp, faddrD_ptr, faddrD_cptr, zm, hX.isCell, hX.val, hU.isCell, hU.val, hT.isCell, hT.val, hY.len, tokRows_len, hia, hk, beq_self_eq_true, Bool.not_true, mapget_modes, plainV_int, Nat.zero_min, hm, hf, filesD, bne_self_eq_false] <;> exact rfl) ?_
  refine ow_op (by simp only [opd, zv, exOp, aop, LOp.loud, lop, rowsOf, newAt, setAt, zh, zm, loadD_cptr, loadD_ptr, partD, List.take, List.drop, hX.isCell, hX.val, hU.isCell, hU.val, hT.isCell, hT.val, hY.len, tokRows_len, hia, hk, beq_self_eq_true, Bool.not_true, mapget_modes, plainV_int, Nat.zero_min, hm, hf, filesD, bne_self_eq_false] <;> exact rfl) ?_
  refine ow_op (by simp only [opd, zv, exOp, aop, LOp.loud, pop, zp, hX.isCell, hX.val, hU.isCell, hU.val, hT.isCell, hT.val, hY.len, tokRows_len, hia, hk, beq_self_eq_true, Bool.not_true, mapget_modes, plainV_int, Nat.zero_min, hm, hf, filesD, bne_self_eq_false] <;> exact rfl) ?_
  refine ow_op (by simp only [exOp, opd, zv, hX.isCell, hX.val, hU.isCell, hU.val, hT.isCell, hT.val, hY.len, tokRows_len, hia, hk, beq_self_eq_true, Bool.not_true, mapget_modes, plainV_int, Nat.zero_min, hm, hf, filesD, bne_self_eq_false]; exact files_run (by omega) _ hX hU hR hT hY hfl6 hrl (by omega) hok) ?_
  refine ow_op (by simp only [opd, zv, exOp, aop, LOp.loud, pop, zp, hX.isCell, hX.val, hU.isCell, hU.val, hT.isCell, hT.val, hY.len, tokRows_len, hia, hk, beq_self_eq_true, Bool.not_true, mapget_modes, plainV_int, Nat.zero_min, hm, hf, filesD, bne_self_eq_false] <;> exact rfl) ?_
  refine ow_op (by simp only [opd, zv, exOp, aop, LOp.loud, pop, zp, List.getElem?_cons_zero, List.getElem?_cons_succ, hX.isCell, hX.val, hU.isCell, hU.val, hT.isCell, hT.val, hY.len, tokRows_len, hia, hk, beq_self_eq_true, Bool.not_true, mapget_modes, plainV_int, Nat.zero_min, hm, hf, filesD, bne_self_eq_false] <;> exact rfl) ?_
  refine ow_op (by simp only [opd, zv, exOp, aop, LOp.loud, pop, zp, List.getElem?_cons_zero, List.getElem?_cons_succ, hX.isCell, hX.val, hU.isCell, hU.val, hT.isCell, hT.val, hY.len, tokRows_len, hia, hk, beq_self_eq_true, Bool.not_true, mapget_modes, plainV_int, Nat.zero_min, hm, hf, filesD, bne_self_eq_false] <;> exact rfl) ?_
  refine ow_op (by simp only [opd, zv, exOp, aop, LOp.loud, lop, rowsOf, newAt, setAt, zh, zm, hX.isCell, hX.val, hU.isCell, hU.val, hT.isCell, hT.val, hY.len, tokRows_len, hia, hk, beq_self_eq_true, Bool.not_true, mapget_modes, plainV_int, Nat.zero_min, hm, hf, filesD, bne_self_eq_false] <;> exact rfl) ?_
  refine ow_op (by simp only [opd, zv, exOp, aop, LOp.loud, pop, zp, hX.isCell, hX.val, hU.isCell, hU.val, hT.isCell, hT.val, hY.len, tokRows_len, hia, hk, beq_self_eq_true, Bool.not_true, mapget_modes, plainV_int, Nat.zero_min, hm, hf, filesD, bne_self_eq_false] <;> exact rfl) ?_
  refine ow_op (by simp only [opd, zv, exOp, aop, LOp.loud, lop, rowsOf, newAt, setAt, zh, zm, storeD, overlay, snapVs, snaps, zs, zc, zf, List.take, List.drop, hX.isCell, hX.val, hU.isCell, hU.val, hT.isCell, hT.val, hY.len, tokRows_len, hia, hk, beq_self_eq_true, Bool.not_true, mapget_modes, plainV_int, Nat.zero_min, hm, hf, filesD, bne_self_eq_false] <;> exact rfl) ?_
  refine ow_nil ?_
  refine sk_n (by simp only [exports, zn, zg] <;> exact rfl) ?_
  refine cw_seq ?_
  refine cw_seq ?_
  refine cw_region ?_
  refine ow_op (by simp only [opd, zv, exOp, aop, LOp.loud, pop, zp, faddrD_ptr, faddrD_cptr, zm, hX.isCell, hX.val, hU.isCell, hU.val, hT.isCell, hT.val, hY.len, tokRows_len, hia, hk, beq_self_eq_true, Bool.not_true, mapget_modes, plainV_int, Nat.zero_min, hm, hf, filesD, bne_self_eq_false] <;> exact rfl) ?_
  refine ow_op (by simp only [opd, zv, exOp, aop, LOp.loud, lop, rowsOf, newAt, setAt, zh, zm, loadD_cptr, loadD_ptr, partD, List.take, List.drop, hX.isCell, hX.val, hU.isCell, hU.val, hT.isCell, hT.val, hY.len, tokRows_len, hia, hk, beq_self_eq_true, Bool.not_true, mapget_modes, plainV_int, Nat.zero_min, hm, hf, filesD, bne_self_eq_false] <;> exact rfl) ?_
  refine ow_op (by simp only [opd, zv, exOp, aop, LOp.loud, pop, zp, binD, eq_self, ne_eq, not_false_eq_true, true_and, Int.reduceEq, ite_true, ite_false, not_true_eq_false, Int.reduceToNat, Int.reduceLT, hX.isCell, hX.val, hU.isCell, hU.val, hT.isCell, hT.val, hY.len, tokRows_len, hia, hk, beq_self_eq_true, Bool.not_true, mapget_modes, plainV_int, Nat.zero_min, hm, hf, filesD, bne_self_eq_false] <;> exact rfl) ?_
  refine ow_nil ?_
  refine sk_n (by simp only [exports, zn, zg] <;> exact rfl) ?_
  skip
  refine cw_true (by simp only [opd, zv, hX.isCell, hX.val, hU.isCell, hU.val, hT.isCell, hT.val, hY.len, tokRows_len, hia, hk, beq_self_eq_true, Bool.not_true, mapget_modes, plainV_int, Nat.zero_min, hm, hf, filesD, bne_self_eq_false] <;> rfl) ?_
  refine cw_seq ?_
  refine cw_drawn (by simp only [newsVals, List.length_nil, List.length_cons, List.range_succ, List.range_zero, List.nil_append, List.map_nil, List.reverse_nil, List.cons_append, List.map_cons, List.reverse_cons, Nat.zero_add, Nat.add_zero, Nat.reduceAdd] <;> exact rfl) (by simp only [List.map_nil, List.map_cons, newsObj, St.eta, List.append_nil, List.cons_append, List.nil_append, List.length_cons, List.length_nil] <;> exact rfl) ?_
  refine dw_quiet (by simp only [opd, zv, exOp, aop, LOp.loud, pop, zp, fillD, overlay, zc, List.take, List.drop, Nat.reduceAdd, Nat.reduceLeDiff, Nat.reduceBEq, zm, hX.isCell, hX.val, hU.isCell, hU.val, hT.isCell, hT.val, hY.len, tokRows_len, hia, hk, beq_self_eq_true, Bool.not_true, mapget_modes, plainV_int, Nat.zero_min, hm, hf, filesD, bne_self_eq_false] <;> exact rfl) rfl rfl ?_
  refine dw_op (by simp only [opd, zv, exOp, aop, LOp.loud, lop, rowsOf, newAt, setAt, zh, zm, loadD_cptr, loadD_ptr, partD, List.take, List.drop, hX.isCell, hX.val, hU.isCell, hU.val, hT.isCell, hT.val, hY.len, tokRows_len, hia, hk, beq_self_eq_true, Bool.not_true, mapget_modes, plainV_int, Nat.zero_min, hm, hf, filesD, bne_self_eq_false] <;> exact rfl) (by simp only [fpHere, opd, List.map_cons, List.map_nil, List.getD_cons_zero, List.getD_cons_succ, zq, plainV_int, hY.fpi] <;> exact rfl) rfl ?_
  refine dw_op (by simp only [opd, zv, exOp, aop, LOp.loud, lop, rowsOf, newAt, setAt, zh, zm, storeD, overlay, snapVs, snaps, zs, zc, zf, List.take, List.drop, hX.isCell, hX.val, hU.isCell, hU.val, hT.isCell, hT.val, hY.len, tokRows_len, hia, hk, beq_self_eq_true, Bool.not_true, mapget_modes, plainV_int, Nat.zero_min, hm, hf, filesD, bne_self_eq_false] <;> exact rfl) (by simp only [fpHere, opd, List.map_cons, List.map_nil, List.getD_cons_zero, List.getD_cons_succ, zq, plainV_int, hY.fpi] <;> exact rfl) rfl ?_
  refine dw_op (by simp only [opd, zv, exOp, aop, LOp.loud, lop, rowsOf, newAt, setAt, zh, zm, storeD, overlay, snapVs, snaps, zs, zc, zf, List.take, List.drop, hX.isCell, hX.val, hU.isCell, hU.val, hT.isCell, hT.val, hY.len, tokRows_len, hia, hk, beq_self_eq_true, Bool.not_true, mapget_modes, plainV_int, Nat.zero_min, hm, hf, filesD, bne_self_eq_false] <;> exact rfl) (by simp only [fpHere, opd, List.map_cons, List.map_nil, List.getD_cons_zero, List.getD_cons_succ, zq, plainV_int, hY.fpi] <;> exact rfl) rfl ?_
  refine dw_nil ?_
  refine sk_n (by simp only [exports, zn, zg] <;> exact rfl) ?_
  refine cw_ret ?_
  refine sk_r ?_
  refine ⟨_, by simp only [F14, resultD, resDs, resD, List.getD_cons_zero, List.getD_cons_succ, loadD_cptr, loadD_ptr, rowsOf, partD, List.getElem?_cons_zero, List.getElem?_cons_succ, if_true, if_false, Bool.false_eq_true, List.take, List.drop, zm] <;> exact rfl, ?_⟩
  simp only [leaveP, leave, snapVs, snaps, zs, zf, Option.map_some, List.all_cons, List.all_nil, Bool.and_self, Bool.and_true, if_true, if_false, Bool.false_eq_true, List.length_nil, Nat.le_refl, Nat.zero_le]

end Go.Proofs.Ytnihohodcogpeaa

/- Proved here: what the functions of package declaratives and of the law compute, in the abstract machine; no condition. -/
import Derived.Test.YtnihohodcogpeaaE2
import Derived.Test.YtnihohodcogpeaaLoZ
namespace Go.Proofs.Ytnihohodcogpeaa
set_option linter.unusedSimpArgs false
set_option linter.unusedVariables false
set_option maxRecDepth 10000

/-- a token -/
structure Tok where
  kind : Int
  text : ByteArray
  line : Int
  col : Int
  rep : Bool
def Tok.row (t : Tok) : List D := [.int .u8 t.kind, .str t.text, .int .i64 t.line, .int .i64 t.col, .bool t.rep]
def tokRows (l : List Tok) : List (List D) := l.map Tok.row
theorem tokRows_len (l : List Tok) : (tokRows l).length = l.length := by simp [tokRows]
theorem tokRows_0 (t : Tok) (l : List Tok) : (tokRows (t :: l))[0]? = some [.int .u8 t.kind, .str t.text, .int .i64 t.line, .int .i64 t.col, .bool t.rep] := rfl
theorem tokRows_drop (l : List Tok) (n : Nat) : (tokRows l).drop n = tokRows (l.drop n) := by simp [tokRows, List.map_drop]
def isWord (t : Tok) (ws : List ByteArray) : Bool := (t.kind == 1) && ws.any fun x => t.text.toList == x.toList

theorem skip_run {d : Nat} (hd : 3 ≤ d) (S : St) {x y : D} {t : Tok} {l : List Tok} {ws : List ByteArray} (hS : SlD 5 (tokRows (t :: l)) x) (hW : SlD 1 (strRows ws) y) (hw : ws.length ≤ 1000000) :
    runF LP NN d 28 [x, y] S = some (.tup (if isWord t ws then [dropD 1 x, .bool true] else [x, .bool false]), S, false) := by
  have hl1 : 1 ≤ (tokRows (t :: l)).length := by rw [tokRows_len]; simp
  have hia := fun (S : St) => hS.iaddr S .i64 (i := 0) (by omega) (tokRows_0 t l)
  refine run_pure (F := F28) rfl (by simp only [LP, fnOf, snapVs, snaps, zs, Bool.false_eq_true, if_false, Option.map_some, List.map_cons, List.map_nil, hS.snapV, hS.freeV, hW.snapV, hW.freeV] <;> exact rfl) rfl (by simp only [LP, zf, List.all_cons, List.all_nil, Bool.and_true, Bool.true_and, hS.snapV, hS.freeV, hW.snapV, hW.freeV]; try rfl) (by simp only [F28, zv] <;> exact rfl) (by omega) ?_
  rintro d rfl
  refine cw_seq ?_
  refine cw_region ?_
  refine ow_op (by simp only [opd, zv, exOp, aop, LOp.loud, pop, zp, hS.len, tokRows_len, hia, List.length_cons] <;> exact rfl) ?_
  refine ow_op (by simp only [opd, zv, exOp, aop, LOp.loud, pop, zp, hS.len, tokRows_len, hia, List.length_cons] <;> exact rfl) ?_
  refine ow_nil ?_
  refine sk_n (by simp only [exports, zn, zg] <;> exact rfl) ?_
  refine cw_seq ?_
  refine cw_seq ?_
  refine cw_region ?_
  refine ow_op (by simp only [opd, zv, exOp, aop, LOp.loud, pop, zp, hS.len, tokRows_len, hia, List.length_cons] <;> exact rfl) ?_
  refine ow_op (by simp only [opd, zv, exOp, aop, LOp.loud, pop, zp, lenD_str, lenD_nils, lenD_sl, lenD_msl, hS.len, tokRows_len, hia, List.length_cons] <;> exact rfl) ?_
  refine ow_op (by simp only [opd, zv, exOp, aop, LOp.loud, pop, zp, binD, eq_self, ne_eq, not_false_eq_true, true_and, Int.reduceEq, ite_true, ite_false, not_true_eq_false, Int.reduceToNat, Int.reduceLT, hS.len, tokRows_len, hia, List.length_cons] <;> exact rfl) ?_
  refine ow_op (by simp only [opd, zv, exOp, aop, LOp.loud, pop, zp, hS.len, tokRows_len, hia, List.length_cons] <;> exact rfl) ?_
  refine ow_split 0 (by simp only [opd, zv] <;> exact rfl) (by simp only [zn] <;> exact rfl) (by simp only [zn] <;> exact rfl) (fun hg => ?_) (fun hg => ?_)
  · skip -- T
    refine ow_on (by simp only [opd, zv]) ?_
    refine ow_op (by simp only [opd, zv, exOp, aop, LOp.loud, pop, zp, hS.len, tokRows_len, hia, List.length_cons] <;> exact rfl) ?_
    refine ow_on (by simp only [opd, zv]) ?_
    refine ow_op (by simp only [opd, zv, exOp, aop, LOp.loud, lop, rowsOf, newAt, setAt, zh, zm, iaddrD_sl, iaddrD_msl, Int.toNat_natCast, Int.toNat_zero, List.getElem?_map, Option.map_some, Int.le_refl, hS.len, tokRows_len, hia, List.length_cons] <;> exact rfl) ?_
    refine ow_on (by simp only [opd, zv]) ?_
    refine ow_op (by simp only [opd, zv, exOp, aop, LOp.loud, pop, zp, faddrD_ptr, faddrD_cptr, zm, hS.len, tokRows_len, hia, List.length_cons] <;> exact rfl) ?_
    refine ow_on (by simp only [opd, zv]) ?_
    refine ow_op (by simp only [opd, zv, exOp, aop, LOp.loud, lop, rowsOf, newAt, setAt, zh, zm, loadD_cptr, loadD_ptr, partD, List.take, List.drop, hS.len, tokRows_len, hia, List.length_cons] <;> exact rfl) ?_
    refine ow_on (by simp only [opd, zv]) ?_
    refine ow_op (by simp only [opd, zv, exOp, aop, LOp.loud, pop, zp, binD, eq_self, ne_eq, not_false_eq_true, true_and, Int.reduceEq, ite_true, ite_false, not_true_eq_false, Int.reduceToNat, Int.reduceLT, hS.len, tokRows_len, hia, List.length_cons] <;> exact rfl) ?_
    refine ow_op (by simp only [opd, zv, exOp, aop, LOp.loud, pop, zp, hS.len, tokRows_len, hia, List.length_cons] <;> exact rfl) ?_
    refine ow_op (by simp only [opd, zv, exOp, aop, LOp.loud, pop, zp, hS.len, tokRows_len, hia, List.length_cons] <;> exact rfl) ?_
    refine ow_split 0 (by simp only [opd, zv] <;> exact rfl) (by simp only [zn] <;> exact rfl) (by simp only [zn] <;> exact rfl) (fun hgT => ?_) (fun hgT => ?_)
    · skip -- TT
      refine ow_on (by simp only [opd, zv]) ?_
      refine ow_op (by simp only [opd, zv, exOp, aop, LOp.loud, pop, zp, hS.len, tokRows_len, hia, List.length_cons] <;> exact rfl) ?_
      refine ow_on (by simp only [opd, zv]) ?_
      refine ow_op (by simp only [opd, zv, exOp, aop, LOp.loud, pop, zp, hS.len, tokRows_len, hia, List.length_cons] <;> exact rfl) ?_
      refine ow_on (by simp only [opd, zv]) ?_
      refine ow_op (by simp only [opd, zv, exOp, aop, LOp.loud, lop, rowsOf, newAt, setAt, zh, zm, iaddrD_sl, iaddrD_msl, Int.toNat_natCast, Int.toNat_zero, List.getElem?_map, Option.map_some, Int.le_refl, hS.len, tokRows_len, hia, List.length_cons] <;> exact rfl) ?_
      refine ow_on (by simp only [opd, zv]) ?_
      refine ow_op (by simp only [opd, zv, exOp, aop, LOp.loud, pop, zp, faddrD_ptr, faddrD_cptr, zm, hS.len, tokRows_len, hia, List.length_cons] <;> exact rfl) ?_
      refine ow_on (by simp only [opd, zv]) ?_
      refine ow_op (by simp only [opd, zv, exOp, aop, LOp.loud, lop, rowsOf, newAt, setAt, zh, zm, loadD_cptr, loadD_ptr, partD, List.take, List.drop, hS.len, tokRows_len, hia, List.length_cons] <;> exact rfl) ?_
      refine ow_on (by simp only [opd, zv]) ?_
      refine ow_op (by simp only [exOp, opd, zv, hS.len, tokRows_len, hia, List.length_cons]; exact contains_run (by omega) _ hW t.text hw) ?_
      refine ow_op (by simp only [opd, zv, exOp, aop, LOp.loud, pop, zp, hS.len, tokRows_len, hia, List.length_cons] <;> exact rfl) ?_
      refine ow_nil ?_
      refine sk_n (by simp only [exports, zn, zg] <;> exact rfl) ?_
      refine cw_cond (by simp only [opd, zv, hS.len, tokRows_len, hia, List.length_cons] <;> exact rfl) (fun hcTT => ?_) (fun hcTT => ?_)
      · skip -- TTT
        refine cw_seq ?_
        refine cw_region ?_
        refine ow_op (by simp only [opd, zv, exOp, aop, LOp.loud, pop, zp, hS.len, tokRows_len, hia, List.length_cons] <;> exact rfl) ?_
        refine ow_op (by simp only [opd, zv, exOp, aop, LOp.loud, lop, sliceArgs, if_true, Option.map_some, hS.len, tokRows_len, hia, List.length_cons, hS.slice_1 _ hl1] <;> exact rfl) ?_
        refine ow_op (by simp only [opd, zv, exOp, aop, LOp.loud, pop, zp, hS.len, tokRows_len, hia, List.length_cons] <;> exact rfl) ?_
        refine ow_op (by simp only [opd, zv, exOp, aop, LOp.loud, pop, zp, hS.len, tokRows_len, hia, List.length_cons] <;> exact rfl) ?_
        refine ow_nil ?_
        refine sk_n (by simp only [exports, zn, zg] <;> exact rfl) ?_
        refine cw_ret ?_
        refine sk_r ?_
        refine ⟨_, by simp only [F28, resultD, resDs, resD, List.getD_cons_zero, List.getD_cons_succ, loadD_cptr, loadD_ptr, rowsOf, partD, List.getElem?_cons_zero, List.getElem?_cons_succ, if_true, if_false, Bool.false_eq_true, List.take, List.drop, zm] <;> exact rfl, ?_⟩
        simp only [isWord, hgT, hcTT, Bool.and_self, if_true]; simp only [leaveP, leave, snapR_tup, snapVs, snapV_bool, (hS.drop 1).snapV, Option.map_some, freeR_tup, List.all_cons, List.all_nil, (hS.drop 1).freeV, freeV_bool, Bool.and_self, if_true, if_false, Bool.false_eq_true, List.length_nil, Nat.le_refl]
      · skip -- TTF
        refine cw_skip ?_
        refine sk_n rfl ?_
        refine cw_seq ?_
        refine cw_region ?_
        refine ow_op (by simp only [opd, zv, exOp, aop, LOp.loud, pop, zp, hS.len, tokRows_len, hia, List.length_cons] <;> exact rfl) ?_
        refine ow_op (by simp only [opd, zv, exOp, aop, LOp.loud, pop, zp, hS.len, tokRows_len, hia, List.length_cons] <;> exact rfl) ?_
        refine ow_op (by simp only [opd, zv, exOp, aop, LOp.loud, pop, zp, hS.len, tokRows_len, hia, List.length_cons] <;> exact rfl) ?_
        refine ow_nil ?_
        refine sk_n (by simp only [exports, zn, zg] <;> exact rfl) ?_
        refine cw_ret ?_
        refine ⟨_, by simp only [F28, resultD, resDs, resD, List.getD_cons_zero, List.getD_cons_succ, loadD_cptr, loadD_ptr, rowsOf, partD, List.getElem?_cons_zero, List.getElem?_cons_succ, if_true, if_false, Bool.false_eq_true, List.take, List.drop, zm] <;> exact rfl, ?_⟩
        simp only [isWord, hgT, hcTT, Bool.true_and, Bool.false_eq_true, if_false]; simp only [leaveP, leave, snapR_tup, snapVs, snapV_bool, hS.snapV, Option.map_some, freeR_tup, List.all_cons, List.all_nil, hS.freeV, freeV_bool, Bool.and_self, if_true, if_false, Bool.false_eq_true, List.length_nil, Nat.le_refl]
    · skip -- TF
      refine ow_off (b' := false) (by simp only [opd, zv]) rfl ?_
      refine ow_off (b' := false) (by simp only [opd, zv]) rfl ?_
      refine ow_off (b' := false) (by simp only [opd, zv]) rfl ?_
      refine ow_off (b' := false) (by simp only [opd, zv]) rfl ?_
      refine ow_off (b' := false) (by simp only [opd, zv]) rfl ?_
      refine ow_off (b' := false) (by simp only [opd, zv]) rfl ?_
      refine ow_op (by simp only [opd, zv, exOp, aop, LOp.loud, pop, zp, hS.len, tokRows_len, hia, List.length_cons] <;> exact rfl) ?_
      refine ow_nil ?_
      refine sk_n (by simp only [exports, zn, zg] <;> exact rfl) ?_
      refine cw_false (by simp only [opd, zv, hS.len, tokRows_len, hia, List.length_cons]) ?_
      refine cw_skip ?_
      refine sk_n rfl ?_
      refine cw_seq ?_
      refine cw_region ?_
      refine ow_op (by simp only [opd, zv, exOp, aop, LOp.loud, pop, zp, hS.len, tokRows_len, hia, List.length_cons] <;> exact rfl) ?_
      refine ow_op (by simp only [opd, zv, exOp, aop, LOp.loud, pop, zp, hS.len, tokRows_len, hia, List.length_cons] <;> exact rfl) ?_
      refine ow_op (by simp only [opd, zv, exOp, aop, LOp.loud, pop, zp, hS.len, tokRows_len, hia, List.length_cons] <;> exact rfl) ?_
      refine ow_nil ?_
      refine sk_n (by simp only [exports, zn, zg] <;> exact rfl) ?_
      refine cw_ret ?_
      refine ⟨_, by simp only [F28, resultD, resDs, resD, List.getD_cons_zero, List.getD_cons_succ, loadD_cptr, loadD_ptr, rowsOf, partD, List.getElem?_cons_zero, List.getElem?_cons_succ, if_true, if_false, Bool.false_eq_true, List.take, List.drop, zm] <;> exact rfl, ?_⟩
      simp only [isWord, hgT, Bool.false_and, Bool.false_eq_true, if_false]; simp only [leaveP, leave, snapR_tup, snapVs, snapV_bool, hS.snapV, Option.map_some, freeR_tup, List.all_cons, List.all_nil, hS.freeV, freeV_bool, Bool.and_self, if_true, if_false, Bool.false_eq_true, List.length_nil, Nat.le_refl]
  · skip -- F
    refine ow_off (b' := false) (by simp only [opd, zv]) rfl ?_
    refine ow_off (b' := false) (by simp only [opd, zv]) rfl ?_
    refine ow_off (b' := false) (by simp only [opd, zv]) rfl ?_
    refine ow_off (b' := false) (by simp only [opd, zv]) rfl ?_
    refine ow_off (b' := false) (by simp only [opd, zv]) rfl ?_
    refine ow_op (by simp only [opd, zv, exOp, aop, LOp.loud, pop, zp, hS.len, tokRows_len, hia, List.length_cons] <;> exact rfl) ?_
    refine ow_op (by simp only [opd, zv, exOp, aop, LOp.loud, pop, zp, hS.len, tokRows_len, hia, List.length_cons] <;> exact rfl) ?_
    refine ow_off (b' := false) (by simp only [opd, zv]) rfl ?_
    refine ow_off (b' := false) (by simp only [opd, zv]) rfl ?_
    refine ow_off (b' := false) (by simp only [opd, zv]) rfl ?_
    refine ow_off (b' := false) (by simp only [opd, zv]) rfl ?_
    refine ow_off (b' := false) (by simp only [opd, zv]) rfl ?_
    refine ow_off (b' := false) (by simp only [opd, zv]) rfl ?_
    refine ow_op (by simp only [opd, zv, exOp, aop, LOp.loud, pop, zp, hS.len, tokRows_len, hia, List.length_cons] <;> exact rfl) ?_
    refine ow_nil ?_
    refine sk_n (by simp only [exports, zn, zg] <;> exact rfl) ?_
    refine cw_false (by simp only [opd, zv, hS.len, tokRows_len, hia, List.length_cons]) ?_
    refine cw_skip ?_
    refine sk_n rfl ?_
    refine cw_seq ?_
    refine cw_region ?_
    refine ow_op (by simp only [opd, zv, exOp, aop, LOp.loud, pop, zp, hS.len, tokRows_len, hia, List.length_cons] <;> exact rfl) ?_
    refine ow_op (by simp only [opd, zv, exOp, aop, LOp.loud, pop, zp, hS.len, tokRows_len, hia, List.length_cons] <;> exact rfl) ?_
    refine ow_op (by simp only [opd, zv, exOp, aop, LOp.loud, pop, zp, hS.len, tokRows_len, hia, List.length_cons] <;> exact rfl) ?_
    refine ow_nil ?_
    refine sk_n (by simp only [exports, zn, zg] <;> exact rfl) ?_
    refine cw_ret ?_
    exfalso; have := of_decide_eq_false hg; omega

theorem skip_yes {d : Nat} (hd : 3 ≤ d) (S : St) {x y : D} {t : Tok} {l : List Tok} {ws : List ByteArray} (hS : SlD 5 (tokRows (t :: l)) x) (hW : SlD 1 (strRows ws) y) (hw : ws.length ≤ 1000000) (h : isWord t ws = true) :
    runF LP NN d 28 [x, y] S = some (.tup [dropD 1 x, .bool true], S, false) := by rw [skip_run hd S hS hW hw, if_pos h]
theorem skip_no {d : Nat} (hd : 3 ≤ d) (S : St) {x y : D} {t : Tok} {l : List Tok} {ws : List ByteArray} (hS : SlD 5 (tokRows (t :: l)) x) (hW : SlD 1 (strRows ws) y) (hw : ws.length ≤ 1000000) (h : isWord t ws = false) :
    runF LP NN d 28 [x, y] S = some (.tup [x, .bool false], S, false) := by rw [skip_run hd S hS hW hw, if_neg (by simp [h])]
theorem tokD {x : D} {t : Tok} {l : List Tok} (h : SlD 5 (tokRows (t :: l)) x) : SlD 5 (tokRows l) (dropD 1 x) := h.drop 1
def wAFTER : ByteArray := ⟨#[65, 70, 84, 69, 82]⟩
def wSTANDARD : ByteArray := ⟨#[83, 84, 65, 78, 68, 65, 82, 68]⟩
def wEXCEPTION : ByteArray := ⟨#[69, 88, 67, 69, 80, 84, 73, 79, 78]⟩
def wERROR : ByteArray := ⟨#[69, 82, 82, 79, 82]⟩
def wPROCEDURE : ByteArray := ⟨#[80, 82, 79, 67, 69, 68, 85, 82, 69]⟩
def wON : ByteArray := ⟨#[79, 78]⟩

theorem head_run00 {x : D} {ta tk tp r : Tok} {rs : List Tok} (hS : SlD 5 (tokRows (ta :: tk :: tp :: r :: rs)) x) (ha : isWord ta [wAFTER] = true) (hn : isWord tk [wSTANDARD] = false) (hk : isWord tk [wEXCEPTION, wERROR] = true) (hp : isWord tp [wPROCEDURE] = true) (hr : isWord r [wON] = false) :
    ∃ y, SlD 5 (tokRows (r :: rs)) y ∧ ∀ (d : Nat) (S : St), 4 ≤ d → runF LP NN d 21 [x] S = some (.tup [y, .bool true], S, false) := by
  have hy := (tokD (tokD (tokD hS)))
  refine ⟨_, hy, fun d S hd => ?_⟩
  refine run_pure (F := F21) rfl (by simp only [LP, fnOf, snapVs, snaps, zs, Bool.false_eq_true, if_false, Option.map_some, List.map_cons, List.map_nil, hS.snapV, hS.freeV] <;> exact rfl) rfl (by simp only [LP, zf, List.all_cons, List.all_nil, Bool.and_true, Bool.true_and, hS.snapV, hS.freeV]; try rfl) (by simp only [F21, zv] <;> exact rfl) (by omega) ?_
  rintro d rfl
  refine cw_seq ?_
  refine cw_region ?_
  refine ow_op (by simp only [opd, zv, exOp, aop, LOp.loud, pop, zp, hy.len, tokRows_len] <;> exact rfl) ?_
  refine ow_op (by simp only [opd, zv, exOp, aop, LOp.loud, pop, zp, hy.len, tokRows_len] <;> exact rfl) ?_
  refine ow_nil ?_
  refine sk_n (by simp only [exports, zn, zg] <;> exact rfl) ?_
  refine cw_seq ?_
  refine cw_region ?_
  refine ow_op (by simp only [opd, zv, exOp, aop, LOp.loud, pop, zp, hy.len, tokRows_len] <;> exact rfl) ?_
  refine ow_op (by simp only [opd, zv, exOp, aop, LOp.loud, lop, rowsOf, newAt, setAt, zh, zm, fillRows, List.replicate, snapVs, snaps, zs, zc, zf, hy.len, tokRows_len] <;> exact rfl) ?_
  refine ow_op (by simp only [exOp, opd, zv, hy.len, tokRows_len]; exact skip_yes (by omega) _ hS (ws := [wAFTER]) (SlD.of 1 _ (some 1)) (by decide) ha) ?_
  refine ow_op (by simp only [opd, zv, exOp, aop, LOp.loud, pop, zp, hy.len, tokRows_len] <;> exact rfl) ?_
  refine ow_op (by simp only [opd, zv, exOp, aop, LOp.loud, pop, zp, List.getElem?_cons_zero, List.getElem?_cons_succ, hy.len, tokRows_len] <;> exact rfl) ?_
  refine ow_op (by simp only [opd, zv, exOp, aop, LOp.loud, pop, zp, List.getElem?_cons_zero, List.getElem?_cons_succ, hy.len, tokRows_len] <;> exact rfl) ?_
  refine ow_op (by simp only [opd, zv, exOp, aop, LOp.loud, pop, zp, hy.len, tokRows_len] <;> exact rfl) ?_
  refine ow_op (by simp only [opd, zv, exOp, aop, LOp.loud, pop, zp, hy.len, tokRows_len] <;> exact rfl) ?_
  refine ow_nil ?_
  refine sk_n (by simp only [exports, zn, zg] <;> exact rfl) ?_
  refine cw_seq ?_
  refine cw_seq ?_
  refine cw_region ?_
  refine ow_op (by simp only [opd, zv, exOp, aop, LOp.loud, pop, zp, hy.len, tokRows_len] <;> exact rfl) ?_
  refine ow_op (by simp only [opd, zv, exOp, aop, LOp.loud, pop, zp, unD, hy.len, tokRows_len] <;> exact rfl) ?_
  refine ow_nil ?_
  refine sk_n (by simp only [exports, zn, zg] <;> exact rfl) ?_
  skip
  refine cw_false (by simp only [opd, zv, hy.len, tokRows_len] <;> rfl) ?_
  refine cw_skip ?_
  refine sk_n rfl ?_
  refine cw_seq ?_
  refine cw_region ?_
  refine ow_op (by simp only [opd, zv, exOp, aop, LOp.loud, pop, zp, hy.len, tokRows_len] <;> exact rfl) ?_
  refine ow_op (by simp only [opd, zv, exOp, aop, LOp.loud, lop, rowsOf, newAt, setAt, zh, zm, fillRows, List.replicate, snapVs, snaps, zs, zc, zf, hy.len, tokRows_len] <;> exact rfl) ?_
  refine ow_op (by simp only [exOp, opd, zv, hy.len, tokRows_len]; exact skip_no (by omega) _ (tokD hS) (ws := [wSTANDARD]) (SlD.of 1 _ (some 1)) (by decide) hn) ?_
  refine ow_op (by simp only [opd, zv, exOp, aop, LOp.loud, pop, zp, hy.len, tokRows_len] <;> exact rfl) ?_
  refine ow_op (by simp only [opd, zv, exOp, aop, LOp.loud, pop, zp, List.getElem?_cons_zero, List.getElem?_cons_succ, hy.len, tokRows_len] <;> exact rfl) ?_
  refine ow_op (by simp only [opd, zv, exOp, aop, LOp.loud, pop, zp, List.getElem?_cons_zero, List.getElem?_cons_succ, hy.len, tokRows_len] <;> exact rfl) ?_
  refine ow_op (by simp only [opd, zv, exOp, aop, LOp.loud, pop, zp, hy.len, tokRows_len] <;> exact rfl) ?_
  refine ow_nil ?_
  refine sk_n (by simp only [exports, zn, zg] <;> exact rfl) ?_
  refine cw_seq ?_
  refine cw_region ?_
  refine ow_op (by simp only [opd, zv, exOp, aop, LOp.loud, pop, zp, hy.len, tokRows_len] <;> exact rfl) ?_
  refine ow_op (by simp only [opd, zv, exOp, aop, LOp.loud, lop, rowsOf, newAt, setAt, zh, zm, fillRows, List.replicate, snapVs, snaps, zs, zc, zf, hy.len, tokRows_len] <;> exact rfl) ?_
  refine ow_op (by simp only [exOp, opd, zv, hy.len, tokRows_len]; exact skip_yes (by omega) _ (tokD hS) (ws := [wEXCEPTION, wERROR]) (SlD.of 1 _ (some 2)) (by decide) hk) ?_
  refine ow_op (by simp only [opd, zv, exOp, aop, LOp.loud, pop, zp, hy.len, tokRows_len] <;> exact rfl) ?_
  refine ow_op (by simp only [opd, zv, exOp, aop, LOp.loud, pop, zp, List.getElem?_cons_zero, List.getElem?_cons_succ, hy.len, tokRows_len] <;> exact rfl) ?_
  refine ow_op (by simp only [opd, zv, exOp, aop, LOp.loud, pop, zp, List.getElem?_cons_zero, List.getElem?_cons_succ, hy.len, tokRows_len] <;> exact rfl) ?_
  refine ow_op (by simp only [opd, zv, exOp, aop, LOp.loud, pop, zp, hy.len, tokRows_len] <;> exact rfl) ?_
  refine ow_op (by simp only [opd, zv, exOp, aop, LOp.loud, pop, zp, hy.len, tokRows_len] <;> exact rfl) ?_
  refine ow_nil ?_
  refine sk_n (by simp only [exports, zn, zg] <;> exact rfl) ?_
  refine cw_seq ?_
  refine cw_seq ?_
  refine cw_region ?_
  refine ow_op (by simp only [opd, zv, exOp, aop, LOp.loud, pop, zp, hy.len, tokRows_len] <;> exact rfl) ?_
  refine ow_op (by simp only [opd, zv, exOp, aop, LOp.loud, pop, zp, unD, hy.len, tokRows_len] <;> exact rfl) ?_
  refine ow_nil ?_
  refine sk_n (by simp only [exports, zn, zg] <;> exact rfl) ?_
  skip
  refine cw_false (by simp only [opd, zv, hy.len, tokRows_len] <;> rfl) ?_
  refine cw_skip ?_
  refine sk_n rfl ?_
  refine cw_seq ?_
  refine cw_region ?_
  refine ow_op (by simp only [opd, zv, exOp, aop, LOp.loud, pop, zp, hy.len, tokRows_len] <;> exact rfl) ?_
  refine ow_op (by simp only [opd, zv, exOp, aop, LOp.loud, lop, rowsOf, newAt, setAt, zh, zm, fillRows, List.replicate, snapVs, snaps, zs, zc, zf, hy.len, tokRows_len] <;> exact rfl) ?_
  refine ow_op (by simp only [exOp, opd, zv, hy.len, tokRows_len]; exact skip_yes (by omega) _ (tokD (tokD hS)) (ws := [wPROCEDURE]) (SlD.of 1 _ (some 1)) (by decide) hp) ?_
  refine ow_op (by simp only [opd, zv, exOp, aop, LOp.loud, pop, zp, hy.len, tokRows_len] <;> exact rfl) ?_
  refine ow_op (by simp only [opd, zv, exOp, aop, LOp.loud, pop, zp, List.getElem?_cons_zero, List.getElem?_cons_succ, hy.len, tokRows_len] <;> exact rfl) ?_
  refine ow_op (by simp only [opd, zv, exOp, aop, LOp.loud, pop, zp, List.getElem?_cons_zero, List.getElem?_cons_succ, hy.len, tokRows_len] <;> exact rfl) ?_
  refine ow_op (by simp only [opd, zv, exOp, aop, LOp.loud, pop, zp, hy.len, tokRows_len] <;> exact rfl) ?_
  refine ow_op (by simp only [opd, zv, exOp, aop, LOp.loud, pop, zp, hy.len, tokRows_len] <;> exact rfl) ?_
  refine ow_nil ?_
  refine sk_n (by simp only [exports, zn, zg] <;> exact rfl) ?_
  refine cw_seq ?_
  refine cw_seq ?_
  refine cw_region ?_
  refine ow_op (by simp only [opd, zv, exOp, aop, LOp.loud, pop, zp, hy.len, tokRows_len] <;> exact rfl) ?_
  refine ow_op (by simp only [opd, zv, exOp, aop, LOp.loud, pop, zp, unD, hy.len, tokRows_len] <;> exact rfl) ?_
  refine ow_nil ?_
  refine sk_n (by simp only [exports, zn, zg] <;> exact rfl) ?_
  skip
  refine cw_false (by simp only [opd, zv, hy.len, tokRows_len] <;> rfl) ?_
  refine cw_skip ?_
  refine sk_n rfl ?_
  refine cw_seq ?_
  refine cw_region ?_
  refine ow_op (by simp only [opd, zv, exOp, aop, LOp.loud, pop, zp, hy.len, tokRows_len] <;> exact rfl) ?_
  refine ow_op (by simp only [opd, zv, exOp, aop, LOp.loud, lop, rowsOf, newAt, setAt, zh, zm, fillRows, List.replicate, snapVs, snaps, zs, zc, zf, hy.len, tokRows_len] <;> exact rfl) ?_
  refine ow_op (by simp only [exOp, opd, zv, hy.len, tokRows_len]; exact skip_no (by omega) _ (tokD (tokD (tokD hS))) (ws := [wON]) (SlD.of 1 _ (some 1)) (by decide) hr) ?_
  refine ow_op (by simp only [opd, zv, exOp, aop, LOp.loud, pop, zp, hy.len, tokRows_len] <;> exact rfl) ?_
  refine ow_op (by simp only [opd, zv, exOp, aop, LOp.loud, pop, zp, List.getElem?_cons_zero, List.getElem?_cons_succ, hy.len, tokRows_len] <;> exact rfl) ?_
  refine ow_op (by simp only [opd, zv, exOp, aop, LOp.loud, pop, zp, List.getElem?_cons_zero, List.getElem?_cons_succ, hy.len, tokRows_len] <;> exact rfl) ?_
  refine ow_op (by simp only [opd, zv, exOp, aop, LOp.loud, pop, zp, hy.len, tokRows_len] <;> exact rfl) ?_
  refine ow_nil ?_
  refine sk_n (by simp only [exports, zn, zg] <;> exact rfl) ?_
  refine cw_seq ?_
  refine cw_region ?_
  refine ow_op (by simp only [opd, zv, exOp, aop, LOp.loud, pop, zp, hy.len, tokRows_len] <;> exact rfl) ?_
  refine ow_op (by simp only [opd, zv, exOp, aop, LOp.loud, pop, zp, hy.len, tokRows_len] <;> exact rfl) ?_
  refine ow_op (by simp only [opd, zv, exOp, aop, LOp.loud, pop, zp, lenD_str, lenD_nils, lenD_sl, lenD_msl, hy.len, tokRows_len] <;> exact rfl) ?_
  refine ow_op (by simp only [opd, zv, exOp, aop, LOp.loud, pop, zp, binD, eq_self, ne_eq, not_false_eq_true, true_and, Int.reduceEq, ite_true, ite_false, not_true_eq_false, Int.reduceToNat, Int.reduceLT, hy.len, tokRows_len] <;> exact rfl) ?_
  refine ow_op (by simp only [opd, zv, exOp, aop, LOp.loud, pop, zp, hy.len, tokRows_len] <;> exact rfl) ?_
  refine ow_op (by simp only [opd, zv, exOp, aop, LOp.loud, pop, zp, hy.len, tokRows_len] <;> exact rfl) ?_
  refine ow_nil ?_
  refine sk_n (by simp only [exports, zn, zg] <;> exact rfl) ?_
  refine cw_ret ?_
  refine ⟨_, by simp only [F21, resultD, resDs, resD, List.getD_cons_zero, List.getD_cons_succ, loadD_cptr, loadD_ptr, rowsOf, partD, List.getElem?_cons_zero, List.getElem?_cons_succ, if_true, if_false, Bool.false_eq_true, List.take, List.drop, zm] <;> exact rfl, ?_⟩
  have hz : decide (((rs.length + 1 : Nat) : Int) > 0) = true := decide_eq_true (by omega)
  simp only [List.length_cons, hz]
  simp only [leaveP, leave, snapVs, snaps, zs, zf, Option.map_some, List.all_cons, List.all_nil, Bool.and_self, Bool.and_true, if_true, if_false, Bool.false_eq_true, List.length_nil, Nat.le_refl, Nat.zero_le, hy.snapV, hy.freeV, hy.snap, hy.free, hy.snapR, hy.freeR]

theorem head_run01 {x : D} {ta tk tp tn r : Tok} {rs : List Tok} (hS : SlD 5 (tokRows (ta :: tk :: tp :: tn :: r :: rs)) x) (ha : isWord ta [wAFTER] = true) (hn : isWord tk [wSTANDARD] = false) (hk : isWord tk [wEXCEPTION, wERROR] = true) (hp : isWord tp [wPROCEDURE] = true) (ho : isWord tn [wON] = true) :
    ∃ y, SlD 5 (tokRows (r :: rs)) y ∧ ∀ (d : Nat) (S : St), 4 ≤ d → runF LP NN d 21 [x] S = some (.tup [y, .bool true], S, false) := by
  have hy := (tokD (tokD (tokD (tokD hS))))
  refine ⟨_, hy, fun d S hd => ?_⟩
  refine run_pure (F := F21) rfl (by simp only [LP, fnOf, snapVs, snaps, zs, Bool.false_eq_true, if_false, Option.map_some, List.map_cons, List.map_nil, hS.snapV, hS.freeV] <;> exact rfl) rfl (by simp only [LP, zf, List.all_cons, List.all_nil, Bool.and_true, Bool.true_and, hS.snapV, hS.freeV]; try rfl) (by simp only [F21, zv] <;> exact rfl) (by omega) ?_
  rintro d rfl
  refine cw_seq ?_
  refine cw_region ?_
  refine ow_op (by simp only [opd, zv, exOp, aop, LOp.loud, pop, zp, hy.len, tokRows_len] <;> exact rfl) ?_
  refine ow_op (by simp only [opd, zv, exOp, aop, LOp.loud, pop, zp, hy.len, tokRows_len] <;> exact rfl) ?_
  refine ow_nil ?_
  refine sk_n (by simp only [exports, zn, zg] <;> exact rfl) ?_
  refine cw_seq ?_
  refine cw_region ?_
  refine ow_op (by simp only [opd, zv, exOp, aop, LOp.loud, pop, zp, hy.len, tokRows_len] <;> exact rfl) ?_
  refine ow_op (by simp only [opd, zv, exOp, aop, LOp.loud, lop, rowsOf, newAt, setAt, zh, zm, fillRows, List.replicate, snapVs, snaps, zs, zc, zf, hy.len, tokRows_len] <;> exact rfl) ?_
  refine ow_op (by simp only [exOp, opd, zv, hy.len, tokRows_len]; exact skip_yes (by omega) _ hS (ws := [wAFTER]) (SlD.of 1 _ (some 1)) (by decide) ha) ?_
  refine ow_op (by simp only [opd, zv, exOp, aop, LOp.loud, pop, zp, hy.len, tokRows_len] <;> exact rfl) ?_
  refine ow_op (by simp only [opd, zv, exOp, aop, LOp.loud, pop, zp, List.getElem?_cons_zero, List.getElem?_cons_succ, hy.len, tokRows_len] <;> exact rfl) ?_
  refine ow_op (by simp only [opd, zv, exOp, aop, LOp.loud, pop, zp, List.getElem?_cons_zero, List.getElem?_cons_succ, hy.len, tokRows_len] <;> exact rfl) ?_
  refine ow_op (by simp only [opd, zv, exOp, aop, LOp.loud, pop, zp, hy.len, tokRows_len] <;> exact rfl) ?_
  refine ow_op (by simp only [opd, zv, exOp, aop, LOp.loud, pop, zp, hy.len, tokRows_len] <;> exact rfl) ?_
  refine ow_nil ?_
  refine sk_n (by simp only [exports, zn, zg] <;> exact rfl) ?_
  refine cw_seq ?_
  refine cw_seq ?_
  refine cw_region ?_
  refine ow_op (by simp only [opd, zv, exOp, aop, LOp.loud, pop, zp, hy.len, tokRows_len] <;> exact rfl) ?_
  refine ow_op (by simp only [opd, zv, exOp, aop, LOp.loud, pop, zp, unD, hy.len, tokRows_len] <;> exact rfl) ?_
  refine ow_nil ?_
  refine sk_n (by simp only [exports, zn, zg] <;> exact rfl) ?_
  skip
  refine cw_false (by simp only [opd, zv, hy.len, tokRows_len] <;> rfl) ?_
  refine cw_skip ?_
  refine sk_n rfl ?_
  refine cw_seq ?_
  refine cw_region ?_
  refine ow_op (by simp only [opd, zv, exOp, aop, LOp.loud, pop, zp, hy.len, tokRows_len] <;> exact rfl) ?_
  refine ow_op (by simp only [opd, zv, exOp, aop, LOp.loud, lop, rowsOf, newAt, setAt, zh, zm, fillRows, List.replicate, snapVs, snaps, zs, zc, zf, hy.len, tokRows_len] <;> exact rfl) ?_
  refine ow_op (by simp only [exOp, opd, zv, hy.len, tokRows_len]; exact skip_no (by omega) _ (tokD hS) (ws := [wSTANDARD]) (SlD.of 1 _ (some 1)) (by decide) hn) ?_
  refine ow_op (by simp only [opd, zv, exOp, aop, LOp.loud, pop, zp, hy.len, tokRows_len] <;> exact rfl) ?_
  refine ow_op (by simp only [opd, zv, exOp, aop, LOp.loud, pop, zp, List.getElem?_cons_zero, List.getElem?_cons_succ, hy.len, tokRows_len] <;> exact rfl) ?_
  refine ow_op (by simp only [opd, zv, exOp, aop, LOp.loud, pop, zp, List.getElem?_cons_zero, List.getElem?_cons_succ, hy.len, tokRows_len] <;> exact rfl) ?_
  refine ow_op (by simp only [opd, zv, exOp, aop, LOp.loud, pop, zp, hy.len, tokRows_len] <;> exact rfl) ?_
  refine ow_nil ?_
  refine sk_n (by simp only [exports, zn, zg] <;> exact rfl) ?_
  refine cw_seq ?_
  refine cw_region ?_
  refine ow_op (by simp only [opd, zv, exOp, aop, LOp.loud, pop, zp, hy.len, tokRows_len] <;> exact rfl) ?_
  refine ow_op (by simp only [opd, zv, exOp, aop, LOp.loud, lop, rowsOf, newAt, setAt, zh, zm, fillRows, List.replicate, snapVs, snaps, zs, zc, zf, hy.len, tokRows_len] <;> exact rfl) ?_
  refine ow_op (by simp only [exOp, opd, zv, hy.len, tokRows_len]; exact skip_yes (by omega) _ (tokD hS) (ws := [wEXCEPTION, wERROR]) (SlD.of 1 _ (some 2)) (by decide) hk) ?_
  refine ow_op (by simp only [opd, zv, exOp, aop, LOp.loud, pop, zp, hy.len, tokRows_len] <;> exact rfl) ?_
  refine ow_op (by simp only [opd, zv, exOp, aop, LOp.loud, pop, zp, List.getElem?_cons_zero, List.getElem?_cons_succ, hy.len, tokRows_len] <;> exact rfl) ?_
  refine ow_op (by simp only [opd, zv, exOp, aop, LOp.loud, pop, zp, List.getElem?_cons_zero, List.getElem?_cons_succ, hy.len, tokRows_len] <;> exact rfl) ?_
  refine ow_op (by simp only [opd, zv, exOp, aop, LOp.loud, pop, zp, hy.len, tokRows_len] <;> exact rfl) ?_
  refine ow_op (by simp only [opd, zv, exOp, aop, LOp.loud, pop, zp, hy.len, tokRows_len] <;> exact rfl) ?_
  refine ow_nil ?_
  refine sk_n (by simp only [exports, zn, zg] <;> exact rfl) ?_
  refine cw_seq ?_
  refine cw_seq ?_
  refine cw_region ?_
  refine ow_op (by simp only [opd, zv, exOp, aop, LOp.loud, pop, zp, hy.len, tokRows_len] <;> exact rfl) ?_
  refine ow_op (by simp only [opd, zv, exOp, aop, LOp.loud, pop, zp, unD, hy.len, tokRows_len] <;> exact rfl) ?_
  refine ow_nil ?_
  refine sk_n (by simp only [exports, zn, zg] <;> exact rfl) ?_
  skip
  refine cw_false (by simp only [opd, zv, hy.len, tokRows_len] <;> rfl) ?_
  refine cw_skip ?_
  refine sk_n rfl ?_
  refine cw_seq ?_
  refine cw_region ?_
  refine ow_op (by simp only [opd, zv, exOp, aop, LOp.loud, pop, zp, hy.len, tokRows_len] <;> exact rfl) ?_
  refine ow_op (by simp only [opd, zv, exOp, aop, LOp.loud, lop, rowsOf, newAt, setAt, zh, zm, fillRows, List.replicate, snapVs, snaps, zs, zc, zf, hy.len, tokRows_len] <;> exact rfl) ?_
  refine ow_op (by simp only [exOp, opd, zv, hy.len, tokRows_len]; exact skip_yes (by omega) _ (tokD (tokD hS)) (ws := [wPROCEDURE]) (SlD.of 1 _ (some 1)) (by decide) hp) ?_
  refine ow_op (by simp only [opd, zv, exOp, aop, LOp.loud, pop, zp, hy.len, tokRows_len] <;> exact rfl) ?_
  refine ow_op (by simp only [opd, zv, exOp, aop, LOp.loud, pop, zp, List.getElem?_cons_zero, List.getElem?_cons_succ, hy.len, tokRows_len] <;> exact rfl) ?_
  refine ow_op (by simp only [opd, zv, exOp, aop, LOp.loud, pop, zp, List.getElem?_cons_zero, List.getElem?_cons_succ, hy.len, tokRows_len] <;> exact rfl) ?_
  refine ow_op (by simp only [opd, zv, exOp, aop, LOp.loud, pop, zp, hy.len, tokRows_len] <;> exact rfl) ?_
  refine ow_op (by simp only [opd, zv, exOp, aop, LOp.loud, pop, zp, hy.len, tokRows_len] <;> exact rfl) ?_
  refine ow_nil ?_
  refine sk_n (by simp only [exports, zn, zg] <;> exact rfl) ?_
  refine cw_seq ?_
  refine cw_seq ?_
  refine cw_region ?_
  refine ow_op (by simp only [opd, zv, exOp, aop, LOp.loud, pop, zp, hy.len, tokRows_len] <;> exact rfl) ?_
  refine ow_op (by simp only [opd, zv, exOp, aop, LOp.loud, pop, zp, unD, hy.len, tokRows_len] <;> exact rfl) ?_
  refine ow_nil ?_
  refine sk_n (by simp only [exports, zn, zg] <;> exact rfl) ?_
  skip
  refine cw_false (by simp only [opd, zv, hy.len, tokRows_len] <;> rfl) ?_
  refine cw_skip ?_
  refine sk_n rfl ?_
  refine cw_seq ?_
  refine cw_region ?_
  refine ow_op (by simp only [opd, zv, exOp, aop, LOp.loud, pop, zp, hy.len, tokRows_len] <;> exact rfl) ?_
  refine ow_op (by simp only [opd, zv, exOp, aop, LOp.loud, lop, rowsOf, newAt, setAt, zh, zm, fillRows, List.replicate, snapVs, snaps, zs, zc, zf, hy.len, tokRows_len] <;> exact rfl) ?_
  refine ow_op (by simp only [exOp, opd, zv, hy.len, tokRows_len]; exact skip_yes (by omega) _ (tokD (tokD (tokD hS))) (ws := [wON]) (SlD.of 1 _ (some 1)) (by decide) ho) ?_
  refine ow_op (by simp only [opd, zv, exOp, aop, LOp.loud, pop, zp, hy.len, tokRows_len] <;> exact rfl) ?_
  refine ow_op (by simp only [opd, zv, exOp, aop, LOp.loud, pop, zp, List.getElem?_cons_zero, List.getElem?_cons_succ, hy.len, tokRows_len] <;> exact rfl) ?_
  refine ow_op (by simp only [opd, zv, exOp, aop, LOp.loud, pop, zp, List.getElem?_cons_zero, List.getElem?_cons_succ, hy.len, tokRows_len] <;> exact rfl) ?_
  refine ow_op (by simp only [opd, zv, exOp, aop, LOp.loud, pop, zp, hy.len, tokRows_len] <;> exact rfl) ?_
  refine ow_nil ?_
  refine sk_n (by simp only [exports, zn, zg] <;> exact rfl) ?_
  refine cw_seq ?_
  refine cw_region ?_
  refine ow_op (by simp only [opd, zv, exOp, aop, LOp.loud, pop, zp, hy.len, tokRows_len] <;> exact rfl) ?_
  refine ow_op (by simp only [opd, zv, exOp, aop, LOp.loud, pop, zp, hy.len, tokRows_len] <;> exact rfl) ?_
  refine ow_op (by simp only [opd, zv, exOp, aop, LOp.loud, pop, zp, lenD_str, lenD_nils, lenD_sl, lenD_msl, hy.len, tokRows_len] <;> exact rfl) ?_
  refine ow_op (by simp only [opd, zv, exOp, aop, LOp.loud, pop, zp, binD, eq_self, ne_eq, not_false_eq_true, true_and, Int.reduceEq, ite_true, ite_false, not_true_eq_false, Int.reduceToNat, Int.reduceLT, hy.len, tokRows_len] <;> exact rfl) ?_
  refine ow_op (by simp only [opd, zv, exOp, aop, LOp.loud, pop, zp, hy.len, tokRows_len] <;> exact rfl) ?_
  refine ow_op (by simp only [opd, zv, exOp, aop, LOp.loud, pop, zp, hy.len, tokRows_len] <;> exact rfl) ?_
  refine ow_nil ?_
  refine sk_n (by simp only [exports, zn, zg] <;> exact rfl) ?_
  refine cw_ret ?_
  refine ⟨_, by simp only [F21, resultD, resDs, resD, List.getD_cons_zero, List.getD_cons_succ, loadD_cptr, loadD_ptr, rowsOf, partD, List.getElem?_cons_zero, List.getElem?_cons_succ, if_true, if_false, Bool.false_eq_true, List.take, List.drop, zm] <;> exact rfl, ?_⟩
  have hz : decide (((rs.length + 1 : Nat) : Int) > 0) = true := decide_eq_true (by omega)
  simp only [List.length_cons, hz]
  simp only [leaveP, leave, snapVs, snaps, zs, zf, Option.map_some, List.all_cons, List.all_nil, Bool.and_self, Bool.and_true, if_true, if_false, Bool.false_eq_true, List.length_nil, Nat.le_refl, Nat.zero_le, hy.snapV, hy.freeV, hy.snap, hy.free, hy.snapR, hy.freeR]

theorem head_run10 {x : D} {ta ts tk tp r : Tok} {rs : List Tok} (hS : SlD 5 (tokRows (ta :: ts :: tk :: tp :: r :: rs)) x) (ha : isWord ta [wAFTER] = true) (hs : isWord ts [wSTANDARD] = true) (hk : isWord tk [wEXCEPTION, wERROR] = true) (hp : isWord tp [wPROCEDURE] = true) (hr : isWord r [wON] = false) :
    ∃ y, SlD 5 (tokRows (r :: rs)) y ∧ ∀ (d : Nat) (S : St), 4 ≤ d → runF LP NN d 21 [x] S = some (.tup [y, .bool true], S, false) := by
  have hy := (tokD (tokD (tokD (tokD hS))))
  refine ⟨_, hy, fun d S hd => ?_⟩
  refine run_pure (F := F21) rfl (by simp only [LP, fnOf, snapVs, snaps, zs, Bool.false_eq_true, if_false, Option.map_some, List.map_cons, List.map_nil, hS.snapV, hS.freeV] <;> exact rfl) rfl (by simp only [LP, zf, List.all_cons, List.all_nil, Bool.and_true, Bool.true_and, hS.snapV, hS.freeV]; try rfl) (by simp only [F21, zv] <;> exact rfl) (by omega) ?_
  rintro d rfl
  refine cw_seq ?_
  refine cw_region ?_
  refine ow_op (by simp only [opd, zv, exOp, aop, LOp.loud, pop, zp, hy.len, tokRows_len] <;> exact rfl) ?_
  refine ow_op (by simp only [opd, zv, exOp, aop, LOp.loud, pop, zp, hy.len, tokRows_len] <;> exact rfl) ?_
  refine ow_nil ?_
  refine sk_n (by simp only [exports, zn, zg] <;> exact rfl) ?_
  refine cw_seq ?_
  refine cw_region ?_
  refine ow_op (by simp only [opd, zv, exOp, aop, LOp.loud, pop, zp, hy.len, tokRows_len] <;> exact rfl) ?_
  refine ow_op (by simp only [opd, zv, exOp, aop, LOp.loud, lop, rowsOf, newAt, setAt, zh, zm, fillRows, List.replicate, snapVs, snaps, zs, zc, zf, hy.len, tokRows_len] <;> exact rfl) ?_
  refine ow_op (by simp only [exOp, opd, zv, hy.len, tokRows_len]; exact skip_yes (by omega) _ hS (ws := [wAFTER]) (SlD.of 1 _ (some 1)) (by decide) ha) ?_
  refine ow_op (by simp only [opd, zv, exOp, aop, LOp.loud, pop, zp, hy.len, tokRows_len] <;> exact rfl) ?_
  refine ow_op (by simp only [opd, zv, exOp, aop, LOp.loud, pop, zp, List.getElem?_cons_zero, List.getElem?_cons_succ, hy.len, tokRows_len] <;> exact rfl) ?_
  refine ow_op (by simp only [opd, zv, exOp, aop, LOp.loud, pop, zp, List.getElem?_cons_zero, List.getElem?_cons_succ, hy.len, tokRows_len] <;> exact rfl) ?_
  refine ow_op (by simp only [opd, zv, exOp, aop, LOp.loud, pop, zp, hy.len, tokRows_len] <;> exact rfl) ?_
  refine ow_op (by simp only [opd, zv, exOp, aop, LOp.loud, pop, zp, hy.len, tokRows_len] <;> exact rfl) ?_
  refine ow_nil ?_
  refine sk_n (by simp only [exports, zn, zg] <;> exact rfl) ?_
  refine cw_seq ?_
  refine cw_seq ?_
  refine cw_region ?_
  refine ow_op (by simp only [opd, zv, exOp, aop, LOp.loud, pop, zp, hy.len, tokRows_len] <;> exact rfl) ?_
  refine ow_op (by simp only [opd, zv, exOp, aop, LOp.loud, pop, zp, unD, hy.len, tokRows_len] <;> exact rfl) ?_
  refine ow_nil ?_
  refine sk_n (by simp only [exports, zn, zg] <;> exact rfl) ?_
  skip
  refine cw_false (by simp only [opd, zv, hy.len, tokRows_len] <;> rfl) ?_
  refine cw_skip ?_
  refine sk_n rfl ?_
  refine cw_seq ?_
  refine cw_region ?_
  refine ow_op (by simp only [opd, zv, exOp, aop, LOp.loud, pop, zp, hy.len, tokRows_len] <;> exact rfl) ?_
  refine ow_op (by simp only [opd, zv, exOp, aop, LOp.loud, lop, rowsOf, newAt, setAt, zh, zm, fillRows, List.replicate, snapVs, snaps, zs, zc, zf, hy.len, tokRows_len] <;> exact rfl) ?_
  refine ow_op (by simp only [exOp, opd, zv, hy.len, tokRows_len]; exact skip_yes (by omega) _ (tokD hS) (ws := [wSTANDARD]) (SlD.of 1 _ (some 1)) (by decide) hs) ?_
  refine ow_op (by simp only [opd, zv, exOp, aop, LOp.loud, pop, zp, hy.len, tokRows_len] <;> exact rfl) ?_
  refine ow_op (by simp only [opd, zv, exOp, aop, LOp.loud, pop, zp, List.getElem?_cons_zero, List.getElem?_cons_succ, hy.len, tokRows_len] <;> exact rfl) ?_
  refine ow_op (by simp only [opd, zv, exOp, aop, LOp.loud, pop, zp, List.getElem?_cons_zero, List.getElem?_cons_succ, hy.len, tokRows_len] <;> exact rfl) ?_
  refine ow_op (by simp only [opd, zv, exOp, aop, LOp.loud, pop, zp, hy.len, tokRows_len] <;> exact rfl) ?_
  refine ow_nil ?_
  refine sk_n (by simp only [exports, zn, zg] <;> exact rfl) ?_
  refine cw_seq ?_
  refine cw_region ?_
  refine ow_op (by simp only [opd, zv, exOp, aop, LOp.loud, pop, zp, hy.len, tokRows_len] <;> exact rfl) ?_
  refine ow_op (by simp only [opd, zv, exOp, aop, LOp.loud, lop, rowsOf, newAt, setAt, zh, zm, fillRows, List.replicate, snapVs, snaps, zs, zc, zf, hy.len, tokRows_len] <;> exact rfl) ?_
  refine ow_op (by simp only [exOp, opd, zv, hy.len, tokRows_len]; exact skip_yes (by omega) _ (tokD (tokD hS)) (ws := [wEXCEPTION, wERROR]) (SlD.of 1 _ (some 2)) (by decide) hk) ?_
  refine ow_op (by simp only [opd, zv, exOp, aop, LOp.loud, pop, zp, hy.len, tokRows_len] <;> exact rfl) ?_
  refine ow_op (by simp only [opd, zv, exOp, aop, LOp.loud, pop, zp, List.getElem?_cons_zero, List.getElem?_cons_succ, hy.len, tokRows_len] <;> exact rfl) ?_
  refine ow_op (by simp only [opd, zv, exOp, aop, LOp.loud, pop, zp, List.getElem?_cons_zero, List.getElem?_cons_succ, hy.len, tokRows_len] <;> exact rfl) ?_
  refine ow_op (by simp only [opd, zv, exOp, aop, LOp.loud, pop, zp, hy.len, tokRows_len] <;> exact rfl) ?_
  refine ow_op (by simp only [opd, zv, exOp, aop, LOp.loud, pop, zp, hy.len, tokRows_len] <;> exact rfl) ?_
  refine ow_nil ?_
  refine sk_n (by simp only [exports, zn, zg] <;> exact rfl) ?_
  refine cw_seq ?_
  refine cw_seq ?_
  refine cw_region ?_
  refine ow_op (by simp only [opd, zv, exOp, aop, LOp.loud, pop, zp, hy.len, tokRows_len] <;> exact rfl) ?_
  refine ow_op (by simp only [opd, zv, exOp, aop, LOp.loud, pop, zp, unD, hy.len, tokRows_len] <;> exact rfl) ?_
  refine ow_nil ?_
  refine sk_n (by simp only [exports, zn, zg] <;> exact rfl) ?_
  skip
  refine cw_false (by simp only [opd, zv, hy.len, tokRows_len] <;> rfl) ?_
  refine cw_skip ?_
  refine sk_n rfl ?_
  refine cw_seq ?_
  refine cw_region ?_
  refine ow_op (by simp only [opd, zv, exOp, aop, LOp.loud, pop, zp, hy.len, tokRows_len] <;> exact rfl) ?_
  refine ow_op (by simp only [opd, zv, exOp, aop, LOp.loud, lop, rowsOf, newAt, setAt, zh, zm, fillRows, List.replicate, snapVs, snaps, zs, zc, zf, hy.len, tokRows_len] <;> exact rfl) ?_
  refine ow_op (by simp only [exOp, opd, zv, hy.len, tokRows_len]; exact skip_yes (by omega) _ (tokD (tokD (tokD hS))) (ws := [wPROCEDURE]) (SlD.of 1 _ (some 1)) (by decide) hp) ?_
  refine ow_op (by simp only [opd, zv, exOp, aop, LOp.loud, pop, zp, hy.len, tokRows_len] <;> exact rfl) ?_
  refine ow_op (by simp only [opd, zv, exOp, aop, LOp.loud, pop, zp, List.getElem?_cons_zero, List.getElem?_cons_succ, hy.len, tokRows_len] <;> exact rfl) ?_
  refine ow_op (by simp only [opd, zv, exOp, aop, LOp.loud, pop, zp, List.getElem?_cons_zero, List.getElem?_cons_succ, hy.len, tokRows_len] <;> exact rfl) ?_
  refine ow_op (by simp only [opd, zv, exOp, aop, LOp.loud, pop, zp, hy.len, tokRows_len] <;> exact rfl) ?_
  refine ow_op (by simp only [opd, zv, exOp, aop, LOp.loud, pop, zp, hy.len, tokRows_len] <;> exact rfl) ?_
  refine ow_nil ?_
  refine sk_n (by simp only [exports, zn, zg] <;> exact rfl) ?_
  refine cw_seq ?_
  refine cw_seq ?_
  refine cw_region ?_
  refine ow_op (by simp only [opd, zv, exOp, aop, LOp.loud, pop, zp, hy.len, tokRows_len] <;> exact rfl) ?_
  refine ow_op (by simp only [opd, zv, exOp, aop, LOp.loud, pop, zp, unD, hy.len, tokRows_len] <;> exact rfl) ?_
  refine ow_nil ?_
  refine sk_n (by simp only [exports, zn, zg] <;> exact rfl) ?_
  skip
  refine cw_false (by simp only [opd, zv, hy.len, tokRows_len] <;> rfl) ?_
  refine cw_skip ?_
  refine sk_n rfl ?_
  refine cw_seq ?_
  refine cw_region ?_
  refine ow_op (by simp only [opd, zv, exOp, aop, LOp.loud, pop, zp, hy.len, tokRows_len] <;> exact rfl) ?_
  refine ow_op (by simp only [opd, zv, exOp, aop, LOp.loud, lop, rowsOf, newAt, setAt, zh, zm, fillRows, List.replicate, snapVs, snaps, zs, zc, zf, hy.len, tokRows_len] <;> exact rfl) ?_
  refine ow_op (by simp only [exOp, opd, zv, hy.len, tokRows_len]; exact skip_no (by omega) _ (tokD (tokD (tokD (tokD hS)))) (ws := [wON]) (SlD.of 1 _ (some 1)) (by decide) hr) ?_
  refine ow_op (by simp only [opd, zv, exOp, aop, LOp.loud, pop, zp, hy.len, tokRows_len] <;> exact rfl) ?_
  refine ow_op (by simp only [opd, zv, exOp, aop, LOp.loud, pop, zp, List.getElem?_cons_zero, List.getElem?_cons_succ, hy.len, tokRows_len] <;> exact rfl) ?_
  refine ow_op (by simp only [opd, zv, exOp, aop, LOp.loud, pop, zp, List.getElem?_cons_zero, List.getElem?_cons_succ, hy.len, tokRows_len] <;> exact rfl) ?_
  refine ow_op (by simp only [opd, zv, exOp, aop, LOp.loud, pop, zp, hy.len, tokRows_len] <;> exact rfl) ?_
  refine ow_nil ?_
  refine sk_n (by simp only [exports, zn, zg] <;> exact rfl) ?_
  refine cw_seq ?_
  refine cw_region ?_
  refine ow_op (by simp only [opd, zv, exOp, aop, LOp.loud, pop, zp, hy.len, tokRows_len] <;> exact rfl) ?_
  refine ow_op (by simp only [opd, zv, exOp, aop, LOp.loud, pop, zp, hy.len, tokRows_len] <;> exact rfl) ?_
  refine ow_op (by simp only [opd, zv, exOp, aop, LOp.loud, pop, zp, lenD_str, lenD_nils, lenD_sl, lenD_msl, hy.len, tokRows_len] <;> exact rfl) ?_
  refine ow_op (by simp only [opd, zv, exOp, aop, LOp.loud, pop, zp, binD, eq_self, ne_eq, not_false_eq_true, true_and, Int.reduceEq, ite_true, ite_false, not_true_eq_false, Int.reduceToNat, Int.reduceLT, hy.len, tokRows_len] <;> exact rfl) ?_
  refine ow_op (by simp only [opd, zv, exOp, aop, LOp.loud, pop, zp, hy.len, tokRows_len] <;> exact rfl) ?_
  refine ow_op (by simp only [opd, zv, exOp, aop, LOp.loud, pop, zp, hy.len, tokRows_len] <;> exact rfl) ?_
  refine ow_nil ?_
  refine sk_n (by simp only [exports, zn, zg] <;> exact rfl) ?_
  refine cw_ret ?_
  refine ⟨_, by simp only [F21, resultD, resDs, resD, List.getD_cons_zero, List.getD_cons_succ, loadD_cptr, loadD_ptr, rowsOf, partD, List.getElem?_cons_zero, List.getElem?_cons_succ, if_true, if_false, Bool.false_eq_true, List.take, List.drop, zm] <;> exact rfl, ?_⟩
  have hz : decide (((rs.length + 1 : Nat) : Int) > 0) = true := decide_eq_true (by omega)
  simp only [List.length_cons, hz]
  simp only [leaveP, leave, snapVs, snaps, zs, zf, Option.map_some, List.all_cons, List.all_nil, Bool.and_self, Bool.and_true, if_true, if_false, Bool.false_eq_true, List.length_nil, Nat.le_refl, Nat.zero_le, hy.snapV, hy.freeV, hy.snap, hy.free, hy.snapR, hy.freeR]

theorem head_run11 {x : D} {ta ts tk tp tn r : Tok} {rs : List Tok} (hS : SlD 5 (tokRows (ta :: ts :: tk :: tp :: tn :: r :: rs)) x) (ha : isWord ta [wAFTER] = true) (hs : isWord ts [wSTANDARD] = true) (hk : isWord tk [wEXCEPTION, wERROR] = true) (hp : isWord tp [wPROCEDURE] = true) (ho : isWord tn [wON] = true) :
    ∃ y, SlD 5 (tokRows (r :: rs)) y ∧ ∀ (d : Nat) (S : St), 4 ≤ d → runF LP NN d 21 [x] S = some (.tup [y, .bool true], S, false) := by
  have hy := (tokD (tokD (tokD (tokD (tokD hS)))))
  refine ⟨_, hy, fun d S hd => ?_⟩
  refine run_pure (F := F21) rfl (by simp only [LP, fnOf, snapVs, snaps, zs, Bool.false_eq_true, if_false, Option.map_some, List.map_cons, List.map_nil, hS.snapV, hS.freeV] <;> exact rfl) rfl (by simp only [LP, zf, List.all_cons, List.all_nil, Bool.and_true, Bool.true_and, hS.snapV, hS.freeV]; try rfl) (by simp only [F21, zv] <;> exact rfl) (by omega) ?_
  rintro d rfl
  refine cw_seq ?_
  refine cw_region ?_
  refine ow_op (by simp only [opd, zv, exOp, aop, LOp.loud, pop, zp, hy.len, tokRows_len] <;> exact rfl) ?_
  refine ow_op (by simp only [opd, zv, exOp, aop, LOp.loud, pop, zp, hy.len, tokRows_len] <;> exact rfl) ?_
  refine ow_nil ?_
  refine sk_n (by simp only [exports, zn, zg] <;> exact rfl) ?_
  refine cw_seq ?_
  refine cw_region ?_
  refine ow_op (by simp only [opd, zv, exOp, aop, LOp.loud, pop, zp, hy.len, tokRows_len] <;> exact rfl) ?_
  refine ow_op (by simp only [opd, zv, exOp, aop, LOp.loud, lop, rowsOf, newAt, setAt, zh, zm, fillRows, List.replicate, snapVs, snaps, zs, zc, zf, hy.len, tokRows_len] <;> exact rfl) ?_
  refine ow_op (by simp only [exOp, opd, zv, hy.len, tokRows_len]; exact skip_yes (by omega) _ hS (ws := [wAFTER]) (SlD.of 1 _ (some 1)) (by decide) ha) ?_
  refine ow_op (by simp only [opd, zv, exOp, aop, LOp.loud, pop, zp, hy.len, tokRows_len] <;> exact rfl) ?_
  refine ow_op (by simp only [opd, zv, exOp, aop, LOp.loud, pop, zp, List.getElem?_cons_zero, List.getElem?_cons_succ, hy.len, tokRows_len] <;> exact rfl) ?_
  refine ow_op (by simp only [opd, zv, exOp, aop, LOp.loud, pop, zp, List.getElem?_cons_zero, List.getElem?_cons_succ, hy.len, tokRows_len] <;> exact rfl) ?_
  refine ow_op (by simp only [opd, zv, exOp, aop, LOp.loud, pop, zp, hy.len, tokRows_len] <;> exact rfl) ?_
  refine ow_op (by simp only [opd, zv, exOp, aop, LOp.loud, pop, zp, hy.len, tokRows_len] <;> exact rfl) ?_
  refine ow_nil ?_
  refine sk_n (by simp only [exports, zn, zg] <;> exact rfl) ?_
  refine cw_seq ?_
  refine cw_seq ?_
  refine cw_region ?_
  refine ow_op (by simp only [opd, zv, exOp, aop, LOp.loud, pop, zp, hy.len, tokRows_len] <;> exact rfl) ?_
  refine ow_op (by simp only [opd, zv, exOp, aop, LOp.loud, pop, zp, unD, hy.len, tokRows_len] <;> exact rfl) ?_
  refine ow_nil ?_
  refine sk_n (by simp only [exports, zn, zg] <;> exact rfl) ?_
  skip
  refine cw_false (by simp only [opd, zv, hy.len, tokRows_len] <;> rfl) ?_
  refine cw_skip ?_
  refine sk_n rfl ?_
  refine cw_seq ?_
  refine cw_region ?_
  refine ow_op (by simp only [opd, zv, exOp, aop, LOp.loud, pop, zp, hy.len, tokRows_len] <;> exact rfl) ?_
  refine ow_op (by simp only [opd, zv, exOp, aop, LOp.loud, lop, rowsOf, newAt, setAt, zh, zm, fillRows, List.replicate, snapVs, snaps, zs, zc, zf, hy.len, tokRows_len] <;> exact rfl) ?_
  refine ow_op (by simp only [exOp, opd, zv, hy.len, tokRows_len]; exact skip_yes (by omega) _ (tokD hS) (ws := [wSTANDARD]) (SlD.of 1 _ (some 1)) (by decide) hs) ?_
  refine ow_op (by simp only [opd, zv, exOp, aop, LOp.loud, pop, zp, hy.len, tokRows_len] <;> exact rfl) ?_
  refine ow_op (by simp only [opd, zv, exOp, aop, LOp.loud, pop, zp, List.getElem?_cons_zero, List.getElem?_cons_succ, hy.len, tokRows_len] <;> exact rfl) ?_
  refine ow_op (by simp only [opd, zv, exOp, aop, LOp.loud, pop, zp, List.getElem?_cons_zero, List.getElem?_cons_succ, hy.len, tokRows_len] <;> exact rfl) ?_
  refine ow_op (by simp only [opd, zv, exOp, aop, LOp.loud, pop, zp, hy.len, tokRows_len] <;> exact rfl) ?_
  refine ow_nil ?_
  refine sk_n (by simp only [exports, zn, zg] <;> exact rfl) ?_
  refine cw_seq ?_
  refine cw_region ?_
  refine ow_op (by simp only [opd, zv, exOp, aop, LOp.loud, pop, zp, hy.len, tokRows_len] <;> exact rfl) ?_
  refine ow_op (by simp only [opd, zv, exOp, aop, LOp.loud, lop, rowsOf, newAt, setAt, zh, zm, fillRows, List.replicate, snapVs, snaps, zs, zc, zf, hy.len, tokRows_len] <;> exact rfl) ?_
  refine ow_op (by simp only [exOp, opd, zv, hy.len, tokRows_len]; exact skip_yes (by omega) _ (tokD (tokD hS)) (ws := [wEXCEPTION, wERROR]) (SlD.of 1 _ (some 2)) (by decide) hk) ?_
  refine ow_op (by simp only [opd, zv, exOp, aop, LOp.loud, pop, zp, hy.len, tokRows_len] <;> exact rfl) ?_
  refine ow_op (by simp only [opd, zv, exOp, aop, LOp.loud, pop, zp, List.getElem?_cons_zero, List.getElem?_cons_succ, hy.len, tokRows_len] <;> exact rfl) ?_
  refine ow_op (by simp only [opd, zv, exOp, aop, LOp.loud, pop, zp, List.getElem?_cons_zero, List.getElem?_cons_succ, hy.len, tokRows_len] <;> exact rfl) ?_
  refine ow_op (by simp only [opd, zv, exOp, aop, LOp.loud, pop, zp, hy.len, tokRows_len] <;> exact rfl) ?_
  refine ow_op (by simp only [opd, zv, exOp, aop, LOp.loud, pop, zp, hy.len, tokRows_len] <;> exact rfl) ?_
  refine ow_nil ?_
  refine sk_n (by simp only [exports, zn, zg] <;> exact rfl) ?_
  refine cw_seq ?_
  refine cw_seq ?_
  refine cw_region ?_
  refine ow_op (by simp only [opd, zv, exOp, aop, LOp.loud, pop, zp, hy.len, tokRows_len] <;> exact rfl) ?_
  refine ow_op (by simp only [opd, zv, exOp, aop, LOp.loud, pop, zp, unD, hy.len, tokRows_len] <;> exact rfl) ?_
  refine ow_nil ?_
  refine sk_n (by simp only [exports, zn, zg] <;> exact rfl) ?_
  skip
  refine cw_false (by simp only [opd, zv, hy.len, tokRows_len] <;> rfl) ?_
  refine cw_skip ?_
  refine sk_n rfl ?_
  refine cw_seq ?_
  refine cw_region ?_
  refine ow_op (by simp only [opd, zv, exOp, aop, LOp.loud, pop, zp, hy.len, tokRows_len] <;> exact rfl) ?_
  refine ow_op (by simp only [opd, zv, exOp, aop, LOp.loud, lop, rowsOf, newAt, setAt, zh, zm, fillRows, List.replicate, snapVs, snaps, zs, zc, zf, hy.len, tokRows_len] <;> exact rfl) ?_
  refine ow_op (by simp only [exOp, opd, zv, hy.len, tokRows_len]; exact skip_yes (by omega) _ (tokD (tokD (tokD hS))) (ws := [wPROCEDURE]) (SlD.of 1 _ (some 1)) (by decide) hp) ?_
  refine ow_op (by simp only [opd, zv, exOp, aop, LOp.loud, pop, zp, hy.len, tokRows_len] <;> exact rfl) ?_
  refine ow_op (by simp only [opd, zv, exOp, aop, LOp.loud, pop, zp, List.getElem?_cons_zero, List.getElem?_cons_succ, hy.len, tokRows_len] <;> exact rfl) ?_
  refine ow_op (by simp only [opd, zv, exOp, aop, LOp.loud, pop, zp, List.getElem?_cons_zero, List.getElem?_cons_succ, hy.len, tokRows_len] <;> exact rfl) ?_
  refine ow_op (by simp only [opd, zv, exOp, aop, LOp.loud, pop, zp, hy.len, tokRows_len] <;> exact rfl) ?_
  refine ow_op (by simp only [opd, zv, exOp, aop, LOp.loud, pop, zp, hy.len, tokRows_len] <;> exact rfl) ?_
  refine ow_nil ?_
  refine sk_n (by simp only [exports, zn, zg] <;> exact rfl) ?_
  refine cw_seq ?_
  refine cw_seq ?_
  refine cw_region ?_
  refine ow_op (by simp only [opd, zv, exOp, aop, LOp.loud, pop, zp, hy.len, tokRows_len] <;> exact rfl) ?_
  refine ow_op (by simp only [opd, zv, exOp, aop, LOp.loud, pop, zp, unD, hy.len, tokRows_len] <;> exact rfl) ?_
  refine ow_nil ?_
  refine sk_n (by simp only [exports, zn, zg] <;> exact rfl) ?_
  skip
  refine cw_false (by simp only [opd, zv, hy.len, tokRows_len] <;> rfl) ?_
  refine cw_skip ?_
  refine sk_n rfl ?_
  refine cw_seq ?_
  refine cw_region ?_
  refine ow_op (by simp only [opd, zv, exOp, aop, LOp.loud, pop, zp, hy.len, tokRows_len] <;> exact rfl) ?_
  refine ow_op (by simp only [opd, zv, exOp, aop, LOp.loud, lop, rowsOf, newAt, setAt, zh, zm, fillRows, List.replicate, snapVs, snaps, zs, zc, zf, hy.len, tokRows_len] <;> exact rfl) ?_
  refine ow_op (by simp only [exOp, opd, zv, hy.len, tokRows_len]; exact skip_yes (by omega) _ (tokD (tokD (tokD (tokD hS)))) (ws := [wON]) (SlD.of 1 _ (some 1)) (by decide) ho) ?_
  refine ow_op (by simp only [opd, zv, exOp, aop, LOp.loud, pop, zp, hy.len, tokRows_len] <;> exact rfl) ?_
  refine ow_op (by simp only [opd, zv, exOp, aop, LOp.loud, pop, zp, List.getElem?_cons_zero, List.getElem?_cons_succ, hy.len, tokRows_len] <;> exact rfl) ?_
  refine ow_op (by simp only [opd, zv, exOp, aop, LOp.loud, pop, zp, List.getElem?_cons_zero, List.getElem?_cons_succ, hy.len, tokRows_len] <;> exact rfl) ?_
  refine ow_op (by simp only [opd, zv, exOp, aop, LOp.loud, pop, zp, hy.len, tokRows_len] <;> exact rfl) ?_
  refine ow_nil ?_
  refine sk_n (by simp only [exports, zn, zg] <;> exact rfl) ?_
  refine cw_seq ?_
  refine cw_region ?_
  refine ow_op (by simp only [opd, zv, exOp, aop, LOp.loud, pop, zp, hy.len, tokRows_len] <;> exact rfl) ?_
  refine ow_op (by simp only [opd, zv, exOp, aop, LOp.loud, pop, zp, hy.len, tokRows_len] <;> exact rfl) ?_
  refine ow_op (by simp only [opd, zv, exOp, aop, LOp.loud, pop, zp, lenD_str, lenD_nils, lenD_sl, lenD_msl, hy.len, tokRows_len] <;> exact rfl) ?_
  refine ow_op (by simp only [opd, zv, exOp, aop, LOp.loud, pop, zp, binD, eq_self, ne_eq, not_false_eq_true, true_and, Int.reduceEq, ite_true, ite_false, not_true_eq_false, Int.reduceToNat, Int.reduceLT, hy.len, tokRows_len] <;> exact rfl) ?_
  refine ow_op (by simp only [opd, zv, exOp, aop, LOp.loud, pop, zp, hy.len, tokRows_len] <;> exact rfl) ?_
  refine ow_op (by simp only [opd, zv, exOp, aop, LOp.loud, pop, zp, hy.len, tokRows_len] <;> exact rfl) ?_
  refine ow_nil ?_
  refine sk_n (by simp only [exports, zn, zg] <;> exact rfl) ?_
  refine cw_ret ?_
  refine ⟨_, by simp only [F21, resultD, resDs, resD, List.getD_cons_zero, List.getD_cons_succ, loadD_cptr, loadD_ptr, rowsOf, partD, List.getElem?_cons_zero, List.getElem?_cons_succ, if_true, if_false, Bool.false_eq_true, List.take, List.drop, zm] <;> exact rfl, ?_⟩
  have hz : decide (((rs.length + 1 : Nat) : Int) > 0) = true := decide_eq_true (by omega)
  simp only [List.length_cons, hz]
  simp only [leaveP, leave, snapVs, snaps, zs, zf, Option.map_some, List.all_cons, List.all_nil, Bool.and_self, Bool.and_true, if_true, if_false, Bool.false_eq_true, List.length_nil, Nat.le_refl, Nat.zero_le, hy.snapV, hy.freeV, hy.snap, hy.free, hy.snapR, hy.freeR]

theorem fault_run {d : Nat} (hd : 1 ≤ d) (S : St) {x y : D} {t : Tok} {l : List Tok} {rows : List (List D)} (e : Int) (hS : SlD 5 (tokRows (t :: l)) x) (hY : SlD 5 rows y) :
    runF LP NN d 22 [.int .i64 e, x, y] S = some (.agg [.int .i64 e, .int .i64 t.line, .int .i64 t.col], S, false) := by
  have hia := fun (S : St) => hS.iaddr S .i64 (i := 0) (by omega) (tokRows_0 t l)
  refine run_pure (F := F22) rfl (by simp only [LP, fnOf, snapVs, snaps, zs, Bool.false_eq_true, if_false, Option.map_some, List.map_cons, List.map_nil, hS.snapV, hS.freeV, hY.snapV, hY.freeV] <;> exact rfl) rfl (by simp only [LP, zf, List.all_cons, List.all_nil, Bool.and_true, Bool.true_and, hS.snapV, hS.freeV, hY.snapV, hY.freeV]; try rfl) (by simp only [F22, zv] <;> exact rfl) (by omega) ?_
  rintro d rfl
  refine cw_seq ?_
  refine cw_region ?_
  refine ow_op (by simp only [opd, zv, exOp, aop, LOp.loud, lop, rowsOf, newAt, setAt, zh, zm, hS.len, tokRows_len, hia, List.length_cons] <;> exact rfl) ?_
  refine ow_nil ?_
  refine sk_n (by simp only [exports, zn, zg] <;> exact rfl) ?_
  refine cw_seq ?_
  refine cw_block ?_
  refine cw_seq ?_
  refine cw_region ?_
  refine ow_op (by simp only [opd, zv, exOp, aop, LOp.loud, pop, zp, hS.len, tokRows_len, hia, List.length_cons] <;> exact rfl) ?_
  refine ow_op (by simp only [opd, zv, exOp, aop, LOp.loud, pop, zp, lenD_str, lenD_nils, lenD_sl, lenD_msl, hS.len, tokRows_len, hia, List.length_cons] <;> exact rfl) ?_
  refine ow_op (by simp only [opd, zv, exOp, aop, LOp.loud, pop, zp, binD, eq_self, ne_eq, not_false_eq_true, true_and, Int.reduceEq, ite_true, ite_false, not_true_eq_false, Int.reduceToNat, Int.reduceLT, hS.len, tokRows_len, hia, List.length_cons] <;> exact rfl) ?_
  refine ow_op (by simp only [opd, zv, exOp, aop, LOp.loud, pop, zp, hS.len, tokRows_len, hia, List.length_cons] <;> exact rfl) ?_
  refine ow_nil ?_
  refine sk_n (by simp only [exports, zn, zg] <;> exact rfl) ?_
  skip
  refine cw_true (by simp only [opd, zv, hS.len, tokRows_len, hia, List.length_cons] <;> exact congrArg D.bool (decide_eq_true (by omega))) ?_
  refine cw_seq ?_
  refine cw_region ?_
  refine ow_op (by simp only [opd, zv, exOp, aop, LOp.loud, pop, zp, hS.len, tokRows_len, hia, List.length_cons] <;> exact rfl) ?_
  refine ow_op (by simp only [opd, zv, exOp, aop, LOp.loud, pop, zp, hS.len, tokRows_len, hia, List.length_cons] <;> exact rfl) ?_
  refine ow_op (by simp only [opd, zv, exOp, aop, LOp.loud, lop, rowsOf, newAt, setAt, zh, zm, iaddrD_sl, iaddrD_msl, Int.toNat_natCast, Int.toNat_zero, List.getElem?_map, Option.map_some, Int.le_refl, hS.len, tokRows_len, hia, List.length_cons] <;> exact rfl) ?_
  refine ow_op (by simp only [opd, zv, exOp, aop, LOp.loud, pop, zp, faddrD_ptr, faddrD_cptr, zm, hS.len, tokRows_len, hia, List.length_cons] <;> exact rfl) ?_
  refine ow_op (by simp only [opd, zv, exOp, aop, LOp.loud, lop, rowsOf, newAt, setAt, zh, zm, loadD_cptr, loadD_ptr, partD, List.take, List.drop, hS.len, tokRows_len, hia, List.length_cons] <;> exact rfl) ?_
  refine ow_op (by simp only [opd, zv, exOp, aop, LOp.loud, pop, zp, fillD, overlay, zc, List.take, List.drop, Nat.reduceAdd, Nat.reduceLeDiff, Nat.reduceBEq, zm, hS.len, tokRows_len, hia, List.length_cons] <;> exact rfl) ?_
  refine ow_op (by simp only [opd, zv, exOp, aop, LOp.loud, lop, rowsOf, newAt, setAt, zh, zm, storeD, overlay, snapVs, snaps, zs, zc, zf, List.take, List.drop, hS.len, tokRows_len, hia, List.length_cons] <;> exact rfl) ?_
  refine ow_nil ?_
  refine sk_n (by simp only [exports, zn, zg] <;> exact rfl) ?_
  refine cw_ret ?_
  refine bk_r ?_
  refine sk_r ?_
  refine ⟨_, by simp only [F22, resultD, resDs, resD, List.getD_cons_zero, List.getD_cons_succ, loadD_cptr, loadD_ptr, rowsOf, partD, List.getElem?_cons_zero, List.getElem?_cons_succ, if_true, if_false, Bool.false_eq_true, List.take, List.drop, zm] <;> exact rfl, ?_⟩
  simp only [leaveP, leave, snapVs, snaps, zs, zf, Option.map_some, List.all_cons, List.all_nil, Bool.and_self, Bool.and_true, if_true, if_false, Bool.false_eq_true, List.length_nil, Nat.le_refl, Nat.zero_le]

def modeRows : List (List D) := [[.str ⟨#[73, 78, 80, 85, 84]⟩, .int .u8 1], [.str ⟨#[79, 85, 84, 80, 85, 84]⟩, .int .u8 2], [.str ⟨#[73, 45, 79]⟩, .int .u8 3], [.str ⟨#[69, 88, 84, 69, 78, 68]⟩, .int .u8 4]]
theorem modes_run {d : Nat} (hd : 1 ≤ d) (S : St) : runF LP NN d 23 [] S = some (.mp modeRows, S, false) := by
  obtain ⟨d, rfl⟩ : ∃ d', d = d' + 1 := ⟨d - 1, by omega⟩
  kernel_rfl
/-- the mode of a word, or 0 -/
def modeW (s : ByteArray) : Nat := if s == ⟨#[73, 78, 80, 85, 84]⟩ then 1 else if s == ⟨#[79, 85, 84, 80, 85, 84]⟩ then 2 else if s == ⟨#[73, 45, 79]⟩ then 3 else if s == ⟨#[69, 88, 84, 69, 78, 68]⟩ then 4 else 0
theorem mapget_modes (S : St) (s : ByteArray) : mapgetD S 1 (.int .u8 0) false (.mp modeRows) (.str s) = some (.int .u8 (modeW s)) := by
  unfold modeW
  simp only [mapgetD, mapRows, isKey, modeRows, findD, eqCell]
  by_cases h1 : s == ⟨#[73, 78, 80, 85, 84]⟩ <;> simp only [h1, if_true, if_false, Bool.false_eq_true]
  · rfl
  by_cases h2 : s == ⟨#[79, 85, 84, 80, 85, 84]⟩ <;> simp only [h2, if_true, if_false, Bool.false_eq_true]
  · rfl
  by_cases h3 : s == ⟨#[73, 45, 79]⟩ <;> simp only [h3, if_true, if_false, Bool.false_eq_true]
  · rfl
  by_cases h4 : s == ⟨#[69, 88, 84, 69, 78, 68]⟩ <;> simp only [h4, if_true, if_false, Bool.false_eq_true]
  · rfl
  · rfl

theorem clip1_run {d : Nat} (hd : 1 ≤ d) (S : St) {x : D} {rows : List (List D)} (hS : SlD 1 rows x) :
    runF LP NN d 32 [x] S = some (clipD x, S, false) := by
  refine run_pure (F := F32) rfl (by simp only [LP, fnOf, snapVs, snaps, zs, Bool.false_eq_true, if_false, Option.map_some, List.map_cons, List.map_nil, hS.snapV, hS.freeV] <;> exact rfl) rfl (by simp only [LP, zf, List.all_cons, List.all_nil, Bool.and_true, Bool.true_and, hS.snapV, hS.freeV]; try rfl) (by simp only [F32, zv] <;> exact rfl) (by omega) ?_
  rintro d rfl
  refine cw_seq ?_
  refine cw_region ?_
  refine ow_op (by simp only [opd, zv, exOp, aop, LOp.loud, pop, zp, hS.len] <;> exact rfl) ?_
  refine ow_nil ?_
  refine sk_n (by simp only [exports, zn, zg] <;> exact rfl) ?_
  refine cw_seq ?_
  refine cw_region ?_
  refine ow_op (by simp only [opd, zv, exOp, aop, LOp.loud, pop, zp, hS.len] <;> exact rfl) ?_
  refine ow_op (by simp only [opd, zv, exOp, aop, LOp.loud, pop, zp, hS.len] <;> exact rfl) ?_
  refine ow_op (by simp only [opd, zv, exOp, aop, LOp.loud, pop, zp, lenD_str, lenD_nils, lenD_sl, lenD_msl, hS.len] <;> exact rfl) ?_
  refine ow_op (by simp only [opd, zv, exOp, aop, LOp.loud, pop, zp, hS.len] <;> exact rfl) ?_
  refine ow_op (by simp only [opd, zv, exOp, aop, LOp.loud, pop, zp, lenD_str, lenD_nils, lenD_sl, lenD_msl, hS.len] <;> exact rfl) ?_
  refine ow_op (by simp only [opd, zv, exOp, aop, LOp.loud, lop, sliceArgs, if_true, Option.map_some, hS.len, hS.slice_clip _] <;> exact rfl) ?_
  refine ow_op (by simp only [opd, zv, exOp, aop, LOp.loud, pop, zp, hS.len] <;> exact rfl) ?_
  refine ow_nil ?_
  refine sk_n (by simp only [exports, zn, zg] <;> exact rfl) ?_
  refine cw_ret ?_
  refine ⟨_, by simp only [F32, resultD, resDs, resD, List.getD_cons_zero, List.getD_cons_succ, loadD_cptr, loadD_ptr, rowsOf, partD, List.getElem?_cons_zero, List.getElem?_cons_succ, if_true, if_false, Bool.false_eq_true, List.take, List.drop, zm] <;> exact rfl, ?_⟩
  simp only [leaveP, leave, snapVs, snaps, zs, zf, Option.map_some, List.all_cons, List.all_nil, Bool.and_self, Bool.and_true, if_true, if_false, Bool.false_eq_true, List.length_nil, Nat.le_refl, Nat.zero_le, hS.clip.snapV, hS.clip.freeV, hS.clip.snap, hS.clip.free, hS.clip.snapR, hS.clip.freeR]

theorem clip3_run {d : Nat} (hd : 1 ≤ d) (S : St) {x : D} {rows : List (List D)} (hS : SlD 3 rows x) :
    runF LP NN d 15 [x] S = some (clipD x, S, false) := by
  refine run_pure (F := F15) rfl (by simp only [LP, fnOf, snapVs, snaps, zs, Bool.false_eq_true, if_false, Option.map_some, List.map_cons, List.map_nil, hS.snapV, hS.freeV] <;> exact rfl) rfl (by simp only [LP, zf, List.all_cons, List.all_nil, Bool.and_true, Bool.true_and, hS.snapV, hS.freeV]; try rfl) (by simp only [F15, zv] <;> exact rfl) (by omega) ?_
  rintro d rfl
  refine cw_seq ?_
  refine cw_region ?_
  refine ow_op (by simp only [opd, zv, exOp, aop, LOp.loud, pop, zp, hS.len] <;> exact rfl) ?_
  refine ow_nil ?_
  refine sk_n (by simp only [exports, zn, zg] <;> exact rfl) ?_
  refine cw_seq ?_
  refine cw_region ?_
  refine ow_op (by simp only [opd, zv, exOp, aop, LOp.loud, pop, zp, hS.len] <;> exact rfl) ?_
  refine ow_op (by simp only [opd, zv, exOp, aop, LOp.loud, pop, zp, hS.len] <;> exact rfl) ?_
  refine ow_op (by simp only [opd, zv, exOp, aop, LOp.loud, pop, zp, lenD_str, lenD_nils, lenD_sl, lenD_msl, hS.len] <;> exact rfl) ?_
  refine ow_op (by simp only [opd, zv, exOp, aop, LOp.loud, pop, zp, hS.len] <;> exact rfl) ?_
  refine ow_op (by simp only [opd, zv, exOp, aop, LOp.loud, pop, zp, lenD_str, lenD_nils, lenD_sl, lenD_msl, hS.len] <;> exact rfl) ?_
  refine ow_op (by simp only [opd, zv, exOp, aop, LOp.loud, lop, sliceArgs, if_true, Option.map_some, hS.len, hS.slice_clip _] <;> exact rfl) ?_
  refine ow_op (by simp only [opd, zv, exOp, aop, LOp.loud, pop, zp, hS.len] <;> exact rfl) ?_
  refine ow_nil ?_
  refine sk_n (by simp only [exports, zn, zg] <;> exact rfl) ?_
  refine cw_ret ?_
  refine ⟨_, by simp only [F15, resultD, resDs, resD, List.getD_cons_zero, List.getD_cons_succ, loadD_cptr, loadD_ptr, rowsOf, partD, List.getElem?_cons_zero, List.getElem?_cons_succ, if_true, if_false, Bool.false_eq_true, List.take, List.drop, zm] <;> exact rfl, ?_⟩
  simp only [leaveP, leave, snapVs, snaps, zs, zf, Option.map_some, List.all_cons, List.all_nil, Bool.and_self, Bool.and_true, if_true, if_false, Bool.false_eq_true, List.length_nil, Nat.le_refl, Nat.zero_le, hS.clip.snapV, hS.clip.freeV, hS.clip.snap, hS.clip.free, hS.clip.snapR, hS.clip.freeR]

theorem containsFunc_run {d : Nat} (hd : 2 ≤ d) (S : St) {x : D} {l : List Ru} (hS : SlD 3 (ruRows l) x) (hl : l.length ≤ 1000000) (f : FuncId) (caps : List D) (hne : caps.isEmpty = false) (p : Ru → Bool)
    (hcall : ∀ {d'}, d = d' + 2 → ∀ r ∈ l, runF LP NN d' f (.agg [.str r.sec, r.fd, .int .u8 r.mode] :: caps) ⟨S.heap, S.heap.length⟩ = some (.bool (p r), ⟨S.heap, S.heap.length⟩, false)) :
    runF LP NN d 24 [x, .fn f caps] S = some (.bool (l.any p), S, false) := by
  refine run_at (F := F24) rfl (by simp only [LP, fnOf, snapVs, snaps, zs, Bool.false_eq_true, if_false, Option.map_some, List.map_cons, List.map_nil, hS.snapV, hS.freeV, hne, Bool.and_false] <;> exact rfl) rfl (by simp only [LP, zf, List.all_cons, List.all_nil, Bool.and_true, Bool.true_and, hS.snapV, hS.freeV, hne, Bool.and_false]; try rfl) (by simp only [F24, zv] <;> exact rfl) (by omega) ?_
  rintro d rfl
  refine cw_seq ?_
  refine cw_region ?_
  refine ow_op (by simp only [opd, zv, exOp, aop, LOp.loud, pop, zp] <;> exact rfl) ?_
  refine ow_nil ?_
  refine sk_n (by simp only [exports, zn, zg] <;> exact rfl) ?_
  refine cw_seq ?_
  refine cw_region ?_
  refine ow_op (by simp only [opd, zv, exOp, aop, LOp.loud, pop, zp] <;> exact rfl) ?_
  refine ow_op (by simp only [opd, zv, exOp, aop, LOp.loud, pop, zp] <;> exact rfl) ?_
  refine ow_op (by simp only [exOp, opd, zv]; exact indexFunc_run (by omega) _ hS hl f caps hne p (fun he r hr => by cases he; exact hcall rfl r hr)) ?_
  refine ow_op (by simp only [opd, zv, exOp, aop, LOp.loud, pop, zp, binD, eq_self, ne_eq, not_false_eq_true, true_and, Int.reduceEq, ite_true, ite_false, not_true_eq_false, Int.reduceToNat, Int.reduceLT] <;> exact rfl) ?_
  refine ow_op (by simp only [opd, zv, exOp, aop, LOp.loud, pop, zp] <;> exact rfl) ?_
  refine ow_nil ?_
  refine sk_n (by simp only [exports, zn, zg] <;> exact rfl) ?_
  refine cw_ret ?_
  refine ⟨_, by simp only [F24, resultD, resDs, resD, List.getD_cons_zero, List.getD_cons_succ, loadD_cptr, loadD_ptr, rowsOf, partD, List.getElem?_cons_zero, List.getElem?_cons_succ, if_true, if_false, Bool.false_eq_true, List.take, List.drop, zm] <;> exact rfl, ?_⟩
  rw [idxI_nonneg]
  simp [leave, LP, snapR, snapV, snap, D.freeR, D.freeV, D.free]

/-- a file of a program in the machine -/
structure Fi where
  nm : ByteArray
  st : D
  hst : ∃ rows, SlD 1 rows st
def Fi.row (f : Fi) : List D := [.str f.nm, .str ⟨#[]⟩, .int .u8 0, .int .u8 0, .nils, .nils, f.st, .bool false, .nils, .nils, .int .i64 0, .int .i64 0]
def fiRows (l : List Fi) : List (List D) := l.map Fi.row
theorem fiRows_at {l : List Fi} {i : Nat} (h : i < l.length) : (fiRows l)[i]? = some [.str l[i].nm, .str ⟨#[]⟩, .int .u8 0, .int .u8 0, .nils, .nils, l[i].st, .bool false, .nils, .nils, .int .i64 0, .int .i64 0] := by simp [fiRows, h, Fi.row]
theorem fiRows_len (l : List Fi) : (fiRows l).length = l.length := by simp [fiRows]

theorem fil1_run {d : Nat} (hd : 1 ≤ d) (S : St) (r : Fi) (s : ByteArray) (g : Nat) (e : TypeId) (hcap : S.heap[g]? = some ⟨e, 1, [[.str s]], 0, 0, false⟩) (hlt : g < S.heap.length) :
    runF LP NN d 30 [.agg [.str r.nm, .str ⟨#[]⟩, .int .u8 0, .int .u8 0, .nils, .nils, r.st, .bool false, .nils, .nils, .int .i64 0, .int .i64 0], .ptr g 0 0 0] S = some (.bool (r.nm.toList == s.toList), S, false) := by
  obtain ⟨rows, hst⟩ := r.hst
  refine run_at (F := F30) rfl (by simp only [LP, fnOf, snapVs, snaps, zs, Bool.false_eq_true, if_false, Option.map_some, List.map_cons, List.map_nil, hst.snap, hst.freeV, hst.free] <;> exact rfl) rfl (by simp only [LP, zf, List.all_cons, List.all_nil, Bool.and_true, Bool.true_and, hst.snap, hst.freeV, hst.free]; try rfl) (by simp only [F30, zv] <;> exact rfl) (by omega) ?_
  rintro d rfl
  refine cw_seq ?_
  refine cw_region ?_
  refine ow_op (by simp only [opd, zv, exOp, aop, LOp.loud, lop, rowsOf, newAt, setAt, zh, zm, zc, hst.isCell, hst.val, hst.cells, hcap, List.getElem?_append_left hlt] <;> exact rfl) ?_
  refine ow_op (by simp only [opd, zv, exOp, aop, LOp.loud, pop, zp, hst.isCell, hst.val, hst.cells, hcap, List.getElem?_append_left hlt] <;> exact rfl) ?_
  refine ow_nil ?_
  refine sk_n (by simp only [exports, zn, zg] <;> exact rfl) ?_
  refine cw_seq ?_
  refine cw_region ?_
  refine ow_op (by simp only [opd, zv, exOp, aop, LOp.loud, pop, zp, faddrD_ptr, faddrD_cptr, zm, hst.isCell, hst.val, hst.cells, hcap, List.getElem?_append_left hlt] <;> exact rfl) ?_
  refine ow_op (by simp only [opd, zv, exOp, aop, LOp.loud, lop, rowsOf, newAt, setAt, zh, zm, loadD_cptr, loadD_ptr, partD, List.take, List.drop, hst.isCell, hst.val, hst.cells, hcap, List.getElem?_append_left hlt] <;> exact rfl) ?_
  refine ow_op (by simp only [opd, zv, exOp, aop, LOp.loud, lop, rowsOf, newAt, setAt, zh, zm, loadD_cptr, loadD_ptr, partD, List.take, List.drop, hst.isCell, hst.val, hst.cells, hcap, List.getElem?_append_left hlt] <;> exact rfl) ?_
  refine ow_op (by simp only [opd, zv, exOp, aop, LOp.loud, pop, zp, binD, eq_self, ne_eq, not_false_eq_true, true_and, Int.reduceEq, ite_true, ite_false, not_true_eq_false, Int.reduceToNat, Int.reduceLT, hst.isCell, hst.val, hst.cells, hcap, List.getElem?_append_left hlt] <;> exact rfl) ?_
  refine ow_op (by simp only [opd, zv, exOp, aop, LOp.loud, pop, zp, hst.isCell, hst.val, hst.cells, hcap, List.getElem?_append_left hlt] <;> exact rfl) ?_
  refine ow_nil ?_
  refine sk_n (by simp only [exports, zn, zg] <;> exact rfl) ?_
  refine cw_ret ?_
  refine ⟨_, by simp only [F30, resultD, resDs, resD, List.getD_cons_zero, List.getD_cons_succ, loadD_cptr, loadD_ptr, rowsOf, partD, List.getElem?_cons_zero, List.getElem?_cons_succ, if_true, if_false, Bool.false_eq_true, List.take, List.drop, zm] <;> exact rfl, ?_⟩
  simp [leave, LP, snapR, snapV, snap, D.freeR, D.freeV, D.free]

theorem indexFile_run {d : Nat} (hd : 1 ≤ d) (S : St) {x : D} {l : List Fi} (hS : SlD 12 (fiRows l) x) (hl : l.length ≤ 1000000) (f : FuncId) (caps : List D) (hne : caps.isEmpty = false) (p : Fi → Bool)
    (hcall : ∀ {d'}, d = d' + 1 → ∀ r ∈ l, runF LP NN d' f (.agg [.str r.nm, .str ⟨#[]⟩, .int .u8 0, .int .u8 0, .nils, .nils, r.st, .bool false, .nils, .nils, .int .i64 0, .int .i64 0] :: caps) ⟨S.heap, S.heap.length⟩ = some (.bool (p r), ⟨S.heap, S.heap.length⟩, false)) :
    runF LP NN d 33 [x, .fn f caps] S = some (.int .i64 (idxI p l), S, false) := by
  refine run_at (F := F33) rfl (by simp only [LP, fnOf, snapVs, snaps, zs, Bool.false_eq_true, if_false, Option.map_some, List.map_cons, List.map_nil, hS.snapV, hS.freeV, hne, Bool.and_false] <;> exact rfl) rfl (by simp only [LP, zf, List.all_cons, List.all_nil, Bool.and_true, Bool.true_and, hS.snapV, hS.freeV, hne, Bool.and_false]; try rfl) (by simp only [F33, zv] <;> exact rfl) (by omega) ?_
  rintro d rfl
  refine cw_seq ?_
  refine cw_region ?_
  refine ow_op (by simp only [opd, zv, exOp, aop, LOp.loud, pop, zp, hS.len, fiRows_len] <;> exact rfl) ?_
  refine ow_nil ?_
  refine sk_n (by simp only [exports, zn, zg] <;> exact rfl) ?_
  refine cw_seq ?_
  refine cw_seq ?_
  refine cw_region ?_
  refine ow_op (by simp only [opd, zv, exOp, aop, LOp.loud, pop, zp, hS.len, fiRows_len] <;> exact rfl) ?_
  refine ow_op (by simp only [opd, zv, exOp, aop, LOp.loud, pop, zp, lenD_str, lenD_nils, lenD_sl, lenD_msl, hS.len, fiRows_len] <;> exact rfl) ?_
  refine ow_op (by simp only [opd, zv, exOp, aop, LOp.loud, pop, zp, hS.len, fiRows_len] <;> exact rfl) ?_
  refine ow_nil ?_
  refine sk_n (by simp only [exports, zn, zg] <;> exact rfl) ?_
  refine cw_block ?_
  refine cw_loop (fun n env S' => ∃ (i : Nat) (u3 u6 u7 : D), i ≤ l.length ∧ n = l.length - i ∧ ((l.take i).any fun x => p x) = false ∧ S' = ⟨S.heap, S.heap.length⟩ ∧ env = [x, .fn f caps, .int .i64 0, u3, .int .i64 l.length, .int .i64 i, u6, u7]) (l.length) (by omega) (⟨0, _, _, _, by omega, by omega, by simp, rfl, rfl⟩) ?_
  rintro n env S' ⟨i, u3, u6, u7, hi, rfl, hany, rfl, rfl⟩
  have h0 : (0 : Int) ≤ (i : Int) := by omega
  refine cw_seq ?_
  refine cw_region ?_
  refine ow_op (by simp only [opd, zv, exOp, aop, LOp.loud, pop, zp, binD, eq_self, ne_eq, not_false_eq_true, true_and, Int.reduceEq, ite_true, ite_false, not_true_eq_false, Int.reduceToNat, Int.reduceLT, hS.len, fiRows_len, h0] <;> exact rfl) ?_
  refine ow_nil ?_
  refine sk_n (by simp only [exports, zn, zg] <;> exact rfl) ?_
  refine cw_seq ?_
  refine cw_cond (by simp only [opd, zv, hS.len, fiRows_len, h0] <;> exact rfl) (fun hcA => ?_) (fun hcA => ?_)
  · skip -- AT
    have hlt : i < l.length := by have := of_decide_eq_true hcA; omega
    have hw := wrap_nat i (by omega)
    have hx := List.getElem?_eq_getElem hlt
    have hia := fun (S : St) => hS.iaddrN S .i64 (fiRows_at hlt)
    refine cw_skip ?_
    refine sk_n rfl ?_
    refine cw_seq ?_
    refine cw_block ?_
    refine cw_seq ?_
    refine cw_region ?_
    refine ow_op (by simp only [opd, zv, exOp, aop, LOp.loud, pop, zp, hS.len, fiRows_len, h0, hw, hx, hia] <;> exact rfl) ?_
    refine ow_op (by simp only [opd, zv, exOp, aop, LOp.loud, pop, zp, hS.len, fiRows_len, h0, hw, hx, hia] <;> exact rfl) ?_
    refine ow_nil ?_
    refine sk_n (by simp only [exports, zn, zg] <;> exact rfl) ?_
    refine cw_seq ?_
    refine cw_region ?_
    refine ow_op (by simp only [opd, zv, exOp, aop, LOp.loud, pop, zp, hS.len, fiRows_len, h0, hw, hx, hia] <;> exact rfl) ?_
    refine ow_op (by simp only [opd, zv, exOp, aop, LOp.loud, pop, zp, hS.len, fiRows_len, h0, hw, hx, hia] <;> exact rfl) ?_
    refine ow_op (by simp only [opd, zv, exOp, aop, LOp.loud, pop, zp, hS.len, fiRows_len, h0, hw, hx, hia] <;> exact rfl) ?_
    refine ow_op (by simp only [opd, zv, exOp, aop, LOp.loud, lop, rowsOf, newAt, setAt, zh, zm, iaddrD_sl, iaddrD_msl, Int.toNat_natCast, Int.toNat_zero, List.getElem?_map, Option.map_some, Int.le_refl, hS.len, fiRows_len, h0, hw, hx, hia] <;> exact rfl) ?_
    refine ow_op (by simp only [opd, zv, exOp, aop, LOp.loud, lop, rowsOf, newAt, setAt, zh, zm, loadD_cptr, loadD_ptr, partD, List.take, List.drop, hS.len, fiRows_len, h0, hw, hx, hia] <;> exact rfl) ?_
    refine ow_op (by simp only [exOp, opd, zv, hS.len, fiRows_len, h0, hw, hx, hia]; exact hcall rfl _ (List.getElem_mem hlt)) ?_
    refine ow_nil ?_
    refine sk_n (by simp only [exports, zn, zg] <;> exact rfl) ?_
    refine cw_cond (by simp only [opd, zv, hS.len, fiRows_len, h0, hw, hx, hia] <;> exact rfl) (fun hcAT => ?_) (fun hcAT => ?_)
    · skip -- ATT
      refine cw_seq ?_
      refine cw_region ?_
      refine ow_op (by simp only [opd, zv, exOp, aop, LOp.loud, pop, zp, hS.len, fiRows_len, h0, hw, hx, hia] <;> exact rfl) ?_
      refine ow_op (by simp only [opd, zv, exOp, aop, LOp.loud, pop, zp, hS.len, fiRows_len, h0, hw, hx, hia] <;> exact rfl) ?_
      refine ow_nil ?_
      refine sk_n (by simp only [exports, zn, zg] <;> exact rfl) ?_
      refine cw_ret ?_
      refine bk_r ?_
      refine sk_r ?_
      refine lk_r ?_
      refine bk_r ?_
      refine sk_r ?_
      refine ⟨_, by simp only [F33, resultD, resDs, resD, List.getD_cons_zero, List.getD_cons_succ, loadD_cptr, loadD_ptr, rowsOf, partD, List.getElem?_cons_zero, List.getElem?_cons_succ, if_true, if_false, Bool.false_eq_true, List.take, List.drop, zm] <;> exact rfl, ?_⟩
      rw [idxI_at hlt hcAT hany]
      simp [leave, LP, snapR, snapV, snap, D.freeR, D.freeV, D.free]
    · skip -- ATF
      refine cw_skip ?_
      refine bk_n ?_
      refine sk_n rfl ?_
      refine cw_region ?_
      refine ow_op (by simp only [opd, zv, exOp, aop, LOp.loud, pop, zp, binD, eq_self, ne_eq, not_false_eq_true, true_and, Int.reduceEq, ite_true, ite_false, not_true_eq_false, Int.reduceToNat, Int.reduceLT, hS.len, fiRows_len, h0, hw, hx, hia] <;> exact rfl) ?_
      refine ow_op (by simp only [opd, zv, exOp, aop, LOp.loud, pop, zp, hS.len, fiRows_len, h0, hw, hx, hia] <;> exact rfl) ?_
      refine ow_nil ?_
      refine lk_n (by simp only [exports, zn, zg] <;> exact rfl) ?_
      exact ⟨l.length - (i + 1), by omega, i + 1, _, _, _, by omega, rfl, any_take_succ hlt hany hcAT, rfl, rfl⟩
  · skip -- AF
    have hge : l.length ≤ i := by have := of_decide_eq_false hcA; omega
    refine cw_exit ?_
    refine sk_e ?_
    refine lk_e ?_
    refine bk_e ?_
    refine sk_n rfl ?_
    refine cw_seq ?_
    refine cw_region ?_
    refine ow_op (by simp only [opd, zv, exOp, aop, LOp.loud, pop, zp, hS.len, fiRows_len, h0] <;> exact rfl) ?_
    refine ow_nil ?_
    refine sk_n (by simp only [exports, zn, zg] <;> exact rfl) ?_
    refine cw_ret ?_
    refine ⟨_, by simp only [F33, resultD, resDs, resD, List.getD_cons_zero, List.getD_cons_succ, loadD_cptr, loadD_ptr, rowsOf, partD, List.getElem?_cons_zero, List.getElem?_cons_succ, if_true, if_false, Bool.false_eq_true, List.take, List.drop, zm] <;> exact rfl, ?_⟩
    rw [List.take_of_length_le hge] at hany
    rw [idxI_none hany]
    simp [leave, LP, snapR, snapV, snap, D.freeR, D.freeV, D.free]

theorem containsFile_run {d : Nat} (hd : 2 ≤ d) (S : St) {x : D} {l : List Fi} (hS : SlD 12 (fiRows l) x) (hl : l.length ≤ 1000000) (f : FuncId) (caps : List D) (hne : caps.isEmpty = false) (p : Fi → Bool)
    (hcall : ∀ {d'}, d = d' + 2 → ∀ r ∈ l, runF LP NN d' f (.agg [.str r.nm, .str ⟨#[]⟩, .int .u8 0, .int .u8 0, .nils, .nils, r.st, .bool false, .nils, .nils, .int .i64 0, .int .i64 0] :: caps) ⟨S.heap, S.heap.length⟩ = some (.bool (p r), ⟨S.heap, S.heap.length⟩, false)) :
    runF LP NN d 29 [x, .fn f caps] S = some (.bool (l.any p), S, false) := by
  refine run_at (F := F29) rfl (by simp only [LP, fnOf, snapVs, snaps, zs, Bool.false_eq_true, if_false, Option.map_some, List.map_cons, List.map_nil, hS.snapV, hS.freeV, hne, Bool.and_false] <;> exact rfl) rfl (by simp only [LP, zf, List.all_cons, List.all_nil, Bool.and_true, Bool.true_and, hS.snapV, hS.freeV, hne, Bool.and_false]; try rfl) (by simp only [F29, zv] <;> exact rfl) (by omega) ?_
  rintro d rfl
  refine cw_seq ?_
  refine cw_region ?_
  refine ow_op (by simp only [opd, zv, exOp, aop, LOp.loud, pop, zp] <;> exact rfl) ?_
  refine ow_nil ?_
  refine sk_n (by simp only [exports, zn, zg] <;> exact rfl) ?_
  refine cw_seq ?_
  refine cw_region ?_
  refine ow_op (by simp only [opd, zv, exOp, aop, LOp.loud, pop, zp] <;> exact rfl) ?_
  refine ow_op (by simp only [opd, zv, exOp, aop, LOp.loud, pop, zp] <;> exact rfl) ?_
  refine ow_op (by simp only [exOp, opd, zv]; exact indexFile_run (by omega) _ hS hl f caps hne p (fun he r hr => by cases he; exact hcall rfl r hr)) ?_
  refine ow_op (by simp only [opd, zv, exOp, aop, LOp.loud, pop, zp, binD, eq_self, ne_eq, not_false_eq_true, true_and, Int.reduceEq, ite_true, ite_false, not_true_eq_false, Int.reduceToNat, Int.reduceLT] <;> exact rfl) ?_
  refine ow_op (by simp only [opd, zv, exOp, aop, LOp.loud, pop, zp] <;> exact rfl) ?_
  refine ow_nil ?_
  refine sk_n (by simp only [exports, zn, zg] <;> exact rfl) ?_
  refine cw_ret ?_
  refine ⟨_, by simp only [F29, resultD, resDs, resD, List.getD_cons_zero, List.getD_cons_succ, loadD_cptr, loadD_ptr, rowsOf, partD, List.getElem?_cons_zero, List.getElem?_cons_succ, if_true, if_false, Bool.false_eq_true, List.take, List.drop, zm] <;> exact rfl, ?_⟩
  rw [idxI_nonneg]
  simp [leave, LP, snapR, snapV, snap, D.freeR, D.freeV, D.free]

end Go.Proofs.Ytnihohodcogpeaa

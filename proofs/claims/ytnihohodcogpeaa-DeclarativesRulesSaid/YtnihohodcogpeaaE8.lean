/- Proved here: what the functions of package declaratives and of the law compute, in the abstract machine; no condition. -/
import Derived.Test.YtnihohodcogpeaaE7
import Derived.Test.YtnihohodcogpeaaLoZ
namespace Go.Proofs.Ytnihohodcogpeaa
set_option linter.unusedSimpArgs false
set_option linter.unusedVariables false
set_option maxRecDepth 10000

def tokAt (line : Nat) (k : Nat) (s : ByteArray) : Tok := ⟨1, s, line, ((k + 1 : Nat) : Int), false⟩
/-- the tokens of words in a line -/
def toksF (line : Nat) (l : List ByteArray) : List Tok := l.mapIdx (tokAt line)
theorem toksF_len (line : Nat) (l : List ByteArray) : (toksF line l).length = l.length := by simp [toksF]
theorem toks_add (line : Nat) (l : List ByteArray) (k : Nat) (h : k < l.length) : tokRows ((toksF line l).take (k + 1)) = tokRows ((toksF line l).take k) ++ [(tokAt line k l[k]).row] := by
  have h' : k < (toksF line l).length := by rw [toksF_len]; exact h
  rw [List.take_add_one, List.getElem?_eq_getElem h', tokRows, tokRows, List.map_append]
  simp [toksF]
def useRow (i : Nat) (u : Uu) : List D := [.str (secF i), appY 5 (tokRows (toksF (i + 1) (textF u))), .nils]
def useRows (l : List Uu) : List (List D) := l.mapIdx useRow
theorem use_add (l : List Uu) (i : Nat) (h : i < l.length) : (useRows l).take (i + 1) = (useRows l).take i ++ [useRow i l[i]] := by
  rw [List.take_add_one]
  simp [useRows, h]
theorem useRows_len (l : List Uu) : (useRows l).length = l.length := by simp [useRows]
theorem text_few (u : Uu) : (textF u).length ≤ 9 := by
  have := names_few u.f
  unfold textF
  repeat' split
  all_goals (simp; try omega)
theorem strRows_get {l : List ByteArray} {k : Nat} (h : k < l.length) : (strRows l)[k]? = some [.str l[k]] := strRows_at h

def theFiles : List Fi := [⟨⟨#[70, 48]⟩, .sl 1 [[.str ⟨#[83]⟩]] (some 1), ⟨_, .of _ _ _⟩⟩, ⟨⟨#[70, 49]⟩, .nils, ⟨_, .nil 1⟩⟩, ⟨⟨#[70, 50]⟩, .sl 1 [[.str ⟨#[83]⟩]] (some 1), ⟨_, .of _ _ _⟩⟩, ⟨⟨#[70, 51]⟩, .nils, ⟨_, .nil 1⟩⟩]
def filesObj : AObj := ⟨57, 12, fiRows theFiles, 3, 1, true⟩

theorem program_run {d : Nat} (hd : 4 ≤ d) (S : St) {x : D} {l : List Uu} (hS : SlD 3 (uRows l) x) (hl : l.length ≤ 6) :
    runF LP NN d 7 [x] S = some (progD (.sl 12 (fiRows theFiles) none) (appY 3 (useRows l)), S, false) := by
  refine run_pure (F := F7) rfl (by simp only [LP, fnOf, snapVs, snaps, zs, Bool.false_eq_true, if_false, Option.map_some, List.map_cons, List.map_nil, hS.snapV, hS.freeV] <;> exact rfl) rfl (by simp only [LP, zf, List.all_cons, List.all_nil, Bool.and_true, Bool.true_and, hS.snapV, hS.freeV]; try rfl) (by simp only [F7, zv] <;> exact rfl) (by omega) ?_
  rintro d rfl
  refine cw_seq ?_
  refine cw_region ?_
  refine ow_op (by simp only [opd, zv, exOp, aop, LOp.loud, lop, rowsOf, newAt, setAt, zh, zm, hS.len, uRows_len, strRows_len, Nat.zero_min] <;> exact rfl) ?_
  refine ow_nil ?_
  refine sk_n (by simp only [exports, zn, zg] <;> exact rfl) ?_
  refine cw_seq ?_
  refine cw_region ?_
  refine ow_op (by simp only [opd, zv, exOp, aop, LOp.loud, lop, rowsOf, newAt, setAt, zh, zm, hS.len, uRows_len, strRows_len, Nat.zero_min] <;> exact rfl) ?_
  refine ow_nil ?_
  refine sk_n (by simp only [exports, zn, zg] <;> exact rfl) ?_
  refine cw_seq ?_
  refine cw_seq ?_
  refine cw_region ?_
  refine ow_op (by simp only [opd, zv, exOp, aop, LOp.loud, pop, zp, hS.len, uRows_len, strRows_len, Nat.zero_min] <;> exact rfl) ?_
  refine ow_nil ?_
  refine sk_n (by simp only [exports, zn, zg] <;> exact rfl) ?_
  refine cw_eval (e := .normal) (env' := [x, .ptr 0 0 0 0, .ptr 1 0 0 0, .int .i64 4, .ptr 6 0 0 0, .undef, .undef, .undef, .undef, .bool false, .bool false, .undef, .undef]) (S' := ⟨[⟨39, 9, [[.str ⟨#[]⟩, .nils, .nils, .nils, .nils, .nils, .nils, .nils, .nils]], 0, 0, false⟩, ⟨39, 9, [[.str ⟨#[]⟩, .msl 3 3 0 4 none, .nils, .nils, .nils, .nils, .nils, .nils, .nils]], 0, 0, false⟩, ⟨57, 12, [[.str ⟨#[70, 48]⟩, .str ⟨#[]⟩, .int .u8 0, .int .u8 0, .nils, .nils, .sl 1 [[.str ⟨#[83]⟩]] (some 1), .bool false, .nils, .nils, .int .i64 0, .int .i64 0]], 0, 0, false⟩, filesObj, ⟨57, 12, [[.str ⟨#[70, 49]⟩, .str ⟨#[]⟩, .int .u8 0, .int .u8 0, .nils, .nils, .nils, .bool false, .nils, .nils, .int .i64 0, .int .i64 0]], 0, 0, false⟩, ⟨57, 12, [[.str ⟨#[70, 50]⟩, .str ⟨#[]⟩, .int .u8 0, .int .u8 0, .nils, .nils, .sl 1 [[.str ⟨#[83]⟩]] (some 1), .bool false, .nils, .nils, .int .i64 0, .int .i64 0]], 0, 0, false⟩, ⟨57, 12, [[.str ⟨#[70, 51]⟩, .str ⟨#[]⟩, .int .u8 0, .int .u8 0, .nils, .nils, .nils, .bool false, .nils, .nils, .int .i64 0, .int .i64 0]], 0, 0, false⟩], 0⟩) (by kernel_rfl) ?_
  refine sk_n rfl ?_
  refine cw_seq ?_
  refine cw_seq ?_
  refine cw_region ?_
  refine ow_op (by simp only [opd, zv, exOp, aop, LOp.loud, pop, zp, hS.len, uRows_len, strRows_len, Nat.zero_min] <;> exact rfl) ?_
  refine ow_nil ?_
  refine sk_n (by simp only [exports, zn, zg] <;> exact rfl) ?_
  refine cw_block ?_
  refine cw_loop (fun n env S' => ∃ (H : List AObj) (i : Nat) (ux u4 u6 u7 u8 u9 u10 u11 u12 : D), H[0]? = some ⟨39, 9, [[.str ⟨#[]⟩, .nils, .nils, .nils, .nils, .nils, .nils, .nils, .nils]], 0, 0, false⟩ ∧ H[1]? = some ⟨39, 9, [[.str ⟨#[]⟩, .msl 3 3 0 4 none, .nils, .nils, .nils, .nils, .nils, ux, .nils]], 0, 0, false⟩ ∧ H[3]? = some filesObj ∧ AppAt 60 3 ((useRows l).take i) H ux ∧ i ≤ l.length ∧ n = l.length - i ∧ S' = ⟨H, 0⟩ ∧ env = [x, .ptr 0 0 0 0, .ptr 1 0 0 0, .int .i64 4, u4, .int .i64 i, u6, u7, u8, u9, u10, u11, u12]) (l.length) (by omega) (⟨_, 0, _, _, _, _, _, _, _, _, _, rfl, rfl, rfl, AppAt.nil _ _ _, by omega, by omega, rfl, rfl⟩) ?_
  rintro n env S' ⟨H, i, ux, u4, u6, u7, u8, u9, u10, u11, u12, h0, h1, h3, hA, hi, rfl, rfl, rfl⟩
  refine cw_seq ?_
  refine cw_seq ?_
  refine cw_region ?_
  refine ow_op (by simp only [opd, zv, exOp, aop, LOp.loud, pop, zp, hS.len, uRows_len, strRows_len, Nat.zero_min] <;> exact rfl) ?_
  refine ow_op (by simp only [opd, zv, exOp, aop, LOp.loud, pop, zp, hS.len, uRows_len, strRows_len, Nat.zero_min] <;> exact rfl) ?_
  refine ow_op (by simp only [opd, zv, exOp, aop, LOp.loud, pop, zp, lenD_str, lenD_nils, lenD_sl, lenD_msl, hS.len, uRows_len, strRows_len, Nat.zero_min] <;> exact rfl) ?_
  refine ow_op (by simp only [opd, zv, exOp, aop, LOp.loud, pop, zp, binD, eq_self, ne_eq, not_false_eq_true, true_and, Int.reduceEq, ite_true, ite_false, not_true_eq_false, Int.reduceToNat, Int.reduceLT, hS.len, uRows_len, strRows_len, Nat.zero_min] <;> exact rfl) ?_
  refine ow_nil ?_
  refine sk_n (by simp only [exports, zn, zg] <;> exact rfl) ?_
  refine cw_cond (by simp only [opd, zv, hS.len, uRows_len, strRows_len, Nat.zero_min] <;> exact rfl) (fun hcA => ?_) (fun hcA => ?_)
  · skip -- AT
    have hlt : i < l.length := by have := of_decide_eq_true hcA; omega
    have hw := wrap_nat i (by omega)
    have hia := fun (S : St) => hS.iaddrN S .i64 (uRows_at hlt)
    have hgu : 3 < H.length := (List.getElem?_eq_some_iff.1 h3).1
    refine cw_skip ?_
    refine sk_n rfl ?_
    refine cw_seq ?_
    refine cw_block ?_
    refine cw_seq ?_
    refine cw_region ?_
    refine ow_op (by simp only [opd, zv, exOp, aop, LOp.loud, pop, zp, hS.len, uRows_len, strRows_len, Nat.zero_min, hw, hia] <;> exact rfl) ?_
    refine ow_op (by simp only [exOp, opd, zv, hS.len, uRows_len, strRows_len, Nat.zero_min, hw, hia]; exact section_run (by omega) _ i (by omega)) ?_
    refine ow_op (by simp only [opd, zv, exOp, aop, LOp.loud, pop, zp, fillD, overlay, zc, List.take, List.drop, Nat.reduceAdd, Nat.reduceLeDiff, Nat.reduceBEq, zm, hS.len, uRows_len, strRows_len, Nat.zero_min, hw, hia] <;> exact rfl) ?_
    refine ow_op (by simp only [opd, zv, exOp, aop, LOp.loud, lop, rowsOf, newAt, setAt, zh, zm, hS.len, uRows_len, strRows_len, Nat.zero_min, hw, hia] <;> exact rfl) ?_
    refine ow_op (by simp only [opd, zv, exOp, aop, LOp.loud, lop, rowsOf, newAt, setAt, zh, zm, storeD, overlay, snapVs, snaps, zs, zc, zf, List.take, List.drop, hS.len, uRows_len, strRows_len, Nat.zero_min, hw, hia] <;> exact rfl) ?_
    refine ow_nil ?_
    refine sk_n (by simp only [exports, zn, zg] <;> exact rfl) ?_
    refine cw_seq ?_
    refine cw_region ?_
    refine ow_op (by simp only [opd, zv, exOp, aop, LOp.loud, pop, zp, hS.len, uRows_len, strRows_len, Nat.zero_min, hw, hia] <;> exact rfl) ?_
    refine ow_op (by simp only [opd, zv, exOp, aop, LOp.loud, pop, zp, hS.len, uRows_len, strRows_len, Nat.zero_min, hw, hia] <;> exact rfl) ?_
    refine ow_op (by simp only [opd, zv, exOp, aop, LOp.loud, lop, rowsOf, newAt, setAt, zh, zm, iaddrD_sl, iaddrD_msl, Int.toNat_natCast, Int.toNat_zero, List.getElem?_map, Option.map_some, Int.le_refl, hS.len, uRows_len, strRows_len, Nat.zero_min, hw, hia] <;> exact rfl) ?_
    refine ow_op (by simp only [opd, zv, exOp, aop, LOp.loud, lop, rowsOf, newAt, setAt, zh, zm, loadD_cptr, loadD_ptr, partD, List.take, List.drop, hS.len, uRows_len, strRows_len, Nat.zero_min, hw, hia] <;> exact rfl) ?_
    refine ow_op (by simp only [exOp, opd, zv, hS.len, uRows_len, strRows_len, Nat.zero_min, hw, hia]; exact text_run (by omega) _ l[i]) ?_
    refine ow_op (by simp only [opd, zv, exOp, aop, LOp.loud, pop, zp, hS.len, uRows_len, strRows_len, Nat.zero_min, hw, hia] <;> exact rfl) ?_
    refine ow_nil ?_
    refine sk_n (by simp only [exports, zn, zg] <;> exact rfl) ?_
    refine cw_seq ?_
    refine cw_seq ?_
    refine cw_region ?_
    refine ow_op (by simp only [opd, zv, exOp, aop, LOp.loud, pop, zp, hS.len, uRows_len, strRows_len, Nat.zero_min, hw, hia] <;> exact rfl) ?_
    refine ow_nil ?_
    refine sk_n (by simp only [exports, zn, zg] <;> exact rfl) ?_
    refine cw_block ?_
    refine cw_loop (fun n env S' => ∃ (H' : List AObj) (k : Nat) (tx v9 v10 v11 v12 : D), H'[0]? = some ⟨39, 9, [[.str ⟨#[]⟩, .nils, .nils, .nils, .nils, .nils, .nils, .nils, .nils]], 0, 0, false⟩ ∧ H'[1]? = some ⟨39, 9, [[.str ⟨#[]⟩, .msl 3 3 0 4 none, .nils, .nils, .nils, .nils, .nils, ux, .nils]], 0, 0, false⟩ ∧ H'[3]? = some filesObj ∧ H'[H.length]? = some ⟨60, 3, [[.str (secF i), tx, .nils]], 0, 0, false⟩ ∧ AppAt 63 5 (tokRows ((toksF (i + 1) (textF l[i])).take k)) H' tx ∧ AppAt 60 3 ((useRows l).take i) H' ux ∧ k ≤ (textF l[i]).length ∧ n = (textF l[i]).length - k ∧ S' = ⟨H', 0⟩ ∧ env = [x, .ptr 0 0 0 0, .ptr 1 0 0 0, .int .i64 4, u4, .int .i64 i, .ptr H.length 0 0 0, .sl 1 (strRows (textF l[i])) none, .int .i64 k, v9, v10, v11, v12]) ((textF l[i]).length) (by have := text_few l[i]; omega) (⟨_, 0, _, _, _, _, _, get_app h0 _, get_app h1 _, get_app h3 _, by simp, AppAt.nil _ _ _, hA.push _, by omega, by omega, rfl, rfl⟩) ?_
    rintro n env S' ⟨H', k, tx, v9, v10, v11, v12, g0, g1, g3, gu, gA, gB, hk, rfl, rfl, rfl⟩
    refine cw_seq ?_
    refine cw_seq ?_
    refine cw_region ?_
    refine ow_op (by simp only [opd, zv, exOp, aop, LOp.loud, pop, zp, hS.len, uRows_len, strRows_len, Nat.zero_min, hw, hia] <;> exact rfl) ?_
    refine ow_op (by simp only [opd, zv, exOp, aop, LOp.loud, pop, zp, hS.len, uRows_len, strRows_len, Nat.zero_min, hw, hia] <;> exact rfl) ?_
    refine ow_op (by simp only [opd, zv, exOp, aop, LOp.loud, pop, zp, lenD_str, lenD_nils, lenD_sl, lenD_msl, hS.len, uRows_len, strRows_len, Nat.zero_min, hw, hia] <;> exact rfl) ?_
    refine ow_op (by simp only [opd, zv, exOp, aop, LOp.loud, pop, zp, binD, eq_self, ne_eq, not_false_eq_true, true_and, Int.reduceEq, ite_true, ite_false, not_true_eq_false, Int.reduceToNat, Int.reduceLT, hS.len, uRows_len, strRows_len, Nat.zero_min, hw, hia] <;> exact rfl) ?_
    refine ow_nil ?_
    refine sk_n (by simp only [exports, zn, zg] <;> exact rfl) ?_
    refine cw_cond (by simp only [opd, zv, hS.len, uRows_len, strRows_len, Nat.zero_min, hw, hia] <;> exact rfl) (fun hcATB => ?_) (fun hcATB => ?_)
    · skip -- ATBT
      have hkt : k < (textF l[i]).length := by have := of_decide_eq_true hcATB; omega
      have hfew := text_few l[i]
      have hwk := wrap_nat k (by omega)
      have hix := strRows_get hkt
      obtain ⟨tx', H2, gap, gA', glen', gkeep⟩ := gA.app 48 (new := [(tokAt (i + 1) k (textF l[i])[k]).row]) (c := some 1) rfl (by rw [tokRows_len, List.length_take]; simp; omega)
      simp only [tokAt, Tok.row] at gap
      have q0 := gkeep 0 _ g0 (.inl rfl)
      have q1 := gkeep 1 _ g1 (.inl rfl)
      have q3 := gkeep 3 _ g3 (.inr (by decide))
      have qu := gkeep _ _ gu (.inl rfl)
      have hpl := gA'.plainV (by simp)
      refine cw_skip ?_
      refine sk_n rfl ?_
      refine cw_seq ?_
      refine cw_block ?_
      refine cw_drawn (by simp only [newsVals, List.length_nil, List.length_cons, List.range_succ, List.range_zero, List.nil_append, List.map_nil, List.reverse_nil, List.cons_append, List.map_cons, List.reverse_cons, Nat.zero_add, Nat.add_zero, Nat.reduceAdd] <;> exact rfl) (by simp only [List.map_nil, List.map_cons, newsObj, St.eta, List.append_nil, List.cons_append, List.nil_append, List.length_cons, List.length_nil] <;> exact rfl) ?_
      refine dw_quiet (by simp only [opd, zv, exOp, aop, LOp.loud, pop, zp, faddrD_ptr, faddrD_cptr, zm, hS.len, uRows_len, strRows_len, Nat.zero_min, hw, hia, hwk, hix, gu, qu, hpl, Int.natCast_nonneg, gA.isCell, gA'.isCell, gA'.val, gA'.cells, Bool.false_eq_true] <;> exact rfl) rfl rfl ?_
      refine dw_op (by simp only [opd, zv, exOp, aop, LOp.loud, lop, rowsOf, newAt, setAt, zh, zm, loadD_cptr, loadD_ptr, partD, List.take, List.drop, hS.len, uRows_len, strRows_len, Nat.zero_min, hw, hia, hwk, hix, gu, qu, hpl, Int.natCast_nonneg, gA.isCell, gA'.isCell, gA'.val, gA'.cells, Bool.false_eq_true] <;> exact rfl) (by simp only [fpHere, opd, List.map_cons, List.map_nil, List.getD_cons_zero, List.getD_cons_succ, zq, hpl, Bool.false_eq_true, if_false] <;> exact rfl) rfl ?_
      refine dw_quiet (by simp only [opd, zv, exOp, aop, LOp.loud, pop, zp, hS.len, uRows_len, strRows_len, Nat.zero_min, hw, hia, hwk, hix, gu, qu, hpl, Int.natCast_nonneg, gA.isCell, gA'.isCell, gA'.val, gA'.cells, Bool.false_eq_true] <;> exact rfl) rfl rfl ?_
      refine dw_quiet (by simp only [opd, zv, exOp, aop, LOp.loud, pop, zp, hS.len, uRows_len, strRows_len, Nat.zero_min, hw, hia, hwk, hix, gu, qu, hpl, Int.natCast_nonneg, gA.isCell, gA'.isCell, gA'.val, gA'.cells, Bool.false_eq_true] <;> exact rfl) rfl rfl ?_
      refine dw_op (by simp only [opd, zv, exOp, aop, LOp.loud, lop, rowsOf, newAt, setAt, zh, zm, iaddrD_sl, iaddrD_msl, Int.toNat_natCast, Int.toNat_zero, List.getElem?_map, Option.map_some, Int.le_refl, hS.len, uRows_len, strRows_len, Nat.zero_min, hw, hia, hwk, hix, gu, qu, hpl, Int.natCast_nonneg, gA.isCell, gA'.isCell, gA'.val, gA'.cells, Bool.false_eq_true] <;> exact rfl) (by simp only [fpHere, opd, List.map_cons, List.map_nil, List.getD_cons_zero, List.getD_cons_succ, zq, hpl, Bool.false_eq_true, if_false] <;> exact rfl) rfl ?_
      refine dw_op (by simp only [opd, zv, exOp, aop, LOp.loud, lop, rowsOf, newAt, setAt, zh, zm, loadD_cptr, loadD_ptr, partD, List.take, List.drop, hS.len, uRows_len, strRows_len, Nat.zero_min, hw, hia, hwk, hix, gu, qu, hpl, Int.natCast_nonneg, gA.isCell, gA'.isCell, gA'.val, gA'.cells, Bool.false_eq_true] <;> exact rfl) (by simp only [fpHere, opd, List.map_cons, List.map_nil, List.getD_cons_zero, List.getD_cons_succ, zq, hpl, Bool.false_eq_true, if_false] <;> exact rfl) rfl ?_
      refine dw_quiet (by simp only [opd, zv, exOp, aop, LOp.loud, pop, zp, hS.len, uRows_len, strRows_len, Nat.zero_min, hw, hia, hwk, hix, gu, qu, hpl, Int.natCast_nonneg, gA.isCell, gA'.isCell, gA'.val, gA'.cells, Bool.false_eq_true] <;> exact rfl) rfl rfl ?_
      refine dw_quiet (by simp only [opd, zv, exOp, aop, LOp.loud, pop, zp, binD, eq_self, ne_eq, not_false_eq_true, true_and, Int.reduceEq, ite_true, ite_false, not_true_eq_false, Int.reduceToNat, Int.reduceLT, hS.len, uRows_len, strRows_len, Nat.zero_min, hw, hia, hwk, hix, gu, qu, hpl, Int.natCast_nonneg, gA.isCell, gA'.isCell, gA'.val, gA'.cells, Bool.false_eq_true] <;> exact rfl) rfl rfl ?_
      refine dw_quiet (by simp only [opd, zv, exOp, aop, LOp.loud, pop, zp, hS.len, uRows_len, strRows_len, Nat.zero_min, hw, hia, hwk, hix, gu, qu, hpl, Int.natCast_nonneg, gA.isCell, gA'.isCell, gA'.val, gA'.cells, Bool.false_eq_true] <;> exact rfl) rfl rfl ?_
      refine dw_quiet (by simp only [opd, zv, exOp, aop, LOp.loud, pop, zp, binD, eq_self, ne_eq, not_false_eq_true, true_and, Int.reduceEq, ite_true, ite_false, not_true_eq_false, Int.reduceToNat, Int.reduceLT, hS.len, uRows_len, strRows_len, Nat.zero_min, hw, hia, hwk, hix, gu, qu, hpl, Int.natCast_nonneg, gA.isCell, gA'.isCell, gA'.val, gA'.cells, Bool.false_eq_true] <;> exact rfl) rfl rfl ?_
      refine dw_quiet (by simp only [opd, zv, exOp, aop, LOp.loud, pop, zp, fillD, overlay, zc, List.take, List.drop, Nat.reduceAdd, Nat.reduceLeDiff, Nat.reduceBEq, zm, hS.len, uRows_len, strRows_len, Nat.zero_min, hw, hia, hwk, hix, gu, qu, hpl, Int.natCast_nonneg, gA.isCell, gA'.isCell, gA'.val, gA'.cells, Bool.false_eq_true] <;> exact rfl) rfl rfl ?_
      refine dw_quiet (by simp only [opd, zv, exOp, aop, LOp.loud, pop, zp, fillD, overlay, zc, List.take, List.drop, Nat.reduceAdd, Nat.reduceLeDiff, Nat.reduceBEq, zm, hS.len, uRows_len, strRows_len, Nat.zero_min, hw, hia, hwk, hix, gu, qu, hpl, Int.natCast_nonneg, gA.isCell, gA'.isCell, gA'.val, gA'.cells, Bool.false_eq_true] <;> exact rfl) rfl rfl ?_
      refine dw_op (by simp only [opd, zv, exOp, aop, LOp.loud, lop, rowsOf, newAt, setAt, zh, zm, fillRows, List.replicate, snapVs, snaps, zs, zc, zf, hS.len, uRows_len, strRows_len, Nat.zero_min, hw, hia, hwk, hix, gu, qu, hpl, Int.natCast_nonneg, gA.isCell, gA'.isCell, gA'.val, gA'.cells, Bool.false_eq_true] <;> exact rfl) (by simp only [fpHere, opd, List.map_cons, List.map_nil, List.getD_cons_zero, List.getD_cons_succ, zq, hpl, Bool.false_eq_true, if_false] <;> exact rfl) rfl ?_
      refine dw_op (by simp only [opd, zv, exOp, aop, LOp.loud, lop, if_true]; exact gap) (by simp only [fpHere, opd, List.map_cons, List.map_nil, List.getD_cons_zero, List.getD_cons_succ, zq, hpl, Bool.false_eq_true, if_false] <;> exact rfl) rfl ?_
      refine dw_quiet (by simp only [opd, zv, exOp, aop, LOp.loud, pop, zp, faddrD_ptr, faddrD_cptr, zm, hS.len, uRows_len, strRows_len, Nat.zero_min, hw, hia, hwk, hix, gu, qu, hpl, Int.natCast_nonneg, gA.isCell, gA'.isCell, gA'.val, gA'.cells, Bool.false_eq_true] <;> exact rfl) rfl rfl ?_
      refine dw_op (by simp only [opd, zv, exOp, aop, LOp.loud, lop, rowsOf, newAt, setAt, zh, zm, storeD, overlay, snapVs, snaps, zs, zc, zf, List.take, List.drop, hS.len, uRows_len, strRows_len, Nat.zero_min, hw, hia, hwk, hix, gu, qu, hpl, Int.natCast_nonneg, gA.isCell, gA'.isCell, gA'.val, gA'.cells, Bool.false_eq_true] <;> exact rfl) (by simp only [fpHere, opd, List.map_cons, List.map_nil, List.getD_cons_zero, List.getD_cons_succ, zq, hpl, Bool.false_eq_true, if_false] <;> exact rfl) rfl ?_
      refine dw_nil ?_
      refine bk_n ?_
      refine sk_n (by simp only [exports, zn, zg] <;> exact rfl) ?_
      refine cw_region ?_
      refine ow_op (by simp only [opd, zv, exOp, aop, LOp.loud, pop, zp, hS.len, uRows_len, strRows_len, Nat.zero_min, hw, hia, hwk, hix, gu, qu, hpl, Int.natCast_nonneg, gA.isCell, gA'.isCell, gA'.val, gA'.cells, Bool.false_eq_true] <;> exact rfl) ?_
      refine ow_op (by simp only [opd, zv, exOp, aop, LOp.loud, pop, zp, binD, eq_self, ne_eq, not_false_eq_true, true_and, Int.reduceEq, ite_true, ite_false, not_true_eq_false, Int.reduceToNat, Int.reduceLT, hS.len, uRows_len, strRows_len, Nat.zero_min, hw, hia, hwk, hix, gu, qu, hpl, Int.natCast_nonneg, gA.isCell, gA'.isCell, gA'.val, gA'.cells, Bool.false_eq_true] <;> exact rfl) ?_
      refine ow_op (by simp only [opd, zv, exOp, aop, LOp.loud, pop, zp, hS.len, uRows_len, strRows_len, Nat.zero_min, hw, hia, hwk, hix, gu, qu, hpl, Int.natCast_nonneg, gA.isCell, gA'.isCell, gA'.val, gA'.cells, Bool.false_eq_true] <;> exact rfl) ?_
      refine ow_nil ?_
      refine lk_n (by simp only [exports, zn, zg] <;> exact rfl) ?_
      exact ⟨(textF l[i]).length - (k + 1), by omega, _, k + 1, tx', _, _, _, _, get_set_ne q0 (by omega) _, get_set_ne q1 (by omega) _, get_set_ne q3 (by omega) _, get_set_self qu _, by rw [toks_add (i + 1) (textF l[i]) k hkt]; exact gA'.put qu (.inl rfl) _, (gB.keep fun g o ho h1 h2 => gkeep g o ho (.inr (by rw [h2]; decide))).put qu (.inl rfl) _, by omega, rfl, rfl, rfl⟩
    · skip -- ATBF
      obtain rfl : k = (textF l[i]).length := by have := of_decide_eq_false hcATB; omega
      rw [List.take_of_length_le (by rw [toksF_len]; omega)] at gA
      have hY := appY_S 5 (tokRows (toksF (i + 1) (textF l[i])))
      obtain ⟨ux', H2, hap, hA', hlen', hkeep⟩ := gB.app 64 (new := [useRow i l[i]]) (c := some 1) rfl (by rw [List.length_take, useRows_len]; simp; omega)
      simp only [useRow] at hap
      have hk0 := hkeep 0 _ g0 (.inl rfl)
      have hk1 := hkeep 1 _ g1 (.inl rfl)
      have hk3 := hkeep 3 _ g3 (.inr (by decide))
      refine cw_exit ?_
      refine sk_e ?_
      refine lk_e ?_
      refine bk_e ?_
      refine sk_n rfl ?_
      refine cw_region ?_
      refine ow_op (by simp only [opd, zv, exOp, aop, LOp.loud, pop, zp, faddrD_ptr, faddrD_cptr, zm, hS.len, uRows_len, strRows_len, Nat.zero_min, hw, hia, g0, g1, gu, hk1, gA.snap, hY.free, hY.isCell, hY.val, hA'.isCell, hA'.val, hA'.cells, gA.isCell, gB.isCell] <;> exact rfl) ?_
      refine ow_op (by simp only [opd, zv, exOp, aop, LOp.loud, lop, rowsOf, newAt, setAt, zh, zm, loadD_cptr, loadD_ptr, partD, List.take, List.drop, hS.len, uRows_len, strRows_len, Nat.zero_min, hw, hia, g0, g1, gu, hk1, gA.snap, hY.free, hY.isCell, hY.val, hA'.isCell, hA'.val, hA'.cells, gA.isCell, gB.isCell] <;> exact rfl) ?_
      refine ow_op (by simp only [opd, zv, exOp, aop, LOp.loud, lop, rowsOf, newAt, setAt, zh, zm, loadD_cptr, loadD_ptr, partD, List.take, List.drop, hS.len, uRows_len, strRows_len, Nat.zero_min, hw, hia, g0, g1, gu, hk1, gA.snap, hY.free, hY.isCell, hY.val, hA'.isCell, hA'.val, hA'.cells, gA.isCell, gB.isCell] <;> exact rfl) ?_
      refine ow_op (by simp only [opd, zv, exOp, aop, LOp.loud, lop, rowsOf, newAt, setAt, zh, zm, fillRows, List.replicate, snapVs, snaps, zs, zc, zf, hS.len, uRows_len, strRows_len, Nat.zero_min, hw, hia, g0, g1, gu, hk1, gA.snap, hY.free, hY.isCell, hY.val, hA'.isCell, hA'.val, hA'.cells, gA.isCell, gB.isCell] <;> exact rfl) ?_
      refine ow_op (by simp only [opd, zv, exOp, aop, LOp.loud, lop, if_true]; exact hap) ?_
      refine ow_op (by simp only [opd, zv, exOp, aop, LOp.loud, pop, zp, faddrD_ptr, faddrD_cptr, zm, hS.len, uRows_len, strRows_len, Nat.zero_min, hw, hia, g0, g1, gu, hk1, gA.snap, hY.free, hY.isCell, hY.val, hA'.isCell, hA'.val, hA'.cells, gA.isCell, gB.isCell] <;> exact rfl) ?_
      refine ow_op (by simp only [opd, zv, exOp, aop, LOp.loud, lop, rowsOf, newAt, setAt, zh, zm, storeD, overlay, snapVs, snaps, zs, zc, zf, List.take, List.drop, hS.len, uRows_len, strRows_len, Nat.zero_min, hw, hia, g0, g1, gu, hk1, gA.snap, hY.free, hY.isCell, hY.val, hA'.isCell, hA'.val, hA'.cells, gA.isCell, gB.isCell] <;> exact rfl) ?_
      refine ow_nil ?_
      refine bk_n ?_
      refine sk_n (by simp only [exports, zn, zg] <;> exact rfl) ?_
      refine cw_region ?_
      refine ow_op (by simp only [opd, zv, exOp, aop, LOp.loud, pop, zp, hS.len, uRows_len, strRows_len, Nat.zero_min, hw, hia, g0, g1, gu, hk1, gA.snap, hY.free, hY.isCell, hY.val, hA'.isCell, hA'.val, hA'.cells, gA.isCell, gB.isCell] <;> exact rfl) ?_
      refine ow_op (by simp only [opd, zv, exOp, aop, LOp.loud, pop, zp, binD, eq_self, ne_eq, not_false_eq_true, true_and, Int.reduceEq, ite_true, ite_false, not_true_eq_false, Int.reduceToNat, Int.reduceLT, hS.len, uRows_len, strRows_len, Nat.zero_min, hw, hia, g0, g1, gu, hk1, gA.snap, hY.free, hY.isCell, hY.val, hA'.isCell, hA'.val, hA'.cells, gA.isCell, gB.isCell] <;> exact rfl) ?_
      refine ow_op (by simp only [opd, zv, exOp, aop, LOp.loud, pop, zp, hS.len, uRows_len, strRows_len, Nat.zero_min, hw, hia, g0, g1, gu, hk1, gA.snap, hY.free, hY.isCell, hY.val, hA'.isCell, hA'.val, hA'.cells, gA.isCell, gB.isCell] <;> exact rfl) ?_
      refine ow_nil ?_
      refine lk_n (by simp only [exports, zn, zg] <;> exact rfl) ?_
      exact ⟨l.length - (i + 1), by omega, _, i + 1, ux', _, _, _, _, _, _, _, _, get_set_ne hk0 (by omega) _, get_set_self hk1 _, get_set_ne hk3 (by omega) _, by rw [use_add l i hlt]; exact hA'.put hk1 (.inl rfl) _, by omega, rfl, rfl, rfl⟩
  · skip -- AF
    obtain rfl : i = l.length := by have := of_decide_eq_false hcA; omega
    rw [List.take_of_length_le (by rw [useRows_len]; omega)] at hA
    refine cw_exit ?_
    refine sk_e ?_
    refine lk_e ?_
    refine bk_e ?_
    refine sk_n rfl ?_
    refine cw_seq ?_
    refine cw_region ?_
    refine ow_op (by simp only [opd, zv, exOp, aop, LOp.loud, lop, rowsOf, newAt, setAt, zh, zm, loadD_cptr, loadD_ptr, partD, List.take, List.drop, hS.len, uRows_len, strRows_len, Nat.zero_min, h0, h1, hA.isCell, hA.val, hA.cells] <;> exact rfl) ?_
    refine ow_op (by simp only [opd, zv, exOp, aop, LOp.loud, lop, rowsOf, newAt, setAt, zh, zm, storeD, overlay, snapVs, snaps, zs, zc, zf, List.take, List.drop, hS.len, uRows_len, strRows_len, Nat.zero_min, h0, h1, hA.isCell, hA.val, hA.cells] <;> exact rfl) ?_
    refine ow_nil ?_
    refine sk_n (by simp only [exports, zn, zg] <;> exact rfl) ?_
    refine cw_ret ?_
    refine ⟨_, by simp only [F7, resultD, resDs, resD, List.getD_cons_zero, List.getD_cons_succ, loadD_cptr, loadD_ptr, rowsOf, partD, List.getElem?_cons_zero, List.getElem?_cons_succ, if_true, if_false, Bool.false_eq_true, List.take, List.drop, zm, get_set_self h0] <;> exact rfl, ?_⟩
    have hA2 := hA.put h0 (.inl rfl) (⟨39, 9, [[.str ⟨#[]⟩, .msl 3 3 0 4 none, .nils, .nils, .nils, .nils, .nils, ux, .nils]], 0, 0, false⟩ : AObj)
    have h3' := get_set_ne h3 (show 0 ≠ 3 by decide) (⟨39, 9, [[.str ⟨#[]⟩, .msl 3 3 0 4 none, .nils, .nils, .nils, .nils, .nils, ux, .nils]], 0, 0, false⟩ : AObj)
    have hY := appY_S 3 (useRows l)
    simp only [leaveP, leave, snapVs, snaps, zs, zf, Option.map_some, List.all_cons, List.all_nil, Bool.and_self, Bool.and_true, if_true, if_false, Bool.false_eq_true, List.length_nil, Nat.le_refl, Nat.zero_le, hY.snapV, hY.freeV, hY.snap, hY.free, hY.snapR, hY.freeR, hA2.snap, h3', filesObj, true_and, true_or, Nat.le_refl, and_self, List.drop_zero]
    rfl

end Go.Proofs.Ytnihohodcogpeaa

/- Proved here: what the functions of package declaratives and of the law compute, in the abstract machine; no condition. -/
import Derived.Test.YtnihohodcogpeaaE6
import Derived.Test.YtnihohodcogpeaaE3
import Derived.Test.YtnihohodcogpeaaLoZ
namespace Go.Proofs.Ytnihohodcogpeaa
set_option linter.unusedSimpArgs false
set_option linter.unusedVariables false
set_option maxRecDepth 10000

def modeN (k : Nat) : ByteArray := ([⟨#[]⟩, ⟨#[73, 78, 80, 85, 84]⟩, ⟨#[79, 85, 84, 80, 85, 84]⟩, ⟨#[73, 45, 79]⟩, ⟨#[69, 88, 84, 69, 78, 68]⟩] : List ByteArray).getD k ⟨#[]⟩
/-- the words behind USE -/
def textF (u : Uu) : List ByteArray := [wAFTER] ++ (if u.w % 2 = 1 then [wSTANDARD] else []) ++ [if u.w / 2 % 2 = 1 then wERROR else wEXCEPTION, wPROCEDURE] ++ (if u.w / 4 % 2 = 1 then [wON] else []) ++ (if modeF u.f u.m > 0 then [modeN (modeF u.f u.m)] else namesF u.f)
theorem mode_le (f m : Nat) : modeF f m ≤ 4 := by unfold modeF; split <;> omega
theorem and_tab : (List.range 256).map (fun w => IntKind.u8.wrap (((BitVec.ofInt IntKind.u8.bits ((w : Nat) : Int)) &&& (BitVec.ofInt IntKind.u8.bits 1)).toNat : Int)) = (List.range 256).map fun w => ((w % 2 : Nat) : Int) := by kernel_rfl
theorem u8_and (w : Nat) (h : w < 256) : IntKind.u8.wrap (((BitVec.ofInt IntKind.u8.bits ((w : Nat) : Int)) &&& (BitVec.ofInt IntKind.u8.bits 1)).toNat : Int) = ((w % 2 : Nat) : Int) := tab_at and_tab w h
theorem u8_div (w k : Nat) (h : w < 256) : IntKind.u8.wrap ((w : Int).tdiv (k : Int)) = ((w / k : Nat) : Int) := by
  rw [Int.tdiv_eq_ediv_of_nonneg (by omega), ← Int.natCast_ediv]
  exact wrap_u8 _ (Nat.lt_of_le_of_lt (Nat.div_le_self _ _) h)

theorem text_run {d : Nat} (hd : 3 ≤ d) (S : St) (u : Uu) :
    runF LP NN d 16 [.agg [.int .u8 u.f, .int .u8 u.m, .int .u8 u.w]] S = some (.sl 1 (strRows (textF u)) none, S, false) := by
  have hd2 : IntKind.u8.wrap ((u.w : Int).tdiv 2) = ((u.w / 2 : Nat) : Int) := u8_div u.w 2 u.hw
  have hd4 : IntKind.u8.wrap ((u.w : Int).tdiv 4) = ((u.w / 4 : Nat) : Int) := u8_div u.w 4 u.hw
  have hm2 : ((u.w / 2 : Nat) : Int).tmod 2 = ((u.w / 2 % 2 : Nat) : Int) := tmod_nat _ 2
  have hm4 : ((u.w / 4 : Nat) : Int).tmod 2 = ((u.w / 4 % 2 : Nat) : Int) := tmod_nat _ 2
  have hix : ([[D.str ⟨#[69, 88, 67, 69, 80, 84, 73, 79, 78]⟩], [D.str ⟨#[69, 82, 82, 79, 82]⟩]] : List (List D))[u.w / 2 % 2]? = some [.str (if u.w / 2 % 2 = 1 then wERROR else wEXCEPTION)] := by
    rcases Nat.mod_two_eq_zero_or_one (u.w / 2) with h | h <;> rw [h] <;> rfl
  have hmx : ([[D.str ⟨#[]⟩], [D.str ⟨#[73, 78, 80, 85, 84]⟩], [D.str ⟨#[79, 85, 84, 80, 85, 84]⟩], [D.str ⟨#[73, 45, 79]⟩], [D.str ⟨#[69, 88, 84, 69, 78, 68]⟩]] : List (List D))[modeF u.f u.m]? = some [.str (modeN (modeF u.f u.m))] := by
    have := mode_le u.f u.m
    match modeF u.f u.m, this with
    | 0, _ => rfl
    | 1, _ => rfl
    | 2, _ => rfl
    | 3, _ => rfl
    | 4, _ => rfl
  have hN := strsD_S (namesF u.f)
  have hfew := names_few u.f
  have hb3 : (3 + (namesF u.f).length) * 16 ≤ 140737488355328 := by omega
  have hb4 : (4 + (namesF u.f).length) * 16 ≤ 140737488355328 := by omega
  have hb5 : (5 + (namesF u.f).length) * 16 ≤ 140737488355328 := by omega
  refine run_pure (F := F16) rfl (by simp only [LP, fnOf, snapVs, snaps, zs, Bool.false_eq_true, if_false, Option.map_some, List.map_cons, List.map_nil] <;> exact rfl) rfl (by simp only [LP, zf, List.all_cons, List.all_nil, Bool.and_true, Bool.true_and]; try rfl) (by simp only [F16, zv] <;> exact rfl) (by omega) ?_
  rintro d rfl
  refine cw_seq ?_
  refine cw_region ?_
  refine ow_op (by simp only [opd, zv, exOp, aop, LOp.loud, lop, rowsOf, newAt, setAt, zh, zm, zc, u8_and _ u.hw, hd2, hd4, hm2, hm4, hix, hmx, Int.natCast_nonneg, hN.read, strRows_len, and_self, hb3, hb4, hb5, Nat.reduceAdd] <;> exact rfl) ?_
  refine ow_op (by simp only [opd, zv, exOp, aop, LOp.loud, pop, zp, u8_and _ u.hw, hd2, hd4, hm2, hm4, hix, hmx, Int.natCast_nonneg, hN.read, strRows_len, and_self, hb3, hb4, hb5, Nat.reduceAdd] <;> exact rfl) ?_
  refine ow_nil ?_
  refine sk_n (by simp only [exports, zn, zg] <;> exact rfl) ?_
  refine cw_seq ?_
  refine cw_region ?_
  refine ow_op (by simp only [opd, zv, exOp, aop, LOp.loud, lop, rowsOf, newAt, setAt, zh, zm, fillRows, List.replicate, snapVs, snaps, zs, zc, zf, u8_and _ u.hw, hd2, hd4, hm2, hm4, hix, hmx, Int.natCast_nonneg, hN.read, strRows_len, and_self, hb3, hb4, hb5, Nat.reduceAdd] <;> exact rfl) ?_
  refine ow_op (by simp only [opd, zv, exOp, aop, LOp.loud, pop, zp, u8_and _ u.hw, hd2, hd4, hm2, hm4, hix, hmx, Int.natCast_nonneg, hN.read, strRows_len, and_self, hb3, hb4, hb5, Nat.reduceAdd] <;> exact rfl) ?_
  refine ow_nil ?_
  refine sk_n (by simp only [exports, zn, zg] <;> exact rfl) ?_
  refine cw_seq ?_
  refine cw_seq ?_
  refine cw_region ?_
  refine ow_op (by simp only [opd, zv, exOp, aop, LOp.loud, pop, zp, faddrD_ptr, faddrD_cptr, zm, u8_and _ u.hw, hd2, hd4, hm2, hm4, hix, hmx, Int.natCast_nonneg, hN.read, strRows_len, and_self, hb3, hb4, hb5, Nat.reduceAdd] <;> exact rfl) ?_
  refine ow_op (by simp only [opd, zv, exOp, aop, LOp.loud, lop, rowsOf, newAt, setAt, zh, zm, loadD_cptr, loadD_ptr, partD, List.take, List.drop, u8_and _ u.hw, hd2, hd4, hm2, hm4, hix, hmx, Int.natCast_nonneg, hN.read, strRows_len, and_self, hb3, hb4, hb5, Nat.reduceAdd] <;> exact rfl) ?_
  refine ow_op (by simp only [opd, zv, exOp, aop, LOp.loud, pop, zp, binD, eq_self, ne_eq, not_false_eq_true, true_and, Int.reduceEq, ite_true, ite_false, not_true_eq_false, Int.reduceToNat, Int.reduceLT, u8_and _ u.hw, hd2, hd4, hm2, hm4, hix, hmx, Int.natCast_nonneg, hN.read, strRows_len, and_self, hb3, hb4, hb5, Nat.reduceAdd] <;> exact rfl) ?_
  refine ow_op (by simp only [opd, zv, exOp, aop, LOp.loud, pop, zp, binD, eq_self, ne_eq, not_false_eq_true, true_and, Int.reduceEq, ite_true, ite_false, not_true_eq_false, Int.reduceToNat, Int.reduceLT, u8_and _ u.hw, hd2, hd4, hm2, hm4, hix, hmx, Int.natCast_nonneg, hN.read, strRows_len, and_self, hb3, hb4, hb5, Nat.reduceAdd] <;> exact rfl) ?_
  refine ow_nil ?_
  refine sk_n (by simp only [exports, zn, zg] <;> exact rfl) ?_
  refine cw_cond (by simp only [opd, zv, u8_and _ u.hw, hd2, hd4, hm2, hm4, hix, hmx, Int.natCast_nonneg, hN.read, strRows_len, and_self, hb3, hb4, hb5, Nat.reduceAdd] <;> exact rfl) (fun hc => ?_) (fun hc => ?_)
  · skip -- T
    refine cw_region ?_
    refine ow_op (by simp only [opd, zv, exOp, aop, LOp.loud, pop, zp, u8_and _ u.hw, hd2, hd4, hm2, hm4, hix, hmx, Int.natCast_nonneg, hN.read, strRows_len, and_self, hb3, hb4, hb5, Nat.reduceAdd] <;> exact rfl) ?_
    refine ow_op (by simp only [opd, zv, exOp, aop, LOp.loud, lop, rowsOf, newAt, setAt, zh, zm, fillRows, List.replicate, snapVs, snaps, zs, zc, zf, u8_and _ u.hw, hd2, hd4, hm2, hm4, hix, hmx, Int.natCast_nonneg, hN.read, strRows_len, and_self, hb3, hb4, hb5, Nat.reduceAdd] <;> exact rfl) ?_
    refine ow_op (by simp only [opd, zv, exOp, aop, LOp.loud, lop, rowsOf, newAt, setAt, zh, zm, appendD, readRows_nils, readRows_sl, readRows_msl, List.isEmpty_cons, List.isEmpty_nil, reduceIte, u8_and _ u.hw, hd2, hd4, hm2, hm4, hix, hmx, Int.natCast_nonneg, hN.read, strRows_len, and_self, hb3, hb4, hb5, Nat.reduceAdd] <;> exact rfl) ?_
    refine ow_op (by simp only [opd, zv, exOp, aop, LOp.loud, pop, zp, u8_and _ u.hw, hd2, hd4, hm2, hm4, hix, hmx, Int.natCast_nonneg, hN.read, strRows_len, and_self, hb3, hb4, hb5, Nat.reduceAdd] <;> exact rfl) ?_
    refine ow_nil ?_
    refine sk_n (by simp only [exports, zn, zg] <;> exact rfl) ?_
    refine cw_seq ?_
    refine cw_region ?_
    refine ow_op (by simp only [opd, zv, exOp, aop, LOp.loud, pop, zp, u8_and _ u.hw, hd2, hd4, hm2, hm4, hix, hmx, Int.natCast_nonneg, hN.read, strRows_len, and_self, hb3, hb4, hb5, Nat.reduceAdd] <;> exact rfl) ?_
    refine ow_op (by simp only [opd, zv, exOp, aop, LOp.loud, lop, rowsOf, newAt, setAt, zh, zm, fillRows, List.replicate, snapVs, snaps, zs, zc, zf, u8_and _ u.hw, hd2, hd4, hm2, hm4, hix, hmx, Int.natCast_nonneg, hN.read, strRows_len, and_self, hb3, hb4, hb5, Nat.reduceAdd] <;> exact rfl) ?_
    refine ow_op (by simp only [opd, zv, exOp, aop, LOp.loud, pop, zp, faddrD_ptr, faddrD_cptr, zm, u8_and _ u.hw, hd2, hd4, hm2, hm4, hix, hmx, Int.natCast_nonneg, hN.read, strRows_len, and_self, hb3, hb4, hb5, Nat.reduceAdd] <;> exact rfl) ?_
    refine ow_op (by simp only [opd, zv, exOp, aop, LOp.loud, lop, rowsOf, newAt, setAt, zh, zm, loadD_cptr, loadD_ptr, partD, List.take, List.drop, u8_and _ u.hw, hd2, hd4, hm2, hm4, hix, hmx, Int.natCast_nonneg, hN.read, strRows_len, and_self, hb3, hb4, hb5, Nat.reduceAdd] <;> exact rfl) ?_
    refine ow_op (by simp only [opd, zv, exOp, aop, LOp.loud, pop, zp, binD, eq_self, ne_eq, not_false_eq_true, true_and, Int.reduceEq, ite_true, ite_false, not_true_eq_false, Int.reduceToNat, Int.reduceLT, u8_and _ u.hw, hd2, hd4, hm2, hm4, hix, hmx, Int.natCast_nonneg, hN.read, strRows_len, and_self, hb3, hb4, hb5, Nat.reduceAdd] <;> exact rfl) ?_
    refine ow_op (by simp only [opd, zv, exOp, aop, LOp.loud, pop, zp, binD, eq_self, ne_eq, not_false_eq_true, true_and, Int.reduceEq, ite_true, ite_false, not_true_eq_false, Int.reduceToNat, Int.reduceLT, u8_and _ u.hw, hd2, hd4, hm2, hm4, hix, hmx, Int.natCast_nonneg, hN.read, strRows_len, and_self, hb3, hb4, hb5, Nat.reduceAdd] <;> exact rfl) ?_
    refine ow_op (by simp only [opd, zv, exOp, aop, LOp.loud, lop, rowsOf, newAt, setAt, zh, zm, iaddrD_sl, iaddrD_msl, Int.toNat_natCast, Int.toNat_zero, List.getElem?_map, Option.map_some, Int.le_refl, u8_and _ u.hw, hd2, hd4, hm2, hm4, hix, hmx, Int.natCast_nonneg, hN.read, strRows_len, and_self, hb3, hb4, hb5, Nat.reduceAdd] <;> exact rfl) ?_
    refine ow_op (by simp only [opd, zv, exOp, aop, LOp.loud, lop, rowsOf, newAt, setAt, zh, zm, loadD_cptr, loadD_ptr, partD, List.take, List.drop, u8_and _ u.hw, hd2, hd4, hm2, hm4, hix, hmx, Int.natCast_nonneg, hN.read, strRows_len, and_self, hb3, hb4, hb5, Nat.reduceAdd] <;> exact rfl) ?_
    refine ow_op (by simp only [opd, zv, exOp, aop, LOp.loud, lop, rowsOf, newAt, setAt, zh, zm, fillRows, List.replicate, snapVs, snaps, zs, zc, zf, u8_and _ u.hw, hd2, hd4, hm2, hm4, hix, hmx, Int.natCast_nonneg, hN.read, strRows_len, and_self, hb3, hb4, hb5, Nat.reduceAdd] <;> exact rfl) ?_
    refine ow_op (by simp only [opd, zv, exOp, aop, LOp.loud, lop, rowsOf, newAt, setAt, zh, zm, appendD, readRows_nils, readRows_sl, readRows_msl, List.isEmpty_cons, List.isEmpty_nil, reduceIte, u8_and _ u.hw, hd2, hd4, hm2, hm4, hix, hmx, Int.natCast_nonneg, hN.read, strRows_len, and_self, hb3, hb4, hb5, Nat.reduceAdd] <;> exact rfl) ?_
    refine ow_op (by simp only [opd, zv, exOp, aop, LOp.loud, pop, zp, u8_and _ u.hw, hd2, hd4, hm2, hm4, hix, hmx, Int.natCast_nonneg, hN.read, strRows_len, and_self, hb3, hb4, hb5, Nat.reduceAdd] <;> exact rfl) ?_
    refine ow_nil ?_
    refine sk_n (by simp only [exports, zn, zg] <;> exact rfl) ?_
    refine cw_seq ?_
    refine cw_seq ?_
    refine cw_region ?_
    refine ow_op (by simp only [opd, zv, exOp, aop, LOp.loud, pop, zp, faddrD_ptr, faddrD_cptr, zm, u8_and _ u.hw, hd2, hd4, hm2, hm4, hix, hmx, Int.natCast_nonneg, hN.read, strRows_len, and_self, hb3, hb4, hb5, Nat.reduceAdd] <;> exact rfl) ?_
    refine ow_op (by simp only [opd, zv, exOp, aop, LOp.loud, lop, rowsOf, newAt, setAt, zh, zm, loadD_cptr, loadD_ptr, partD, List.take, List.drop, u8_and _ u.hw, hd2, hd4, hm2, hm4, hix, hmx, Int.natCast_nonneg, hN.read, strRows_len, and_self, hb3, hb4, hb5, Nat.reduceAdd] <;> exact rfl) ?_
    refine ow_op (by simp only [opd, zv, exOp, aop, LOp.loud, pop, zp, binD, eq_self, ne_eq, not_false_eq_true, true_and, Int.reduceEq, ite_true, ite_false, not_true_eq_false, Int.reduceToNat, Int.reduceLT, u8_and _ u.hw, hd2, hd4, hm2, hm4, hix, hmx, Int.natCast_nonneg, hN.read, strRows_len, and_self, hb3, hb4, hb5, Nat.reduceAdd] <;> exact rfl) ?_
    refine ow_op (by simp only [opd, zv, exOp, aop, LOp.loud, pop, zp, binD, eq_self, ne_eq, not_false_eq_true, true_and, Int.reduceEq, ite_true, ite_false, not_true_eq_false, Int.reduceToNat, Int.reduceLT, u8_and _ u.hw, hd2, hd4, hm2, hm4, hix, hmx, Int.natCast_nonneg, hN.read, strRows_len, and_self, hb3, hb4, hb5, Nat.reduceAdd] <;> exact rfl) ?_
    refine ow_op (by simp only [opd, zv, exOp, aop, LOp.loud, pop, zp, binD, eq_self, ne_eq, not_false_eq_true, true_and, Int.reduceEq, ite_true, ite_false, not_true_eq_false, Int.reduceToNat, Int.reduceLT, u8_and _ u.hw, hd2, hd4, hm2, hm4, hix, hmx, Int.natCast_nonneg, hN.read, strRows_len, and_self, hb3, hb4, hb5, Nat.reduceAdd] <;> exact rfl) ?_
    refine ow_nil ?_
    refine sk_n (by simp only [exports, zn, zg] <;> exact rfl) ?_
    refine cw_cond (by simp only [opd, zv, u8_and _ u.hw, hd2, hd4, hm2, hm4, hix, hmx, Int.natCast_nonneg, hN.read, strRows_len, and_self, hb3, hb4, hb5, Nat.reduceAdd] <;> exact rfl) (fun hcT => ?_) (fun hcT => ?_)
    · skip -- TT
      refine cw_region ?_
      refine ow_op (by simp only [opd, zv, exOp, aop, LOp.loud, pop, zp, u8_and _ u.hw, hd2, hd4, hm2, hm4, hix, hmx, Int.natCast_nonneg, hN.read, strRows_len, and_self, hb3, hb4, hb5, Nat.reduceAdd] <;> exact rfl) ?_
      refine ow_op (by simp only [opd, zv, exOp, aop, LOp.loud, lop, rowsOf, newAt, setAt, zh, zm, fillRows, List.replicate, snapVs, snaps, zs, zc, zf, u8_and _ u.hw, hd2, hd4, hm2, hm4, hix, hmx, Int.natCast_nonneg, hN.read, strRows_len, and_self, hb3, hb4, hb5, Nat.reduceAdd] <;> exact rfl) ?_
      refine ow_op (by simp only [opd, zv, exOp, aop, LOp.loud, lop, rowsOf, newAt, setAt, zh, zm, appendD, readRows_nils, readRows_sl, readRows_msl, List.isEmpty_cons, List.isEmpty_nil, reduceIte, u8_and _ u.hw, hd2, hd4, hm2, hm4, hix, hmx, Int.natCast_nonneg, hN.read, strRows_len, and_self, hb3, hb4, hb5, Nat.reduceAdd] <;> exact rfl) ?_
      refine ow_op (by simp only [opd, zv, exOp, aop, LOp.loud, pop, zp, u8_and _ u.hw, hd2, hd4, hm2, hm4, hix, hmx, Int.natCast_nonneg, hN.read, strRows_len, and_self, hb3, hb4, hb5, Nat.reduceAdd] <;> exact rfl) ?_
      refine ow_nil ?_
      refine sk_n (by simp only [exports, zn, zg] <;> exact rfl) ?_
      refine cw_seq ?_
      refine cw_seq ?_
      refine cw_region ?_
      refine ow_op (by simp only [opd, zv, exOp, aop, LOp.loud, lop, rowsOf, newAt, setAt, zh, zm, loadD_cptr, loadD_ptr, partD, List.take, List.drop, u8_and _ u.hw, hd2, hd4, hm2, hm4, hix, hmx, Int.natCast_nonneg, hN.read, strRows_len, and_self, hb3, hb4, hb5, Nat.reduceAdd] <;> exact rfl) ?_
      refine ow_op (by simp only [exOp, opd, zv, u8_and _ u.hw, hd2, hd4, hm2, hm4, hix, hmx, Int.natCast_nonneg, hN.read, strRows_len, and_self, hb3, hb4, hb5, Nat.reduceAdd]; exact mode_run (by omega) _ _ _ _ u.hf) ?_
      refine ow_op (by simp only [opd, zv, exOp, aop, LOp.loud, pop, zp, binD, eq_self, ne_eq, not_false_eq_true, true_and, Int.reduceEq, ite_true, ite_false, not_true_eq_false, Int.reduceToNat, Int.reduceLT, u8_and _ u.hw, hd2, hd4, hm2, hm4, hix, hmx, Int.natCast_nonneg, hN.read, strRows_len, and_self, hb3, hb4, hb5, Nat.reduceAdd] <;> exact rfl) ?_
      refine ow_nil ?_
      refine sk_n (by simp only [exports, zn, zg] <;> exact rfl) ?_
      refine cw_cond (by simp only [opd, zv, u8_and _ u.hw, hd2, hd4, hm2, hm4, hix, hmx, Int.natCast_nonneg, hN.read, strRows_len, and_self, hb3, hb4, hb5, Nat.reduceAdd] <;> exact rfl) (fun hcTT => ?_) (fun hcTT => ?_)
      · skip -- TTT
        refine cw_seq ?_
        refine cw_region ?_
        refine ow_op (by simp only [opd, zv, exOp, aop, LOp.loud, pop, zp, u8_and _ u.hw, hd2, hd4, hm2, hm4, hix, hmx, Int.natCast_nonneg, hN.read, strRows_len, and_self, hb3, hb4, hb5, Nat.reduceAdd] <;> exact rfl) ?_
        refine ow_op (by simp only [opd, zv, exOp, aop, LOp.loud, lop, rowsOf, newAt, setAt, zh, zm, fillRows, List.replicate, snapVs, snaps, zs, zc, zf, u8_and _ u.hw, hd2, hd4, hm2, hm4, hix, hmx, Int.natCast_nonneg, hN.read, strRows_len, and_self, hb3, hb4, hb5, Nat.reduceAdd] <;> exact rfl) ?_
        refine ow_op (by simp only [opd, zv, exOp, aop, LOp.loud, lop, rowsOf, newAt, setAt, zh, zm, loadD_cptr, loadD_ptr, partD, List.take, List.drop, u8_and _ u.hw, hd2, hd4, hm2, hm4, hix, hmx, Int.natCast_nonneg, hN.read, strRows_len, and_self, hb3, hb4, hb5, Nat.reduceAdd] <;> exact rfl) ?_
        refine ow_op (by simp only [exOp, opd, zv, u8_and _ u.hw, hd2, hd4, hm2, hm4, hix, hmx, Int.natCast_nonneg, hN.read, strRows_len, and_self, hb3, hb4, hb5, Nat.reduceAdd]; exact mode_run (by omega) _ _ _ _ u.hf) ?_
        refine ow_op (by simp only [opd, zv, exOp, aop, LOp.loud, lop, rowsOf, newAt, setAt, zh, zm, iaddrD_sl, iaddrD_msl, Int.toNat_natCast, Int.toNat_zero, List.getElem?_map, Option.map_some, Int.le_refl, u8_and _ u.hw, hd2, hd4, hm2, hm4, hix, hmx, Int.natCast_nonneg, hN.read, strRows_len, and_self, hb3, hb4, hb5, Nat.reduceAdd] <;> exact rfl) ?_
        refine ow_op (by simp only [opd, zv, exOp, aop, LOp.loud, lop, rowsOf, newAt, setAt, zh, zm, loadD_cptr, loadD_ptr, partD, List.take, List.drop, u8_and _ u.hw, hd2, hd4, hm2, hm4, hix, hmx, Int.natCast_nonneg, hN.read, strRows_len, and_self, hb3, hb4, hb5, Nat.reduceAdd] <;> exact rfl) ?_
        refine ow_op (by simp only [opd, zv, exOp, aop, LOp.loud, lop, rowsOf, newAt, setAt, zh, zm, fillRows, List.replicate, snapVs, snaps, zs, zc, zf, u8_and _ u.hw, hd2, hd4, hm2, hm4, hix, hmx, Int.natCast_nonneg, hN.read, strRows_len, and_self, hb3, hb4, hb5, Nat.reduceAdd] <;> exact rfl) ?_
        refine ow_op (by simp only [opd, zv, exOp, aop, LOp.loud, lop, rowsOf, newAt, setAt, zh, zm, appendD, readRows_nils, readRows_sl, readRows_msl, List.isEmpty_cons, List.isEmpty_nil, reduceIte, u8_and _ u.hw, hd2, hd4, hm2, hm4, hix, hmx, Int.natCast_nonneg, hN.read, strRows_len, and_self, hb3, hb4, hb5, Nat.reduceAdd] <;> exact rfl) ?_
        refine ow_op (by simp only [opd, zv, exOp, aop, LOp.loud, pop, zp, u8_and _ u.hw, hd2, hd4, hm2, hm4, hix, hmx, Int.natCast_nonneg, hN.read, strRows_len, and_self, hb3, hb4, hb5, Nat.reduceAdd] <;> exact rfl) ?_
        refine ow_nil ?_
        refine sk_n (by simp only [exports, zn, zg] <;> exact rfl) ?_
        refine cw_ret ?_
        refine sk_r ?_
        have q0 : u.w % 2 = 1 := by have := beq_iff_eq.1 hc; omega
        have q1 : u.w / 4 % 2 = 1 := by have := beq_iff_eq.1 hcT; omega
        have q2 : modeF u.f u.m > 0 := by have := of_decide_eq_true hcTT; omega
        refine ⟨_, by simp only [F16, resultD, resDs, resD, List.getD_cons_zero, List.getD_cons_succ, loadD_cptr, loadD_ptr, rowsOf, partD, List.getElem?_cons_zero, List.getElem?_cons_succ, if_true, if_false, Bool.false_eq_true, List.take, List.drop, zm] <;> exact rfl, ?_⟩
        unfold textF
        rw [if_pos q0, if_pos q1, if_pos q2]
        refine (leaveP_app rfl (by simp [strRows_len]; try omega)).trans ?_
        simp [strRows, wAFTER, wSTANDARD, wPROCEDURE, wON, wERROR, wEXCEPTION]
      · skip -- TTF
        have hne : (strRows (namesF u.f)).isEmpty = false := by
          have h0 := of_decide_eq_false hcTT
          cases hn : namesF u.f with
          | nil => exfalso; simp [modeF, hn] at h0; omega
          | cons a l => rfl
        refine cw_skip ?_
        refine sk_n rfl ?_
        refine cw_seq ?_
        refine cw_region ?_
        refine ow_op (by simp only [opd, zv, exOp, aop, LOp.loud, pop, zp, u8_and _ u.hw, hd2, hd4, hm2, hm4, hix, hmx, Int.natCast_nonneg, hN.read, strRows_len, and_self, hb3, hb4, hb5, Nat.reduceAdd, hne] <;> exact rfl) ?_
        refine ow_op (by simp only [opd, zv, exOp, aop, LOp.loud, lop, rowsOf, newAt, setAt, zh, zm, loadD_cptr, loadD_ptr, partD, List.take, List.drop, u8_and _ u.hw, hd2, hd4, hm2, hm4, hix, hmx, Int.natCast_nonneg, hN.read, strRows_len, and_self, hb3, hb4, hb5, Nat.reduceAdd, hne] <;> exact rfl) ?_
        refine ow_op (by simp only [exOp, opd, zv, u8_and _ u.hw, hd2, hd4, hm2, hm4, hix, hmx, Int.natCast_nonneg, hN.read, strRows_len, and_self, hb3, hb4, hb5, Nat.reduceAdd, hne]; exact names_run (by omega) _ _ _ _ u.hf) ?_
        refine ow_op (by simp only [opd, zv, exOp, aop, LOp.loud, lop, rowsOf, newAt, setAt, zh, zm, appendD, readRows_nils, readRows_sl, readRows_msl, List.isEmpty_cons, List.isEmpty_nil, reduceIte, u8_and _ u.hw, hd2, hd4, hm2, hm4, hix, hmx, Int.natCast_nonneg, hN.read, strRows_len, and_self, hb3, hb4, hb5, Nat.reduceAdd, hne] <;> exact rfl) ?_
        refine ow_op (by simp only [opd, zv, exOp, aop, LOp.loud, pop, zp, u8_and _ u.hw, hd2, hd4, hm2, hm4, hix, hmx, Int.natCast_nonneg, hN.read, strRows_len, and_self, hb3, hb4, hb5, Nat.reduceAdd, hne] <;> exact rfl) ?_
        refine ow_nil ?_
        refine sk_n (by simp only [exports, zn, zg] <;> exact rfl) ?_
        refine cw_ret ?_
        have q0 : u.w % 2 = 1 := by have := beq_iff_eq.1 hc; omega
        have q1 : u.w / 4 % 2 = 1 := by have := beq_iff_eq.1 hcT; omega
        have q2 : ¬ modeF u.f u.m > 0 := by have := of_decide_eq_false hcTT; omega
        refine ⟨_, by simp only [F16, resultD, resDs, resD, List.getD_cons_zero, List.getD_cons_succ, loadD_cptr, loadD_ptr, rowsOf, partD, List.getElem?_cons_zero, List.getElem?_cons_succ, if_true, if_false, Bool.false_eq_true, List.take, List.drop, zm] <;> exact rfl, ?_⟩
        unfold textF
        rw [if_pos q0, if_pos q1, if_neg q2]
        refine (leaveP_app rfl (by simp [strRows_len]; try omega)).trans ?_
        simp [strRows, wAFTER, wSTANDARD, wPROCEDURE, wON, wERROR, wEXCEPTION]
    · skip -- TF
      refine cw_skip ?_
      refine sk_n rfl ?_
      refine cw_seq ?_
      refine cw_seq ?_
      refine cw_region ?_
      refine ow_op (by simp only [opd, zv, exOp, aop, LOp.loud, lop, rowsOf, newAt, setAt, zh, zm, loadD_cptr, loadD_ptr, partD, List.take, List.drop, u8_and _ u.hw, hd2, hd4, hm2, hm4, hix, hmx, Int.natCast_nonneg, hN.read, strRows_len, and_self, hb3, hb4, hb5, Nat.reduceAdd] <;> exact rfl) ?_
      refine ow_op (by simp only [exOp, opd, zv, u8_and _ u.hw, hd2, hd4, hm2, hm4, hix, hmx, Int.natCast_nonneg, hN.read, strRows_len, and_self, hb3, hb4, hb5, Nat.reduceAdd]; exact mode_run (by omega) _ _ _ _ u.hf) ?_
      refine ow_op (by simp only [opd, zv, exOp, aop, LOp.loud, pop, zp, binD, eq_self, ne_eq, not_false_eq_true, true_and, Int.reduceEq, ite_true, ite_false, not_true_eq_false, Int.reduceToNat, Int.reduceLT, u8_and _ u.hw, hd2, hd4, hm2, hm4, hix, hmx, Int.natCast_nonneg, hN.read, strRows_len, and_self, hb3, hb4, hb5, Nat.reduceAdd] <;> exact rfl) ?_
      refine ow_nil ?_
      refine sk_n (by simp only [exports, zn, zg] <;> exact rfl) ?_
      refine cw_cond (by simp only [opd, zv, u8_and _ u.hw, hd2, hd4, hm2, hm4, hix, hmx, Int.natCast_nonneg, hN.read, strRows_len, and_self, hb3, hb4, hb5, Nat.reduceAdd] <;> exact rfl) (fun hcTF => ?_) (fun hcTF => ?_)
      · skip -- TFT
        refine cw_seq ?_
        refine cw_region ?_
        refine ow_op (by simp only [opd, zv, exOp, aop, LOp.loud, pop, zp, u8_and _ u.hw, hd2, hd4, hm2, hm4, hix, hmx, Int.natCast_nonneg, hN.read, strRows_len, and_self, hb3, hb4, hb5, Nat.reduceAdd] <;> exact rfl) ?_
        refine ow_op (by simp only [opd, zv, exOp, aop, LOp.loud, lop, rowsOf, newAt, setAt, zh, zm, fillRows, List.replicate, snapVs, snaps, zs, zc, zf, u8_and _ u.hw, hd2, hd4, hm2, hm4, hix, hmx, Int.natCast_nonneg, hN.read, strRows_len, and_self, hb3, hb4, hb5, Nat.reduceAdd] <;> exact rfl) ?_
        refine ow_op (by simp only [opd, zv, exOp, aop, LOp.loud, lop, rowsOf, newAt, setAt, zh, zm, loadD_cptr, loadD_ptr, partD, List.take, List.drop, u8_and _ u.hw, hd2, hd4, hm2, hm4, hix, hmx, Int.natCast_nonneg, hN.read, strRows_len, and_self, hb3, hb4, hb5, Nat.reduceAdd] <;> exact rfl) ?_
        refine ow_op (by simp only [exOp, opd, zv, u8_and _ u.hw, hd2, hd4, hm2, hm4, hix, hmx, Int.natCast_nonneg, hN.read, strRows_len, and_self, hb3, hb4, hb5, Nat.reduceAdd]; exact mode_run (by omega) _ _ _ _ u.hf) ?_
        refine ow_op (by simp only [opd, zv, exOp, aop, LOp.loud, lop, rowsOf, newAt, setAt, zh, zm, iaddrD_sl, iaddrD_msl, Int.toNat_natCast, Int.toNat_zero, List.getElem?_map, Option.map_some, Int.le_refl, u8_and _ u.hw, hd2, hd4, hm2, hm4, hix, hmx, Int.natCast_nonneg, hN.read, strRows_len, and_self, hb3, hb4, hb5, Nat.reduceAdd] <;> exact rfl) ?_
        refine ow_op (by simp only [opd, zv, exOp, aop, LOp.loud, lop, rowsOf, newAt, setAt, zh, zm, loadD_cptr, loadD_ptr, partD, List.take, List.drop, u8_and _ u.hw, hd2, hd4, hm2, hm4, hix, hmx, Int.natCast_nonneg, hN.read, strRows_len, and_self, hb3, hb4, hb5, Nat.reduceAdd] <;> exact rfl) ?_
        refine ow_op (by simp only [opd, zv, exOp, aop, LOp.loud, lop, rowsOf, newAt, setAt, zh, zm, fillRows, List.replicate, snapVs, snaps, zs, zc, zf, u8_and _ u.hw, hd2, hd4, hm2, hm4, hix, hmx, Int.natCast_nonneg, hN.read, strRows_len, and_self, hb3, hb4, hb5, Nat.reduceAdd] <;> exact rfl) ?_
        refine ow_op (by simp only [opd, zv, exOp, aop, LOp.loud, lop, rowsOf, newAt, setAt, zh, zm, appendD, readRows_nils, readRows_sl, readRows_msl, List.isEmpty_cons, List.isEmpty_nil, reduceIte, u8_and _ u.hw, hd2, hd4, hm2, hm4, hix, hmx, Int.natCast_nonneg, hN.read, strRows_len, and_self, hb3, hb4, hb5, Nat.reduceAdd] <;> exact rfl) ?_
        refine ow_op (by simp only [opd, zv, exOp, aop, LOp.loud, pop, zp, u8_and _ u.hw, hd2, hd4, hm2, hm4, hix, hmx, Int.natCast_nonneg, hN.read, strRows_len, and_self, hb3, hb4, hb5, Nat.reduceAdd] <;> exact rfl) ?_
        refine ow_nil ?_
        refine sk_n (by simp only [exports, zn, zg] <;> exact rfl) ?_
        refine cw_ret ?_
        refine sk_r ?_
        have q0 : u.w % 2 = 1 := by have := beq_iff_eq.1 hc; omega
        have q1 : u.w / 4 % 2 ≠ 1 := by intro h; rw [h] at hcT; simp at hcT
        have q2 : modeF u.f u.m > 0 := by have := of_decide_eq_true hcTF; omega
        refine ⟨_, by simp only [F16, resultD, resDs, resD, List.getD_cons_zero, List.getD_cons_succ, loadD_cptr, loadD_ptr, rowsOf, partD, List.getElem?_cons_zero, List.getElem?_cons_succ, if_true, if_false, Bool.false_eq_true, List.take, List.drop, zm] <;> exact rfl, ?_⟩
        unfold textF
        rw [if_pos q0, if_neg q1, if_pos q2]
        refine (leaveP_app rfl (by simp [strRows_len]; try omega)).trans ?_
        simp [strRows, wAFTER, wSTANDARD, wPROCEDURE, wON, wERROR, wEXCEPTION]
      · skip -- TFF
        have hne : (strRows (namesF u.f)).isEmpty = false := by
          have h0 := of_decide_eq_false hcTF
          cases hn : namesF u.f with
          | nil => exfalso; simp [modeF, hn] at h0; omega
          | cons a l => rfl
        refine cw_skip ?_
        refine sk_n rfl ?_
        refine cw_seq ?_
        refine cw_region ?_
        refine ow_op (by simp only [opd, zv, exOp, aop, LOp.loud, pop, zp, u8_and _ u.hw, hd2, hd4, hm2, hm4, hix, hmx, Int.natCast_nonneg, hN.read, strRows_len, and_self, hb3, hb4, hb5, Nat.reduceAdd, hne] <;> exact rfl) ?_
        refine ow_op (by simp only [opd, zv, exOp, aop, LOp.loud, lop, rowsOf, newAt, setAt, zh, zm, loadD_cptr, loadD_ptr, partD, List.take, List.drop, u8_and _ u.hw, hd2, hd4, hm2, hm4, hix, hmx, Int.natCast_nonneg, hN.read, strRows_len, and_self, hb3, hb4, hb5, Nat.reduceAdd, hne] <;> exact rfl) ?_
        refine ow_op (by simp only [exOp, opd, zv, u8_and _ u.hw, hd2, hd4, hm2, hm4, hix, hmx, Int.natCast_nonneg, hN.read, strRows_len, and_self, hb3, hb4, hb5, Nat.reduceAdd, hne]; exact names_run (by omega) _ _ _ _ u.hf) ?_
        refine ow_op (by simp only [opd, zv, exOp, aop, LOp.loud, lop, rowsOf, newAt, setAt, zh, zm, appendD, readRows_nils, readRows_sl, readRows_msl, List.isEmpty_cons, List.isEmpty_nil, reduceIte, u8_and _ u.hw, hd2, hd4, hm2, hm4, hix, hmx, Int.natCast_nonneg, hN.read, strRows_len, and_self, hb3, hb4, hb5, Nat.reduceAdd, hne] <;> exact rfl) ?_
        refine ow_op (by simp only [opd, zv, exOp, aop, LOp.loud, pop, zp, u8_and _ u.hw, hd2, hd4, hm2, hm4, hix, hmx, Int.natCast_nonneg, hN.read, strRows_len, and_self, hb3, hb4, hb5, Nat.reduceAdd, hne] <;> exact rfl) ?_
        refine ow_nil ?_
        refine sk_n (by simp only [exports, zn, zg] <;> exact rfl) ?_
        refine cw_ret ?_
        have q0 : u.w % 2 = 1 := by have := beq_iff_eq.1 hc; omega
        have q1 : u.w / 4 % 2 ≠ 1 := by intro h; rw [h] at hcT; simp at hcT
        have q2 : ¬ modeF u.f u.m > 0 := by have := of_decide_eq_false hcTF; omega
        refine ⟨_, by simp only [F16, resultD, resDs, resD, List.getD_cons_zero, List.getD_cons_succ, loadD_cptr, loadD_ptr, rowsOf, partD, List.getElem?_cons_zero, List.getElem?_cons_succ, if_true, if_false, Bool.false_eq_true, List.take, List.drop, zm] <;> exact rfl, ?_⟩
        unfold textF
        rw [if_pos q0, if_neg q1, if_neg q2]
        refine (leaveP_app rfl (by simp [strRows_len]; try omega)).trans ?_
        simp [strRows, wAFTER, wSTANDARD, wPROCEDURE, wON, wERROR, wEXCEPTION]
  · skip -- F
    refine cw_skip ?_
    refine sk_n rfl ?_
    refine cw_seq ?_
    refine cw_region ?_
    refine ow_op (by simp only [opd, zv, exOp, aop, LOp.loud, pop, zp, u8_and _ u.hw, hd2, hd4, hm2, hm4, hix, hmx, Int.natCast_nonneg, hN.read, strRows_len, and_self, hb3, hb4, hb5, Nat.reduceAdd] <;> exact rfl) ?_
    refine ow_op (by simp only [opd, zv, exOp, aop, LOp.loud, lop, rowsOf, newAt, setAt, zh, zm, fillRows, List.replicate, snapVs, snaps, zs, zc, zf, u8_and _ u.hw, hd2, hd4, hm2, hm4, hix, hmx, Int.natCast_nonneg, hN.read, strRows_len, and_self, hb3, hb4, hb5, Nat.reduceAdd] <;> exact rfl) ?_
    refine ow_op (by simp only [opd, zv, exOp, aop, LOp.loud, pop, zp, faddrD_ptr, faddrD_cptr, zm, u8_and _ u.hw, hd2, hd4, hm2, hm4, hix, hmx, Int.natCast_nonneg, hN.read, strRows_len, and_self, hb3, hb4, hb5, Nat.reduceAdd] <;> exact rfl) ?_
    refine ow_op (by simp only [opd, zv, exOp, aop, LOp.loud, lop, rowsOf, newAt, setAt, zh, zm, loadD_cptr, loadD_ptr, partD, List.take, List.drop, u8_and _ u.hw, hd2, hd4, hm2, hm4, hix, hmx, Int.natCast_nonneg, hN.read, strRows_len, and_self, hb3, hb4, hb5, Nat.reduceAdd] <;> exact rfl) ?_
    refine ow_op (by simp only [opd, zv, exOp, aop, LOp.loud, pop, zp, binD, eq_self, ne_eq, not_false_eq_true, true_and, Int.reduceEq, ite_true, ite_false, not_true_eq_false, Int.reduceToNat, Int.reduceLT, u8_and _ u.hw, hd2, hd4, hm2, hm4, hix, hmx, Int.natCast_nonneg, hN.read, strRows_len, and_self, hb3, hb4, hb5, Nat.reduceAdd] <;> exact rfl) ?_
    refine ow_op (by simp only [opd, zv, exOp, aop, LOp.loud, pop, zp, binD, eq_self, ne_eq, not_false_eq_true, true_and, Int.reduceEq, ite_true, ite_false, not_true_eq_false, Int.reduceToNat, Int.reduceLT, u8_and _ u.hw, hd2, hd4, hm2, hm4, hix, hmx, Int.natCast_nonneg, hN.read, strRows_len, and_self, hb3, hb4, hb5, Nat.reduceAdd] <;> exact rfl) ?_
    refine ow_op (by simp only [opd, zv, exOp, aop, LOp.loud, lop, rowsOf, newAt, setAt, zh, zm, iaddrD_sl, iaddrD_msl, Int.toNat_natCast, Int.toNat_zero, List.getElem?_map, Option.map_some, Int.le_refl, u8_and _ u.hw, hd2, hd4, hm2, hm4, hix, hmx, Int.natCast_nonneg, hN.read, strRows_len, and_self, hb3, hb4, hb5, Nat.reduceAdd] <;> exact rfl) ?_
    refine ow_op (by simp only [opd, zv, exOp, aop, LOp.loud, lop, rowsOf, newAt, setAt, zh, zm, loadD_cptr, loadD_ptr, partD, List.take, List.drop, u8_and _ u.hw, hd2, hd4, hm2, hm4, hix, hmx, Int.natCast_nonneg, hN.read, strRows_len, and_self, hb3, hb4, hb5, Nat.reduceAdd] <;> exact rfl) ?_
    refine ow_op (by simp only [opd, zv, exOp, aop, LOp.loud, lop, rowsOf, newAt, setAt, zh, zm, fillRows, List.replicate, snapVs, snaps, zs, zc, zf, u8_and _ u.hw, hd2, hd4, hm2, hm4, hix, hmx, Int.natCast_nonneg, hN.read, strRows_len, and_self, hb3, hb4, hb5, Nat.reduceAdd] <;> exact rfl) ?_
    refine ow_op (by simp only [opd, zv, exOp, aop, LOp.loud, lop, rowsOf, newAt, setAt, zh, zm, appendD, readRows_nils, readRows_sl, readRows_msl, List.isEmpty_cons, List.isEmpty_nil, reduceIte, u8_and _ u.hw, hd2, hd4, hm2, hm4, hix, hmx, Int.natCast_nonneg, hN.read, strRows_len, and_self, hb3, hb4, hb5, Nat.reduceAdd] <;> exact rfl) ?_
    refine ow_op (by simp only [opd, zv, exOp, aop, LOp.loud, pop, zp, u8_and _ u.hw, hd2, hd4, hm2, hm4, hix, hmx, Int.natCast_nonneg, hN.read, strRows_len, and_self, hb3, hb4, hb5, Nat.reduceAdd] <;> exact rfl) ?_
    refine ow_nil ?_
    refine sk_n (by simp only [exports, zn, zg] <;> exact rfl) ?_
    refine cw_seq ?_
    refine cw_seq ?_
    refine cw_region ?_
    refine ow_op (by simp only [opd, zv, exOp, aop, LOp.loud, pop, zp, faddrD_ptr, faddrD_cptr, zm, u8_and _ u.hw, hd2, hd4, hm2, hm4, hix, hmx, Int.natCast_nonneg, hN.read, strRows_len, and_self, hb3, hb4, hb5, Nat.reduceAdd] <;> exact rfl) ?_
    refine ow_op (by simp only [opd, zv, exOp, aop, LOp.loud, lop, rowsOf, newAt, setAt, zh, zm, loadD_cptr, loadD_ptr, partD, List.take, List.drop, u8_and _ u.hw, hd2, hd4, hm2, hm4, hix, hmx, Int.natCast_nonneg, hN.read, strRows_len, and_self, hb3, hb4, hb5, Nat.reduceAdd] <;> exact rfl) ?_
    refine ow_op (by simp only [opd, zv, exOp, aop, LOp.loud, pop, zp, binD, eq_self, ne_eq, not_false_eq_true, true_and, Int.reduceEq, ite_true, ite_false, not_true_eq_false, Int.reduceToNat, Int.reduceLT, u8_and _ u.hw, hd2, hd4, hm2, hm4, hix, hmx, Int.natCast_nonneg, hN.read, strRows_len, and_self, hb3, hb4, hb5, Nat.reduceAdd] <;> exact rfl) ?_
    refine ow_op (by simp only [opd, zv, exOp, aop, LOp.loud, pop, zp, binD, eq_self, ne_eq, not_false_eq_true, true_and, Int.reduceEq, ite_true, ite_false, not_true_eq_false, Int.reduceToNat, Int.reduceLT, u8_and _ u.hw, hd2, hd4, hm2, hm4, hix, hmx, Int.natCast_nonneg, hN.read, strRows_len, and_self, hb3, hb4, hb5, Nat.reduceAdd] <;> exact rfl) ?_
    refine ow_op (by simp only [opd, zv, exOp, aop, LOp.loud, pop, zp, binD, eq_self, ne_eq, not_false_eq_true, true_and, Int.reduceEq, ite_true, ite_false, not_true_eq_false, Int.reduceToNat, Int.reduceLT, u8_and _ u.hw, hd2, hd4, hm2, hm4, hix, hmx, Int.natCast_nonneg, hN.read, strRows_len, and_self, hb3, hb4, hb5, Nat.reduceAdd] <;> exact rfl) ?_
    refine ow_nil ?_
    refine sk_n (by simp only [exports, zn, zg] <;> exact rfl) ?_
    refine cw_cond (by simp only [opd, zv, u8_and _ u.hw, hd2, hd4, hm2, hm4, hix, hmx, Int.natCast_nonneg, hN.read, strRows_len, and_self, hb3, hb4, hb5, Nat.reduceAdd] <;> exact rfl) (fun hcF => ?_) (fun hcF => ?_)
    · skip -- FT
      refine cw_region ?_
      refine ow_op (by simp only [opd, zv, exOp, aop, LOp.loud, pop, zp, u8_and _ u.hw, hd2, hd4, hm2, hm4, hix, hmx, Int.natCast_nonneg, hN.read, strRows_len, and_self, hb3, hb4, hb5, Nat.reduceAdd] <;> exact rfl) ?_
      refine ow_op (by simp only [opd, zv, exOp, aop, LOp.loud, lop, rowsOf, newAt, setAt, zh, zm, fillRows, List.replicate, snapVs, snaps, zs, zc, zf, u8_and _ u.hw, hd2, hd4, hm2, hm4, hix, hmx, Int.natCast_nonneg, hN.read, strRows_len, and_self, hb3, hb4, hb5, Nat.reduceAdd] <;> exact rfl) ?_
      refine ow_op (by simp only [opd, zv, exOp, aop, LOp.loud, lop, rowsOf, newAt, setAt, zh, zm, appendD, readRows_nils, readRows_sl, readRows_msl, List.isEmpty_cons, List.isEmpty_nil, reduceIte, u8_and _ u.hw, hd2, hd4, hm2, hm4, hix, hmx, Int.natCast_nonneg, hN.read, strRows_len, and_self, hb3, hb4, hb5, Nat.reduceAdd] <;> exact rfl) ?_
      refine ow_op (by simp only [opd, zv, exOp, aop, LOp.loud, pop, zp, u8_and _ u.hw, hd2, hd4, hm2, hm4, hix, hmx, Int.natCast_nonneg, hN.read, strRows_len, and_self, hb3, hb4, hb5, Nat.reduceAdd] <;> exact rfl) ?_
      refine ow_nil ?_
      refine sk_n (by simp only [exports, zn, zg] <;> exact rfl) ?_
      refine cw_seq ?_
      refine cw_seq ?_
      refine cw_region ?_
      refine ow_op (by simp only [opd, zv, exOp, aop, LOp.loud, lop, rowsOf, newAt, setAt, zh, zm, loadD_cptr, loadD_ptr, partD, List.take, List.drop, u8_and _ u.hw, hd2, hd4, hm2, hm4, hix, hmx, Int.natCast_nonneg, hN.read, strRows_len, and_self, hb3, hb4, hb5, Nat.reduceAdd] <;> exact rfl) ?_
      refine ow_op (by simp only [exOp, opd, zv, u8_and _ u.hw, hd2, hd4, hm2, hm4, hix, hmx, Int.natCast_nonneg, hN.read, strRows_len, and_self, hb3, hb4, hb5, Nat.reduceAdd]; exact mode_run (by omega) _ _ _ _ u.hf) ?_
      refine ow_op (by simp only [opd, zv, exOp, aop, LOp.loud, pop, zp, binD, eq_self, ne_eq, not_false_eq_true, true_and, Int.reduceEq, ite_true, ite_false, not_true_eq_false, Int.reduceToNat, Int.reduceLT, u8_and _ u.hw, hd2, hd4, hm2, hm4, hix, hmx, Int.natCast_nonneg, hN.read, strRows_len, and_self, hb3, hb4, hb5, Nat.reduceAdd] <;> exact rfl) ?_
      refine ow_nil ?_
      refine sk_n (by simp only [exports, zn, zg] <;> exact rfl) ?_
      refine cw_cond (by simp only [opd, zv, u8_and _ u.hw, hd2, hd4, hm2, hm4, hix, hmx, Int.natCast_nonneg, hN.read, strRows_len, and_self, hb3, hb4, hb5, Nat.reduceAdd] <;> exact rfl) (fun hcFT => ?_) (fun hcFT => ?_)
      · skip -- FTT
        refine cw_seq ?_
        refine cw_region ?_
        refine ow_op (by simp only [opd, zv, exOp, aop, LOp.loud, pop, zp, u8_and _ u.hw, hd2, hd4, hm2, hm4, hix, hmx, Int.natCast_nonneg, hN.read, strRows_len, and_self, hb3, hb4, hb5, Nat.reduceAdd] <;> exact rfl) ?_
        refine ow_op (by simp only [opd, zv, exOp, aop, LOp.loud, lop, rowsOf, newAt, setAt, zh, zm, fillRows, List.replicate, snapVs, snaps, zs, zc, zf, u8_and _ u.hw, hd2, hd4, hm2, hm4, hix, hmx, Int.natCast_nonneg, hN.read, strRows_len, and_self, hb3, hb4, hb5, Nat.reduceAdd] <;> exact rfl) ?_
        refine ow_op (by simp only [opd, zv, exOp, aop, LOp.loud, lop, rowsOf, newAt, setAt, zh, zm, loadD_cptr, loadD_ptr, partD, List.take, List.drop, u8_and _ u.hw, hd2, hd4, hm2, hm4, hix, hmx, Int.natCast_nonneg, hN.read, strRows_len, and_self, hb3, hb4, hb5, Nat.reduceAdd] <;> exact rfl) ?_
        refine ow_op (by simp only [exOp, opd, zv, u8_and _ u.hw, hd2, hd4, hm2, hm4, hix, hmx, Int.natCast_nonneg, hN.read, strRows_len, and_self, hb3, hb4, hb5, Nat.reduceAdd]; exact mode_run (by omega) _ _ _ _ u.hf) ?_
        refine ow_op (by simp only [opd, zv, exOp, aop, LOp.loud, lop, rowsOf, newAt, setAt, zh, zm, iaddrD_sl, iaddrD_msl, Int.toNat_natCast, Int.toNat_zero, List.getElem?_map, Option.map_some, Int.le_refl, u8_and _ u.hw, hd2, hd4, hm2, hm4, hix, hmx, Int.natCast_nonneg, hN.read, strRows_len, and_self, hb3, hb4, hb5, Nat.reduceAdd] <;> exact rfl) ?_
        refine ow_op (by simp only [opd, zv, exOp, aop, LOp.loud, lop, rowsOf, newAt, setAt, zh, zm, loadD_cptr, loadD_ptr, partD, List.take, List.drop, u8_and _ u.hw, hd2, hd4, hm2, hm4, hix, hmx, Int.natCast_nonneg, hN.read, strRows_len, and_self, hb3, hb4, hb5, Nat.reduceAdd] <;> exact rfl) ?_
        refine ow_op (by simp only [opd, zv, exOp, aop, LOp.loud, lop, rowsOf, newAt, setAt, zh, zm, fillRows, List.replicate, snapVs, snaps, zs, zc, zf, u8_and _ u.hw, hd2, hd4, hm2, hm4, hix, hmx, Int.natCast_nonneg, hN.read, strRows_len, and_self, hb3, hb4, hb5, Nat.reduceAdd] <;> exact rfl) ?_
        refine ow_op (by simp only [opd, zv, exOp, aop, LOp.loud, lop, rowsOf, newAt, setAt, zh, zm, appendD, readRows_nils, readRows_sl, readRows_msl, List.isEmpty_cons, List.isEmpty_nil, reduceIte, u8_and _ u.hw, hd2, hd4, hm2, hm4, hix, hmx, Int.natCast_nonneg, hN.read, strRows_len, and_self, hb3, hb4, hb5, Nat.reduceAdd] <;> exact rfl) ?_
        refine ow_op (by simp only [opd, zv, exOp, aop, LOp.loud, pop, zp, u8_and _ u.hw, hd2, hd4, hm2, hm4, hix, hmx, Int.natCast_nonneg, hN.read, strRows_len, and_self, hb3, hb4, hb5, Nat.reduceAdd] <;> exact rfl) ?_
        refine ow_nil ?_
        refine sk_n (by simp only [exports, zn, zg] <;> exact rfl) ?_
        refine cw_ret ?_
        refine sk_r ?_
        have q0 : u.w % 2 ≠ 1 := by intro h; rw [h] at hc; simp at hc
        have q1 : u.w / 4 % 2 = 1 := by have := beq_iff_eq.1 hcF; omega
        have q2 : modeF u.f u.m > 0 := by have := of_decide_eq_true hcFT; omega
        refine ⟨_, by simp only [F16, resultD, resDs, resD, List.getD_cons_zero, List.getD_cons_succ, loadD_cptr, loadD_ptr, rowsOf, partD, List.getElem?_cons_zero, List.getElem?_cons_succ, if_true, if_false, Bool.false_eq_true, List.take, List.drop, zm] <;> exact rfl, ?_⟩
        unfold textF
        rw [if_neg q0, if_pos q1, if_pos q2]
        refine (leaveP_app rfl (by simp [strRows_len]; try omega)).trans ?_
        simp [strRows, wAFTER, wSTANDARD, wPROCEDURE, wON, wERROR, wEXCEPTION]
      · skip -- FTF
        have hne : (strRows (namesF u.f)).isEmpty = false := by
          have h0 := of_decide_eq_false hcFT
          cases hn : namesF u.f with
          | nil => exfalso; simp [modeF, hn] at h0; omega
          | cons a l => rfl
        refine cw_skip ?_
        refine sk_n rfl ?_
        refine cw_seq ?_
        refine cw_region ?_
        refine ow_op (by simp only [opd, zv, exOp, aop, LOp.loud, pop, zp, u8_and _ u.hw, hd2, hd4, hm2, hm4, hix, hmx, Int.natCast_nonneg, hN.read, strRows_len, and_self, hb3, hb4, hb5, Nat.reduceAdd, hne] <;> exact rfl) ?_
        refine ow_op (by simp only [opd, zv, exOp, aop, LOp.loud, lop, rowsOf, newAt, setAt, zh, zm, loadD_cptr, loadD_ptr, partD, List.take, List.drop, u8_and _ u.hw, hd2, hd4, hm2, hm4, hix, hmx, Int.natCast_nonneg, hN.read, strRows_len, and_self, hb3, hb4, hb5, Nat.reduceAdd, hne] <;> exact rfl) ?_
        refine ow_op (by simp only [exOp, opd, zv, u8_and _ u.hw, hd2, hd4, hm2, hm4, hix, hmx, Int.natCast_nonneg, hN.read, strRows_len, and_self, hb3, hb4, hb5, Nat.reduceAdd, hne]; exact names_run (by omega) _ _ _ _ u.hf) ?_
        refine ow_op (by simp only [opd, zv, exOp, aop, LOp.loud, lop, rowsOf, newAt, setAt, zh, zm, appendD, readRows_nils, readRows_sl, readRows_msl, List.isEmpty_cons, List.isEmpty_nil, reduceIte, u8_and _ u.hw, hd2, hd4, hm2, hm4, hix, hmx, Int.natCast_nonneg, hN.read, strRows_len, and_self, hb3, hb4, hb5, Nat.reduceAdd, hne] <;> exact rfl) ?_
        refine ow_op (by simp only [opd, zv, exOp, aop, LOp.loud, pop, zp, u8_and _ u.hw, hd2, hd4, hm2, hm4, hix, hmx, Int.natCast_nonneg, hN.read, strRows_len, and_self, hb3, hb4, hb5, Nat.reduceAdd, hne] <;> exact rfl) ?_
        refine ow_nil ?_
        refine sk_n (by simp only [exports, zn, zg] <;> exact rfl) ?_
        refine cw_ret ?_
        have q0 : u.w % 2 ≠ 1 := by intro h; rw [h] at hc; simp at hc
        have q1 : u.w / 4 % 2 = 1 := by have := beq_iff_eq.1 hcF; omega
        have q2 : ¬ modeF u.f u.m > 0 := by have := of_decide_eq_false hcFT; omega
        refine ⟨_, by simp only [F16, resultD, resDs, resD, List.getD_cons_zero, List.getD_cons_succ, loadD_cptr, loadD_ptr, rowsOf, partD, List.getElem?_cons_zero, List.getElem?_cons_succ, if_true, if_false, Bool.false_eq_true, List.take, List.drop, zm] <;> exact rfl, ?_⟩
        unfold textF
        rw [if_neg q0, if_pos q1, if_neg q2]
        refine (leaveP_app rfl (by simp [strRows_len]; try omega)).trans ?_
        simp [strRows, wAFTER, wSTANDARD, wPROCEDURE, wON, wERROR, wEXCEPTION]
    · skip -- FF
      refine cw_skip ?_
      refine sk_n rfl ?_
      refine cw_seq ?_
      refine cw_seq ?_
      refine cw_region ?_
      refine ow_op (by simp only [opd, zv, exOp, aop, LOp.loud, lop, rowsOf, newAt, setAt, zh, zm, loadD_cptr, loadD_ptr, partD, List.take, List.drop, u8_and _ u.hw, hd2, hd4, hm2, hm4, hix, hmx, Int.natCast_nonneg, hN.read, strRows_len, and_self, hb3, hb4, hb5, Nat.reduceAdd] <;> exact rfl) ?_
      refine ow_op (by simp only [exOp, opd, zv, u8_and _ u.hw, hd2, hd4, hm2, hm4, hix, hmx, Int.natCast_nonneg, hN.read, strRows_len, and_self, hb3, hb4, hb5, Nat.reduceAdd]; exact mode_run (by omega) _ _ _ _ u.hf) ?_
      refine ow_op (by simp only [opd, zv, exOp, aop, LOp.loud, pop, zp, binD, eq_self, ne_eq, not_false_eq_true, true_and, Int.reduceEq, ite_true, ite_false, not_true_eq_false, Int.reduceToNat, Int.reduceLT, u8_and _ u.hw, hd2, hd4, hm2, hm4, hix, hmx, Int.natCast_nonneg, hN.read, strRows_len, and_self, hb3, hb4, hb5, Nat.reduceAdd] <;> exact rfl) ?_
      refine ow_nil ?_
      refine sk_n (by simp only [exports, zn, zg] <;> exact rfl) ?_
      refine cw_cond (by simp only [opd, zv, u8_and _ u.hw, hd2, hd4, hm2, hm4, hix, hmx, Int.natCast_nonneg, hN.read, strRows_len, and_self, hb3, hb4, hb5, Nat.reduceAdd] <;> exact rfl) (fun hcFF => ?_) (fun hcFF => ?_)
      · skip -- FFT
        refine cw_seq ?_
        refine cw_region ?_
        refine ow_op (by simp only [opd, zv, exOp, aop, LOp.loud, pop, zp, u8_and _ u.hw, hd2, hd4, hm2, hm4, hix, hmx, Int.natCast_nonneg, hN.read, strRows_len, and_self, hb3, hb4, hb5, Nat.reduceAdd] <;> exact rfl) ?_
        refine ow_op (by simp only [opd, zv, exOp, aop, LOp.loud, lop, rowsOf, newAt, setAt, zh, zm, fillRows, List.replicate, snapVs, snaps, zs, zc, zf, u8_and _ u.hw, hd2, hd4, hm2, hm4, hix, hmx, Int.natCast_nonneg, hN.read, strRows_len, and_self, hb3, hb4, hb5, Nat.reduceAdd] <;> exact rfl) ?_
        refine ow_op (by simp only [opd, zv, exOp, aop, LOp.loud, lop, rowsOf, newAt, setAt, zh, zm, loadD_cptr, loadD_ptr, partD, List.take, List.drop, u8_and _ u.hw, hd2, hd4, hm2, hm4, hix, hmx, Int.natCast_nonneg, hN.read, strRows_len, and_self, hb3, hb4, hb5, Nat.reduceAdd] <;> exact rfl) ?_
        refine ow_op (by simp only [exOp, opd, zv, u8_and _ u.hw, hd2, hd4, hm2, hm4, hix, hmx, Int.natCast_nonneg, hN.read, strRows_len, and_self, hb3, hb4, hb5, Nat.reduceAdd]; exact mode_run (by omega) _ _ _ _ u.hf) ?_
        refine ow_op (by simp only [opd, zv, exOp, aop, LOp.loud, lop, rowsOf, newAt, setAt, zh, zm, iaddrD_sl, iaddrD_msl, Int.toNat_natCast, Int.toNat_zero, List.getElem?_map, Option.map_some, Int.le_refl, u8_and _ u.hw, hd2, hd4, hm2, hm4, hix, hmx, Int.natCast_nonneg, hN.read, strRows_len, and_self, hb3, hb4, hb5, Nat.reduceAdd] <;> exact rfl) ?_
        refine ow_op (by simp only [opd, zv, exOp, aop, LOp.loud, lop, rowsOf, newAt, setAt, zh, zm, loadD_cptr, loadD_ptr, partD, List.take, List.drop, u8_and _ u.hw, hd2, hd4, hm2, hm4, hix, hmx, Int.natCast_nonneg, hN.read, strRows_len, and_self, hb3, hb4, hb5, Nat.reduceAdd] <;> exact rfl) ?_
        refine ow_op (by simp only [opd, zv, exOp, aop, LOp.loud, lop, rowsOf, newAt, setAt, zh, zm, fillRows, List.replicate, snapVs, snaps, zs, zc, zf, u8_and _ u.hw, hd2, hd4, hm2, hm4, hix, hmx, Int.natCast_nonneg, hN.read, strRows_len, and_self, hb3, hb4, hb5, Nat.reduceAdd] <;> exact rfl) ?_
        refine ow_op (by simp only [opd, zv, exOp, aop, LOp.loud, lop, rowsOf, newAt, setAt, zh, zm, appendD, readRows_nils, readRows_sl, readRows_msl, List.isEmpty_cons, List.isEmpty_nil, reduceIte, u8_and _ u.hw, hd2, hd4, hm2, hm4, hix, hmx, Int.natCast_nonneg, hN.read, strRows_len, and_self, hb3, hb4, hb5, Nat.reduceAdd] <;> exact rfl) ?_
        refine ow_op (by simp only [opd, zv, exOp, aop, LOp.loud, pop, zp, u8_and _ u.hw, hd2, hd4, hm2, hm4, hix, hmx, Int.natCast_nonneg, hN.read, strRows_len, and_self, hb3, hb4, hb5, Nat.reduceAdd] <;> exact rfl) ?_
        refine ow_nil ?_
        refine sk_n (by simp only [exports, zn, zg] <;> exact rfl) ?_
        refine cw_ret ?_
        refine sk_r ?_
        have q0 : u.w % 2 ≠ 1 := by intro h; rw [h] at hc; simp at hc
        have q1 : u.w / 4 % 2 ≠ 1 := by intro h; rw [h] at hcF; simp at hcF
        have q2 : modeF u.f u.m > 0 := by have := of_decide_eq_true hcFF; omega
        refine ⟨_, by simp only [F16, resultD, resDs, resD, List.getD_cons_zero, List.getD_cons_succ, loadD_cptr, loadD_ptr, rowsOf, partD, List.getElem?_cons_zero, List.getElem?_cons_succ, if_true, if_false, Bool.false_eq_true, List.take, List.drop, zm] <;> exact rfl, ?_⟩
        unfold textF
        rw [if_neg q0, if_neg q1, if_pos q2]
        refine (leaveP_app rfl (by simp [strRows_len]; try omega)).trans ?_
        simp [strRows, wAFTER, wSTANDARD, wPROCEDURE, wON, wERROR, wEXCEPTION]
      · skip -- FFF
        have hne : (strRows (namesF u.f)).isEmpty = false := by
          have h0 := of_decide_eq_false hcFF
          cases hn : namesF u.f with
          | nil => exfalso; simp [modeF, hn] at h0; omega
          | cons a l => rfl
        refine cw_skip ?_
        refine sk_n rfl ?_
        refine cw_seq ?_
        refine cw_region ?_
        refine ow_op (by simp only [opd, zv, exOp, aop, LOp.loud, pop, zp, u8_and _ u.hw, hd2, hd4, hm2, hm4, hix, hmx, Int.natCast_nonneg, hN.read, strRows_len, and_self, hb3, hb4, hb5, Nat.reduceAdd, hne] <;> exact rfl) ?_
        refine ow_op (by simp only [opd, zv, exOp, aop, LOp.loud, lop, rowsOf, newAt, setAt, zh, zm, loadD_cptr, loadD_ptr, partD, List.take, List.drop, u8_and _ u.hw, hd2, hd4, hm2, hm4, hix, hmx, Int.natCast_nonneg, hN.read, strRows_len, and_self, hb3, hb4, hb5, Nat.reduceAdd, hne] <;> exact rfl) ?_
        refine ow_op (by simp only [exOp, opd, zv, u8_and _ u.hw, hd2, hd4, hm2, hm4, hix, hmx, Int.natCast_nonneg, hN.read, strRows_len, and_self, hb3, hb4, hb5, Nat.reduceAdd, hne]; exact names_run (by omega) _ _ _ _ u.hf) ?_
        refine ow_op (by simp only [opd, zv, exOp, aop, LOp.loud, lop, rowsOf, newAt, setAt, zh, zm, appendD, readRows_nils, readRows_sl, readRows_msl, List.isEmpty_cons, List.isEmpty_nil, reduceIte, u8_and _ u.hw, hd2, hd4, hm2, hm4, hix, hmx, Int.natCast_nonneg, hN.read, strRows_len, and_self, hb3, hb4, hb5, Nat.reduceAdd, hne] <;> exact rfl) ?_
        refine ow_op (by simp only [opd, zv, exOp, aop, LOp.loud, pop, zp, u8_and _ u.hw, hd2, hd4, hm2, hm4, hix, hmx, Int.natCast_nonneg, hN.read, strRows_len, and_self, hb3, hb4, hb5, Nat.reduceAdd, hne] <;> exact rfl) ?_
        refine ow_nil ?_
        refine sk_n (by simp only [exports, zn, zg] <;> exact rfl) ?_
        refine cw_ret ?_
        have q0 : u.w % 2 ≠ 1 := by intro h; rw [h] at hc; simp at hc
        have q1 : u.w / 4 % 2 ≠ 1 := by intro h; rw [h] at hcF; simp at hcF
        have q2 : ¬ modeF u.f u.m > 0 := by have := of_decide_eq_false hcFF; omega
        refine ⟨_, by simp only [F16, resultD, resDs, resD, List.getD_cons_zero, List.getD_cons_succ, loadD_cptr, loadD_ptr, rowsOf, partD, List.getElem?_cons_zero, List.getElem?_cons_succ, if_true, if_false, Bool.false_eq_true, List.take, List.drop, zm] <;> exact rfl, ?_⟩
        unfold textF
        rw [if_neg q0, if_neg q1, if_neg q2]
        refine (leaveP_app rfl (by simp [strRows_len]; try omega)).trans ?_
        simp [strRows, wAFTER, wSTANDARD, wPROCEDURE, wON, wERROR, wEXCEPTION]

end Go.Proofs.Ytnihohodcogpeaa

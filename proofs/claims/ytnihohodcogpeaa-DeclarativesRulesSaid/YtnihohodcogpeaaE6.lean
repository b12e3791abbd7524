/- Proved here: what the functions of package declaratives and of the law compute, in the abstract machine; no condition. -/
import Derived.Test.YtnihohodcogpeaaE5
import Derived.Test.YtnihohodcogpeaaLoZ
namespace Go.Proofs.Ytnihohodcogpeaa
set_option linter.unusedSimpArgs false
set_option linter.unusedVariables false
set_option maxRecDepth 10000

/-- a section of a program in the machine: the tokens behind USE, and what head leaves of them -/
structure Us (fl : List Fi) where
  sec : ByteArray
  tx : D
  tr : List (List D)
  hT : SlD 5 tr tx
  y : D
  r : Tok
  rs : List Tok
  hY : SlD 5 (tokRows (r :: rs)) y
  hk : r.kind = 1
  hh : ∀ (d : Nat) (S : St), 4 ≤ d → runF LP NN d 21 [tx] S = some (.tup [y, .bool true], S, false)
  hlen : rs.length ≤ 900
  hm : modeW r.text ≠ 0 → rs = []
  hok : modeW r.text = 0 → ∀ t ∈ r :: rs, okTok fl t
def Us.row {fl : List Fi} (u : Us fl) : List D := [.str u.sec, u.tx, .nils]
def usRows {fl : List Fi} (l : List (Us fl)) : List (List D) := l.map Us.row
theorem usRows_len {fl : List Fi} (l : List (Us fl)) : (usRows l).length = l.length := by simp [usRows]
theorem usRows_at {fl : List Fi} {l : List (Us fl)} {i : Nat} (h : i < l.length) : (usRows l)[i]? = some [.str l[i].sec, l[i].tx, .nils] := by simp [usRows, h, Us.row]
theorem filesF_len {rl : List Ru} : ∀ {ts : List Tok} {o o' : List ByteArray}, filesF rl ts o = .inl o' → o'.length = o.length + ts.length
  | [], o, o', h => by simp only [filesF, Sum.inl.injEq] at h; subst h; simp
  | t :: ts, o, o', h => by
    simp only [filesF] at h
    split at h
    · simp at h
    · have := filesF_len h
      simp at this ⊢
      omega
/-- a rule, or a fault -/
structure RR where
  ru : Ru
  e : Int
  l : Int
  k : Int
def noRu : Ru := ⟨⟨#[]⟩, [], .nils, 0, .nil 1, by simp⟩
def ruleR {fl : List Fi} (rl : List Ru) (u : Us fl) : RR :=
  if modeW u.r.text ≠ 0 then
    (if (rl.any fun q => (q.mode : Int) == (modeW u.r.text : Int)) then ⟨noRu, 8, u.r.line, u.r.col⟩ else ⟨⟨u.sec, [], .nils, modeW u.r.text, .nil 1, by simp⟩, 0, 0, 0⟩)
  else match hf : filesF rl (u.r :: u.rs) [] with
    | .inl o => ⟨⟨u.sec, o, clipD (appY 1 (strRows o)), 0, (appY_S 1 (strRows o)).clip, by have := filesF_len hf; have := u.hlen; simp at this ⊢; simp_all; omega⟩, 0, 0, 0⟩
    | .inr t => ⟨noRu, 8, t.line, t.col⟩
def RR.d (x : RR) : D := .tup [.agg [.str x.ru.sec, x.ru.fd, .int .u8 x.ru.mode], .agg [.int .i64 x.e, .int .i64 x.l, .int .i64 x.k]]
theorem rule_run {d : Nat} (hd : 7 ≤ d) (S : St) {fx ux rx : D} {fl : List Fi} {rl : List Ru} {ur : List (List D)} (hX : SlD 12 (fiRows fl) fx) (hU : SlD 3 ur ux) (hR : SlD 3 (ruRows rl) rx) (hfl6 : fl.length ≤ 1000000) (hrl : rl.length ≤ 1000000) (u : Us fl) :
    runF LP NN d 14 [progD fx ux, rx, .agg [.str u.sec, u.tx, .nils]] S = some ((ruleR rl u).d, S, false) := by
  unfold ruleR
  by_cases hm : modeW u.r.text ≠ 0
  · rw [if_pos hm]
    cases hz : rl.any fun q => (q.mode : Int) == (modeW u.r.text : Int) with
    | true => rw [if_pos rfl, rule_dup hd S hX hU hR u.hT u.hY hfl6 hrl u.hk u.hh hm hz]; rfl
    | false => rw [if_neg (by simp), rule_ok hd S hX hU hR u.hT u.hY hfl6 hrl u.hk u.hh hm (u.hm hm) hz]; rfl
  · rw [if_neg hm]
    have hm0 : modeW u.r.text = 0 := Decidable.not_not.1 hm
    split
    · rename_i o hf
      rw [rule_fok hd S hX hU hR u.hT u.hY hfl6 hrl u.hk u.hh hm0 o u.hlen (u.hok hm0) hf]; rfl
    · rename_i t hf
      rw [rule_fdup hd S hX hU hR u.hT u.hY hfl6 hrl u.hk u.hh hm0 t u.hlen (u.hok hm0) hf]; rfl
/-- the rules of sections, or the first fault -/
def rulesF {fl : List Fi} : List (Us fl) → List Ru → List Ru ⊕ (Int × Int × Int)
  | [], o => .inl o
  | u :: us, o => if ((ruleR o u).e != 0) then .inr ((ruleR o u).e, (ruleR o u).l, (ruleR o u).k) else rulesF us (o ++ [(ruleR o u).ru])
def rulesD : List Ru ⊕ (Int × Int × Int) → D
  | .inl o => .tup [clipD (appY 3 (ruRows o)), .agg [.int .i64 0, .int .i64 0, .int .i64 0]]
  | .inr (e, l, k) => .tup [.nils, .agg [.int .i64 e, .int .i64 l, .int .i64 k]]
theorem ruRows_app (o : List Ru) (r : Ru) : ruRows (o ++ [r]) = ruRows o ++ [r.row] := by simp [ruRows]

theorem rules_run {d : Nat} (hd : 8 ≤ d) (S : St) {fx ux : D} {fl : List Fi} {ul : List (Us fl)} (hX : SlD 12 (fiRows fl) fx) (hU : SlD 3 (usRows ul) ux) (hfl6 : fl.length ≤ 1000000) (hul : ul.length ≤ 1000) :
    runF LP NN d 6 [progD fx ux] S = some (rulesD (rulesF ul []), S, false) := by
  unfold progD
  refine run_pure (F := F6) rfl (by simp only [LP, fnOf, snapVs, snaps, zs, Bool.false_eq_true, if_false, Option.map_some, List.map_cons, List.map_nil, hX.snap, hX.free, hU.snap, hU.free] <;> exact rfl) rfl (by simp only [LP, zf, List.all_cons, List.all_nil, Bool.and_true, Bool.true_and, hX.snap, hX.free, hU.snap, hU.free]; try rfl) (by simp only [F6, zv] <;> exact rfl) (by omega) ?_
  rintro d rfl
  refine cw_seq ?_
  refine cw_region ?_
  refine ow_op (by simp only [opd, zv, exOp, aop, LOp.loud, lop, rowsOf, newAt, setAt, zh, zm, zc, hX.isCell, hX.val, hU.isCell, hU.val, hU.len, usRows_len, Nat.zero_min] <;> exact rfl) ?_
  refine ow_op (by simp only [opd, zv, exOp, aop, LOp.loud, pop, zp, hX.isCell, hX.val, hU.isCell, hU.val, hU.len, usRows_len, Nat.zero_min] <;> exact rfl) ?_
  refine ow_op (by simp only [opd, zv, exOp, aop, LOp.loud, lop, rowsOf, newAt, setAt, zh, zm, hX.isCell, hX.val, hU.isCell, hU.val, hU.len, usRows_len, Nat.zero_min] <;> exact rfl) ?_
  refine ow_nil ?_
  refine sk_n (by simp only [exports, zn, zg] <;> exact rfl) ?_
  refine cw_seq ?_
  refine cw_region ?_
  refine ow_op (by simp only [opd, zv, exOp, aop, LOp.loud, pop, zp, hX.isCell, hX.val, hU.isCell, hU.val, hU.len, usRows_len, Nat.zero_min] <;> exact rfl) ?_
  refine ow_nil ?_
  refine sk_n (by simp only [exports, zn, zg] <;> exact rfl) ?_
  refine cw_seq ?_
  refine cw_seq ?_
  refine cw_region ?_
  refine ow_op (by simp only [opd, zv, exOp, aop, LOp.loud, pop, zp, faddrD_ptr, faddrD_cptr, zm, hX.isCell, hX.val, hU.isCell, hU.val, hU.len, usRows_len, Nat.zero_min] <;> exact rfl) ?_
  refine ow_op (by simp only [opd, zv, exOp, aop, LOp.loud, lop, rowsOf, newAt, setAt, zh, zm, loadD_cptr, loadD_ptr, partD, List.take, List.drop, hX.isCell, hX.val, hU.isCell, hU.val, hU.len, usRows_len, Nat.zero_min] <;> exact rfl) ?_
  refine ow_op (by simp only [opd, zv, exOp, aop, LOp.loud, pop, zp, lenD_str, lenD_nils, lenD_sl, lenD_msl, hX.isCell, hX.val, hU.isCell, hU.val, hU.len, usRows_len, Nat.zero_min] <;> exact rfl) ?_
  refine ow_op (by simp only [opd, zv, exOp, aop, LOp.loud, pop, zp, hX.isCell, hX.val, hU.isCell, hU.val, hU.len, usRows_len, Nat.zero_min] <;> exact rfl) ?_
  refine ow_nil ?_
  refine sk_n (by simp only [exports, zn, zg] <;> exact rfl) ?_
  refine cw_block ?_
  refine cw_loop (fun n env S' => ∃ (H : List AObj) (o : List Ru) (i : Nat) (ox u5 u6 u7 u11 u12 : D), H[0]? = some ⟨39, 9, [[.str ⟨#[]⟩, fx, .nils, .nils, .nils, .nils, .nils, ux, .nils]], 0, 0, false⟩ ∧ H[1]? = some ⟨29, 3, [[.int .i64 0, .int .i64 0, .int .i64 0]], 0, 0, false⟩ ∧ AppAt 47 3 (ruRows o) H ox ∧ i ≤ ul.length ∧ o.length = i ∧ rulesF (ul.drop i) o = rulesF ul [] ∧ n = ul.length - i ∧ S' = ⟨H, 0⟩ ∧ env = [.agg [.str ⟨#[]⟩, fx, .nils, .nils, .nils, .nils, .nils, ux, .nils], .ptr 0 0 0 0, .nils, .ptr 1 0 0 0, ox, u5, u6, u7, ux, .int .i64 ul.length, .int .i64 i, u11, u12]) (ul.length) (by omega) (⟨_, [], 0, _, _, _, _, _, _, rfl, rfl, AppAt.nil _ _ _, by omega, rfl, rfl, by omega, rfl, rfl⟩) ?_
  rintro n env S' ⟨H, o, i, ox, u5, u6, u7, u11, u12, h0, h1, hA, hi, ho, hF, rfl, rfl, rfl⟩
  refine cw_seq ?_
  refine cw_region ?_
  refine ow_op (by simp only [opd, zv, exOp, aop, LOp.loud, pop, zp, binD, eq_self, ne_eq, not_false_eq_true, true_and, Int.reduceEq, ite_true, ite_false, not_true_eq_false, Int.reduceToNat, Int.reduceLT, hX.isCell, hX.val, hU.isCell, hU.val, hU.len, usRows_len, Nat.zero_min, h0, h1] <;> exact rfl) ?_
  refine ow_nil ?_
  refine sk_n (by simp only [exports, zn, zg] <;> exact rfl) ?_
  refine cw_seq ?_
  refine cw_cond (by simp only [opd, zv, hX.isCell, hX.val, hU.isCell, hU.val, hU.len, usRows_len, Nat.zero_min, h0, h1] <;> exact rfl) (fun hcA => ?_) (fun hcA => ?_)
  · skip -- AT
    have hlt : i < ul.length := by have := of_decide_eq_true hcA; omega
    have hw := wrap_nat i (by omega)
    have hia := fun (S : St) => hU.iaddrN S .i64 (usRows_at hlt)
    have hTT := ul[i].hT
    have hfd := (ruleR o ul[i]).ru.hfd
    have hA1 := hA.push [⟨60, 3, [[.str ul[i].sec, ul[i].tx, .nils]], 0, 0, false⟩]
    have hA2 := hA.push [⟨60, 3, [[.str ul[i].sec, ul[i].tx, .nils]], 0, 0, false⟩, ⟨47, 3, [[.str (ruleR o ul[i]).ru.sec, (ruleR o ul[i]).ru.fd, .int .u8 (ruleR o ul[i]).ru.mode]], 0, 0, false⟩, ⟨29, 3, [[.int .i64 (ruleR o ul[i]).e, .int .i64 (ruleR o ul[i]).l, .int .i64 (ruleR o ul[i]).k]], 0, 0, false⟩]
    obtain ⟨ox', H', hap, hA', hlen', hkeep⟩ := hA2.app 48 (new := [(ruleR o ul[i]).ru.row]) (c := some 1) rfl (by rw [ruRows_len]; simp; omega)
    simp only [Ru.row] at hap
    have hk0 := hkeep 0 _ (get_app h0 _) (.inl rfl)
    have hk1 := hkeep 1 _ (get_app h1 _) (.inl rfl)
    have hst := fun (x : AObj) => get_set_self (get_app h1 [(⟨60, 3, [[.str ul[i].sec, ul[i].tx, .nils]], 0, 0, false⟩ : AObj), ⟨47, 3, [[.str (ruleR o ul[i]).ru.sec, (ruleR o ul[i]).ru.fd, .int .u8 (ruleR o ul[i]).ru.mode]], 0, 0, false⟩, ⟨29, 3, [[.int .i64 (ruleR o ul[i]).e, .int .i64 (ruleR o ul[i]).l, .int .i64 (ruleR o ul[i]).k]], 0, 0, false⟩]) x
    refine cw_skip ?_
    refine sk_n rfl ?_
    refine cw_seq ?_
    refine cw_block ?_
    refine cw_seq ?_
    refine cw_region ?_
    refine ow_op (by simp only [opd, zv, exOp, aop, LOp.loud, lop, rowsOf, newAt, setAt, zh, zm, iaddrD_sl, iaddrD_msl, Int.toNat_natCast, Int.toNat_zero, List.getElem?_map, Option.map_some, Int.le_refl, hX.isCell, hX.val, hU.isCell, hU.val, hU.len, usRows_len, Nat.zero_min, h0, h1, hw, hia, hTT.isCell, hTT.val, hTT.cells, hfd.isCell, hfd.val, hfd.cells, hfd.snap, hfd.free, RR.d, get_app h0, get_app h1, Nat.add_assoc, Nat.reduceAdd] <;> exact rfl) ?_
    refine ow_op (by simp only [opd, zv, exOp, aop, LOp.loud, lop, rowsOf, newAt, setAt, zh, zm, loadD_cptr, loadD_ptr, partD, List.take, List.drop, hX.isCell, hX.val, hU.isCell, hU.val, hU.len, usRows_len, Nat.zero_min, h0, h1, hw, hia, hTT.isCell, hTT.val, hTT.cells, hfd.isCell, hfd.val, hfd.cells, hfd.snap, hfd.free, RR.d, get_app h0, get_app h1, Nat.add_assoc, Nat.reduceAdd] <;> exact rfl) ?_
    refine ow_op (by simp only [opd, zv, exOp, aop, LOp.loud, lop, rowsOf, newAt, setAt, zh, zm, hX.isCell, hX.val, hU.isCell, hU.val, hU.len, usRows_len, Nat.zero_min, h0, h1, hw, hia, hTT.isCell, hTT.val, hTT.cells, hfd.isCell, hfd.val, hfd.cells, hfd.snap, hfd.free, RR.d, get_app h0, get_app h1, Nat.add_assoc, Nat.reduceAdd] <;> exact rfl) ?_
    refine ow_op (by simp only [opd, zv, exOp, aop, LOp.loud, lop, rowsOf, newAt, setAt, zh, zm, storeD, overlay, snapVs, snaps, zs, zc, zf, List.take, List.drop, hX.isCell, hX.val, hU.isCell, hU.val, hU.len, usRows_len, Nat.zero_min, h0, h1, hw, hia, hTT.isCell, hTT.val, hTT.cells, hfd.isCell, hfd.val, hfd.cells, hfd.snap, hfd.free, RR.d, get_app h0, get_app h1, Nat.add_assoc, Nat.reduceAdd] <;> exact rfl) ?_
    refine ow_nil ?_
    refine sk_n (by simp only [exports, zn, zg] <;> exact rfl) ?_
    refine cw_seq ?_
    refine cw_region ?_
    refine ow_op (by simp only [opd, zv, exOp, aop, LOp.loud, lop, rowsOf, newAt, setAt, zh, zm, loadD_cptr, loadD_ptr, partD, List.take, List.drop, hX.isCell, hX.val, hU.isCell, hU.val, hU.len, usRows_len, Nat.zero_min, h0, h1, hw, hia, hTT.isCell, hTT.val, hTT.cells, hfd.isCell, hfd.val, hfd.cells, hfd.snap, hfd.free, RR.d, get_app h0, get_app h1, Nat.add_assoc, Nat.reduceAdd] <;> exact rfl) ?_
    refine ow_op (by simp only [opd, zv, exOp, aop, LOp.loud, pop, zp, hX.isCell, hX.val, hU.isCell, hU.val, hU.len, usRows_len, Nat.zero_min, h0, h1, hw, hia, hTT.isCell, hTT.val, hTT.cells, hfd.isCell, hfd.val, hfd.cells, hfd.snap, hfd.free, RR.d, get_app h0, get_app h1, Nat.add_assoc, Nat.reduceAdd] <;> exact rfl) ?_
    refine ow_op (by simp only [opd, zv, exOp, aop, LOp.loud, lop, rowsOf, newAt, setAt, zh, zm, loadD_cptr, loadD_ptr, partD, List.take, List.drop, hX.isCell, hX.val, hU.isCell, hU.val, hU.len, usRows_len, Nat.zero_min, h0, h1, hw, hia, hTT.isCell, hTT.val, hTT.cells, hfd.isCell, hfd.val, hfd.cells, hfd.snap, hfd.free, RR.d, get_app h0, get_app h1, Nat.add_assoc, Nat.reduceAdd] <;> exact rfl) ?_
    refine ow_op (by simp only [exOp, opd, zv, hX.isCell, hX.val, hU.isCell, hU.val, hU.len, usRows_len, Nat.zero_min, h0, h1, hw, hia, hTT.isCell, hTT.val, hTT.cells, hfd.isCell, hfd.val, hfd.cells, hfd.snap, hfd.free, RR.d, get_app h0, get_app h1, Nat.add_assoc, Nat.reduceAdd]; exact (run_snap rfl (by simp only [snapVs, snapV_agg, snaps, snap_str, hX.snap, snap_nils, hU.snap, hA1.snapV, hTT.snap, Option.map_some] <;> exact rfl) (by simp only [snapVs, progD, snapV_agg, snaps, snap_str, hX.snap, snap_nils, hU.snap, (appY_S 3 (ruRows o)).snapV, hTT.snap, Option.map_some] <;> exact rfl)).trans (rule_run (by omega) _ hX hU (appY_S 3 (ruRows o)) hfl6 (by omega) ul[i])) ?_
    refine ow_op (by simp only [opd, zv, exOp, aop, LOp.loud, pop, zp, hX.isCell, hX.val, hU.isCell, hU.val, hU.len, usRows_len, Nat.zero_min, h0, h1, hw, hia, hTT.isCell, hTT.val, hTT.cells, hfd.isCell, hfd.val, hfd.cells, hfd.snap, hfd.free, RR.d, get_app h0, get_app h1, Nat.add_assoc, Nat.reduceAdd] <;> exact rfl) ?_
    refine ow_op (by simp only [opd, zv, exOp, aop, LOp.loud, pop, zp, List.getElem?_cons_zero, List.getElem?_cons_succ, hX.isCell, hX.val, hU.isCell, hU.val, hU.len, usRows_len, Nat.zero_min, h0, h1, hw, hia, hTT.isCell, hTT.val, hTT.cells, hfd.isCell, hfd.val, hfd.cells, hfd.snap, hfd.free, RR.d, get_app h0, get_app h1, Nat.add_assoc, Nat.reduceAdd] <;> exact rfl) ?_
    refine ow_op (by simp only [opd, zv, exOp, aop, LOp.loud, pop, zp, List.getElem?_cons_zero, List.getElem?_cons_succ, hX.isCell, hX.val, hU.isCell, hU.val, hU.len, usRows_len, Nat.zero_min, h0, h1, hw, hia, hTT.isCell, hTT.val, hTT.cells, hfd.isCell, hfd.val, hfd.cells, hfd.snap, hfd.free, RR.d, get_app h0, get_app h1, Nat.add_assoc, Nat.reduceAdd] <;> exact rfl) ?_
    refine ow_op (by simp only [opd, zv, exOp, aop, LOp.loud, lop, rowsOf, newAt, setAt, zh, zm, hX.isCell, hX.val, hU.isCell, hU.val, hU.len, usRows_len, Nat.zero_min, h0, h1, hw, hia, hTT.isCell, hTT.val, hTT.cells, hfd.isCell, hfd.val, hfd.cells, hfd.snap, hfd.free, RR.d, get_app h0, get_app h1, Nat.add_assoc, Nat.reduceAdd] <;> exact rfl) ?_
    refine ow_op (by simp only [opd, zv, exOp, aop, LOp.loud, lop, rowsOf, newAt, setAt, zh, zm, hX.isCell, hX.val, hU.isCell, hU.val, hU.len, usRows_len, Nat.zero_min, h0, h1, hw, hia, hTT.isCell, hTT.val, hTT.cells, hfd.isCell, hfd.val, hfd.cells, hfd.snap, hfd.free, RR.d, get_app h0, get_app h1, Nat.add_assoc, Nat.reduceAdd] <;> exact rfl) ?_
    refine ow_op (by simp only [opd, zv, exOp, aop, LOp.loud, lop, rowsOf, newAt, setAt, zh, zm, storeD, overlay, snapVs, snaps, zs, zc, zf, List.take, List.drop, hX.isCell, hX.val, hU.isCell, hU.val, hU.len, usRows_len, Nat.zero_min, h0, h1, hw, hia, hTT.isCell, hTT.val, hTT.cells, hfd.isCell, hfd.val, hfd.cells, hfd.snap, hfd.free, RR.d, get_app h0, get_app h1, Nat.add_assoc, Nat.reduceAdd] <;> exact rfl) ?_
    refine ow_op (by simp only [opd, zv, exOp, aop, LOp.loud, lop, rowsOf, newAt, setAt, zh, zm, storeD, overlay, snapVs, snaps, zs, zc, zf, List.take, List.drop, hX.isCell, hX.val, hU.isCell, hU.val, hU.len, usRows_len, Nat.zero_min, h0, h1, hw, hia, hTT.isCell, hTT.val, hTT.cells, hfd.isCell, hfd.val, hfd.cells, hfd.snap, hfd.free, RR.d, get_app h0, get_app h1, Nat.add_assoc, Nat.reduceAdd] <;> exact rfl) ?_
    refine ow_nil ?_
    refine sk_n (by simp only [exports, zn, zg] <;> exact rfl) ?_
    refine cw_seq ?_
    refine cw_seq ?_
    refine cw_region ?_
    refine ow_op (by simp only [opd, zv, exOp, aop, LOp.loud, pop, zp, faddrD_ptr, faddrD_cptr, zm, hX.isCell, hX.val, hU.isCell, hU.val, hU.len, usRows_len, Nat.zero_min, h0, h1, hw, hia, hTT.isCell, hTT.val, hTT.cells, hfd.isCell, hfd.val, hfd.cells, hfd.snap, hfd.free, RR.d, get_app h0, get_app h1, Nat.add_assoc, Nat.reduceAdd] <;> exact rfl) ?_
    refine ow_op (by simp only [opd, zv, exOp, aop, LOp.loud, lop, rowsOf, newAt, setAt, zh, zm, loadD_cptr, loadD_ptr, partD, List.take, List.drop, hX.isCell, hX.val, hU.isCell, hU.val, hU.len, usRows_len, Nat.zero_min, h0, h1, hw, hia, hTT.isCell, hTT.val, hTT.cells, hfd.isCell, hfd.val, hfd.cells, hfd.snap, hfd.free, RR.d, get_app h0, get_app h1, Nat.add_assoc, Nat.reduceAdd] <;> exact rfl) ?_
    refine ow_op (by simp only [opd, zv, exOp, aop, LOp.loud, pop, zp, binD, eq_self, ne_eq, not_false_eq_true, true_and, Int.reduceEq, ite_true, ite_false, not_true_eq_false, Int.reduceToNat, Int.reduceLT, hX.isCell, hX.val, hU.isCell, hU.val, hU.len, usRows_len, Nat.zero_min, h0, h1, hw, hia, hTT.isCell, hTT.val, hTT.cells, hfd.isCell, hfd.val, hfd.cells, hfd.snap, hfd.free, RR.d, get_app h0, get_app h1, Nat.add_assoc, Nat.reduceAdd] <;> exact rfl) ?_
    refine ow_nil ?_
    refine sk_n (by simp only [exports, zn, zg] <;> exact rfl) ?_
    refine cw_cond (by simp only [opd, zv, hX.isCell, hX.val, hU.isCell, hU.val, hU.len, usRows_len, Nat.zero_min, h0, h1, hw, hia, hTT.isCell, hTT.val, hTT.cells, hfd.isCell, hfd.val, hfd.cells, hfd.snap, hfd.free, RR.d, get_app h0, get_app h1, Nat.add_assoc, Nat.reduceAdd] <;> exact rfl) (fun hcAT => ?_) (fun hcAT => ?_)
    · skip -- ATT
      refine cw_seq ?_
      refine cw_drawn (by simp only [newsVals, List.length_nil, List.length_cons, List.range_succ, List.range_zero, List.nil_append, List.map_nil, List.reverse_nil, List.cons_append, List.map_cons, List.reverse_cons, Nat.zero_add, Nat.add_zero, Nat.reduceAdd] <;> exact rfl) (by simp only [List.map_nil, List.map_cons, newsObj, St.eta, List.append_nil, List.cons_append, List.nil_append, List.length_cons, List.length_nil] <;> exact rfl) ?_
      refine dw_op (by simp only [opd, zv, exOp, aop, LOp.loud, lop, rowsOf, newAt, setAt, zh, zm, loadD_cptr, loadD_ptr, partD, List.take, List.drop, hX.isCell, hX.val, hU.isCell, hU.val, hU.len, usRows_len, Nat.zero_min, h0, h1, hw, hia, hTT.isCell, hTT.val, hTT.cells, hfd.isCell, hfd.val, hfd.cells, hfd.snap, hfd.free, RR.d, get_app h0, get_app h1, Nat.add_assoc, Nat.reduceAdd] <;> exact rfl) (by simp only [fpHere, opd, List.map_cons, List.map_nil, List.getD_cons_zero, List.getD_cons_succ, zq] <;> exact rfl) rfl ?_
      refine dw_quiet (by simp only [opd, zv, exOp, aop, LOp.loud, pop, zp, hX.isCell, hX.val, hU.isCell, hU.val, hU.len, usRows_len, Nat.zero_min, h0, h1, hw, hia, hTT.isCell, hTT.val, hTT.cells, hfd.isCell, hfd.val, hfd.cells, hfd.snap, hfd.free, RR.d, get_app h0, get_app h1, Nat.add_assoc, Nat.reduceAdd] <;> exact rfl) rfl rfl ?_
      refine dw_op (by simp only [opd, zv, exOp, aop, LOp.loud, lop, rowsOf, newAt, setAt, zh, zm, storeD, overlay, snapVs, snaps, zs, zc, zf, List.take, List.drop, hX.isCell, hX.val, hU.isCell, hU.val, hU.len, usRows_len, Nat.zero_min, h0, h1, hw, hia, hTT.isCell, hTT.val, hTT.cells, hfd.isCell, hfd.val, hfd.cells, hfd.snap, hfd.free, RR.d, get_app h0, get_app h1, Nat.add_assoc, Nat.reduceAdd] <;> exact rfl) (by simp only [fpHere, opd, List.map_cons, List.map_nil, List.getD_cons_zero, List.getD_cons_succ, zq] <;> exact rfl) rfl ?_
      refine dw_nil ?_
      refine sk_n (by simp only [exports, zn, zg] <;> exact rfl) ?_
      refine cw_ret ?_
      refine sk_r ?_
      refine bk_r ?_
      refine sk_r ?_
      refine lk_r ?_
      refine bk_r ?_
      refine sk_r ?_
      refine ⟨_, by simp only [F6, resultD, resDs, resD, List.getD_cons_zero, List.getD_cons_succ, loadD_cptr, loadD_ptr, rowsOf, partD, List.getElem?_cons_zero, List.getElem?_cons_succ, if_true, if_false, Bool.false_eq_true, List.take, List.drop, zm, hst] <;> exact rfl, ?_⟩
      rw [← hF, List.drop_eq_getElem_cons hlt, rulesF, if_pos hcAT]
      simp only [leaveP, leave, snapVs, snaps, zs, zf, Option.map_some, List.all_cons, List.all_nil, Bool.and_self, Bool.and_true, if_true, if_false, Bool.false_eq_true, List.length_nil, Nat.le_refl, Nat.zero_le]
      rfl
    · skip -- ATF
      refine cw_skip ?_
      refine sk_n rfl ?_
      refine cw_region ?_
      refine ow_op (by simp only [opd, zv, exOp, aop, LOp.loud, pop, zp, hX.isCell, hX.val, hU.isCell, hU.val, hU.len, usRows_len, Nat.zero_min, h0, h1, hw, hia, hTT.isCell, hTT.val, hTT.cells, hfd.isCell, hfd.val, hfd.cells, hfd.snap, hfd.free, RR.d, get_app h0, get_app h1, Nat.add_assoc, Nat.reduceAdd] <;> exact rfl) ?_
      refine ow_op (by simp only [opd, zv, exOp, aop, LOp.loud, lop, rowsOf, newAt, setAt, zh, zm, loadD_cptr, loadD_ptr, partD, List.take, List.drop, hX.isCell, hX.val, hU.isCell, hU.val, hU.len, usRows_len, Nat.zero_min, h0, h1, hw, hia, hTT.isCell, hTT.val, hTT.cells, hfd.isCell, hfd.val, hfd.cells, hfd.snap, hfd.free, RR.d, get_app h0, get_app h1, Nat.add_assoc, Nat.reduceAdd] <;> exact rfl) ?_
      refine ow_op (by simp only [opd, zv, exOp, aop, LOp.loud, lop, rowsOf, newAt, setAt, zh, zm, fillRows, List.replicate, snapVs, snaps, zs, zc, zf, hX.isCell, hX.val, hU.isCell, hU.val, hU.len, usRows_len, Nat.zero_min, h0, h1, hw, hia, hTT.isCell, hTT.val, hTT.cells, hfd.isCell, hfd.val, hfd.cells, hfd.snap, hfd.free, RR.d, get_app h0, get_app h1, Nat.add_assoc, Nat.reduceAdd] <;> exact rfl) ?_
      refine ow_op (by simp only [opd, zv, exOp, aop, LOp.loud, lop, if_true]; exact hap) ?_
      refine ow_op (by simp only [opd, zv, exOp, aop, LOp.loud, pop, zp, hX.isCell, hX.val, hU.isCell, hU.val, hU.len, usRows_len, Nat.zero_min, h0, h1, hw, hia, hTT.isCell, hTT.val, hTT.cells, hfd.isCell, hfd.val, hfd.cells, hfd.snap, hfd.free, RR.d, get_app h0, get_app h1, Nat.add_assoc, Nat.reduceAdd] <;> exact rfl) ?_
      refine ow_nil ?_
      refine bk_n ?_
      refine sk_n (by simp only [exports, zn, zg] <;> exact rfl) ?_
      refine cw_region ?_
      refine ow_op (by simp only [opd, zv, exOp, aop, LOp.loud, pop, zp, binD, eq_self, ne_eq, not_false_eq_true, true_and, Int.reduceEq, ite_true, ite_false, not_true_eq_false, Int.reduceToNat, Int.reduceLT, hX.isCell, hX.val, hU.isCell, hU.val, hU.len, usRows_len, Nat.zero_min, h0, h1, hw, hia, hTT.isCell, hTT.val, hTT.cells, hfd.isCell, hfd.val, hfd.cells, hfd.snap, hfd.free, RR.d, get_app h0, get_app h1, Nat.add_assoc, Nat.reduceAdd] <;> exact rfl) ?_
      refine ow_op (by simp only [opd, zv, exOp, aop, LOp.loud, pop, zp, hX.isCell, hX.val, hU.isCell, hU.val, hU.len, usRows_len, Nat.zero_min, h0, h1, hw, hia, hTT.isCell, hTT.val, hTT.cells, hfd.isCell, hfd.val, hfd.cells, hfd.snap, hfd.free, RR.d, get_app h0, get_app h1, Nat.add_assoc, Nat.reduceAdd] <;> exact rfl) ?_
      refine ow_nil ?_
      refine lk_n (by simp only [exports, zn, zg] <;> exact rfl) ?_
      exact ⟨ul.length - (i + 1), by omega, H', o ++ [(ruleR o ul[i]).ru], i + 1, ox', _, _, _, _, _, hk0, hk1, by rw [ruRows_app]; exact hA', by omega, by simp; omega, by rw [← hF, List.drop_eq_getElem_cons hlt, rulesF, if_neg (by simp [hcAT])], rfl, rfl, rfl⟩
  · skip -- AF
    obtain rfl : i = ul.length := by have := of_decide_eq_false hcA; omega
    refine cw_exit ?_
    refine sk_e ?_
    refine lk_e ?_
    refine bk_e ?_
    refine sk_n rfl ?_
    refine cw_seq ?_
    refine cw_region ?_
    refine ow_op (by simp only [opd, zv, exOp, aop, LOp.loud, pop, zp, hX.isCell, hX.val, hU.isCell, hU.val, hU.len, usRows_len, Nat.zero_min, h0, h1, get_set_self h1] <;> exact rfl) ?_
    refine ow_op (by simp only [exOp, opd, zv, hX.isCell, hX.val, hU.isCell, hU.val, hU.len, usRows_len, Nat.zero_min, h0, h1, get_set_self h1]; exact (run_snap rfl (by simp only [snapVs, hA.snapV] <;> exact rfl) (by simp only [snapVs, (appY_S 3 (ruRows o)).snapV] <;> exact rfl)).trans (clip3_run (by omega) _ (appY_S 3 (ruRows o)))) ?_
    refine ow_op (by simp only [opd, zv, exOp, aop, LOp.loud, pop, zp, fillD, overlay, zc, List.take, List.drop, Nat.reduceAdd, Nat.reduceLeDiff, Nat.reduceBEq, zm, hX.isCell, hX.val, hU.isCell, hU.val, hU.len, usRows_len, Nat.zero_min, h0, h1, get_set_self h1] <;> exact rfl) ?_
    refine ow_op (by simp only [opd, zv, exOp, aop, LOp.loud, pop, zp, hX.isCell, hX.val, hU.isCell, hU.val, hU.len, usRows_len, Nat.zero_min, h0, h1, get_set_self h1] <;> exact rfl) ?_
    refine ow_op (by simp only [opd, zv, exOp, aop, LOp.loud, lop, rowsOf, newAt, setAt, zh, zm, storeD, overlay, snapVs, snaps, zs, zc, zf, List.take, List.drop, hX.isCell, hX.val, hU.isCell, hU.val, hU.len, usRows_len, Nat.zero_min, h0, h1, get_set_self h1] <;> exact rfl) ?_
    refine ow_nil ?_
    refine sk_n (by simp only [exports, zn, zg] <;> exact rfl) ?_
    refine cw_ret ?_
    refine ⟨_, by simp only [F6, resultD, resDs, resD, List.getD_cons_zero, List.getD_cons_succ, loadD_cptr, loadD_ptr, rowsOf, partD, List.getElem?_cons_zero, List.getElem?_cons_succ, if_true, if_false, Bool.false_eq_true, List.take, List.drop, zm, get_set_self h1] <;> exact rfl, ?_⟩
    rw [← hF, List.drop_length, rulesF]
    simp only [leaveP, leave, snapVs, snaps, zs, zf, Option.map_some, List.all_cons, List.all_nil, Bool.and_self, Bool.and_true, if_true, if_false, Bool.false_eq_true, List.length_nil, Nat.le_refl, Nat.zero_le, (appY_S 3 (ruRows o)).clip.snapV, (appY_S 3 (ruRows o)).clip.freeV, (appY_S 3 (ruRows o)).clip.snap, (appY_S 3 (ruRows o)).clip.free, (appY_S 3 (ruRows o)).clip.snapR, (appY_S 3 (ruRows o)).clip.freeR]
    rfl

end Go.Proofs.Ytnihohodcogpeaa

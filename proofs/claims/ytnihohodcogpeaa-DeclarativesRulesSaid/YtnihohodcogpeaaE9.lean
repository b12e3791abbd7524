/- Proved here: what the functions of package declaratives and of the law compute, in the abstract machine; no condition. -/
import Derived.Test.YtnihohodcogpeaaE8
import Derived.Test.YtnihohodcogpeaaLoZ
namespace Go.Proofs.Ytnihohodcogpeaa
set_option linter.unusedSimpArgs false
set_option linter.unusedVariables false
set_option maxRecDepth 10000

theorem wrap_id (z : Int) (h1 : -1000000000 < z) (h2 : z < 1000000000) : IntKind.i64.wrap z = z := by rw [IntKind.wrap_i64]; omega
/-- where a section has a file or a mode of an earlier one: the column -/
def pB (u v : Uu) : Bool := decide ((modeF u.f u.m : Int) > 0) && ((modeF v.f v.m : Int) == (modeF u.f u.m : Int))
def pD (nm : ByteArray) (v : Uu) : Bool := (namesF v.f).any fun x => x.toList == nm.toList
def twiceAt (pre : List Uu) (u : Uu) : Option Int :=
  if pre.any (pB u) then some (textF u).length else
  match (namesF u.f).findIdx? (fun nm => pre.any (pD nm)) with
  | some n => some ((textF u).length - (namesF u.f).length + n + 1)
  | none => none
def twAt (l : List Uu) (i : Nat) : Option (Nat × Int) := (l[i]?).bind fun u => (twiceAt (l.take i) u).map fun c => (i, c)
def firstDup (l : List Uu) : Option (Nat × Int) := (List.range l.length).findSome? (twAt l)
def twD : Option (Nat × Int) → List D
  | none => [.int .i64 0, .int .i64 0, .int .i64 0]
  | some (i, c) => [.int .i64 8, .int .i64 ((i + 1 : Nat) : Int), .int .i64 c]
theorem find_range {α : Type} {f : Nat → Option α} {n i : Nat} {y : α} (hi : i < n) (h : f i = some y) (hb : ∀ j, j < i → f j = none) : (List.range n).findSome? f = some y := by
  rw [List.findSome?_eq_some_iff]
  refine ⟨List.range i, i, (List.range' (i + 1) (n - (i + 1))), ?_, h, fun j hj => hb j (by simpa using hj)⟩
  rw [List.range_eq_range', List.range_eq_range']
  have : n = i + (1 + (n - (i + 1))) := by omega
  conv => lhs; rw [this]
  rw [← List.range'_append_1, ← List.range'_append_1]
  simp [List.range'_succ]
theorem find_none {α : Type} {f : Nat → Option α} {n : Nat} (hb : ∀ j, j < n → f j = none) : (List.range n).findSome? f = none := by
  rw [List.findSome?_eq_none_iff]
  intro j hj
  exact hb j (by simpa using hj)
theorem findIdx_at {α : Type} {p : α → Bool} {l : List α} {i : Nat} (hi : i < l.length) (hp : p l[i] = true) (hb : (l.take i).any p = false) : l.findIdx? p = some i := by
  rw [List.findIdx?_eq_some_iff_getElem]
  refine ⟨hi, hp, fun j hj => ?_⟩
  have := List.any_eq_false.1 hb l[j] (by
    rw [List.mem_take_iff_getElem]
    exact ⟨j, by omega, rfl⟩)
  simpa using this
theorem findIdx_no {α : Type} {p : α → Bool} {l : List α} (h : l.any p = false) : l.findIdx? p = none := by
  rw [List.findIdx?_eq_none_iff]
  intro x hx
  have := List.any_eq_false.1 h x hx
  simpa using this
theorem any_hit {α : Type} {p : α → Bool} {l : List α} {k i : Nat} (hk : k < l.length) (hki : k < i) (hp : p l[k] = true) : (l.take i).any p = true :=
  List.any_eq_true.2 ⟨l[k], by rw [List.mem_take_iff_getElem]; exact ⟨k, by omega, rfl⟩, hp⟩

theorem twice_run {d : Nat} (hd : 4 ≤ d) (S : St) {x : D} {l : List Uu} (hS : SlD 3 (uRows l) x) (hl : l.length ≤ 6) :
    runF LP NN d 8 [x] S = some (.agg (twD (firstDup l)), S, false) := by
  refine run_pure (F := F8) rfl (by simp only [LP, fnOf, snapVs, snaps, zs, Bool.false_eq_true, if_false, Option.map_some, List.map_cons, List.map_nil, hS.snapV, hS.freeV] <;> exact rfl) rfl (by simp only [LP, zf, List.all_cons, List.all_nil, Bool.and_true, Bool.true_and, hS.snapV, hS.freeV]; try rfl) (by simp only [F8, zv] <;> exact rfl) (by omega) ?_
  rintro d rfl
  refine cw_seq ?_
  refine cw_region ?_
  refine ow_op (by simp only [opd, zv, exOp, aop, LOp.loud, lop, rowsOf, newAt, setAt, zh, zm, hS.len, uRows_len, strRows_len, Nat.zero_min] <;> exact rfl) ?_
  refine ow_nil ?_
  refine sk_n (by simp only [exports, zn, zg] <;> exact rfl) ?_
  refine cw_seq ?_
  refine cw_seq ?_
  refine cw_region ?_
  refine ow_op (by simp only [opd, zv, exOp, aop, LOp.loud, pop, zp, hS.len, uRows_len, strRows_len, Nat.zero_min] <;> exact rfl) ?_
  refine ow_nil ?_
  refine sk_n (by simp only [exports, zn, zg] <;> exact rfl) ?_
  refine cw_block ?_
  refine cw_loop (fun n env S' => ∃ (i : Nat) (u3 u4 u5 u6 u7 u8 u9 u10 u11 u12 u13 : D), i ≤ l.length ∧ n = l.length - i ∧ (∀ j, j < i → twAt l j = none) ∧ S' = ⟨[⟨29, 3, [[.int .i64 0, .int .i64 0, .int .i64 0]], 0, 0, false⟩], 0⟩ ∧ env = [x, .ptr 0 0 0 0, .int .i64 i, u3, u4, u5, u6, u7, u8, u9, u10, u11, u12, u13]) (l.length) (by omega) (⟨0, _, _, _, _, _, _, _, _, _, _, _, by omega, by omega, by intro j hj; omega, rfl, rfl⟩) ?_
  rintro n env S' ⟨i, u3, u4, u5, u6, u7, u8, u9, u10, u11, u12, u13, hi, rfl, hno, rfl, rfl⟩
  refine cw_seq ?_
  refine cw_seq ?_
  refine cw_region ?_
  refine ow_op (by simp only [opd, zv, exOp, aop, LOp.loud, pop, zp, hS.len, uRows_len, strRows_len, Nat.zero_min] <;> exact rfl) ?_
  refine ow_op (by simp only [opd, zv, exOp, aop, LOp.loud, pop, zp, hS.len, uRows_len, strRows_len, Nat.zero_min] <;> exact rfl) ?_
  refine ow_op (by simp only [opd, zv, exOp, aop, LOp.loud, pop, zp, lenD_str, lenD_nils, lenD_sl, lenD_msl, hS.len, uRows_len, strRows_len, Nat.zero_min] <;> exact rfl) ?_
  refine ow_op (by simp only [opd, zv, exOp, aop, LOp.loud, pop, zp, binD, eq_self, ne_eq, not_false_eq_true, true_and, Int.reduceEq, ite_true, ite_false, not_true_eq_false, Int.reduceToNat, Int.reduceLT, hS.len, uRows_len, strRows_len, Nat.zero_min] <;> exact rfl) ?_
  refine ow_nil ?_
  refine sk_n (by simp only [exports, zn, zg] <;> exact rfl) ?_
  refine cw_cond (by simp only [opd, zv, hS.len, uRows_len, strRows_len, Nat.zero_min] <;> exact rfl) (fun hcA => ?_) (fun hcA => ?_)
  · skip -- AT
    have hlt : i < l.length := by have := of_decide_eq_true hcA; omega
    have hw := wrap_nat i (by omega)
    have hia := fun (S : St) => hS.iaddrN S .i64 (uRows_at hlt)
    have hfew := names_few l[i].f
    have htf := text_few l[i]
    have hNi := strsD_S (namesF l[i].f)
    refine cw_skip ?_
    refine sk_n rfl ?_
    refine cw_seq ?_
    refine cw_block ?_
    refine cw_seq ?_
    refine cw_region ?_
    refine ow_op (by simp only [opd, zv, exOp, aop, LOp.loud, pop, zp, hS.len, uRows_len, strRows_len, Nat.zero_min, hw, hia, hNi.len] <;> exact rfl) ?_
    refine ow_op (by simp only [opd, zv, exOp, aop, LOp.loud, pop, zp, hS.len, uRows_len, strRows_len, Nat.zero_min, hw, hia, hNi.len] <;> exact rfl) ?_
    refine ow_op (by simp only [opd, zv, exOp, aop, LOp.loud, lop, rowsOf, newAt, setAt, zh, zm, iaddrD_sl, iaddrD_msl, Int.toNat_natCast, Int.toNat_zero, List.getElem?_map, Option.map_some, Int.le_refl, hS.len, uRows_len, strRows_len, Nat.zero_min, hw, hia, hNi.len] <;> exact rfl) ?_
    refine ow_op (by simp only [opd, zv, exOp, aop, LOp.loud, lop, rowsOf, newAt, setAt, zh, zm, loadD_cptr, loadD_ptr, partD, List.take, List.drop, hS.len, uRows_len, strRows_len, Nat.zero_min, hw, hia, hNi.len] <;> exact rfl) ?_
    refine ow_op (by simp only [exOp, opd, zv, hS.len, uRows_len, strRows_len, Nat.zero_min, hw, hia, hNi.len]; exact text_run (by omega) _ l[i]) ?_
    refine ow_op (by simp only [opd, zv, exOp, aop, LOp.loud, pop, zp, hS.len, uRows_len, strRows_len, Nat.zero_min, hw, hia, hNi.len] <;> exact rfl) ?_
    refine ow_nil ?_
    refine sk_n (by simp only [exports, zn, zg] <;> exact rfl) ?_
    refine cw_seq ?_
    refine cw_region ?_
    refine ow_op (by simp only [opd, zv, exOp, aop, LOp.loud, pop, zp, hS.len, uRows_len, strRows_len, Nat.zero_min, hw, hia, hNi.len] <;> exact rfl) ?_
    refine ow_op (by simp only [opd, zv, exOp, aop, LOp.loud, pop, zp, hS.len, uRows_len, strRows_len, Nat.zero_min, hw, hia, hNi.len] <;> exact rfl) ?_
    refine ow_op (by simp only [opd, zv, exOp, aop, LOp.loud, lop, rowsOf, newAt, setAt, zh, zm, iaddrD_sl, iaddrD_msl, Int.toNat_natCast, Int.toNat_zero, List.getElem?_map, Option.map_some, Int.le_refl, hS.len, uRows_len, strRows_len, Nat.zero_min, hw, hia, hNi.len] <;> exact rfl) ?_
    refine ow_op (by simp only [opd, zv, exOp, aop, LOp.loud, lop, rowsOf, newAt, setAt, zh, zm, loadD_cptr, loadD_ptr, partD, List.take, List.drop, hS.len, uRows_len, strRows_len, Nat.zero_min, hw, hia, hNi.len] <;> exact rfl) ?_
    refine ow_op (by simp only [exOp, opd, zv, hS.len, uRows_len, strRows_len, Nat.zero_min, hw, hia, hNi.len]; exact names_run (by omega) _ _ _ _ l[i].hf) ?_
    refine ow_op (by simp only [opd, zv, exOp, aop, LOp.loud, pop, zp, lenD_str, lenD_nils, lenD_sl, lenD_msl, hS.len, uRows_len, strRows_len, Nat.zero_min, hw, hia, hNi.len] <;> exact rfl) ?_
    refine ow_op (by simp only [opd, zv, exOp, aop, LOp.loud, pop, zp, hS.len, uRows_len, strRows_len, Nat.zero_min, hw, hia, hNi.len] <;> exact rfl) ?_
    refine ow_nil ?_
    refine sk_n (by simp only [exports, zn, zg] <;> exact rfl) ?_
    refine cw_seq ?_
    refine cw_seq ?_
    refine cw_region ?_
    refine ow_op (by simp only [opd, zv, exOp, aop, LOp.loud, pop, zp, hS.len, uRows_len, strRows_len, Nat.zero_min, hw, hia, hNi.len] <;> exact rfl) ?_
    refine ow_nil ?_
    refine sk_n (by simp only [exports, zn, zg] <;> exact rfl) ?_
    refine cw_block ?_
    refine cw_loop (fun n env S' => ∃ (k : Nat) (v6 v7 v8 v9 v10 v11 v12 v13 : D), k ≤ i ∧ n = i - k ∧ ((l.take k).any (pB l[i])) = false ∧ S' = ⟨[⟨29, 3, [[.int .i64 0, .int .i64 0, .int .i64 0]], 0, 0, false⟩], 0⟩ ∧ env = [x, .ptr 0 0 0 0, .int .i64 i, .sl 1 (strRows (textF l[i])) none, .int .i64 (namesF l[i].f).length, .int .i64 k, v6, v7, v8, v9, v10, v11, v12, v13]) (i) (by omega) (⟨0, _, _, _, _, _, _, _, _, by omega, by omega, by simp, rfl, rfl⟩) ?_
    rintro n env S' ⟨k, v6, v7, v8, v9, v10, v11, v12, v13, hk, rfl, hany, rfl, rfl⟩
    refine cw_seq ?_
    refine cw_seq ?_
    refine cw_region ?_
    refine ow_op (by simp only [opd, zv, exOp, aop, LOp.loud, pop, zp, hS.len, uRows_len, strRows_len, Nat.zero_min, hw, hia, hNi.len] <;> exact rfl) ?_
    refine ow_op (by simp only [opd, zv, exOp, aop, LOp.loud, pop, zp, hS.len, uRows_len, strRows_len, Nat.zero_min, hw, hia, hNi.len] <;> exact rfl) ?_
    refine ow_op (by simp only [opd, zv, exOp, aop, LOp.loud, pop, zp, binD, eq_self, ne_eq, not_false_eq_true, true_and, Int.reduceEq, ite_true, ite_false, not_true_eq_false, Int.reduceToNat, Int.reduceLT, hS.len, uRows_len, strRows_len, Nat.zero_min, hw, hia, hNi.len] <;> exact rfl) ?_
    refine ow_nil ?_
    refine sk_n (by simp only [exports, zn, zg] <;> exact rfl) ?_
    refine cw_cond (by simp only [opd, zv, hS.len, uRows_len, strRows_len, Nat.zero_min, hw, hia, hNi.len] <;> exact rfl) (fun hcATB => ?_) (fun hcATB => ?_)
    · skip -- ATBT
      have hki : k < i := by have := of_decide_eq_true hcATB; omega
      have hkl : k < l.length := by omega
      have hwk := wrap_nat k (by omega)
      have hik := fun (S : St) => hS.iaddrN S .i64 (uRows_at hkl)
      refine cw_skip ?_
      refine sk_n rfl ?_
      refine cw_seq ?_
      refine cw_block ?_
      refine cw_seq ?_
      refine cw_drawn (by simp only [newsVals, List.length_nil, List.length_cons, List.range_succ, List.range_zero, List.nil_append, List.map_nil, List.reverse_nil, List.cons_append, List.map_cons, List.reverse_cons, Nat.zero_add, Nat.add_zero, Nat.reduceAdd] <;> exact rfl) (by simp only [List.map_nil, List.map_cons, newsObj, St.eta, List.append_nil, List.cons_append, List.nil_append, List.length_cons, List.length_nil] <;> exact rfl) ?_
      refine dw_quiet (by simp only [opd, zv, exOp, aop, LOp.loud, pop, zp, hS.len, uRows_len, strRows_len, Nat.zero_min, hw, hia, hNi.len, hwk, hik] <;> exact rfl) rfl rfl ?_
      refine dw_quiet (by simp only [opd, zv, exOp, aop, LOp.loud, pop, zp, hS.len, uRows_len, strRows_len, Nat.zero_min, hw, hia, hNi.len, hwk, hik] <;> exact rfl) rfl rfl ?_
      refine dw_op (by simp only [opd, zv, exOp, aop, LOp.loud, lop, rowsOf, newAt, setAt, zh, zm, iaddrD_sl, iaddrD_msl, Int.toNat_natCast, Int.toNat_zero, List.getElem?_map, Option.map_some, Int.le_refl, hS.len, uRows_len, strRows_len, Nat.zero_min, hw, hia, hNi.len, hwk, hik] <;> exact rfl) (by simp only [fpHere, opd, List.map_cons, List.map_nil, List.getD_cons_zero, List.getD_cons_succ, zq, hS.fpi, (strsD_S _).fpi] <;> exact rfl) rfl ?_
      refine dw_op (by simp only [opd, zv, exOp, aop, LOp.loud, lop, rowsOf, newAt, setAt, zh, zm, loadD_cptr, loadD_ptr, partD, List.take, List.drop, hS.len, uRows_len, strRows_len, Nat.zero_min, hw, hia, hNi.len, hwk, hik] <;> exact rfl) (by simp only [fpHere, opd, List.map_cons, List.map_nil, List.getD_cons_zero, List.getD_cons_succ, zq, hS.fpi, (strsD_S _).fpi] <;> exact rfl) rfl ?_
      first
        | refine dw_op (by simp only [exOp, opd, zv, hS.len, uRows_len, strRows_len, Nat.zero_min, hw, hia, hNi.len, hwk, hik]; exact mode_run (by omega) _ _ _ _ l[i].hf) (by simp only [fpHere, opd, List.map_cons, List.map_nil, List.getD_cons_zero, List.getD_cons_succ, zq, hS.fpi, (strsD_S _).fpi] <;> exact rfl) rfl ?_
        | refine dw_op (by simp only [exOp, opd, zv, hS.len, uRows_len, strRows_len, Nat.zero_min, hw, hia, hNi.len, hwk, hik]; exact mode_run (by omega) _ _ _ _ l[k].hf) (by simp only [fpHere, opd, List.map_cons, List.map_nil, List.getD_cons_zero, List.getD_cons_succ, zq, hS.fpi, (strsD_S _).fpi] <;> exact rfl) rfl ?_
      refine dw_quiet (by simp only [opd, zv, exOp, aop, LOp.loud, pop, zp, binD, eq_self, ne_eq, not_false_eq_true, true_and, Int.reduceEq, ite_true, ite_false, not_true_eq_false, Int.reduceToNat, Int.reduceLT, hS.len, uRows_len, strRows_len, Nat.zero_min, hw, hia, hNi.len, hwk, hik] <;> exact rfl) rfl rfl ?_
      refine dw_quiet (by simp only [opd, zv, exOp, aop, LOp.loud, pop, zp, hS.len, uRows_len, strRows_len, Nat.zero_min, hw, hia, hNi.len, hwk, hik] <;> exact rfl) rfl rfl ?_
      refine dw_split 0 (by simp only [opd, zv] <;> exact rfl) (by simp only [zn] <;> exact rfl) (by simp only [zn] <;> exact rfl) (fun hgATBT => ?_) (fun hgATBT => ?_)
      · skip -- ATBTT
        refine dw_on (by simp only [opd, zv]) ?_
        refine dw_quiet (by simp only [opd, zv, exOp, aop, LOp.loud, pop, zp, hS.len, uRows_len, strRows_len, Nat.zero_min, hw, hia, hNi.len, hwk, hik] <;> exact rfl) rfl rfl ?_
        refine dw_on (by simp only [opd, zv]) ?_
        refine dw_quiet (by simp only [opd, zv, exOp, aop, LOp.loud, pop, zp, hS.len, uRows_len, strRows_len, Nat.zero_min, hw, hia, hNi.len, hwk, hik] <;> exact rfl) rfl rfl ?_
        refine dw_on (by simp only [opd, zv]) ?_
        refine dw_op (by simp only [opd, zv, exOp, aop, LOp.loud, lop, rowsOf, newAt, setAt, zh, zm, iaddrD_sl, iaddrD_msl, Int.toNat_natCast, Int.toNat_zero, List.getElem?_map, Option.map_some, Int.le_refl, hS.len, uRows_len, strRows_len, Nat.zero_min, hw, hia, hNi.len, hwk, hik] <;> exact rfl) (by simp only [fpHere, opd, List.map_cons, List.map_nil, List.getD_cons_zero, List.getD_cons_succ, zq, hS.fpi, (strsD_S _).fpi] <;> exact rfl) rfl ?_
        refine dw_on (by simp only [opd, zv]) ?_
        refine dw_op (by simp only [opd, zv, exOp, aop, LOp.loud, lop, rowsOf, newAt, setAt, zh, zm, loadD_cptr, loadD_ptr, partD, List.take, List.drop, hS.len, uRows_len, strRows_len, Nat.zero_min, hw, hia, hNi.len, hwk, hik] <;> exact rfl) (by simp only [fpHere, opd, List.map_cons, List.map_nil, List.getD_cons_zero, List.getD_cons_succ, zq, hS.fpi, (strsD_S _).fpi] <;> exact rfl) rfl ?_
        refine dw_on (by simp only [opd, zv]) ?_
        first
          | refine dw_op (by simp only [exOp, opd, zv, hS.len, uRows_len, strRows_len, Nat.zero_min, hw, hia, hNi.len, hwk, hik]; exact mode_run (by omega) _ _ _ _ l[i].hf) (by simp only [fpHere, opd, List.map_cons, List.map_nil, List.getD_cons_zero, List.getD_cons_succ, zq, hS.fpi, (strsD_S _).fpi] <;> exact rfl) rfl ?_
          | refine dw_op (by simp only [exOp, opd, zv, hS.len, uRows_len, strRows_len, Nat.zero_min, hw, hia, hNi.len, hwk, hik]; exact mode_run (by omega) _ _ _ _ l[k].hf) (by simp only [fpHere, opd, List.map_cons, List.map_nil, List.getD_cons_zero, List.getD_cons_succ, zq, hS.fpi, (strsD_S _).fpi] <;> exact rfl) rfl ?_
        refine dw_on (by simp only [opd, zv]) ?_
        refine dw_quiet (by simp only [opd, zv, exOp, aop, LOp.loud, pop, zp, hS.len, uRows_len, strRows_len, Nat.zero_min, hw, hia, hNi.len, hwk, hik] <;> exact rfl) rfl rfl ?_
        refine dw_on (by simp only [opd, zv]) ?_
        refine dw_quiet (by simp only [opd, zv, exOp, aop, LOp.loud, pop, zp, hS.len, uRows_len, strRows_len, Nat.zero_min, hw, hia, hNi.len, hwk, hik] <;> exact rfl) rfl rfl ?_
        refine dw_on (by simp only [opd, zv]) ?_
        refine dw_op (by simp only [opd, zv, exOp, aop, LOp.loud, lop, rowsOf, newAt, setAt, zh, zm, iaddrD_sl, iaddrD_msl, Int.toNat_natCast, Int.toNat_zero, List.getElem?_map, Option.map_some, Int.le_refl, hS.len, uRows_len, strRows_len, Nat.zero_min, hw, hia, hNi.len, hwk, hik] <;> exact rfl) (by simp only [fpHere, opd, List.map_cons, List.map_nil, List.getD_cons_zero, List.getD_cons_succ, zq, hS.fpi, (strsD_S _).fpi] <;> exact rfl) rfl ?_
        refine dw_on (by simp only [opd, zv]) ?_
        refine dw_op (by simp only [opd, zv, exOp, aop, LOp.loud, lop, rowsOf, newAt, setAt, zh, zm, loadD_cptr, loadD_ptr, partD, List.take, List.drop, hS.len, uRows_len, strRows_len, Nat.zero_min, hw, hia, hNi.len, hwk, hik] <;> exact rfl) (by simp only [fpHere, opd, List.map_cons, List.map_nil, List.getD_cons_zero, List.getD_cons_succ, zq, hS.fpi, (strsD_S _).fpi] <;> exact rfl) rfl ?_
        refine dw_on (by simp only [opd, zv]) ?_
        first
          | refine dw_op (by simp only [exOp, opd, zv, hS.len, uRows_len, strRows_len, Nat.zero_min, hw, hia, hNi.len, hwk, hik]; exact mode_run (by omega) _ _ _ _ l[i].hf) (by simp only [fpHere, opd, List.map_cons, List.map_nil, List.getD_cons_zero, List.getD_cons_succ, zq, hS.fpi, (strsD_S _).fpi] <;> exact rfl) rfl ?_
          | refine dw_op (by simp only [exOp, opd, zv, hS.len, uRows_len, strRows_len, Nat.zero_min, hw, hia, hNi.len, hwk, hik]; exact mode_run (by omega) _ _ _ _ l[k].hf) (by simp only [fpHere, opd, List.map_cons, List.map_nil, List.getD_cons_zero, List.getD_cons_succ, zq, hS.fpi, (strsD_S _).fpi] <;> exact rfl) rfl ?_
        refine dw_on (by simp only [opd, zv]) ?_
        refine dw_quiet (by simp only [opd, zv, exOp, aop, LOp.loud, pop, zp, binD, eq_self, ne_eq, not_false_eq_true, true_and, Int.reduceEq, ite_true, ite_false, not_true_eq_false, Int.reduceToNat, Int.reduceLT, hS.len, uRows_len, strRows_len, Nat.zero_min, hw, hia, hNi.len, hwk, hik] <;> exact rfl) rfl rfl ?_
        refine dw_quiet (by simp only [opd, zv, exOp, aop, LOp.loud, pop, zp, hS.len, uRows_len, strRows_len, Nat.zero_min, hw, hia, hNi.len, hwk, hik] <;> exact rfl) rfl rfl ?_
        refine dw_nil ?_
        refine sk_n (by simp only [exports, zn, zg] <;> exact rfl) ?_
        refine cw_cond (by simp only [opd, zv, hS.len, uRows_len, strRows_len, Nat.zero_min, hw, hia, hNi.len, hwk, hik] <;> exact rfl) (fun hcATBTT => ?_) (fun hcATBTT => ?_)
        · skip -- ATBTTT
          refine cw_seq ?_
          refine cw_region ?_
          refine ow_op (by simp only [opd, zv, exOp, aop, LOp.loud, pop, zp, hS.len, uRows_len, strRows_len, Nat.zero_min, hw, hia, hNi.len, hwk, hik] <;> exact rfl) ?_
          refine ow_op (by simp only [opd, zv, exOp, aop, LOp.loud, pop, zp, binD, eq_self, ne_eq, not_false_eq_true, true_and, Int.reduceEq, ite_true, ite_false, not_true_eq_false, Int.reduceToNat, Int.reduceLT, hS.len, uRows_len, strRows_len, Nat.zero_min, hw, hia, hNi.len, hwk, hik] <;> exact rfl) ?_
          refine ow_op (by simp only [opd, zv, exOp, aop, LOp.loud, pop, zp, hS.len, uRows_len, strRows_len, Nat.zero_min, hw, hia, hNi.len, hwk, hik] <;> exact rfl) ?_
          refine ow_op (by simp only [opd, zv, exOp, aop, LOp.loud, pop, zp, lenD_str, lenD_nils, lenD_sl, lenD_msl, hS.len, uRows_len, strRows_len, Nat.zero_min, hw, hia, hNi.len, hwk, hik] <;> exact rfl) ?_
          refine ow_op (by simp only [opd, zv, exOp, aop, LOp.loud, pop, zp, fillD, overlay, zc, List.take, List.drop, Nat.reduceAdd, Nat.reduceLeDiff, Nat.reduceBEq, zm, hS.len, uRows_len, strRows_len, Nat.zero_min, hw, hia, hNi.len, hwk, hik] <;> exact rfl) ?_
          refine ow_op (by simp only [opd, zv, exOp, aop, LOp.loud, pop, zp, fillD, overlay, zc, List.take, List.drop, Nat.reduceAdd, Nat.reduceLeDiff, Nat.reduceBEq, zm, hS.len, uRows_len, strRows_len, Nat.zero_min, hw, hia, hNi.len, hwk, hik] <;> exact rfl) ?_
          refine ow_op (by simp only [opd, zv, exOp, aop, LOp.loud, lop, rowsOf, newAt, setAt, zh, zm, storeD, overlay, snapVs, snaps, zs, zc, zf, List.take, List.drop, hS.len, uRows_len, strRows_len, Nat.zero_min, hw, hia, hNi.len, hwk, hik] <;> exact rfl) ?_
          refine ow_nil ?_
          refine sk_n (by simp only [exports, zn, zg] <;> exact rfl) ?_
          refine cw_ret ?_
          refine bk_r ?_
          refine sk_r ?_
          refine lk_r ?_
          refine bk_r ?_
          refine sk_r ?_
          refine bk_r ?_
          refine sk_r ?_
          refine lk_r ?_
          refine bk_r ?_
          refine sk_r ?_
          refine ⟨_, by simp only [F8, resultD, resDs, resD, List.getD_cons_zero, List.getD_cons_succ, loadD_cptr, loadD_ptr, rowsOf, partD, List.getElem?_cons_zero, List.getElem?_cons_succ, if_true, if_false, Bool.false_eq_true, List.take, List.drop, zm] <;> exact rfl, ?_⟩
          have hP : pB l[i] l[k] = true := by simp only [pB, hgATBT, hcATBTT, Bool.and_self]
          have h1 : twAt l i = some (i, ((textF l[i]).length : Int)) := by
            rw [twAt, List.getElem?_eq_getElem hlt, Option.bind_some, twiceAt, any_hit hkl hki hP, if_pos rfl]; rfl
          rw [firstDup, find_range hlt h1 hno]
          simp only [leaveP, leave, snapVs, snaps, zs, zf, Option.map_some, List.all_cons, List.all_nil, Bool.and_self, Bool.and_true, if_true, if_false, Bool.false_eq_true, List.length_nil, Nat.le_refl, Nat.zero_le]
          rfl
        · skip -- ATBTTF
          refine cw_skip ?_
          refine bk_n ?_
          refine sk_n rfl ?_
          refine cw_region ?_
          refine ow_op (by simp only [opd, zv, exOp, aop, LOp.loud, pop, zp, hS.len, uRows_len, strRows_len, Nat.zero_min, hw, hia, hNi.len, hwk, hik] <;> exact rfl) ?_
          refine ow_op (by simp only [opd, zv, exOp, aop, LOp.loud, pop, zp, binD, eq_self, ne_eq, not_false_eq_true, true_and, Int.reduceEq, ite_true, ite_false, not_true_eq_false, Int.reduceToNat, Int.reduceLT, hS.len, uRows_len, strRows_len, Nat.zero_min, hw, hia, hNi.len, hwk, hik] <;> exact rfl) ?_
          refine ow_op (by simp only [opd, zv, exOp, aop, LOp.loud, pop, zp, hS.len, uRows_len, strRows_len, Nat.zero_min, hw, hia, hNi.len, hwk, hik] <;> exact rfl) ?_
          refine ow_nil ?_
          refine lk_n (by simp only [exports, zn, zg] <;> exact rfl) ?_
          have hP : pB l[i] l[k] = false := by simp only [pB, hgATBT, hcATBTT, Bool.and_false]
          exact ⟨i - (k + 1), by omega, k + 1, _, _, _, _, _, _, _, _, by omega, rfl, any_take_succ hkl hany hP, rfl, rfl⟩
      · skip -- ATBTF
        refine dw_off (b' := false) (by simp only [opd, zv]) rfl ?_
        refine dw_off (b' := false) (by simp only [opd, zv]) rfl ?_
        refine dw_off (b' := false) (by simp only [opd, zv]) rfl ?_
        refine dw_off (b' := false) (by simp only [opd, zv]) rfl ?_
        refine dw_off (b' := false) (by simp only [opd, zv]) rfl ?_
        refine dw_off (b' := false) (by simp only [opd, zv]) rfl ?_
        refine dw_off (b' := false) (by simp only [opd, zv]) rfl ?_
        refine dw_off (b' := false) (by simp only [opd, zv]) rfl ?_
        refine dw_off (b' := false) (by simp only [opd, zv]) rfl ?_
        refine dw_off (b' := false) (by simp only [opd, zv]) rfl ?_
        refine dw_off (b' := false) (by simp only [opd, zv]) rfl ?_
        refine dw_quiet (by simp only [opd, zv, exOp, aop, LOp.loud, pop, zp, hS.len, uRows_len, strRows_len, Nat.zero_min, hw, hia, hNi.len, hwk, hik] <;> exact rfl) rfl rfl ?_
        refine dw_nil ?_
        refine sk_n (by simp only [exports, zn, zg] <;> exact rfl) ?_
        refine cw_false (by simp only [opd, zv, hS.len, uRows_len, strRows_len, Nat.zero_min, hw, hia, hNi.len, hwk, hik]) ?_
        refine cw_skip ?_
        refine bk_n ?_
        refine sk_n rfl ?_
        refine cw_region ?_
        refine ow_op (by simp only [opd, zv, exOp, aop, LOp.loud, pop, zp, hS.len, uRows_len, strRows_len, Nat.zero_min, hw, hia, hNi.len, hwk, hik] <;> exact rfl) ?_
        refine ow_op (by simp only [opd, zv, exOp, aop, LOp.loud, pop, zp, binD, eq_self, ne_eq, not_false_eq_true, true_and, Int.reduceEq, ite_true, ite_false, not_true_eq_false, Int.reduceToNat, Int.reduceLT, hS.len, uRows_len, strRows_len, Nat.zero_min, hw, hia, hNi.len, hwk, hik] <;> exact rfl) ?_
        refine ow_op (by simp only [opd, zv, exOp, aop, LOp.loud, pop, zp, hS.len, uRows_len, strRows_len, Nat.zero_min, hw, hia, hNi.len, hwk, hik] <;> exact rfl) ?_
        refine ow_nil ?_
        refine lk_n (by simp only [exports, zn, zg] <;> exact rfl) ?_
        have hP : pB l[i] l[k] = false := by simp only [pB, hgATBT, Bool.false_and]
        exact ⟨i - (k + 1), by omega, k + 1, _, _, _, _, _, _, _, _, by omega, rfl, any_take_succ hkl hany hP, rfl, rfl⟩
    · skip -- ATBF
      have hki : i = k := by have := of_decide_eq_false hcATB; omega
      subst hki
      have hanyB := hany
      refine cw_exit ?_
      refine sk_e ?_
      refine lk_e ?_
      refine bk_e ?_
      refine sk_n rfl ?_
      refine cw_seq ?_
      refine cw_region ?_
      refine ow_op (by simp only [opd, zv, exOp, aop, LOp.loud, pop, zp, hS.len, uRows_len, strRows_len, Nat.zero_min, hw, hia, hNi.len] <;> exact rfl) ?_
      refine ow_nil ?_
      refine sk_n (by simp only [exports, zn, zg] <;> exact rfl) ?_
      refine cw_block ?_
      refine cw_loop (fun n env S' => ∃ (m : Nat) (v5 v7 v8 v9 v10 v11 v12 v13 : D), m ≤ (namesF l[i].f).length ∧ n = (namesF l[i].f).length - m ∧ (((namesF l[i].f).take m).any (fun nm => (l.take i).any (pD nm))) = false ∧ S' = ⟨[⟨29, 3, [[.int .i64 0, .int .i64 0, .int .i64 0]], 0, 0, false⟩], 0⟩ ∧ env = [x, .ptr 0 0 0 0, .int .i64 i, .sl 1 (strRows (textF l[i])) none, .int .i64 (namesF l[i].f).length, v5, .int .i64 m, v7, v8, v9, v10, v11, v12, v13]) ((namesF l[i].f).length) (by have := names_few l[i].f; omega) (⟨0, _, _, _, _, _, _, _, _, by omega, by omega, by simp, rfl, rfl⟩) ?_
      rintro n env S' ⟨m, v5, v7, v8, v9, v10, v11, v12, v13, hm, rfl, hanyC, rfl, rfl⟩
      refine cw_seq ?_
      refine cw_seq ?_
      refine cw_region ?_
      refine ow_op (by simp only [opd, zv, exOp, aop, LOp.loud, pop, zp, hS.len, uRows_len, strRows_len, Nat.zero_min, hw, hia, hNi.len] <;> exact rfl) ?_
      refine ow_op (by simp only [opd, zv, exOp, aop, LOp.loud, pop, zp, hS.len, uRows_len, strRows_len, Nat.zero_min, hw, hia, hNi.len] <;> exact rfl) ?_
      refine ow_op (by simp only [opd, zv, exOp, aop, LOp.loud, pop, zp, binD, eq_self, ne_eq, not_false_eq_true, true_and, Int.reduceEq, ite_true, ite_false, not_true_eq_false, Int.reduceToNat, Int.reduceLT, hS.len, uRows_len, strRows_len, Nat.zero_min, hw, hia, hNi.len] <;> exact rfl) ?_
      refine ow_nil ?_
      refine sk_n (by simp only [exports, zn, zg] <;> exact rfl) ?_
      refine cw_cond (by simp only [opd, zv, hS.len, uRows_len, strRows_len, Nat.zero_min, hw, hia, hNi.len] <;> exact rfl) (fun hcATBFC => ?_) (fun hcATBFC => ?_)
      · skip -- ATBFCT
        have hml : m < (namesF l[i].f).length := by have := of_decide_eq_true hcATBFC; omega
        have hwm := wrap_nat m (by omega)
        have hin := fun (S : St) => hNi.iaddrN S .i64 (strRows_at hml)
        refine cw_skip ?_
        refine sk_n rfl ?_
        refine cw_seq ?_
        refine cw_block ?_
        refine cw_seq ?_
        refine cw_region ?_
        refine ow_op (by simp only [opd, zv, exOp, aop, LOp.loud, pop, zp, hS.len, uRows_len, strRows_len, Nat.zero_min, hw, hia, hNi.len, hwm, hin] <;> exact rfl) ?_
        refine ow_nil ?_
        refine sk_n (by simp only [exports, zn, zg] <;> exact rfl) ?_
        refine cw_block ?_
        refine cw_loop (fun n env S' => ∃ (k : Nat) (v5 v8 v9 v10 v11 v12 v13 : D), k ≤ i ∧ n = i - k ∧ ((l.take k).any (pD (namesF l[i].f)[m])) = false ∧ S' = ⟨[⟨29, 3, [[.int .i64 0, .int .i64 0, .int .i64 0]], 0, 0, false⟩], 0⟩ ∧ env = [x, .ptr 0 0 0 0, .int .i64 i, .sl 1 (strRows (textF l[i])) none, .int .i64 (namesF l[i].f).length, v5, .int .i64 m, .int .i64 k, v8, v9, v10, v11, v12, v13]) (i) (by omega) (⟨0, _, _, _, _, _, _, _, by omega, by omega, by simp, rfl, rfl⟩) ?_
        rintro n env S' ⟨k, v5, v8, v9, v10, v11, v12, v13, hk, rfl, hanyD, rfl, rfl⟩
        refine cw_seq ?_
        refine cw_seq ?_
        refine cw_region ?_
        refine ow_op (by simp only [opd, zv, exOp, aop, LOp.loud, pop, zp, hS.len, uRows_len, strRows_len, Nat.zero_min, hw, hia, hNi.len, hwm, hin] <;> exact rfl) ?_
        refine ow_op (by simp only [opd, zv, exOp, aop, LOp.loud, pop, zp, hS.len, uRows_len, strRows_len, Nat.zero_min, hw, hia, hNi.len, hwm, hin] <;> exact rfl) ?_
        refine ow_op (by simp only [opd, zv, exOp, aop, LOp.loud, pop, zp, binD, eq_self, ne_eq, not_false_eq_true, true_and, Int.reduceEq, ite_true, ite_false, not_true_eq_false, Int.reduceToNat, Int.reduceLT, hS.len, uRows_len, strRows_len, Nat.zero_min, hw, hia, hNi.len, hwm, hin] <;> exact rfl) ?_
        refine ow_nil ?_
        refine sk_n (by simp only [exports, zn, zg] <;> exact rfl) ?_
        refine cw_cond (by simp only [opd, zv, hS.len, uRows_len, strRows_len, Nat.zero_min, hw, hia, hNi.len, hwm, hin] <;> exact rfl) (fun hcATBFCTD => ?_) (fun hcATBFCTD => ?_)
        · skip -- ATBFCTDT
          have hki : k < i := by have := of_decide_eq_true hcATBFCTD; omega
          have hkl : k < l.length := by omega
          have hwk := wrap_nat k (by omega)
          have hik := fun (S : St) => hS.iaddrN S .i64 (uRows_at hkl)
          have hs1 := wrap_id (((textF l[i]).length : Int) - ((namesF l[i].f).length : Int)) (by omega) (by omega)
          have hs2 := wrap_id (((textF l[i]).length : Int) - ((namesF l[i].f).length : Int) + (m : Int)) (by omega) (by omega)
          have hs3 := wrap_id (((textF l[i]).length : Int) - ((namesF l[i].f).length : Int) + (m : Int) + 1) (by omega) (by omega)
          have hfk := names_few l[k].f
          refine cw_skip ?_
          refine sk_n rfl ?_
          refine cw_seq ?_
          refine cw_block ?_
          refine cw_seq ?_
          refine cw_drawn (by simp only [newsVals, List.length_nil, List.length_cons, List.range_succ, List.range_zero, List.nil_append, List.map_nil, List.reverse_nil, List.cons_append, List.map_cons, List.reverse_cons, Nat.zero_add, Nat.add_zero, Nat.reduceAdd] <;> exact rfl) (by simp only [List.map_nil, List.map_cons, newsObj, St.eta, List.append_nil, List.cons_append, List.nil_append, List.length_cons, List.length_nil] <;> exact rfl) ?_
          refine dw_quiet (by simp only [opd, zv, exOp, aop, LOp.loud, pop, zp, hS.len, uRows_len, strRows_len, Nat.zero_min, hw, hia, hNi.len, hwm, hin, hwk, hik, hs1, hs2, hs3] <;> exact rfl) rfl rfl ?_
          refine dw_quiet (by simp only [opd, zv, exOp, aop, LOp.loud, pop, zp, hS.len, uRows_len, strRows_len, Nat.zero_min, hw, hia, hNi.len, hwm, hin, hwk, hik, hs1, hs2, hs3] <;> exact rfl) rfl rfl ?_
          refine dw_op (by simp only [opd, zv, exOp, aop, LOp.loud, lop, rowsOf, newAt, setAt, zh, zm, iaddrD_sl, iaddrD_msl, Int.toNat_natCast, Int.toNat_zero, List.getElem?_map, Option.map_some, Int.le_refl, hS.len, uRows_len, strRows_len, Nat.zero_min, hw, hia, hNi.len, hwm, hin, hwk, hik, hs1, hs2, hs3] <;> exact rfl) (by simp only [fpHere, opd, List.map_cons, List.map_nil, List.getD_cons_zero, List.getD_cons_succ, zq, hS.fpi, (strsD_S _).fpi] <;> exact rfl) rfl ?_
          refine dw_op (by simp only [opd, zv, exOp, aop, LOp.loud, lop, rowsOf, newAt, setAt, zh, zm, loadD_cptr, loadD_ptr, partD, List.take, List.drop, hS.len, uRows_len, strRows_len, Nat.zero_min, hw, hia, hNi.len, hwm, hin, hwk, hik, hs1, hs2, hs3] <;> exact rfl) (by simp only [fpHere, opd, List.map_cons, List.map_nil, List.getD_cons_zero, List.getD_cons_succ, zq, hS.fpi, (strsD_S _).fpi] <;> exact rfl) rfl ?_
          first
            | refine dw_op (by simp only [exOp, opd, zv, hS.len, uRows_len, strRows_len, Nat.zero_min, hw, hia, hNi.len, hwm, hin, hwk, hik, hs1, hs2, hs3]; exact names_run (by omega) _ _ _ _ l[i].hf) (by simp only [fpHere, opd, List.map_cons, List.map_nil, List.getD_cons_zero, List.getD_cons_succ, zq, hS.fpi, (strsD_S _).fpi] <;> exact rfl) rfl ?_
            | refine dw_op (by simp only [exOp, opd, zv, hS.len, uRows_len, strRows_len, Nat.zero_min, hw, hia, hNi.len, hwm, hin, hwk, hik, hs1, hs2, hs3]; exact names_run (by omega) _ _ _ _ l[k].hf) (by simp only [fpHere, opd, List.map_cons, List.map_nil, List.getD_cons_zero, List.getD_cons_succ, zq, hS.fpi, (strsD_S _).fpi] <;> exact rfl) rfl ?_
          refine dw_quiet (by simp only [opd, zv, exOp, aop, LOp.loud, pop, zp, hS.len, uRows_len, strRows_len, Nat.zero_min, hw, hia, hNi.len, hwm, hin, hwk, hik, hs1, hs2, hs3] <;> exact rfl) rfl rfl ?_
          refine dw_quiet (by simp only [opd, zv, exOp, aop, LOp.loud, pop, zp, hS.len, uRows_len, strRows_len, Nat.zero_min, hw, hia, hNi.len, hwm, hin, hwk, hik, hs1, hs2, hs3] <;> exact rfl) rfl rfl ?_
          refine dw_op (by simp only [opd, zv, exOp, aop, LOp.loud, lop, rowsOf, newAt, setAt, zh, zm, iaddrD_sl, iaddrD_msl, Int.toNat_natCast, Int.toNat_zero, List.getElem?_map, Option.map_some, Int.le_refl, hS.len, uRows_len, strRows_len, Nat.zero_min, hw, hia, hNi.len, hwm, hin, hwk, hik, hs1, hs2, hs3] <;> exact rfl) (by simp only [fpHere, opd, List.map_cons, List.map_nil, List.getD_cons_zero, List.getD_cons_succ, zq, hS.fpi, (strsD_S _).fpi] <;> exact rfl) rfl ?_
          refine dw_op (by simp only [opd, zv, exOp, aop, LOp.loud, lop, rowsOf, newAt, setAt, zh, zm, loadD_cptr, loadD_ptr, partD, List.take, List.drop, hS.len, uRows_len, strRows_len, Nat.zero_min, hw, hia, hNi.len, hwm, hin, hwk, hik, hs1, hs2, hs3] <;> exact rfl) (by simp only [fpHere, opd, List.map_cons, List.map_nil, List.getD_cons_zero, List.getD_cons_succ, zq, hS.fpi, (strsD_S _).fpi] <;> exact rfl) rfl ?_
          first
            | refine dw_op (by simp only [exOp, opd, zv, hS.len, uRows_len, strRows_len, Nat.zero_min, hw, hia, hNi.len, hwm, hin, hwk, hik, hs1, hs2, hs3]; exact names_run (by omega) _ _ _ _ l[i].hf) (by simp only [fpHere, opd, List.map_cons, List.map_nil, List.getD_cons_zero, List.getD_cons_succ, zq, hS.fpi, (strsD_S _).fpi] <;> exact rfl) rfl ?_
            | refine dw_op (by simp only [exOp, opd, zv, hS.len, uRows_len, strRows_len, Nat.zero_min, hw, hia, hNi.len, hwm, hin, hwk, hik, hs1, hs2, hs3]; exact names_run (by omega) _ _ _ _ l[k].hf) (by simp only [fpHere, opd, List.map_cons, List.map_nil, List.getD_cons_zero, List.getD_cons_succ, zq, hS.fpi, (strsD_S _).fpi] <;> exact rfl) rfl ?_
          refine dw_quiet (by simp only [opd, zv, exOp, aop, LOp.loud, pop, zp, hS.len, uRows_len, strRows_len, Nat.zero_min, hw, hia, hNi.len, hwm, hin, hwk, hik, hs1, hs2, hs3] <;> exact rfl) rfl rfl ?_
          refine dw_op (by simp only [opd, zv, exOp, aop, LOp.loud, lop, rowsOf, newAt, setAt, zh, zm, iaddrD_sl, iaddrD_msl, Int.toNat_natCast, Int.toNat_zero, List.getElem?_map, Option.map_some, Int.le_refl, hS.len, uRows_len, strRows_len, Nat.zero_min, hw, hia, hNi.len, hwm, hin, hwk, hik, hs1, hs2, hs3] <;> exact rfl) (by simp only [fpHere, opd, List.map_cons, List.map_nil, List.getD_cons_zero, List.getD_cons_succ, zq, hS.fpi, (strsD_S _).fpi] <;> exact rfl) rfl ?_
          refine dw_op (by simp only [opd, zv, exOp, aop, LOp.loud, lop, rowsOf, newAt, setAt, zh, zm, loadD_cptr, loadD_ptr, partD, List.take, List.drop, hS.len, uRows_len, strRows_len, Nat.zero_min, hw, hia, hNi.len, hwm, hin, hwk, hik, hs1, hs2, hs3] <;> exact rfl) (by simp only [fpHere, opd, List.map_cons, List.map_nil, List.getD_cons_zero, List.getD_cons_succ, zq, hS.fpi, (strsD_S _).fpi] <;> exact rfl) rfl ?_
          refine dw_op (by simp only [exOp, opd, zv, hS.len, uRows_len, strRows_len, Nat.zero_min, hw, hia, hNi.len, hwm, hin, hwk, hik, hs1, hs2, hs3]; exact has_run (by omega) _ (strsD_S _) _ (by omega)) (by simp only [fpHere, opd, List.map_cons, List.map_nil, List.getD_cons_zero, List.getD_cons_succ, zq, hS.fpi, (strsD_S _).fpi] <;> exact rfl) rfl ?_
          refine dw_nil ?_
          refine sk_n (by simp only [exports, zn, zg] <;> exact rfl) ?_
          refine cw_cond (by simp only [opd, zv, hS.len, uRows_len, strRows_len, Nat.zero_min, hw, hia, hNi.len, hwm, hin, hwk, hik, hs1, hs2, hs3] <;> exact rfl) (fun hcATBFCTDT => ?_) (fun hcATBFCTDT => ?_)
          · skip -- ATBFCTDTT
            refine cw_seq ?_
            refine cw_region ?_
            refine ow_op (by simp only [opd, zv, exOp, aop, LOp.loud, pop, zp, hS.len, uRows_len, strRows_len, Nat.zero_min, hw, hia, hNi.len, hwm, hin, hwk, hik, hs1, hs2, hs3] <;> exact rfl) ?_
            refine ow_op (by simp only [opd, zv, exOp, aop, LOp.loud, pop, zp, binD, eq_self, ne_eq, not_false_eq_true, true_and, Int.reduceEq, ite_true, ite_false, not_true_eq_false, Int.reduceToNat, Int.reduceLT, hS.len, uRows_len, strRows_len, Nat.zero_min, hw, hia, hNi.len, hwm, hin, hwk, hik, hs1, hs2, hs3] <;> exact rfl) ?_
            refine ow_op (by simp only [opd, zv, exOp, aop, LOp.loud, pop, zp, hS.len, uRows_len, strRows_len, Nat.zero_min, hw, hia, hNi.len, hwm, hin, hwk, hik, hs1, hs2, hs3] <;> exact rfl) ?_
            refine ow_op (by simp only [opd, zv, exOp, aop, LOp.loud, pop, zp, lenD_str, lenD_nils, lenD_sl, lenD_msl, hS.len, uRows_len, strRows_len, Nat.zero_min, hw, hia, hNi.len, hwm, hin, hwk, hik, hs1, hs2, hs3] <;> exact rfl) ?_
            refine ow_op (by simp only [opd, zv, exOp, aop, LOp.loud, pop, zp, hS.len, uRows_len, strRows_len, Nat.zero_min, hw, hia, hNi.len, hwm, hin, hwk, hik, hs1, hs2, hs3] <;> exact rfl) ?_
            refine ow_op (by simp only [opd, zv, exOp, aop, LOp.loud, pop, zp, binD, eq_self, ne_eq, not_false_eq_true, true_and, Int.reduceEq, ite_true, ite_false, not_true_eq_false, Int.reduceToNat, Int.reduceLT, hS.len, uRows_len, strRows_len, Nat.zero_min, hw, hia, hNi.len, hwm, hin, hwk, hik, hs1, hs2, hs3] <;> exact rfl) ?_
            refine ow_op (by simp only [opd, zv, exOp, aop, LOp.loud, pop, zp, hS.len, uRows_len, strRows_len, Nat.zero_min, hw, hia, hNi.len, hwm, hin, hwk, hik, hs1, hs2, hs3] <;> exact rfl) ?_
            refine ow_op (by simp only [opd, zv, exOp, aop, LOp.loud, pop, zp, binD, eq_self, ne_eq, not_false_eq_true, true_and, Int.reduceEq, ite_true, ite_false, not_true_eq_false, Int.reduceToNat, Int.reduceLT, hS.len, uRows_len, strRows_len, Nat.zero_min, hw, hia, hNi.len, hwm, hin, hwk, hik, hs1, hs2, hs3] <;> exact rfl) ?_
            refine ow_op (by simp only [opd, zv, exOp, aop, LOp.loud, pop, zp, binD, eq_self, ne_eq, not_false_eq_true, true_and, Int.reduceEq, ite_true, ite_false, not_true_eq_false, Int.reduceToNat, Int.reduceLT, hS.len, uRows_len, strRows_len, Nat.zero_min, hw, hia, hNi.len, hwm, hin, hwk, hik, hs1, hs2, hs3] <;> exact rfl) ?_
            refine ow_op (by simp only [opd, zv, exOp, aop, LOp.loud, pop, zp, fillD, overlay, zc, List.take, List.drop, Nat.reduceAdd, Nat.reduceLeDiff, Nat.reduceBEq, zm, hS.len, uRows_len, strRows_len, Nat.zero_min, hw, hia, hNi.len, hwm, hin, hwk, hik, hs1, hs2, hs3] <;> exact rfl) ?_
            refine ow_op (by simp only [opd, zv, exOp, aop, LOp.loud, pop, zp, fillD, overlay, zc, List.take, List.drop, Nat.reduceAdd, Nat.reduceLeDiff, Nat.reduceBEq, zm, hS.len, uRows_len, strRows_len, Nat.zero_min, hw, hia, hNi.len, hwm, hin, hwk, hik, hs1, hs2, hs3] <;> exact rfl) ?_
            refine ow_op (by simp only [opd, zv, exOp, aop, LOp.loud, lop, rowsOf, newAt, setAt, zh, zm, storeD, overlay, snapVs, snaps, zs, zc, zf, List.take, List.drop, hS.len, uRows_len, strRows_len, Nat.zero_min, hw, hia, hNi.len, hwm, hin, hwk, hik, hs1, hs2, hs3] <;> exact rfl) ?_
            refine ow_nil ?_
            refine sk_n (by simp only [exports, zn, zg] <;> exact rfl) ?_
            refine cw_ret ?_
            refine bk_r ?_
            refine sk_r ?_
            refine lk_r ?_
            refine bk_r ?_
            refine bk_r ?_
            refine sk_r ?_
            refine lk_r ?_
            refine bk_r ?_
            refine bk_r ?_
            refine sk_r ?_
            refine lk_r ?_
            refine bk_r ?_
            refine sk_r ?_
            refine ⟨_, by simp only [F8, resultD, resDs, resD, List.getD_cons_zero, List.getD_cons_succ, loadD_cptr, loadD_ptr, rowsOf, partD, List.getElem?_cons_zero, List.getElem?_cons_succ, if_true, if_false, Bool.false_eq_true, List.take, List.drop, zm] <;> exact rfl, ?_⟩
            have h1 : twAt l i = some (i, ((textF l[i]).length : Int) - ((namesF l[i].f).length : Int) + (m : Int) + 1) := by
              rw [twAt, List.getElem?_eq_getElem hlt, Option.bind_some, twiceAt, hanyB, if_neg (by simp), findIdx_at hml (any_hit hkl hki hcATBFCTDT) hanyC]; rfl
            rw [firstDup, find_range hlt h1 hno]
            simp only [leaveP, leave, snapVs, snaps, zs, zf, Option.map_some, List.all_cons, List.all_nil, Bool.and_self, Bool.and_true, if_true, if_false, Bool.false_eq_true, List.length_nil, Nat.le_refl, Nat.zero_le]
            rfl
          · skip -- ATBFCTDTF
            refine cw_skip ?_
            refine bk_n ?_
            refine sk_n rfl ?_
            refine cw_region ?_
            refine ow_op (by simp only [opd, zv, exOp, aop, LOp.loud, pop, zp, hS.len, uRows_len, strRows_len, Nat.zero_min, hw, hia, hNi.len, hwm, hin, hwk, hik, hs1, hs2, hs3] <;> exact rfl) ?_
            refine ow_op (by simp only [opd, zv, exOp, aop, LOp.loud, pop, zp, binD, eq_self, ne_eq, not_false_eq_true, true_and, Int.reduceEq, ite_true, ite_false, not_true_eq_false, Int.reduceToNat, Int.reduceLT, hS.len, uRows_len, strRows_len, Nat.zero_min, hw, hia, hNi.len, hwm, hin, hwk, hik, hs1, hs2, hs3] <;> exact rfl) ?_
            refine ow_op (by simp only [opd, zv, exOp, aop, LOp.loud, pop, zp, hS.len, uRows_len, strRows_len, Nat.zero_min, hw, hia, hNi.len, hwm, hin, hwk, hik, hs1, hs2, hs3] <;> exact rfl) ?_
            refine ow_nil ?_
            refine lk_n (by simp only [exports, zn, zg] <;> exact rfl) ?_
            exact ⟨i - (k + 1), by omega, k + 1, _, _, _, _, _, _, _, by omega, rfl, any_take_succ hkl hanyD hcATBFCTDT, rfl, rfl⟩
        · skip -- ATBFCTDF
          have hki : i = k := by have := of_decide_eq_false hcATBFCTD; omega
          subst hki
          refine cw_exit ?_
          refine sk_e ?_
          refine lk_e ?_
          refine bk_e ?_
          refine bk_n ?_
          refine sk_n rfl ?_
          refine cw_region ?_
          refine ow_op (by simp only [opd, zv, exOp, aop, LOp.loud, pop, zp, hS.len, uRows_len, strRows_len, Nat.zero_min, hw, hia, hNi.len, hwm, hin] <;> exact rfl) ?_
          refine ow_op (by simp only [opd, zv, exOp, aop, LOp.loud, pop, zp, binD, eq_self, ne_eq, not_false_eq_true, true_and, Int.reduceEq, ite_true, ite_false, not_true_eq_false, Int.reduceToNat, Int.reduceLT, hS.len, uRows_len, strRows_len, Nat.zero_min, hw, hia, hNi.len, hwm, hin] <;> exact rfl) ?_
          refine ow_op (by simp only [opd, zv, exOp, aop, LOp.loud, pop, zp, hS.len, uRows_len, strRows_len, Nat.zero_min, hw, hia, hNi.len, hwm, hin] <;> exact rfl) ?_
          refine ow_nil ?_
          refine lk_n (by simp only [exports, zn, zg] <;> exact rfl) ?_
          exact ⟨(namesF l[i].f).length - (m + 1), by omega, m + 1, _, _, _, _, _, _, _, _, by omega, rfl, any_take_succ hml hanyC hanyD, rfl, rfl⟩
      · skip -- ATBFCF
        have hmm : (namesF l[i].f).length = m := by have := of_decide_eq_false hcATBFC; omega
        rw [List.take_of_length_le (by omega)] at hanyC
        have hnone : twAt l i = none := by
          rw [twAt, List.getElem?_eq_getElem hlt, Option.bind_some, twiceAt, hanyB, if_neg (by simp), findIdx_no hanyC]; rfl
        refine cw_exit ?_
        refine sk_e ?_
        refine lk_e ?_
        refine bk_e ?_
        refine bk_n ?_
        refine sk_n rfl ?_
        refine cw_region ?_
        refine ow_op (by simp only [opd, zv, exOp, aop, LOp.loud, pop, zp, hS.len, uRows_len, strRows_len, Nat.zero_min, hw, hia, hNi.len] <;> exact rfl) ?_
        refine ow_op (by simp only [opd, zv, exOp, aop, LOp.loud, pop, zp, binD, eq_self, ne_eq, not_false_eq_true, true_and, Int.reduceEq, ite_true, ite_false, not_true_eq_false, Int.reduceToNat, Int.reduceLT, hS.len, uRows_len, strRows_len, Nat.zero_min, hw, hia, hNi.len] <;> exact rfl) ?_
        refine ow_op (by simp only [opd, zv, exOp, aop, LOp.loud, pop, zp, hS.len, uRows_len, strRows_len, Nat.zero_min, hw, hia, hNi.len] <;> exact rfl) ?_
        refine ow_nil ?_
        refine lk_n (by simp only [exports, zn, zg] <;> exact rfl) ?_
        have hno' : ∀ j, j < i + 1 → twAt l j = none := by
          intro j hj
          rcases Nat.lt_succ_iff_lt_or_eq.1 hj with h | h
          · exact hno j h
          · rw [h]; exact hnone
        exact ⟨l.length - (i + 1), by omega, i + 1, _, _, _, _, _, _, _, _, _, _, _, by omega, rfl, hno', rfl, rfl⟩
  · skip -- AF
    obtain rfl : i = l.length := by have := of_decide_eq_false hcA; omega
    refine cw_exit ?_
    refine sk_e ?_
    refine lk_e ?_
    refine bk_e ?_
    refine sk_n rfl ?_
    refine cw_seq ?_
    refine cw_region ?_
    refine ow_op (by simp only [opd, zv, exOp, aop, LOp.loud, pop, zp, fillD, overlay, zc, List.take, List.drop, Nat.reduceAdd, Nat.reduceLeDiff, Nat.reduceBEq, zm, hS.len, uRows_len, strRows_len, Nat.zero_min] <;> exact rfl) ?_
    refine ow_op (by simp only [opd, zv, exOp, aop, LOp.loud, lop, rowsOf, newAt, setAt, zh, zm, storeD, overlay, snapVs, snaps, zs, zc, zf, List.take, List.drop, hS.len, uRows_len, strRows_len, Nat.zero_min] <;> exact rfl) ?_
    refine ow_nil ?_
    refine sk_n (by simp only [exports, zn, zg] <;> exact rfl) ?_
    refine cw_ret ?_
    refine ⟨_, by simp only [F8, resultD, resDs, resD, List.getD_cons_zero, List.getD_cons_succ, loadD_cptr, loadD_ptr, rowsOf, partD, List.getElem?_cons_zero, List.getElem?_cons_succ, if_true, if_false, Bool.false_eq_true, List.take, List.drop, zm] <;> exact rfl, ?_⟩
    rw [firstDup, find_none hno]
    simp only [leaveP, leave, snapVs, snaps, zs, zf, Option.map_some, List.all_cons, List.all_nil, Bool.and_self, Bool.and_true, if_true, if_false, Bool.false_eq_true, List.length_nil, Nat.le_refl, Nat.zero_le]
    rfl

end Go.Proofs.Ytnihohodcogpeaa

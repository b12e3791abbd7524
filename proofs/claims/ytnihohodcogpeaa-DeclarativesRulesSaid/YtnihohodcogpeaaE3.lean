/- Proved here: what the functions of package declaratives and of the law compute, in the abstract machine; no condition. -/
import Derived.Test.YtnihohodcogpeaaE2
import Derived.Test.YtnihohodcogpeaaLoZ
namespace Go.Proofs.Ytnihohodcogpeaa
set_option linter.unusedSimpArgs false
set_option linter.unusedVariables false
set_option maxRecDepth 10000

/-- a section of the law's argument -/
structure Uu where
  f : Nat
  m : Nat
  w : Nat
  hf : f < 256
  hm : m < 256
  hw : w < 256
def Uu.row (u : Uu) : List D := [.int .u8 u.f, .int .u8 u.m, .int .u8 u.w]
def uRows (l : List Uu) : List (List D) := l.map Uu.row
theorem uRows_at {l : List Uu} {i : Nat} (h : i < l.length) : (uRows l)[i]? = some [.int .u8 l[i].f, .int .u8 l[i].m, .int .u8 l[i].w] := by simp [uRows, h, Uu.row]
theorem uRows_len (l : List Uu) : (uRows l).length = l.length := by simp [uRows]
def ruOf (u : Uu) : Ru := ⟨⟨#[]⟩, namesF u.f, strsD (namesF u.f), modeF u.f u.m, strsD_S _, by have := names_few u.f; omega⟩
theorem ru_add (l : List Uu) (i : Nat) (h : i < l.length) : ruRows ((l.take (i + 1)).map ruOf) = ruRows ((l.take i).map ruOf) ++ [(ruOf l[i]).row] := by
  rw [List.take_add_one, List.getElem?_eq_getElem h, ruRows, ruRows, List.map_append, List.map_append]; rfl
/-- the tests of the law -/
def lawP2 (m : Nat) (u : Uu) : Bool := ((modeF u.f u.m : Int) == (m : Int)) && decide ((m : Int) > 0)
def lawP1 (s : ByteArray) (u : Uu) : Bool := (namesF u.f).any fun x => x.toList == s.toList
def dW (b : Bool) (j : Nat) (p : Int × Bool) : Int × Bool := if b then ((j : Int), true) else p
def nameF (file : Nat) : ByteArray := ⟨#[70]⟩ ++ (⟨#[48, 49, 50, 51, 52]⟩ : ByteArray).extract (file % 5) (file % 5 + 1)
theorem any_beq_comm (s : ByteArray) (l : List ByteArray) : (l.any fun x => s.toList == x.toList) = (l.any fun x => x.toList == s.toList) := by
  congr 1; funext x; exact Bool.beq_comm
theorem mode_pos {f m : Nat} (h : modeF f m ≠ 0) : (namesF f).length = 0 := by
  unfold modeF at h
  split at h
  · exact absurd rfl h
  · omega
theorem lawP2_sel (m : Nat) (hm : m ≠ 0) (u : Uu) : selP2 m (ruOf u) = lawP2 m u := by
  unfold selP2 lawP2
  by_cases h : modeF u.f u.m = m
  · have := mode_pos (f := u.f) (m := u.m) (by omega)
    have hm' : (m : Int) > 0 := by omega
    simp [ruOf, this, h]; omega
  · have : ((modeF u.f u.m : Int) == (m : Int)) = false := by simp; omega
    simp [ruOf, this]
/-- what Select finds is what the law asks -/
theorem sel_law (l : List Uu) (s : ByteArray) (m : Nat) : (max (selI (l.map ruOf) s m) 0, decide (selI (l.map ruOf) s m ≥ 0)) = selW (lawP1 s) l (selW (lawP2 m) l 0 false 0).1 (selW (lawP2 m) l 0 false 0).2 0 := by
  have e1 : idxI (selP1 s) (l.map ruOf) = idxI (lawP1 s) l := by
    rw [idxI_map]; congr 1; funext u; exact any_beq_comm s _
  have n1 := idxI_nonneg (lawP1 s) l
  rw [selW_zero]
  cases h1 : l.any (lawP1 s) with
  | true =>
    rw [h1] at n1
    have n1 := of_decide_eq_true n1
    have : selI (l.map ruOf) s m = idxI (lawP1 s) l := by rw [selI, e1, if_neg (by omega)]
    rw [this, if_pos rfl]
    have : max (idxI (lawP1 s) l) 0 = idxI (lawP1 s) l := by omega
    rw [this]; simp [n1]
  | false =>
    rw [h1] at n1
    have n1 := of_decide_eq_false n1
    rw [if_neg (by simp), selW_zero]
    by_cases hm : m = 0
    · have : selI (l.map ruOf) s m = idxI (lawP1 s) l := by rw [selI, e1, if_neg (fun h => h.2 hm)]
      rw [this, idxI_none h1]
      have : l.any (lawP2 m) = false := by rw [List.any_eq_false]; intro x _; simp [lawP2, hm]
      rw [this]; rfl
    · have : selI (l.map ruOf) s m = idxI (lawP2 m) l := by
        rw [selI, e1, if_pos ⟨by omega, hm⟩, idxI_map]
        congr 1; funext u; exact lawP2_sel m hm u
      rw [this]
      have n2 := idxI_nonneg (lawP2 m) l
      cases h2 : l.any (lawP2 m) with
      | true =>
        rw [h2] at n2
        have n2 := of_decide_eq_true n2
        rw [if_pos rfl]
        have : max (idxI (lawP2 m) l) 0 = idxI (lawP2 m) l := by omega
        rw [this]; simp [n2]
      | false => rw [idxI_none h2]; rfl

theorem lawSelect_run {d : Nat} (hd : 9 ≤ d) (S : St) {x : D} {l : List Uu} (hS : SlD 3 (uRows l) x) (file mode : Nat) (hf : file < 256) (hm : mode < 256) :
    runF LP NN d 4 [x, .int .u8 file, .int .u8 mode] S = some (.bool true, S, false) := by
  refine run_pure (F := F4) rfl (by simp only [LP, fnOf, snapVs, snaps, zs, Bool.false_eq_true, if_false, Option.map_some, List.map_cons, List.map_nil, hS.snapV, hS.freeV] <;> exact rfl) rfl (by simp only [LP, zf, List.all_cons, List.all_nil, Bool.and_true, Bool.true_and, hS.snapV, hS.freeV]; try rfl) (by simp only [F4, zv] <;> exact rfl) (by omega) ?_
  rintro d rfl
  refine cw_seq ?_
  refine cw_region ?_
  refine ow_op (by simp only [opd, zv, exOp, aop, LOp.loud, pop, zp, hS.len, uRows_len] <;> exact rfl) ?_
  refine ow_nil ?_
  refine sk_n (by simp only [exports, zn, zg] <;> exact rfl) ?_
  refine cw_seq ?_
  refine cw_seq ?_
  refine cw_region ?_
  refine ow_op (by simp only [opd, zv, exOp, aop, LOp.loud, pop, zp, hS.len, uRows_len] <;> exact rfl) ?_
  refine ow_op (by simp only [opd, zv, exOp, aop, LOp.loud, pop, zp, lenD_str, lenD_nils, lenD_sl, lenD_msl, hS.len, uRows_len] <;> exact rfl) ?_
  refine ow_op (by simp only [opd, zv, exOp, aop, LOp.loud, pop, zp, binD, eq_self, ne_eq, not_false_eq_true, true_and, Int.reduceEq, ite_true, ite_false, not_true_eq_false, Int.reduceToNat, Int.reduceLT, hS.len, uRows_len] <;> exact rfl) ?_
  refine ow_nil ?_
  refine sk_n (by simp only [exports, zn, zg] <;> exact rfl) ?_
  refine cw_cond (by simp only [opd, zv, hS.len, uRows_len] <;> exact rfl) (fun hc => ?_) (fun hc => ?_)
  · skip -- T
    refine cw_seq ?_
    refine cw_region ?_
    refine ow_op (by simp only [exOp, opd, zv, hS.len, uRows_len]; exact lives_run (by omega) _) ?_
    refine ow_op (by simp only [opd, zv, exOp, aop, LOp.loud, pop, zp, hS.len, uRows_len] <;> exact rfl) ?_
    refine ow_nil ?_
    refine sk_n (by simp only [exports, zn, zg] <;> exact rfl) ?_
    refine cw_ret ?_
    refine sk_r ?_
    refine ⟨_, by simp only [F4, resultD, resDs, resD, List.getD_cons_zero, List.getD_cons_succ, loadD_cptr, loadD_ptr, rowsOf, partD, List.getElem?_cons_zero, List.getElem?_cons_succ, if_true, if_false, Bool.false_eq_true, List.take, List.drop, zm] <;> exact rfl, ?_⟩
    rfl
  · skip -- F
    have hl8 : l.length ≤ 8 := by have := of_decide_eq_false hc; omega
    have ht5 : (file : Int).tmod 5 = ((file % 5 : Nat) : Int) := tmod_nat file 5
    have hw5 : IntKind.u8.wrap (((file % 5 : Nat) : Int) + 1) = ((file % 5 + 1 : Nat) : Int) := wrap_u8 (file % 5 + 1) (by omega)
    have ht7 : (mode : Int).tmod 7 = ((mode % 7 : Nat) : Int) := tmod_nat mode 7
    have hwl := wrap_sub (l.length : Int) (by omega) (by omega)
    refine cw_skip ?_
    refine sk_n rfl ?_
    refine cw_seq ?_
    refine cw_region ?_
    refine ow_op (by simp only [opd, zv, exOp, aop, LOp.loud, pop, zp, hS.len, uRows_len, ht5, hw5, ht7, hwl] <;> exact rfl) ?_
    refine ow_nil ?_
    refine sk_n (by simp only [exports, zn, zg] <;> exact rfl) ?_
    refine cw_seq ?_
    refine cw_seq ?_
    refine cw_region ?_
    refine ow_op (by simp only [opd, zv, exOp, aop, LOp.loud, pop, zp, hS.len, uRows_len, ht5, hw5, ht7, hwl] <;> exact rfl) ?_
    refine ow_nil ?_
    refine sk_n (by simp only [exports, zn, zg] <;> exact rfl) ?_
    refine cw_block ?_
    refine cw_loop (fun n env S' => ∃ (i : Nat) (xr u6 u7 u8 u9 u10 u11 u12 u13 u14 u15 u16 u17 u18 u19 u20 u21 : D), i ≤ l.length ∧ n = l.length - i ∧ AppS [] 0 47 3 (ruRows ((l.take i).map ruOf)) S' xr ∧ env = [x, .int .u8 file, .int .u8 mode, .bool false, xr, .int .i64 i, u6, u7, u8, u9, u10, u11, u12, u13, u14, u15, u16, u17, u18, u19, u20, u21]) (l.length) (by omega) (⟨0, _, _, _, _, _, _, _, _, _, _, _, _, _, _, _, _, _, by omega, by omega, AppS.nil _ _ _ _, rfl⟩) ?_
    rintro n env S' ⟨i, xr, u6, u7, u8, u9, u10, u11, u12, u13, u14, u15, u16, u17, u18, u19, u20, u21, hi, rfl, hA, rfl⟩
    have h0 : (0 : Int) ≤ (i : Int) := by omega
    refine cw_seq ?_
    refine cw_seq ?_
    refine cw_region ?_
    refine ow_op (by simp only [opd, zv, exOp, aop, LOp.loud, pop, zp, hS.len, uRows_len, ht5, hw5, ht7, hwl] <;> exact rfl) ?_
    refine ow_op (by simp only [opd, zv, exOp, aop, LOp.loud, pop, zp, hS.len, uRows_len, ht5, hw5, ht7, hwl] <;> exact rfl) ?_
    refine ow_op (by simp only [opd, zv, exOp, aop, LOp.loud, pop, zp, lenD_str, lenD_nils, lenD_sl, lenD_msl, hS.len, uRows_len, ht5, hw5, ht7, hwl] <;> exact rfl) ?_
    refine ow_op (by simp only [opd, zv, exOp, aop, LOp.loud, pop, zp, binD, eq_self, ne_eq, not_false_eq_true, true_and, Int.reduceEq, ite_true, ite_false, not_true_eq_false, Int.reduceToNat, Int.reduceLT, hS.len, uRows_len, ht5, hw5, ht7, hwl] <;> exact rfl) ?_
    refine ow_nil ?_
    refine sk_n (by simp only [exports, zn, zg] <;> exact rfl) ?_
    refine cw_cond (by simp only [opd, zv, hS.len, uRows_len, ht5, hw5, ht7, hwl] <;> exact rfl) (fun hcFA => ?_) (fun hcFA => ?_)
    · skip -- FAT
      have hlt : i < l.length := by have := of_decide_eq_true hcFA; omega
      have hw := wrap_nat i (by omega)
      have hia := fun (S : St) => hS.iaddrN S .i64 (uRows_at hlt)
      obtain ⟨x', S2, hap, hA'⟩ := hA.app (by simp) 48 (new := [(ruOf l[i]).row]) (c := some 1) rfl (by simp [ruRows]; omega)
      simp only [Ru.row, ruOf] at hap
      refine cw_skip ?_
      refine sk_n rfl ?_
      refine cw_seq ?_
      refine cw_block ?_
      refine cw_drawn (by simp only [newsVals, List.length_nil, List.length_cons, List.range_succ, List.range_zero, List.nil_append, List.map_nil, List.reverse_nil, List.cons_append, List.map_cons, List.reverse_cons, Nat.zero_add, Nat.add_zero, Nat.reduceAdd] <;> exact rfl) (by simp only [List.map_nil, List.map_cons, newsObj, St.eta, List.append_nil, List.cons_append, List.nil_append, List.length_cons, List.length_nil] <;> exact rfl) ?_
      refine dw_quiet (by simp only [opd, zv, exOp, aop, LOp.loud, pop, zp, hS.len, uRows_len, ht5, hw5, ht7, hwl, hw, hia, (strsD_S (namesF l[i].f)).snap, (strsD_S (namesF l[i].f)).free, (strsD_S (namesF l[i].f)).isCell, (strsD_S (namesF l[i].f)).val, (strsD_S (namesF l[i].f)).cells] <;> exact rfl) rfl rfl ?_
      refine dw_quiet (by simp only [opd, zv, exOp, aop, LOp.loud, pop, zp, hS.len, uRows_len, ht5, hw5, ht7, hwl, hw, hia, (strsD_S (namesF l[i].f)).snap, (strsD_S (namesF l[i].f)).free, (strsD_S (namesF l[i].f)).isCell, (strsD_S (namesF l[i].f)).val, (strsD_S (namesF l[i].f)).cells] <;> exact rfl) rfl rfl ?_
      refine dw_quiet (by simp only [opd, zv, exOp, aop, LOp.loud, pop, zp, hS.len, uRows_len, ht5, hw5, ht7, hwl, hw, hia, (strsD_S (namesF l[i].f)).snap, (strsD_S (namesF l[i].f)).free, (strsD_S (namesF l[i].f)).isCell, (strsD_S (namesF l[i].f)).val, (strsD_S (namesF l[i].f)).cells] <;> exact rfl) rfl rfl ?_
      refine dw_op (by simp only [opd, zv, exOp, aop, LOp.loud, lop, rowsOf, newAt, setAt, zh, zm, iaddrD_sl, iaddrD_msl, Int.toNat_natCast, Int.toNat_zero, List.getElem?_map, Option.map_some, Int.le_refl, hS.len, uRows_len, ht5, hw5, ht7, hwl, hw, hia, (strsD_S (namesF l[i].f)).snap, (strsD_S (namesF l[i].f)).free, (strsD_S (namesF l[i].f)).isCell, (strsD_S (namesF l[i].f)).val, (strsD_S (namesF l[i].f)).cells] <;> exact rfl) (by simp only [fpHere, opd, List.map_cons, List.map_nil, List.getD_cons_zero, List.getD_cons_succ, zq, hS.fpi, (strsD_S _).fpi] <;> exact rfl) rfl ?_
      refine dw_op (by simp only [opd, zv, exOp, aop, LOp.loud, lop, rowsOf, newAt, setAt, zh, zm, loadD_cptr, loadD_ptr, partD, List.take, List.drop, hS.len, uRows_len, ht5, hw5, ht7, hwl, hw, hia, (strsD_S (namesF l[i].f)).snap, (strsD_S (namesF l[i].f)).free, (strsD_S (namesF l[i].f)).isCell, (strsD_S (namesF l[i].f)).val, (strsD_S (namesF l[i].f)).cells] <;> exact rfl) (by simp only [fpHere, opd, List.map_cons, List.map_nil, List.getD_cons_zero, List.getD_cons_succ, zq, hS.fpi, (strsD_S _).fpi] <;> exact rfl) rfl ?_
      refine dw_op (by simp only [exOp, opd, zv, hS.len, uRows_len, ht5, hw5, ht7, hwl, hw, hia, (strsD_S (namesF l[i].f)).snap, (strsD_S (namesF l[i].f)).free, (strsD_S (namesF l[i].f)).isCell, (strsD_S (namesF l[i].f)).val, (strsD_S (namesF l[i].f)).cells]; exact names_run (by omega) _ _ _ _ (l[i].hf)) (by simp only [fpHere, opd, List.map_cons, List.map_nil, List.getD_cons_zero, List.getD_cons_succ, zq, hS.fpi, (strsD_S _).fpi] <;> exact rfl) rfl ?_
      refine dw_quiet (by simp only [opd, zv, exOp, aop, LOp.loud, pop, zp, hS.len, uRows_len, ht5, hw5, ht7, hwl, hw, hia, (strsD_S (namesF l[i].f)).snap, (strsD_S (namesF l[i].f)).free, (strsD_S (namesF l[i].f)).isCell, (strsD_S (namesF l[i].f)).val, (strsD_S (namesF l[i].f)).cells] <;> exact rfl) rfl rfl ?_
      refine dw_quiet (by simp only [opd, zv, exOp, aop, LOp.loud, pop, zp, hS.len, uRows_len, ht5, hw5, ht7, hwl, hw, hia, (strsD_S (namesF l[i].f)).snap, (strsD_S (namesF l[i].f)).free, (strsD_S (namesF l[i].f)).isCell, (strsD_S (namesF l[i].f)).val, (strsD_S (namesF l[i].f)).cells] <;> exact rfl) rfl rfl ?_
      refine dw_op (by simp only [opd, zv, exOp, aop, LOp.loud, lop, rowsOf, newAt, setAt, zh, zm, iaddrD_sl, iaddrD_msl, Int.toNat_natCast, Int.toNat_zero, List.getElem?_map, Option.map_some, Int.le_refl, hS.len, uRows_len, ht5, hw5, ht7, hwl, hw, hia, (strsD_S (namesF l[i].f)).snap, (strsD_S (namesF l[i].f)).free, (strsD_S (namesF l[i].f)).isCell, (strsD_S (namesF l[i].f)).val, (strsD_S (namesF l[i].f)).cells] <;> exact rfl) (by simp only [fpHere, opd, List.map_cons, List.map_nil, List.getD_cons_zero, List.getD_cons_succ, zq, hS.fpi, (strsD_S _).fpi] <;> exact rfl) rfl ?_
      refine dw_op (by simp only [opd, zv, exOp, aop, LOp.loud, lop, rowsOf, newAt, setAt, zh, zm, loadD_cptr, loadD_ptr, partD, List.take, List.drop, hS.len, uRows_len, ht5, hw5, ht7, hwl, hw, hia, (strsD_S (namesF l[i].f)).snap, (strsD_S (namesF l[i].f)).free, (strsD_S (namesF l[i].f)).isCell, (strsD_S (namesF l[i].f)).val, (strsD_S (namesF l[i].f)).cells] <;> exact rfl) (by simp only [fpHere, opd, List.map_cons, List.map_nil, List.getD_cons_zero, List.getD_cons_succ, zq, hS.fpi, (strsD_S _).fpi] <;> exact rfl) rfl ?_
      refine dw_op (by simp only [exOp, opd, zv, hS.len, uRows_len, ht5, hw5, ht7, hwl, hw, hia, (strsD_S (namesF l[i].f)).snap, (strsD_S (namesF l[i].f)).free, (strsD_S (namesF l[i].f)).isCell, (strsD_S (namesF l[i].f)).val, (strsD_S (namesF l[i].f)).cells]; exact mode_run (by omega) _ _ _ _ (l[i].hf)) (by simp only [fpHere, opd, List.map_cons, List.map_nil, List.getD_cons_zero, List.getD_cons_succ, zq, hS.fpi, (strsD_S _).fpi] <;> exact rfl) rfl ?_
      refine dw_quiet (by simp only [opd, zv, exOp, aop, LOp.loud, pop, zp, fillD, overlay, zc, List.take, List.drop, Nat.reduceAdd, Nat.reduceLeDiff, Nat.reduceBEq, zm, hS.len, uRows_len, ht5, hw5, ht7, hwl, hw, hia, (strsD_S (namesF l[i].f)).snap, (strsD_S (namesF l[i].f)).free, (strsD_S (namesF l[i].f)).isCell, (strsD_S (namesF l[i].f)).val, (strsD_S (namesF l[i].f)).cells] <;> exact rfl) rfl rfl ?_
      refine dw_op (by simp only [opd, zv, exOp, aop, LOp.loud, lop, rowsOf, newAt, setAt, zh, zm, fillRows, List.replicate, snapVs, snaps, zs, zc, zf, hS.len, uRows_len, ht5, hw5, ht7, hwl, hw, hia, (strsD_S (namesF l[i].f)).snap, (strsD_S (namesF l[i].f)).free, (strsD_S (namesF l[i].f)).isCell, (strsD_S (namesF l[i].f)).val, (strsD_S (namesF l[i].f)).cells] <;> exact rfl) (by simp only [fpHere, opd, List.map_cons, List.map_nil, List.getD_cons_zero, List.getD_cons_succ, zq, hS.fpi, (strsD_S _).fpi] <;> exact rfl) rfl ?_
      refine dw_op (by simp only [opd, zv, exOp, aop, LOp.loud, lop, if_true]; exact hap) (by simp only [fpHere, opd, List.map_cons, List.map_nil, List.getD_cons_zero, List.getD_cons_succ, zq, hS.fpi, (strsD_S _).fpi] <;> exact rfl) rfl ?_
      refine dw_quiet (by simp only [opd, zv, exOp, aop, LOp.loud, pop, zp, hS.len, uRows_len, ht5, hw5, ht7, hwl, hw, hia, (strsD_S (namesF l[i].f)).snap, (strsD_S (namesF l[i].f)).free, (strsD_S (namesF l[i].f)).isCell, (strsD_S (namesF l[i].f)).val, (strsD_S (namesF l[i].f)).cells] <;> exact rfl) rfl rfl ?_
      refine dw_nil ?_
      refine bk_n ?_
      refine sk_n (by simp only [exports, zn, zg] <;> exact rfl) ?_
      refine cw_region ?_
      refine ow_op (by simp only [opd, zv, exOp, aop, LOp.loud, pop, zp, hS.len, uRows_len, ht5, hw5, ht7, hwl, hw, hia, (strsD_S (namesF l[i].f)).snap, (strsD_S (namesF l[i].f)).free, (strsD_S (namesF l[i].f)).isCell, (strsD_S (namesF l[i].f)).val, (strsD_S (namesF l[i].f)).cells] <;> exact rfl) ?_
      refine ow_op (by simp only [opd, zv, exOp, aop, LOp.loud, pop, zp, binD, eq_self, ne_eq, not_false_eq_true, true_and, Int.reduceEq, ite_true, ite_false, not_true_eq_false, Int.reduceToNat, Int.reduceLT, hS.len, uRows_len, ht5, hw5, ht7, hwl, hw, hia, (strsD_S (namesF l[i].f)).snap, (strsD_S (namesF l[i].f)).free, (strsD_S (namesF l[i].f)).isCell, (strsD_S (namesF l[i].f)).val, (strsD_S (namesF l[i].f)).cells] <;> exact rfl) ?_
      refine ow_op (by simp only [opd, zv, exOp, aop, LOp.loud, pop, zp, hS.len, uRows_len, ht5, hw5, ht7, hwl, hw, hia, (strsD_S (namesF l[i].f)).snap, (strsD_S (namesF l[i].f)).free, (strsD_S (namesF l[i].f)).isCell, (strsD_S (namesF l[i].f)).val, (strsD_S (namesF l[i].f)).cells] <;> exact rfl) ?_
      refine ow_nil ?_
      refine lk_n (by simp only [exports, zn, zg] <;> exact rfl) ?_
      exact ⟨l.length - (i + 1), by omega, i + 1, x', _, _, _, _, _, _, _, _, _, _, _, _, _, _, _, _, by omega, rfl, by rw [ru_add l i hlt]; exact hA', rfl⟩
    · skip -- FAF
      have hge : l.length ≤ i := by have := of_decide_eq_false hcFA; omega
      rw [List.take_of_length_le hge] at hA
      rename St => SA
      refine cw_exit ?_
      refine sk_e ?_
      refine lk_e ?_
      refine bk_e ?_
      refine sk_n rfl ?_
      refine cw_seq ?_
      refine cw_region ?_
      refine ow_op (by simp only [opd, zv, exOp, aop, LOp.loud, pop, zp, hS.len, uRows_len, ht5, hw5, ht7, hwl] <;> exact rfl) ?_
      refine ow_op (by simp only [opd, zv, exOp, aop, LOp.loud, pop, zp, binD, eq_self, ne_eq, not_false_eq_true, true_and, Int.reduceEq, ite_true, ite_false, not_true_eq_false, Int.reduceToNat, Int.reduceLT, hS.len, uRows_len, ht5, hw5, ht7, hwl] <;> exact rfl) ?_
      refine ow_op (by simp only [opd, zv, exOp, aop, LOp.loud, pop, zp, hS.len, uRows_len, ht5, hw5, ht7, hwl] <;> exact rfl) ?_
      refine ow_op (by simp only [opd, zv, exOp, aop, LOp.loud, pop, zp, binD, eq_self, ne_eq, not_false_eq_true, true_and, Int.reduceEq, ite_true, ite_false, not_true_eq_false, Int.reduceToNat, Int.reduceLT, hS.len, uRows_len, ht5, hw5, ht7, hwl] <;> exact rfl) ?_
      refine ow_op (by simp only [opd, zv, exOp, aop, LOp.loud, pop, zp, binD, eq_self, ne_eq, not_false_eq_true, true_and, Int.reduceEq, ite_true, ite_false, not_true_eq_false, Int.reduceToNat, Int.reduceLT, hS.len, uRows_len, ht5, hw5, ht7, hwl] <;> exact rfl) ?_
      refine ow_op (by simp only [opd, zv, ht5, hw5]; exact x_strslice .u8 .u8 (by omega) (by show _ ≤ 5; omega)) ?_
      refine ow_op (by simp only [opd, zv]; exact x_stradd (by rw [ByteArray.size_extract]; show 1 + (min _ 5 - _) ≤ _; omega)) ?_
      refine ow_op (by simp only [opd, zv, exOp, aop, LOp.loud, pop, zp, hS.len, uRows_len, ht5, hw5, ht7, hwl] <;> exact rfl) ?_
      refine ow_nil ?_
      refine sk_n (by simp only [exports, zn, zg] <;> exact rfl) ?_
      refine cw_seq ?_
      refine cw_region ?_
      refine ow_op (by simp only [opd, zv, exOp, aop, LOp.loud, pop, zp, hS.len, uRows_len, ht5, hw5, ht7, hwl] <;> exact rfl) ?_
      refine ow_op (by simp only [opd, zv, exOp, aop, LOp.loud, pop, zp, binD, eq_self, ne_eq, not_false_eq_true, true_and, Int.reduceEq, ite_true, ite_false, not_true_eq_false, Int.reduceToNat, Int.reduceLT, hS.len, uRows_len, ht5, hw5, ht7, hwl] <;> exact rfl) ?_
      refine ow_op (by simp only [opd, zv, exOp, aop, LOp.loud, pop, zp, hS.len, uRows_len, ht5, hw5, ht7, hwl] <;> exact rfl) ?_
      refine ow_nil ?_
      refine sk_n (by simp only [exports, zn, zg] <;> exact rfl) ?_
      refine cw_seq ?_
      refine cw_region ?_
      refine ow_op (by simp only [opd, zv, exOp, aop, LOp.loud, pop, zp, hS.len, uRows_len, ht5, hw5, ht7, hwl] <;> exact rfl) ?_
      refine ow_op (by simp only [opd, zv, exOp, aop, LOp.loud, pop, zp, hS.len, uRows_len, ht5, hw5, ht7, hwl] <;> exact rfl) ?_
      refine ow_nil ?_
      refine sk_n (by simp only [exports, zn, zg] <;> exact rfl) ?_
      refine cw_seq ?_
      refine cw_seq ?_
      refine cw_region ?_
      refine ow_op (by simp only [opd, zv, exOp, aop, LOp.loud, pop, zp, hS.len, uRows_len, ht5, hw5, ht7, hwl] <;> exact rfl) ?_
      refine ow_op (by simp only [opd, zv, exOp, aop, LOp.loud, pop, zp, lenD_str, lenD_nils, lenD_sl, lenD_msl, hS.len, uRows_len, ht5, hw5, ht7, hwl] <;> exact rfl) ?_
      refine ow_op (by simp only [opd, zv, exOp, aop, LOp.loud, pop, zp, binD, eq_self, ne_eq, not_false_eq_true, true_and, Int.reduceEq, ite_true, ite_false, not_true_eq_false, Int.reduceToNat, Int.reduceLT, hS.len, uRows_len, ht5, hw5, ht7, hwl] <;> exact rfl) ?_
      refine ow_op (by simp only [opd, zv, exOp, aop, LOp.loud, pop, zp, hS.len, uRows_len, ht5, hw5, ht7, hwl] <;> exact rfl) ?_
      refine ow_nil ?_
      refine sk_n (by simp only [exports, zn, zg] <;> exact rfl) ?_
      refine cw_block ?_
      refine cw_loop (fun n env S' => ∃ (k : Nat) (u5 u11 u12 u13 u14 u15 u16 u17 u18 u19 u20 u21 : D), k ≤ l.length ∧ k = n ∧ SA = S' ∧ env = [x, .int .u8 file, .int .u8 mode, .bool false, xr, u5, .str (nameF file), .int .u8 ((mode % 7 : Nat) : Int), .int .i64 (selW (lawP2 (mode % 7)) l 0 false k).1, .bool (selW (lawP2 (mode % 7)) l 0 false k).2, .int .i64 ((k : Int) - 1), u11, u12, u13, u14, u15, u16, u17, u18, u19, u20, u21]) (l.length) (by omega) (⟨l.length, _, _, _, _, _, _, _, _, _, _, _, _, by omega, rfl, rfl, by first | (simp only [selW_len]; done) | (simp only [selW_len]; exact rfl)⟩) ?_
      rintro n env S' ⟨k, u5, u11, u12, u13, u14, u15, u16, u17, u18, u19, u20, u21, hk, rfl, rfl, rfl⟩
      refine cw_seq ?_
      refine cw_seq ?_
      refine cw_region ?_
      refine ow_op (by simp only [opd, zv, exOp, aop, LOp.loud, pop, zp, hS.len, uRows_len, ht5, hw5, ht7, hwl] <;> exact rfl) ?_
      refine ow_op (by simp only [opd, zv, exOp, aop, LOp.loud, pop, zp, binD, eq_self, ne_eq, not_false_eq_true, true_and, Int.reduceEq, ite_true, ite_false, not_true_eq_false, Int.reduceToNat, Int.reduceLT, hS.len, uRows_len, ht5, hw5, ht7, hwl] <;> exact rfl) ?_
      refine ow_nil ?_
      refine sk_n (by simp only [exports, zn, zg] <;> exact rfl) ?_
      refine cw_cond (by simp only [opd, zv, hS.len, uRows_len, ht5, hw5, ht7, hwl] <;> exact rfl) (fun hcFAFB => ?_) (fun hcFAFB => ?_)
      · skip -- FAFBT
        have hk1 : 1 ≤ k := by have := of_decide_eq_true hcFAFB; omega
        obtain ⟨j, rfl⟩ : ∃ j', k = j' + 1 := ⟨k - 1, by omega⟩
        have hj : ((((j + 1 : Nat) : Int)) - 1) = (j : Int) := by omega
        have hwd := wrap_sub (j : Int) (by omega) (by omega)
        have hlt : j < l.length := by omega
        have hia := fun (S : St) => hS.iaddrN S .i64 (uRows_at hlt)
        refine cw_skip ?_
        refine sk_n rfl ?_
        refine cw_seq ?_
        refine cw_block ?_
        refine cw_seq ?_
        refine cw_region ?_
        refine ow_op (by simp only [opd, zv, exOp, aop, LOp.loud, pop, zp, hS.len, uRows_len, ht5, hw5, ht7, hwl, hj, hwd, hia] <;> exact rfl) ?_
        refine ow_op (by simp only [opd, zv, exOp, aop, LOp.loud, pop, zp, hS.len, uRows_len, ht5, hw5, ht7, hwl, hj, hwd, hia] <;> exact rfl) ?_
        refine ow_op (by simp only [opd, zv, exOp, aop, LOp.loud, lop, rowsOf, newAt, setAt, zh, zm, iaddrD_sl, iaddrD_msl, Int.toNat_natCast, Int.toNat_zero, List.getElem?_map, Option.map_some, Int.le_refl, hS.len, uRows_len, ht5, hw5, ht7, hwl, hj, hwd, hia] <;> exact rfl) ?_
        refine ow_op (by simp only [opd, zv, exOp, aop, LOp.loud, lop, rowsOf, newAt, setAt, zh, zm, loadD_cptr, loadD_ptr, partD, List.take, List.drop, hS.len, uRows_len, ht5, hw5, ht7, hwl, hj, hwd, hia] <;> exact rfl) ?_
        refine ow_op (by simp only [exOp, opd, zv, hS.len, uRows_len, ht5, hw5, ht7, hwl, hj, hwd, hia]; exact mode_run (by omega) _ _ _ _ (l[j].hf)) ?_
        refine ow_op (by simp only [opd, zv, exOp, aop, LOp.loud, pop, zp, hS.len, uRows_len, ht5, hw5, ht7, hwl, hj, hwd, hia] <;> exact rfl) ?_
        refine ow_op (by simp only [opd, zv, exOp, aop, LOp.loud, pop, zp, binD, eq_self, ne_eq, not_false_eq_true, true_and, Int.reduceEq, ite_true, ite_false, not_true_eq_false, Int.reduceToNat, Int.reduceLT, hS.len, uRows_len, ht5, hw5, ht7, hwl, hj, hwd, hia] <;> exact rfl) ?_
        refine ow_op (by simp only [opd, zv, exOp, aop, LOp.loud, pop, zp, hS.len, uRows_len, ht5, hw5, ht7, hwl, hj, hwd, hia] <;> exact rfl) ?_
        refine ow_split 0 (by simp only [opd, zv] <;> exact rfl) (by simp only [zn] <;> exact rfl) (by simp only [zn] <;> exact rfl) (fun hgFAFBT => ?_) (fun hgFAFBT => ?_)
        · skip -- FAFBTT
          refine ow_on (by simp only [opd, zv]) ?_
          refine ow_op (by simp only [opd, zv, exOp, aop, LOp.loud, pop, zp, hS.len, uRows_len, ht5, hw5, ht7, hwl, hj, hwd, hia] <;> exact rfl) ?_
          refine ow_on (by simp only [opd, zv]) ?_
          refine ow_op (by simp only [opd, zv, exOp, aop, LOp.loud, pop, zp, binD, eq_self, ne_eq, not_false_eq_true, true_and, Int.reduceEq, ite_true, ite_false, not_true_eq_false, Int.reduceToNat, Int.reduceLT, hS.len, uRows_len, ht5, hw5, ht7, hwl, hj, hwd, hia] <;> exact rfl) ?_
          refine ow_op (by simp only [opd, zv, exOp, aop, LOp.loud, pop, zp, hS.len, uRows_len, ht5, hw5, ht7, hwl, hj, hwd, hia] <;> exact rfl) ?_
          refine ow_nil ?_
          refine sk_n (by simp only [exports, zn, zg] <;> exact rfl) ?_
          refine cw_cond (by simp only [opd, zv, hS.len, uRows_len, ht5, hw5, ht7, hwl, hj, hwd, hia] <;> exact rfl) (fun hcFAFBTT => ?_) (fun hcFAFBTT => ?_)
          · skip -- FAFBTTT
            refine cw_region ?_
            refine ow_op (by simp only [opd, zv, exOp, aop, LOp.loud, pop, zp, hS.len, uRows_len, ht5, hw5, ht7, hwl, hj, hwd, hia] <;> exact rfl) ?_
            refine ow_op (by simp only [opd, zv, exOp, aop, LOp.loud, pop, zp, hS.len, uRows_len, ht5, hw5, ht7, hwl, hj, hwd, hia] <;> exact rfl) ?_
            refine ow_op (by simp only [opd, zv, exOp, aop, LOp.loud, pop, zp, hS.len, uRows_len, ht5, hw5, ht7, hwl, hj, hwd, hia] <;> exact rfl) ?_
            refine ow_nil ?_
            refine bk_n ?_
            refine sk_n (by simp only [exports, zn, zg] <;> exact rfl) ?_
            refine cw_region ?_
            refine ow_op (by simp only [opd, zv, exOp, aop, LOp.loud, pop, zp, hS.len, uRows_len, ht5, hw5, ht7, hwl, hj, hwd, hia] <;> exact rfl) ?_
            refine ow_op (by simp only [opd, zv, exOp, aop, LOp.loud, pop, zp, binD, eq_self, ne_eq, not_false_eq_true, true_and, Int.reduceEq, ite_true, ite_false, not_true_eq_false, Int.reduceToNat, Int.reduceLT, hS.len, uRows_len, ht5, hw5, ht7, hwl, hj, hwd, hia] <;> exact rfl) ?_
            refine ow_op (by simp only [opd, zv, exOp, aop, LOp.loud, pop, zp, hS.len, uRows_len, ht5, hw5, ht7, hwl, hj, hwd, hia] <;> exact rfl) ?_
            refine ow_nil ?_
            refine lk_n (by simp only [exports, zn, zg] <;> exact rfl) ?_
            have hP : lawP2 (mode % 7) l[j] = true := by simp only [lawP2, hgFAFBT, hcFAFBTT, Bool.and_self]
            exact ⟨j, by omega, j, _, _, _, _, _, _, _, _, _, _, _, _, by omega, rfl, rfl, by first | (simp only [selW_hit hlt hP]; done) | (simp only [selW_hit hlt hP]; exact rfl)⟩
          · skip -- FAFBTTF
            refine cw_skip ?_
            refine bk_n ?_
            refine sk_n rfl ?_
            refine cw_region ?_
            refine ow_op (by simp only [opd, zv, exOp, aop, LOp.loud, pop, zp, hS.len, uRows_len, ht5, hw5, ht7, hwl, hj, hwd, hia] <;> exact rfl) ?_
            refine ow_op (by simp only [opd, zv, exOp, aop, LOp.loud, pop, zp, binD, eq_self, ne_eq, not_false_eq_true, true_and, Int.reduceEq, ite_true, ite_false, not_true_eq_false, Int.reduceToNat, Int.reduceLT, hS.len, uRows_len, ht5, hw5, ht7, hwl, hj, hwd, hia] <;> exact rfl) ?_
            refine ow_op (by simp only [opd, zv, exOp, aop, LOp.loud, pop, zp, hS.len, uRows_len, ht5, hw5, ht7, hwl, hj, hwd, hia] <;> exact rfl) ?_
            refine ow_nil ?_
            refine lk_n (by simp only [exports, zn, zg] <;> exact rfl) ?_
            have hP : lawP2 (mode % 7) l[j] = false := by simp only [lawP2, hgFAFBT, hcFAFBTT, Bool.and_false]
            exact ⟨j, by omega, j, _, _, _, _, _, _, _, _, _, _, _, _, by omega, rfl, rfl, by first | (simp only [selW_miss hlt hP]; done) | (simp only [selW_miss hlt hP]; exact rfl)⟩
        · skip -- FAFBTF
          refine ow_off (b' := false) (by simp only [opd, zv]) rfl ?_
          refine ow_off (b' := false) (by simp only [opd, zv]) rfl ?_
          refine ow_op (by simp only [opd, zv, exOp, aop, LOp.loud, pop, zp, hS.len, uRows_len, ht5, hw5, ht7, hwl, hj, hwd, hia] <;> exact rfl) ?_
          refine ow_nil ?_
          refine sk_n (by simp only [exports, zn, zg] <;> exact rfl) ?_
          refine cw_false (by simp only [opd, zv, hS.len, uRows_len, ht5, hw5, ht7, hwl, hj, hwd, hia]) ?_
          refine cw_skip ?_
          refine bk_n ?_
          refine sk_n rfl ?_
          refine cw_region ?_
          refine ow_op (by simp only [opd, zv, exOp, aop, LOp.loud, pop, zp, hS.len, uRows_len, ht5, hw5, ht7, hwl, hj, hwd, hia] <;> exact rfl) ?_
          refine ow_op (by simp only [opd, zv, exOp, aop, LOp.loud, pop, zp, binD, eq_self, ne_eq, not_false_eq_true, true_and, Int.reduceEq, ite_true, ite_false, not_true_eq_false, Int.reduceToNat, Int.reduceLT, hS.len, uRows_len, ht5, hw5, ht7, hwl, hj, hwd, hia] <;> exact rfl) ?_
          refine ow_op (by simp only [opd, zv, exOp, aop, LOp.loud, pop, zp, hS.len, uRows_len, ht5, hw5, ht7, hwl, hj, hwd, hia] <;> exact rfl) ?_
          refine ow_nil ?_
          refine lk_n (by simp only [exports, zn, zg] <;> exact rfl) ?_
          have hP : lawP2 (mode % 7) l[j] = false := by simp only [lawP2, hgFAFBT, Bool.false_and]
          exact ⟨j, by omega, j, _, _, _, _, _, _, _, _, _, _, _, _, by omega, rfl, rfl, by first | (simp only [selW_miss hlt hP]; done) | (simp only [selW_miss hlt hP]; exact rfl)⟩
      · skip -- FAFBF
        have hk0 : k = 0 := by have := of_decide_eq_false hcFAFB; omega
        subst hk0
        obtain ⟨w1, hw1⟩ : ∃ w, w = (selW (lawP2 (mode % 7)) l 0 false 0).1 := ⟨_, rfl⟩
        obtain ⟨t1, ht1⟩ : ∃ w, w = (selW (lawP2 (mode % 7)) l 0 false 0).2 := ⟨_, rfl⟩
        refine cw_exit ?_
        refine sk_e ?_
        refine lk_e ?_
        refine bk_e ?_
        refine sk_n rfl ?_
        refine cw_seq ?_
        refine cw_seq ?_
        refine cw_region ?_
        refine ow_op (by simp only [opd, zv, exOp, aop, LOp.loud, pop, zp, hS.len, uRows_len, ht5, hw5, ht7, hwl, ← hw1, ← ht1] <;> exact rfl) ?_
        refine ow_op (by simp only [opd, zv, exOp, aop, LOp.loud, pop, zp, lenD_str, lenD_nils, lenD_sl, lenD_msl, hS.len, uRows_len, ht5, hw5, ht7, hwl, ← hw1, ← ht1] <;> exact rfl) ?_
        refine ow_op (by simp only [opd, zv, exOp, aop, LOp.loud, pop, zp, binD, eq_self, ne_eq, not_false_eq_true, true_and, Int.reduceEq, ite_true, ite_false, not_true_eq_false, Int.reduceToNat, Int.reduceLT, hS.len, uRows_len, ht5, hw5, ht7, hwl, ← hw1, ← ht1] <;> exact rfl) ?_
        refine ow_op (by simp only [opd, zv, exOp, aop, LOp.loud, pop, zp, hS.len, uRows_len, ht5, hw5, ht7, hwl, ← hw1, ← ht1] <;> exact rfl) ?_
        refine ow_nil ?_
        refine sk_n (by simp only [exports, zn, zg] <;> exact rfl) ?_
        refine cw_block ?_
        refine cw_loop (fun n env S' => ∃ (k : Nat) (u5 u10 u12 u13 u14 u15 u16 u17 u18 u19 u20 u21 : D), k ≤ l.length ∧ k = n ∧ SA = S' ∧ env = [x, .int .u8 file, .int .u8 mode, .bool false, xr, u5, .str (nameF file), .int .u8 ((mode % 7 : Nat) : Int), .int .i64 (selW (lawP1 (nameF file)) l w1 t1 k).1, .bool (selW (lawP1 (nameF file)) l w1 t1 k).2, u10, .int .i64 ((k : Int) - 1), u12, u13, u14, u15, u16, u17, u18, u19, u20, u21]) (l.length) (by omega) (⟨l.length, _, _, _, _, _, _, _, _, _, _, _, _, by omega, rfl, rfl, by first | (simp only [selW_len, hw1, ht1]; done) | (simp only [selW_len, hw1, ht1]; exact rfl)⟩) ?_
        rintro n env S' ⟨k, u5, u10, u12, u13, u14, u15, u16, u17, u18, u19, u20, u21, hk, rfl, rfl, rfl⟩
        refine cw_seq ?_
        refine cw_seq ?_
        refine cw_region ?_
        refine ow_op (by simp only [opd, zv, exOp, aop, LOp.loud, pop, zp, hS.len, uRows_len, ht5, hw5, ht7, hwl, ← hw1, ← ht1] <;> exact rfl) ?_
        refine ow_op (by simp only [opd, zv, exOp, aop, LOp.loud, pop, zp, binD, eq_self, ne_eq, not_false_eq_true, true_and, Int.reduceEq, ite_true, ite_false, not_true_eq_false, Int.reduceToNat, Int.reduceLT, hS.len, uRows_len, ht5, hw5, ht7, hwl, ← hw1, ← ht1] <;> exact rfl) ?_
        refine ow_nil ?_
        refine sk_n (by simp only [exports, zn, zg] <;> exact rfl) ?_
        refine cw_cond (by simp only [opd, zv, hS.len, uRows_len, ht5, hw5, ht7, hwl, ← hw1, ← ht1] <;> exact rfl) (fun hcFAFBFC => ?_) (fun hcFAFBFC => ?_)
        · skip -- FAFBFCT
          have hk1 : 1 ≤ k := by have := of_decide_eq_true hcFAFBFC; omega
          obtain ⟨j, rfl⟩ : ∃ j', k = j' + 1 := ⟨k - 1, by omega⟩
          have hj : ((((j + 1 : Nat) : Int)) - 1) = (j : Int) := by omega
          have hwd := wrap_sub (j : Int) (by omega) (by omega)
          have hlt : j < l.length := by omega
          have hia := fun (S : St) => hS.iaddrN S .i64 (uRows_at hlt)
          refine cw_skip ?_
          refine sk_n rfl ?_
          refine cw_seq ?_
          refine cw_block ?_
          refine cw_seq ?_
          refine cw_region ?_
          refine ow_op (by simp only [opd, zv, exOp, aop, LOp.loud, pop, zp, hS.len, uRows_len, ht5, hw5, ht7, hwl, ← hw1, ← ht1, hj, hwd, hia] <;> exact rfl) ?_
          refine ow_op (by simp only [opd, zv, exOp, aop, LOp.loud, pop, zp, lenD_str, lenD_nils, lenD_sl, lenD_msl, hS.len, uRows_len, ht5, hw5, ht7, hwl, ← hw1, ← ht1, hj, hwd, hia] <;> exact rfl) ?_
          refine ow_op (by simp only [opd, zv, exOp, aop, LOp.loud, pop, zp, binD, eq_self, ne_eq, not_false_eq_true, true_and, Int.reduceEq, ite_true, ite_false, not_true_eq_false, Int.reduceToNat, Int.reduceLT, hS.len, uRows_len, ht5, hw5, ht7, hwl, ← hw1, ← ht1, hj, hwd, hia] <;> exact rfl) ?_
          refine ow_op (by simp only [opd, zv, exOp, aop, LOp.loud, pop, zp, hS.len, uRows_len, ht5, hw5, ht7, hwl, ← hw1, ← ht1, hj, hwd, hia] <;> exact rfl) ?_
          refine ow_nil ?_
          refine sk_n (by simp only [exports, zn, zg] <;> exact rfl) ?_
          refine cw_block ?_
          refine cw_loop (fun n env S' => ∃ (q : Nat) (u5 u10 u13 u14 u15 u16 u17 u18 u19 u20 u21 : D), q ≤ l.length ∧ j ≤ q ∧ n = q - j ∧ SA = S' ∧ env = [x, .int .u8 file, .int .u8 mode, .bool false, xr, u5, .str (nameF file), .int .u8 ((mode % 7 : Nat) : Int), .int .i64 (dW (decide (q < l.length) && lawP1 (nameF file) l[j]) j (selW (lawP1 (nameF file)) l w1 t1 (j + 1))).1, .bool (dW (decide (q < l.length) && lawP1 (nameF file) l[j]) j (selW (lawP1 (nameF file)) l w1 t1 (j + 1))).2, u10, .int .i64 (j : Int), .int .i64 ((q : Int) - 1), u13, u14, u15, u16, u17, u18, u19, u20, u21]) (l.length - j) (by omega) (⟨l.length, _, _, _, _, _, _, _, _, _, _, _, by omega, by omega, by omega, rfl, by first | (simp only [hj, dW, Nat.lt_irrefl, decide_false, Bool.false_and, Bool.false_eq_true, if_false]; done) | (simp only [hj, dW, Nat.lt_irrefl, decide_false, Bool.false_and, Bool.false_eq_true, if_false]; exact rfl)⟩) ?_
          rintro n env S' ⟨q, u5, u10, u13, u14, u15, u16, u17, u18, u19, u20, u21, hq, hjq, rfl, rfl, rfl⟩
          refine cw_seq ?_
          refine cw_seq ?_
          refine cw_region ?_
          refine ow_op (by simp only [opd, zv, exOp, aop, LOp.loud, pop, zp, hS.len, uRows_len, ht5, hw5, ht7, hwl, ← hw1, ← ht1, hj, hwd, hia] <;> exact rfl) ?_
          refine ow_op (by simp only [opd, zv, exOp, aop, LOp.loud, pop, zp, hS.len, uRows_len, ht5, hw5, ht7, hwl, ← hw1, ← ht1, hj, hwd, hia] <;> exact rfl) ?_
          refine ow_op (by simp only [opd, zv, exOp, aop, LOp.loud, pop, zp, binD, eq_self, ne_eq, not_false_eq_true, true_and, Int.reduceEq, ite_true, ite_false, not_true_eq_false, Int.reduceToNat, Int.reduceLT, hS.len, uRows_len, ht5, hw5, ht7, hwl, ← hw1, ← ht1, hj, hwd, hia] <;> exact rfl) ?_
          refine ow_nil ?_
          refine sk_n (by simp only [exports, zn, zg] <;> exact rfl) ?_
          refine cw_cond (by simp only [opd, zv, hS.len, uRows_len, ht5, hw5, ht7, hwl, ← hw1, ← ht1, hj, hwd, hia] <;> exact rfl) (fun hcFAFBFCTD => ?_) (fun hcFAFBFCTD => ?_)
          · skip -- FAFBFCTDT
            have hq1 : j + 1 ≤ q := by have := of_decide_eq_true hcFAFBFCTD; omega
            obtain ⟨q', rfl⟩ : ∃ q', q = q' + 1 := ⟨q - 1, by omega⟩
            have hq' : ((((q' + 1 : Nat) : Int)) - 1) = (q' : Int) := by omega
            have hwq := wrap_sub (q' : Int) (by omega) (by omega)
            have hlq : q' < l.length := by omega
            refine cw_skip ?_
            refine sk_n rfl ?_
            refine cw_seq ?_
            refine cw_block ?_
            refine cw_seq ?_
            refine cw_region ?_
            refine ow_op (by simp only [opd, zv, exOp, aop, LOp.loud, pop, zp, hS.len, uRows_len, ht5, hw5, ht7, hwl, ← hw1, ← ht1, hj, hwd, hia, hq', hwq] <;> exact rfl) ?_
            refine ow_op (by simp only [opd, zv, exOp, aop, LOp.loud, pop, zp, hS.len, uRows_len, ht5, hw5, ht7, hwl, ← hw1, ← ht1, hj, hwd, hia, hq', hwq] <;> exact rfl) ?_
            refine ow_op (by simp only [opd, zv, exOp, aop, LOp.loud, lop, rowsOf, newAt, setAt, zh, zm, iaddrD_sl, iaddrD_msl, Int.toNat_natCast, Int.toNat_zero, List.getElem?_map, Option.map_some, Int.le_refl, hS.len, uRows_len, ht5, hw5, ht7, hwl, ← hw1, ← ht1, hj, hwd, hia, hq', hwq] <;> exact rfl) ?_
            refine ow_op (by simp only [opd, zv, exOp, aop, LOp.loud, lop, rowsOf, newAt, setAt, zh, zm, loadD_cptr, loadD_ptr, partD, List.take, List.drop, hS.len, uRows_len, ht5, hw5, ht7, hwl, ← hw1, ← ht1, hj, hwd, hia, hq', hwq] <;> exact rfl) ?_
            refine ow_op (by simp only [exOp, opd, zv, hS.len, uRows_len, ht5, hw5, ht7, hwl, ← hw1, ← ht1, hj, hwd, hia, hq', hwq]; exact names_run (by omega) _ _ _ _ (l[j].hf)) ?_
            refine ow_op (by simp only [opd, zv, exOp, aop, LOp.loud, pop, zp, hS.len, uRows_len, ht5, hw5, ht7, hwl, ← hw1, ← ht1, hj, hwd, hia, hq', hwq] <;> exact rfl) ?_
            refine ow_op (by simp only [exOp, opd, zv, hS.len, uRows_len, ht5, hw5, ht7, hwl, ← hw1, ← ht1, hj, hwd, hia, hq', hwq]; exact has_run (by omega) _ (strsD_S _) _ (by have := names_few l[j].f; omega)) ?_
            refine ow_nil ?_
            refine sk_n (by simp only [exports, zn, zg] <;> exact rfl) ?_
            refine cw_cond (by simp only [opd, zv, hS.len, uRows_len, ht5, hw5, ht7, hwl, ← hw1, ← ht1, hj, hwd, hia, hq', hwq] <;> exact rfl) (fun hcFAFBFCTDT => ?_) (fun hcFAFBFCTDT => ?_)
            · skip -- FAFBFCTDTT
              have hP : lawP1 (nameF file) l[j] = true := hcFAFBFCTDT
              refine cw_region ?_
              refine ow_op (by simp only [opd, zv, exOp, aop, LOp.loud, pop, zp, hS.len, uRows_len, ht5, hw5, ht7, hwl, ← hw1, ← ht1, hj, hwd, hia, hq', hwq] <;> exact rfl) ?_
              refine ow_op (by simp only [opd, zv, exOp, aop, LOp.loud, pop, zp, hS.len, uRows_len, ht5, hw5, ht7, hwl, ← hw1, ← ht1, hj, hwd, hia, hq', hwq] <;> exact rfl) ?_
              refine ow_op (by simp only [opd, zv, exOp, aop, LOp.loud, pop, zp, hS.len, uRows_len, ht5, hw5, ht7, hwl, ← hw1, ← ht1, hj, hwd, hia, hq', hwq] <;> exact rfl) ?_
              refine ow_nil ?_
              refine bk_n ?_
              refine sk_n (by simp only [exports, zn, zg] <;> exact rfl) ?_
              refine cw_region ?_
              refine ow_op (by simp only [opd, zv, exOp, aop, LOp.loud, pop, zp, hS.len, uRows_len, ht5, hw5, ht7, hwl, ← hw1, ← ht1, hj, hwd, hia, hq', hwq] <;> exact rfl) ?_
              refine ow_op (by simp only [opd, zv, exOp, aop, LOp.loud, pop, zp, binD, eq_self, ne_eq, not_false_eq_true, true_and, Int.reduceEq, ite_true, ite_false, not_true_eq_false, Int.reduceToNat, Int.reduceLT, hS.len, uRows_len, ht5, hw5, ht7, hwl, ← hw1, ← ht1, hj, hwd, hia, hq', hwq] <;> exact rfl) ?_
              refine ow_op (by simp only [opd, zv, exOp, aop, LOp.loud, pop, zp, hS.len, uRows_len, ht5, hw5, ht7, hwl, ← hw1, ← ht1, hj, hwd, hia, hq', hwq] <;> exact rfl) ?_
              refine ow_nil ?_
              refine lk_n (by simp only [exports, zn, zg] <;> exact rfl) ?_
              exact ⟨q' - j, by omega, q', _, _, _, _, _, _, _, _, _, _, _, by omega, by omega, rfl, rfl, by first | (simp only [dW, hlq, hP, decide_true, Bool.and_true, if_true]; done) | (simp only [dW, hlq, hP, decide_true, Bool.and_true, if_true]; exact rfl)⟩
            · skip -- FAFBFCTDTF
              have hP : lawP1 (nameF file) l[j] = false := hcFAFBFCTDT
              refine cw_skip ?_
              refine bk_n ?_
              refine sk_n rfl ?_
              refine cw_region ?_
              refine ow_op (by simp only [opd, zv, exOp, aop, LOp.loud, pop, zp, hS.len, uRows_len, ht5, hw5, ht7, hwl, ← hw1, ← ht1, hj, hwd, hia, hq', hwq] <;> exact rfl) ?_
              refine ow_op (by simp only [opd, zv, exOp, aop, LOp.loud, pop, zp, binD, eq_self, ne_eq, not_false_eq_true, true_and, Int.reduceEq, ite_true, ite_false, not_true_eq_false, Int.reduceToNat, Int.reduceLT, hS.len, uRows_len, ht5, hw5, ht7, hwl, ← hw1, ← ht1, hj, hwd, hia, hq', hwq] <;> exact rfl) ?_
              refine ow_op (by simp only [opd, zv, exOp, aop, LOp.loud, pop, zp, hS.len, uRows_len, ht5, hw5, ht7, hwl, ← hw1, ← ht1, hj, hwd, hia, hq', hwq] <;> exact rfl) ?_
              refine ow_nil ?_
              refine lk_n (by simp only [exports, zn, zg] <;> exact rfl) ?_
              exact ⟨q' - j, by omega, q', _, _, _, _, _, _, _, _, _, _, _, by omega, by omega, rfl, rfl, by first | (simp only [dW, hP, Bool.and_false, Bool.false_eq_true, if_false]; done) | (simp only [dW, hP, Bool.and_false, Bool.false_eq_true, if_false]; exact rfl)⟩
          · skip -- FAFBFCTDF
            have hqj : j = q := by have := of_decide_eq_false hcFAFBFCTD; omega
            subst hqj
            have hD : (dW (decide (j < l.length) && lawP1 (nameF file) l[j]) j (selW (lawP1 (nameF file)) l w1 t1 (j + 1))) = selW (lawP1 (nameF file)) l w1 t1 j := by
              cases hP : lawP1 (nameF file) l[j] with
              | true => rw [selW_hit hlt hP]; simp [dW, hlt]
              | false => rw [selW_miss hlt hP]; simp [dW]
            refine cw_exit ?_
            refine sk_e ?_
            refine lk_e ?_
            refine bk_e ?_
            refine bk_n ?_
            refine sk_n rfl ?_
            refine cw_region ?_
            refine ow_op (by simp only [opd, zv, exOp, aop, LOp.loud, pop, zp, hS.len, uRows_len, ht5, hw5, ht7, hwl, ← hw1, ← ht1, hj, hwd, hia] <;> exact rfl) ?_
            refine ow_op (by simp only [opd, zv, exOp, aop, LOp.loud, pop, zp, binD, eq_self, ne_eq, not_false_eq_true, true_and, Int.reduceEq, ite_true, ite_false, not_true_eq_false, Int.reduceToNat, Int.reduceLT, hS.len, uRows_len, ht5, hw5, ht7, hwl, ← hw1, ← ht1, hj, hwd, hia] <;> exact rfl) ?_
            refine ow_op (by simp only [opd, zv, exOp, aop, LOp.loud, pop, zp, hS.len, uRows_len, ht5, hw5, ht7, hwl, ← hw1, ← ht1, hj, hwd, hia] <;> exact rfl) ?_
            refine ow_nil ?_
            refine lk_n (by simp only [exports, zn, zg] <;> exact rfl) ?_
            exact ⟨j, by omega, j, _, _, _, _, _, _, _, _, _, _, _, _, by omega, rfl, rfl, by first | (simp only [hD]; done) | (simp only [hD]; exact rfl)⟩
        · skip -- FAFBFCF
          have hk0 : k = 0 := by have := of_decide_eq_false hcFAFBFC; omega
          subst hk0
          obtain ⟨y, hy, hsn⟩ := hA.snap SA.heap.length
          have hlaw := sel_law l (nameF file) (mode % 7)
          rw [← hw1, ← ht1, Prod.ext_iff] at hlaw
          obtain ⟨hl1, hl2⟩ := hlaw
          simp only at hl1 hl2
          refine cw_exit ?_
          refine sk_e ?_
          refine lk_e ?_
          refine bk_e ?_
          refine sk_n rfl ?_
          refine cw_seq ?_
          refine cw_region ?_
          refine ow_op (by simp only [opd, zv, exOp, aop, LOp.loud, pop, zp, hS.len, uRows_len, ht5, hw5, ht7, hwl, ← hw1, ← ht1, hl1, hl2, beq_self_eq_true, bne_self_eq_false, Bool.true_bne, Bool.bne_false] <;> exact rfl) ?_
          refine ow_op (by simp only [opd, zv, exOp, aop, LOp.loud, pop, zp, hS.len, uRows_len, ht5, hw5, ht7, hwl, ← hw1, ← ht1, hl1, hl2, beq_self_eq_true, bne_self_eq_false, Bool.true_bne, Bool.bne_false] <;> exact rfl) ?_
          refine ow_op (by simp only [opd, zv, exOp, aop, LOp.loud, pop, zp, hS.len, uRows_len, ht5, hw5, ht7, hwl, ← hw1, ← ht1, hl1, hl2, beq_self_eq_true, bne_self_eq_false, Bool.true_bne, Bool.bne_false] <;> exact rfl) ?_
          refine ow_op (by simp only [exOp, opd, zv, hS.len, uRows_len, ht5, hw5, ht7, hwl, ← hw1, ← ht1, hl1, hl2, beq_self_eq_true, bne_self_eq_false, Bool.true_bne, Bool.bne_false]; exact (run_snap rfl (by simp only [snapVs, hsn, snapV_str, snapV_int]; exact rfl) (by simp only [snapVs, hy.snapV, snapV_str, snapV_int])).trans (select_run (by omega) _ hy (by rw [List.length_map]; omega) _ _)) ?_
          refine ow_op (by simp only [opd, zv, exOp, aop, LOp.loud, pop, zp, hS.len, uRows_len, ht5, hw5, ht7, hwl, ← hw1, ← ht1, hl1, hl2, beq_self_eq_true, bne_self_eq_false, Bool.true_bne, Bool.bne_false] <;> exact rfl) ?_
          refine ow_op (by simp only [opd, zv, exOp, aop, LOp.loud, pop, zp, List.getElem?_cons_zero, List.getElem?_cons_succ, hS.len, uRows_len, ht5, hw5, ht7, hwl, ← hw1, ← ht1, hl1, hl2, beq_self_eq_true, bne_self_eq_false, Bool.true_bne, Bool.bne_false] <;> exact rfl) ?_
          refine ow_op (by simp only [opd, zv, exOp, aop, LOp.loud, pop, zp, List.getElem?_cons_zero, List.getElem?_cons_succ, hS.len, uRows_len, ht5, hw5, ht7, hwl, ← hw1, ← ht1, hl1, hl2, beq_self_eq_true, bne_self_eq_false, Bool.true_bne, Bool.bne_false] <;> exact rfl) ?_
          refine ow_op (by simp only [opd, zv, exOp, aop, LOp.loud, pop, zp, hS.len, uRows_len, ht5, hw5, ht7, hwl, ← hw1, ← ht1, hl1, hl2, beq_self_eq_true, bne_self_eq_false, Bool.true_bne, Bool.bne_false] <;> exact rfl) ?_
          refine ow_op (by simp only [opd, zv, exOp, aop, LOp.loud, pop, zp, hS.len, uRows_len, ht5, hw5, ht7, hwl, ← hw1, ← ht1, hl1, hl2, beq_self_eq_true, bne_self_eq_false, Bool.true_bne, Bool.bne_false] <;> exact rfl) ?_
          refine ow_nil ?_
          refine sk_n (by simp only [exports, zn, zg] <;> exact rfl) ?_
          refine cw_seq ?_
          refine cw_region ?_
          refine ow_op (by simp only [opd, zv, exOp, aop, LOp.loud, pop, zp, hS.len, uRows_len, ht5, hw5, ht7, hwl, ← hw1, ← ht1, hl1, hl2, beq_self_eq_true, bne_self_eq_false, Bool.true_bne, Bool.bne_false] <;> exact rfl) ?_
          refine ow_op (by simp only [opd, zv, exOp, aop, LOp.loud, pop, zp, hS.len, uRows_len, ht5, hw5, ht7, hwl, ← hw1, ← ht1, hl1, hl2, beq_self_eq_true, bne_self_eq_false, Bool.true_bne, Bool.bne_false] <;> exact rfl) ?_
          refine ow_op (by simp only [opd, zv, exOp, aop, LOp.loud, pop, zp, binD, eq_self, ne_eq, not_false_eq_true, true_and, Int.reduceEq, ite_true, ite_false, not_true_eq_false, Int.reduceToNat, Int.reduceLT, hS.len, uRows_len, ht5, hw5, ht7, hwl, ← hw1, ← ht1, hl1, hl2, beq_self_eq_true, bne_self_eq_false, Bool.true_bne, Bool.bne_false] <;> exact rfl) ?_
          refine ow_op (by simp only [opd, zv, exOp, aop, LOp.loud, pop, zp, hS.len, uRows_len, ht5, hw5, ht7, hwl, ← hw1, ← ht1, hl1, hl2, beq_self_eq_true, bne_self_eq_false, Bool.true_bne, Bool.bne_false] <;> exact rfl) ?_
          refine ow_split 0 (by simp only [opd, zv] <;> exact rfl) (by simp only [zn] <;> exact rfl) (by simp only [zn] <;> exact rfl) (fun hgFAFBFCF => ?_) (fun hgFAFBFCF => ?_)
          · skip -- FAFBFCFT
            refine ow_on (by simp only [opd, zv]) ?_
            refine ow_op (by simp only [opd, zv, exOp, aop, LOp.loud, pop, zp, hS.len, uRows_len, ht5, hw5, ht7, hwl, ← hw1, ← ht1, hl1, hl2, beq_self_eq_true, bne_self_eq_false, Bool.true_bne, Bool.bne_false] <;> exact rfl) ?_
            refine ow_on (by simp only [opd, zv]) ?_
            refine ow_op (by simp only [opd, zv, exOp, aop, LOp.loud, pop, zp, hS.len, uRows_len, ht5, hw5, ht7, hwl, ← hw1, ← ht1, hl1, hl2, beq_self_eq_true, bne_self_eq_false, Bool.true_bne, Bool.bne_false] <;> exact rfl) ?_
            refine ow_on (by simp only [opd, zv]) ?_
            refine ow_op (by simp only [opd, zv, exOp, aop, LOp.loud, pop, zp, hS.len, uRows_len, ht5, hw5, ht7, hwl, ← hw1, ← ht1, hl1, hl2, beq_self_eq_true, bne_self_eq_false, Bool.true_bne, Bool.bne_false] <;> exact rfl) ?_
            refine ow_op (by simp only [opd, zv, exOp, aop, LOp.loud, pop, zp, hS.len, uRows_len, ht5, hw5, ht7, hwl, ← hw1, ← ht1, hl1, hl2, beq_self_eq_true, bne_self_eq_false, Bool.true_bne, Bool.bne_false] <;> exact rfl) ?_
            refine ow_op (by simp only [opd, zv, exOp, aop, LOp.loud, pop, zp, hS.len, uRows_len, ht5, hw5, ht7, hwl, ← hw1, ← ht1, hl1, hl2, beq_self_eq_true, bne_self_eq_false, Bool.true_bne, Bool.bne_false] <;> exact rfl) ?_
            refine ow_split 0 (by simp only [opd, zv] <;> exact rfl) (by simp only [zn] <;> exact rfl) (by simp only [zn] <;> exact rfl) (fun hgFAFBFCFT => ?_) (fun hgFAFBFCFT => ?_)
            · skip -- FAFBFCFTT
              refine ow_on (by simp only [opd, zv]) ?_
              refine ow_op (by simp only [exOp, opd, zv, hS.len, uRows_len, ht5, hw5, ht7, hwl, ← hw1, ← ht1, hl1, hl2, beq_self_eq_true, bne_self_eq_false, Bool.true_bne, Bool.bne_false]; exact lives_run (by omega) _) ?_
              refine ow_op (by simp only [opd, zv, exOp, aop, LOp.loud, pop, zp, hS.len, uRows_len, ht5, hw5, ht7, hwl, ← hw1, ← ht1, hl1, hl2, beq_self_eq_true, bne_self_eq_false, Bool.true_bne, Bool.bne_false] <;> exact rfl) ?_
              refine ow_op (by simp only [opd, zv, exOp, aop, LOp.loud, pop, zp, hS.len, uRows_len, ht5, hw5, ht7, hwl, ← hw1, ← ht1, hl1, hl2, beq_self_eq_true, bne_self_eq_false, Bool.true_bne, Bool.bne_false] <;> exact rfl) ?_
              refine ow_nil ?_
              refine sk_n (by simp only [exports, zn, zg] <;> exact rfl) ?_
              refine cw_ret ?_
              refine ⟨_, by simp only [F4, resultD, resDs, resD, List.getD_cons_zero, List.getD_cons_succ, loadD_cptr, loadD_ptr, rowsOf, partD, List.getElem?_cons_zero, List.getElem?_cons_succ, if_true, if_false, Bool.false_eq_true, List.take, List.drop, zm] <;> exact rfl, ?_⟩
              rfl
            · skip -- FAFBFCFTF
              refine ow_off (b' := false) (by simp only [opd, zv]) rfl ?_
              refine ow_op (by simp only [opd, zv, exOp, aop, LOp.loud, pop, zp, hS.len, uRows_len, ht5, hw5, ht7, hwl, ← hw1, ← ht1, hl1, hl2, beq_self_eq_true, bne_self_eq_false, Bool.true_bne, Bool.bne_false] <;> exact rfl) ?_
              refine ow_op (by simp only [opd, zv, exOp, aop, LOp.loud, pop, zp, hS.len, uRows_len, ht5, hw5, ht7, hwl, ← hw1, ← ht1, hl1, hl2, beq_self_eq_true, bne_self_eq_false, Bool.true_bne, Bool.bne_false] <;> exact rfl) ?_
              refine ow_nil ?_
              refine sk_n (by simp only [exports, zn, zg] <;> exact rfl) ?_
              refine cw_ret ?_
              simp at hgFAFBFCFT
          · skip -- FAFBFCFF
            refine ow_off (b' := false) (by simp only [opd, zv]) rfl ?_
            refine ow_off (b' := false) (by simp only [opd, zv]) rfl ?_
            refine ow_off (b' := false) (by simp only [opd, zv]) rfl ?_
            refine ow_op (by simp only [opd, zv, exOp, aop, LOp.loud, pop, zp, hS.len, uRows_len, ht5, hw5, ht7, hwl, ← hw1, ← ht1, hl1, hl2, beq_self_eq_true, bne_self_eq_false, Bool.true_bne, Bool.bne_false] <;> exact rfl) ?_
            refine ow_op (by simp only [opd, zv, exOp, aop, LOp.loud, pop, zp, hS.len, uRows_len, ht5, hw5, ht7, hwl, ← hw1, ← ht1, hl1, hl2, beq_self_eq_true, bne_self_eq_false, Bool.true_bne, Bool.bne_false] <;> exact rfl) ?_
            refine ow_off (b' := false) (by simp only [opd, zv]) rfl ?_
            refine ow_op (by simp only [opd, zv, exOp, aop, LOp.loud, pop, zp, hS.len, uRows_len, ht5, hw5, ht7, hwl, ← hw1, ← ht1, hl1, hl2, beq_self_eq_true, bne_self_eq_false, Bool.true_bne, Bool.bne_false] <;> exact rfl) ?_
            refine ow_op (by simp only [opd, zv, exOp, aop, LOp.loud, pop, zp, hS.len, uRows_len, ht5, hw5, ht7, hwl, ← hw1, ← ht1, hl1, hl2, beq_self_eq_true, bne_self_eq_false, Bool.true_bne, Bool.bne_false] <;> exact rfl) ?_
            refine ow_nil ?_
            refine sk_n (by simp only [exports, zn, zg] <;> exact rfl) ?_
            refine cw_ret ?_
            simp at hgFAFBFCF

end Go.Proofs.Ytnihohodcogpeaa

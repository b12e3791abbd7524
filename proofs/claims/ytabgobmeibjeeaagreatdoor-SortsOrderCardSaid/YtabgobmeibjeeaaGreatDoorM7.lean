/- Proved here: parts of the proof, joined (S34, S35): an abstract machine, its soundness, what functions of the program compute in it; no condition. -/
import Derived.Test.YtabgobmeibjeeaaGreatDoorM6
namespace Go.Proofs.YtabgobmeibjeeaaGreatDoor
set_option linter.unusedSimpArgs false
set_option linter.unusedVariables false
set_option maxRecDepth 10000
set_option maxHeartbeats 4000000

/-- the records that were inserted so far -/
def OutAt (m1 : List RecT) (H : List AObj) (ox : D) : Prop := (m1 = [] ∧ ox = .nils) ∨ (m1 ≠ [] ∧ ∃ g v, ox = .msl g v 0 m1.length none ∧ H[g]? = some ⟨43, 1, rR m1, v, 2, true⟩)
theorem OutAt.len {m1 : List RecT} {H : List AObj} {ox : D} (h : OutAt m1 H ox) : lenD false ox = some (.int .i64 m1.length) := by
 rcases h with ⟨rfl, rfl⟩ | ⟨_, g, v, rfl, _⟩ <;> rfl
theorem OutAt.msl {m1 : List RecT} {H : List AObj} {ox : D} (h : OutAt m1 H ox) (hl : 0 < m1.length) : ∃ g v, ox = .msl g v 0 m1.length none ∧ H[g]? = some ⟨43, 1, rR m1, v, 2, true⟩ := by
 rcases h with ⟨rfl, rfl⟩ | ⟨_, h⟩
 ·
  simp at hl
 ·
  exact h
theorem OutAt.leave {m1 : List RecT} {H : List AObj} {ox : D} {lo : Nat} (h : OutAt m1 H ox) : leaveP ⟨[], 0⟩ ox ⟨H, lo⟩ = some (appY 1 (rR m1), ⟨[], 0⟩, false) := by
 rcases h with ⟨rfl, rfl⟩ | ⟨hne, g, v, rfl, hg⟩
 ·
  rfl
 ·
  have h1 : snap 0 H (.msl g v 0 m1.length none) = some (.sl 1 (rR m1) none) := by
   have e : (rR m1).take m1.length = rR m1 := by rw [← rR_len m1]; exact List.take_length
   simp [snap_msl, hg, e]
  have h2 : appY 1 (rR m1) = .sl 1 (rR m1) none := by
   cases m1 with
   | nil => exact absurd rfl hne
   | cons a l => rfl
  rw [h2]
  simp [leaveP, Go.Proofs.YtabgobmeibjeeaaGreatDoor.leave, snapR_msl, snapV_msl, h1, freeR_sl]
theorem OutAt.app {call : CallF} {m1 : List RecT} {H : List AObj} {ox : D} (h : OutAt m1 H ox) (hl : m1.length ≤ 1000000) : ∃ g v H2, exOp call (.append 43 1 24 2) [ox, .msl H.length 0 0 1 none] ⟨H ++ [⟨43, 1, [[.nils]], 0, 2, false⟩], 0⟩ = some (.msl g v 0 (m1.length + 1) none, ⟨H2, 0⟩, true) ∧ H2[g]? = some ⟨43, 1, rR m1 ++ [[.nils]], v, 2, true⟩ := by
 have hr : readRows ⟨H ++ [⟨43, 1, [[.nils]], 0, 2, false⟩], 0⟩ 1 (.msl H.length 0 0 1 none) = some [[.nils]] := by simp [readRows, rowsOf]
 rcases h with ⟨rfl, rfl⟩ | ⟨hne, g, v, rfl, hg⟩
 ·
  refine ⟨H.length + 1, 0, H ++ [⟨43, 1, [[.nils]], 0, 2, false⟩] ++ [⟨43, 1, [[.nils]], 0, 2, true⟩], ?_, ?_⟩
  ·
   simp only [exOp, aop, LOp.loud, lop, if_true, appendD, hr, appendRows, List.isEmpty_cons, Bool.false_eq_true, if_false, newAt, List.length_cons, List.length_nil, List.length_append]
   rfl
  ·
   simp [rR]
 ·
  have hg' := get_app hg [⟨43, 1, [[.nils]], 0, 2, false⟩]
  have hb : (m1.length + 1) * 24 ≤ 140737488355328 := by omega
  refine ⟨g, v + 1, (H ++ [(⟨43, 1, [[.nils]], 0, 2, false⟩ : AObj)]).set g ⟨43, 1, rR m1 ++ [[.nils]], v + 1, 2, true⟩, ?_, ?_⟩
  ·
   simp only [exOp, aop, LOp.loud, lop, if_true, appendD, hr, appendRows, rowsOf, hg', rR_len, List.length_cons, List.length_nil, Nat.zero_add, hb, or_true, and_self, setAt, Nat.zero_min]
  ·
   exact get_set_self hg' _
section
variable {call : CallF} {H : List AObj} {g v n : Nat} {rows : List (List D)} {gr : Bool} {lo : Nat}
theorem gi_iaddr (hg : H[g]? = some ⟨43, 1, rows, v, 2, gr⟩) (k : IntKind) {i : Nat} (hi : i < n) : exOp call (.iaddr 1) [.msl g v 0 n none, .int k (i : Int)] ⟨H, lo⟩ = some (.ptr g v i 0, ⟨H, lo⟩, false) := by
 have h : (0 : Int) ≤ (i : Int) ∧ (i : Int) < (n : Int) := by omega
 simp only [exOp, aop, LOp.loud, lop, if_true, iaddrD, rowsOf, hg, true_and, h, and_self, Nat.zero_add, Int.toNat_natCast, Option.map_some]
theorem gl_load (hg : H[g]? = some ⟨43, 1, rows, v, 2, gr⟩) {i : Nat} {y : D} (h : rows[i]? = some [y]) : exOp call (.load 1 false) [.ptr g v i 0] ⟨H, lo⟩ = some (y, ⟨H, lo⟩, false) := by
 simp only [exOp, aop, LOp.loud, lop, if_true, loadD, rowsOf, hg, h, partD, Bool.false_eq_true, if_false, List.getElem?_cons_zero, Option.map_some]
theorem gs_store (hg : H[g]? = some ⟨43, 1, rows, v, 2, gr⟩) {i : Nat} {w : D} {l : List UInt8} (h : rows[i]? = some [w]) : exOp call (.store 1) [.ptr g v i 0, recD l] ⟨H, 0⟩ = some (.undef, ⟨H.set g ⟨43, 1, rows.set i [recD l], v, 2, gr⟩, 0⟩, true) := by
 simp only [exOp, aop, LOp.loud, lop, if_true, storeD, rowsOf, hg, h, Nat.reduceEqDiff, if_false, recD, snapV_sl, val_sl, cells_sl, List.length_cons, List.length_nil, Nat.zero_add, beq_self_eq_true, Nat.le_refl, decide_true, Bool.and_true, Bool.true_and, Bool.or_true, decide_false, Bool.false_or, List.all_cons, List.all_nil, free_sl, overlay, List.take_zero, List.drop_succ_cons, List.drop_nil, List.append_nil, List.nil_append, setAt, Option.map_some, Nat.zero_min]
end
/-- the rows while they are moved on -/
def hole (m1 : List RecT) (k : Nat) (w : D) : List (List D) := rR (m1.take k) ++ [w] :: rR (m1.drop k)
theorem hole_at {m1 : List RecT} {k : Nat} (hk : k ≤ m1.length) (w : D) : (hole m1 k w)[k]? = some [w] := app_at _ _ _ (by rw [rR_len, List.length_take]; omega)
theorem hole_low {m1 : List RecT} {k : Nat} (hk : k ≤ m1.length) (w : D) {i : Nat} {z : RecT} (hi : i < k) (h : m1[i]? = some z) : (hole m1 k w)[i]? = some [recD z.1] := by
 have e : (rR (m1.take k)).length = k := by rw [rR_len, List.length_take]; omega
 rw [hole, List.getElem?_append_left (by omega)]
 exact rR_at (by rw [List.getElem?_take_of_lt hi]; exact h)
theorem hole_set {m1 : List RecT} {k : Nat} (hk : k ≤ m1.length) (w x : D) : (hole m1 k w).set k [x] = hole m1 k x := by
 have e : (rR (m1.take k)).length = k := by rw [rR_len, List.length_take]; omega
 rw [hole, List.set_append_right _ _ (by omega), e, Nat.sub_self, List.set_cons_zero]; rfl
theorem hole_down {m1 : List RecT} {k : Nat} {z : RecT} (h : m1[k]? = some z) : hole m1 (k + 1) (recD z.1) = hole m1 k (recD z.1) := by
 obtain ⟨hk, e⟩ := List.getElem?_eq_some_iff.1 h
 rw [hole, hole, List.take_add_one, h, List.drop_eq_getElem_cons hk, e]
 simp [rR]
theorem hole_top (m1 : List RecT) : rR m1 ++ [[.nils]] = hole m1 m1.length .nils := by
 rw [hole, List.take_length, List.drop_length]; simp [rR]
theorem hole_done (m1 : List RecT) (k : Nat) (z : RecT) : hole m1 k (recD z.1) = rR (m1.take k ++ z :: m1.drop k) := by simp [hole, rR]
theorem ins_rot (m1 : List RecT) (p : Nat) (z : RecT) (hp : p ≤ m1.length) : rot (m1 ++ [z]) p m1.length (m1.length + 1) = m1.take p ++ z :: m1.drop p := by
 unfold rot
 rw [List.take_append_of_le_length hp, List.drop_append_of_le_length hp, List.drop_left, List.take_append_of_le_length (by rw [List.length_drop]; exact Nat.le_refl _)]
 simp
 rw [List.take_of_length_le (by simp)]
/-- one more record is inserted -/
theorem ins_is {ks : List Ke} {m m1 : List RecT} {i p : Nat} {z : RecT} (h : IsS (cK ks) (m.take i) m1) (hz : m[i]? = some z) (hl : m1.length = i) (hp : p ≤ i) (h1 : LtB ks m1 i p z) (h2 : GeB ks m1 0 p z) : IsS (cK ks) (m.take (i + 1)) (m1.take p ++ z :: m1.drop p) := by
 subst hl
 have hc := cK_cmp ks
 have s0 : Srt (cK ks) (m1 ++ [z]) 0 m1.length := h.2.cong fun j _ hj => List.getElem?_append_left hj
 have hzz : (m1 ++ [z])[m1.length]? = some z := by simp
 have RF := rot_facts hc (m := m1 ++ [z]) (a := 0) (s := p) (k := m1.length) (e := m1.length + 1) (b := m1.length + 1) (by omega) hp (by omega) (by omega) (by simp) s0 (Srt.small hc (by omega)) (by
  rcases h1 with h | ⟨w, hw, hlt⟩
  ·
   exact .inl h
  ·
   exact .inr (.inr ⟨z, w, by simp, by rw [List.getElem?_append_left (List.getElem?_eq_some_iff.1 hw).1]; exact hw, hlt⟩)) (.inr (.inl rfl))
 have hzp : (rot (m1 ++ [z]) p m1.length (m1.length + 1))[p]? = some z := by
  rw [rot_get _ hp (by omega) (by simp), if_neg (by omega), if_pos (by omega), Nat.sub_self, Nat.zero_add]; exact hzz
 have hall : Srt (cK ks) (rot (m1 ++ [z]) p m1.length (m1.length + 1)) 0 (m1.length + 1) := by
  refine Srt.join (Srt.join RF.s1 RF.s2 ?_) RF.s3 RF.cross
  intro q q' u w p1 p2 q1 q2 e1 e2
  obtain rfl : q' = p := by omega
  rw [hzp] at e2
  obtain rfl := Option.some.inj e2
  rw [rot_get _ hp (by omega) (by simp), if_pos p2, List.getElem?_append_left (by omega)] at e1
  rcases h2 with h' | ⟨w, hw, hge⟩
  ·
   omega
  ·
   have c1 := h.2 q (q' - 1) u w (by omega) (by omega) (by omega) e1 hw
   have c2 := hc.swap w z
   exact hc.trans u w z c1 (by omega)
 have hsame := RF.same
 rw [ins_rot m1 p z hp] at hall hsame
 refine ⟨?_, ?_⟩
 ·
  rw [List.take_add_one, hz]
  exact (h.1.app (Same.refl [z])).trans hsame
 ·
  have : (m1.take p ++ z :: m1.drop p).length = m1.length + 1 := by simp; omega
  rw [this]; exact hall

theorem inserted_run {d : Nat} (hd : 2 ≤ d) (S : St) {x y : D} {ks : List Ke} (hX : SlD 14 (keRows ks) x) (h8 : ks.length ≤ 8) (hg : ∀ k ∈ ks, GK k) {m : List RecT} (hY : SlD 1 (rR m) y) (hn6 : m.length ≤ 100000) : runF LP NN d 14 [x, y] S = some (appY 1 (rR (srt ks m)), S, false) := by
 refine run_pure (F := F14) rfl (by simp only [LP, fnOf, snapVs, snaps, zs, Bool.false_eq_true, if_false, Option.map_some, List.map_cons, List.map_nil, hX.snapV, hX.freeV, hY.snapV, hY.freeV] <;> exact rfl) rfl (by simp only [LP, zf, List.all_cons, List.all_nil, Bool.and_true, Bool.true_and, hX.snapV, hX.freeV, hY.snapV, hY.freeV]; try rfl) (by simp only [F14, zv] <;> exact rfl) (by omega) ?_
 rintro d rfl
 refine cw_seq (cw_region ?_)
 refine ow_mc ?_
 refine ow_nil ?_
 refine sk_n (by simp only [ze] <;> exact rfl) ?_
 refine cw_seq (cw_region ?_)
 refine ow_mc ?_
 refine ow_nil ?_
 refine sk_n (by simp only [ze] <;> exact rfl) ?_
 refine cw_seq (cw_seq (cw_region ?_))
 refine ow_mc ?_
 refine ow_nil ?_
 refine sk_n (by simp only [ze] <;> exact rfl) ?_
 refine cw_block ?_
 refine cw_loop (fun rr env S' => ∃ (i : Nat) (m1 : List RecT) (H : List AObj) (ox u5 u6 u7 u8 u9 : D), i ≤ m.length ∧ rr = m.length - i ∧ IsS (cK ks) (m.take i) m1 ∧ OutAt m1 H ox ∧ S' = ⟨H, 0⟩ ∧ env = [x, y, .nils, ox, .int .i64 (i : Nat), u5, u6, u7, u8, u9]) (m.length) (by omega) (⟨0, [], _, _, _, _, _, _, _, by omega, by omega, ⟨Same.refl _, Srt.small (cK_cmp ks) (by simp)⟩, .inl ⟨rfl, rfl⟩, rfl, rfl⟩) ?_
 rintro rr env S' ⟨i, m1, H, ox, u5, u6, u7, u8, u9, hi, rfl, hI, hO, rfl, rfl⟩
 have hml : m1.length = i := by rw [hI.1.1, List.length_take]; omega
 have hol := hO.len
 rw [hml] at hol
 refine cw_seq (cw_seq (cw_region ?_))
 refine ow_me rfl ?_
 refine ow_me rfl ?_
 refine ow_op (by simp only [zo, lenD_str, lenD_nils, lenD_sl, lenD_msl, hY.len, rR_len, hol] <;> exact rfl) ?_
 refine ow_op (by simp only [zo, binD, zb, Int.reduceEq, Int.reduceToNat, Int.reduceLT, hY.len, rR_len, hol] <;> exact rfl) ?_
 refine ow_nil ?_
 refine sk_n (by simp only [ze] <;> exact rfl) ?_
 refine cw_cond (by simp only [opd, zv, hY.len, rR_len, hol] <;> exact rfl) (fun hcA => ?_) (fun hcA => ?_)
 ·
  have hlt2 : i < m.length := by have := of_decide_eq_true hcA; omega
  have wi := wrap_nat i (by omega)
  obtain ⟨z, hz⟩ : ∃ z, m[i]? = some z := ⟨_, List.getElem?_eq_getElem hlt2⟩
  have hia := fun (S : St) => hY.iaddrN S .i64 (rR_at hz)
  refine cw_skip (sk_n rfl (cw_seq (cw_block (cw_seq (cw_region ?_)))))
  refine ow_me rfl ?_
  refine ow_op (by simp only [zo, lenD_str, lenD_nils, lenD_sl, lenD_msl, hY.len, rR_len, hol, wi, hia] <;> exact rfl) ?_
  refine ow_ml rfl ?_
  refine ow_nil ?_
  refine sk_n (by simp only [ze] <;> exact rfl) ?_
  refine cw_seq (cw_block ?_)
  refine cw_loop (fun rr env S' => ∃ (p : Nat) (v8 : D), p ≤ i ∧ p = rr ∧ LtB ks m1 i p z ∧ S' = ⟨H, 0⟩ ∧ env = [x, y, .nils, ox, .int .i64 (i : Nat), .int .i64 (p : Nat), u6, .bool (decide (((i : Nat) : Int) < ((m.length : Nat) : Int))), v8, u9]) (i) (by omega) (⟨i, _, by omega, rfl, Or.inl rfl, rfl, rfl⟩) ?_
  rintro rr env S' ⟨p, v8, hp2, rfl, hLt, rfl, rfl⟩
  refine cw_seq (cw_seq ?_)
  refine cw_drawn (by simp only [newsVals, zw, Nat.reduceAdd] <;> exact rfl) (by simp only [zw, newsObj, St.eta] <;> exact rfl) ?_
  refine dw_me rfl rfl ?_
  refine dw_quiet (by simp only [zo, binD, zb, Int.reduceEq, Int.reduceToNat, Int.reduceLT, hY.len, rR_len, hol, wi, hia] <;> exact rfl) rfl rfl ?_
  refine dw_ml rfl rfl ?_
  refine dw_split 0 (by simp only [opd, zv] <;> exact rfl) (by simp only [zn] <;> exact rfl) (by simp only [zn] <;> exact rfl) (fun hgATB => ?_) (fun hgATB => ?_)
  ·
   have hp0 : 0 < p := by have := of_decide_eq_true hgATB; omega
   obtain ⟨g, v, hox, hHg⟩ := hO.msl (by omega)
   subst hox
   rw [hml]
   have wp : IntKind.i64.wrap (((p : Nat) : Int) - 1) = ((p - 1 : Nat) : Int) := by rw [IntKind.wrap_i64]; omega
   obtain ⟨w, hw⟩ : ∃ w, m1[p - 1]? = some w := ⟨_, List.getElem?_eq_getElem (by omega)⟩
   refine dw_on (by simp only [opd, zv]) ?_
   refine dw_me rfl rfl ?_
   refine dw_on (by simp only [opd, zv]) ?_
   refine dw_me rfl rfl ?_
   refine dw_on (by simp only [opd, zv]) ?_
   refine dw_me rfl rfl ?_
   refine dw_on (by simp only [opd, zv]) ?_
   refine dw_quiet (by simp only [zo, binD, zb, Int.reduceEq, Int.reduceToNat, Int.reduceLT, hY.len, rR_len, hol, wi, hia, wp] <;> exact rfl) rfl rfl ?_
   refine dw_on (by simp only [opd, zv]) ?_
   refine dw_op (by simp only [opd, zv, wp]; exact gi_iaddr hHg _ (by omega)) (by simp only [fpHere, zo, zq, hY.fpi] <;> exact rfl) rfl ?_
   refine dw_on (by simp only [opd, zv]) ?_
   refine dw_op (by simp only [opd, zv]; exact gl_load hHg (rR_at hw)) (by simp only [fpHere, zo, zq, hY.fpi] <;> exact rfl) rfl ?_
   refine dw_on (by simp only [opd, zv]) ?_
   refine dw_me rfl rfl ?_
   refine dw_on (by simp only [opd, zv]) ?_
   refine dw_me rfl rfl ?_
   refine dw_on (by simp only [opd, zv]) ?_
   refine dw_op (by simp only [zl, zm, iaddrD_sl, iaddrD_msl, Int.toNat_natCast, Int.toNat_zero, List.getElem?_map, Option.map_some, Int.le_refl, hY.len, rR_len, hol, wi, hia, wp] <;> exact rfl) (by simp only [fpHere, zo, zq, hY.fpi] <;> exact rfl) rfl ?_
   refine dw_on (by simp only [opd, zv]) ?_
   refine dw_op (by simp only [zl, zm, zd, partD, List.take, List.drop, hY.len, rR_len, hol, wi, hia, wp] <;> exact rfl) (by simp only [fpHere, zo, zq, hY.fpi] <;> exact rfl) rfl ?_
   refine dw_on (by simp only [opd, zv]) ?_
   refine dw_op (by simp only [zo, hY.len, rR_len, hol, wi, hia, wp]; exact (show _ = some (D.int .i64 (cK ks w z), _, false) from orderR_run (by omega) _ hX (recD_S _) (recD_S _) h8 hg w.2 z.2)) (by simp only [fpHere, zo, zq, hY.fpi] <;> exact rfl) rfl ?_
   refine dw_on (by simp only [opd, zv]) ?_
   refine dw_quiet (by simp only [zo, binD, zb, Int.reduceEq, Int.reduceToNat, Int.reduceLT, hY.len, rR_len, hol, wi, hia, wp] <;> exact rfl) rfl rfl ?_
   refine dw_quiet (by simp only [zo, hY.len, rR_len, hol, wi, hia, wp] <;> exact rfl) rfl rfl ?_
   refine dw_nil ?_
   refine sk_n (by simp only [ze] <;> exact rfl) ?_
   refine cw_cond (by simp only [opd, zv, hY.len, rR_len, hol, wi, hia, wp] <;> exact rfl) (fun hcATBT => ?_) (fun hcATBT => ?_)
   ·
    have hlt : cK ks z w < 0 := by have h1 := of_decide_eq_true hcATBT; have h2 := (cK_cmp ks).swap w z; omega
    refine cw_skip (sk_n rfl (cw_block (cw_region ?_)))
    refine ow_me rfl ?_
    refine ow_op (by simp only [zo, binD, zb, Int.reduceEq, Int.reduceToNat, Int.reduceLT, hY.len, rR_len, hol, wi, hia, wp] <;> exact rfl) ?_
    refine ow_ml rfl ?_
    refine ow_nil (bk_n ?_)
    refine lk_n (by simp only [ze] <;> exact rfl) ?_
    exact ⟨p - 1, by omega, p - 1, _, by omega, rfl, Or.inr ⟨w, hw, hlt⟩, rfl, rfl⟩
   ·
    have hGe : GeB ks m1 0 p z := Or.inr ⟨w, hw, by have h1 := of_decide_eq_false hcATBT; have h2 := (cK_cmp ks).swap w z; omega⟩
    obtain ⟨g2, v2, H2, hap, hH2⟩ := hO.app (call := runF LP NN d) (by omega)
    rw [hml] at hap
    rw [hole_top, hml] at hH2
    have wn1 : IntKind.i64.wrap (((i + 1 : Nat) : Int) - 1) = ((i : Nat) : Int) := by rw [IntKind.wrap_i64]; omega
    refine cw_exit (sk_e (lk_e (bk_e (sk_n rfl (cw_seq (cw_region ?_))))))
    refine ow_me rfl ?_
    refine ow_op (by simp only [zl, zm, fillRows, List.replicate, snapVs, snaps, zs, zc, zf, hY.len, rR_len, hol, wi, hia, wp, wn1] <;> exact rfl) ?_
    refine ow_op (by simp only [opd, zv]; exact hap) ?_
    refine ow_ml rfl ?_
    refine ow_nil ?_
    refine sk_n (by simp only [ze] <;> exact rfl) ?_
    refine cw_seq (cw_seq (cw_region ?_))
    refine ow_me rfl ?_
    refine ow_op (by simp only [zo, lenD_str, lenD_nils, lenD_sl, lenD_msl, hY.len, rR_len, hol, wi, hia, wp, wn1] <;> exact rfl) ?_
    refine ow_op (by simp only [zo, binD, zb, Int.reduceEq, Int.reduceToNat, Int.reduceLT, hY.len, rR_len, hol, wi, hia, wp, wn1] <;> exact rfl) ?_
    refine ow_ml rfl ?_
    refine ow_nil ?_
    refine sk_n (by simp only [ze] <;> exact rfl) ?_
    refine cw_block ?_
    refine cw_loop (fun rr env S' => ∃ (k : Nat) (wv : D) (H3 : List AObj) (t9 : D), p ≤ k ∧ k ≤ i ∧ rr = k - p ∧ H3[g2]? = some ⟨43, 1, hole m1 k wv, v2, 2, true⟩ ∧ S' = ⟨H3, 0⟩ ∧ env = [x, y, .nils, .msl g2 v2 0 (i + 1) none, .int .i64 (i : Nat), .int .i64 (p : Nat), .int .i64 (k : Nat), .bool (decide (((i : Nat) : Int) < ((m.length : Nat) : Int))), .bool (decide (cK ks w z > 0)), t9]) (i - p) (by omega) (⟨i, .nils, _, _, hp2, Nat.le_refl _, rfl, hH2, rfl, rfl⟩) ?_
    rintro rr env S' ⟨k, wd, H3, t9, hk1, hk2, rfl, hH3, rfl, rfl⟩
    refine cw_seq (cw_seq (cw_region ?_))
    refine ow_me rfl ?_
    refine ow_me rfl ?_
    refine ow_op (by simp only [zo, binD, zb, Int.reduceEq, Int.reduceToNat, Int.reduceLT, hY.len, rR_len, hol, wi, hia, wp, wn1] <;> exact rfl) ?_
    refine ow_nil ?_
    refine sk_n (by simp only [ze] <;> exact rfl) ?_
    refine cw_cond (by simp only [opd, zv, hY.len, rR_len, hol, wi, hia, wp, wn1] <;> exact rfl) (fun hcATBTFC => ?_) (fun hcATBTFC => ?_)
    ·
     have hkp : p < k := by have := of_decide_eq_true hcATBTFC; omega
     have wk : IntKind.i64.wrap (((k : Nat) : Int) - 1) = ((k - 1 : Nat) : Int) := by rw [IntKind.wrap_i64]; omega
     obtain ⟨zz, hzz⟩ : ∃ zz, m1[k - 1]? = some zz := ⟨_, List.getElem?_eq_getElem (by omega)⟩
     have hld := hole_low (m1 := m1) (k := k) (by omega) wd (show k - 1 < k by omega) hzz
     have hst := hole_at (m1 := m1) (k := k) (by omega) wd
     have heq : (hole m1 k wd).set k [recD zz.1] = hole m1 (k - 1) (recD zz.1) := by
      have h5 := hole_down hzz
      rw [show k - 1 + 1 = k by omega] at h5
      rw [hole_set (by omega), h5]
     have hH4 : (H3.set g2 ⟨43, 1, (hole m1 k wd).set k [recD zz.1], v2, 2, true⟩)[g2]? = some ⟨43, 1, hole m1 (k - 1) (recD zz.1), v2, 2, true⟩ := by rw [get_set_self hH3, heq]
     refine cw_skip (sk_n rfl (cw_seq (cw_block (cw_region ?_))))
     refine ow_me rfl ?_
     refine ow_me rfl ?_
     refine ow_me rfl ?_
     refine ow_me rfl ?_
     refine ow_op (by simp only [zo, binD, zb, Int.reduceEq, Int.reduceToNat, Int.reduceLT, hY.len, rR_len, hol, wi, hia, wp, wn1, wk] <;> exact rfl) ?_
     refine ow_op (by simp only [opd, zv, wk]; exact gi_iaddr hH3 _ (by omega)) ?_
     refine ow_op (by simp only [opd, zv]; exact gl_load hH3 hld) ?_
     refine ow_op (by simp only [opd, zv, wk]; exact gi_iaddr hH3 _ (by omega)) ?_
     refine ow_op (by simp only [opd, zv]; exact gs_store hH3 hst) ?_
     refine ow_nil (bk_n ?_)
     refine sk_n (by simp only [ze] <;> exact rfl) ?_
     refine cw_region ?_
     refine ow_me rfl ?_
     refine ow_op (by simp only [zo, binD, zb, Int.reduceEq, Int.reduceToNat, Int.reduceLT, hY.len, rR_len, hol, wi, hia, wp, wn1, wk] <;> exact rfl) ?_
     refine ow_ml rfl ?_
     refine ow_nil ?_
     refine lk_n (by simp only [ze] <;> exact rfl) ?_
     exact ⟨k - 1 - p, by omega, k - 1, recD zz.1, _, _, by omega, by omega, rfl, hH4, rfl, rfl⟩
    ·
     obtain rfl : k = p := by have := of_decide_eq_false hcATBTFC; omega
     have hst := hole_at (m1 := m1) (k := k) (by omega) wd
     have hfin : (H3.set g2 ⟨43, 1, (hole m1 k wd).set k [recD z.1], v2, 2, true⟩)[g2]? = some ⟨43, 1, rR (m1.take k ++ z :: m1.drop k), v2, 2, true⟩ := by rw [get_set_self hH3, hole_set (by omega), hole_done]
     refine cw_exit (sk_e (lk_e (bk_e (sk_n rfl (cw_region ?_)))))
     refine ow_me rfl ?_
     refine ow_me rfl ?_
     refine ow_me rfl ?_
     refine ow_me rfl ?_
     refine ow_op (by simp only [zl, zm, iaddrD_sl, iaddrD_msl, Int.toNat_natCast, Int.toNat_zero, List.getElem?_map, Option.map_some, Int.le_refl, hY.len, rR_len, hol, wi, hia, wp, wn1] <;> exact rfl) ?_
     refine ow_op (by simp only [zl, zm, zd, partD, List.take, List.drop, hY.len, rR_len, hol, wi, hia, wp, wn1] <;> exact rfl) ?_
     refine ow_op (by simp only [opd, zv]; exact gi_iaddr hH3 _ (by omega)) ?_
     refine ow_op (by simp only [opd, zv]; exact gs_store hH3 hst) ?_
     refine ow_nil (bk_n ?_)
     refine sk_n (by simp only [ze] <;> exact rfl) ?_
     refine cw_region ?_
     refine ow_me rfl ?_
     refine ow_op (by simp only [zo, binD, zb, Int.reduceEq, Int.reduceToNat, Int.reduceLT, hY.len, rR_len, hol, wi, hia, wp, wn1] <;> exact rfl) ?_
     refine ow_ml rfl ?_
     refine ow_nil ?_
     refine lk_n (by simp only [ze] <;> exact rfl) ?_
     exact ⟨m.length - (i + 1), by omega, i + 1, _, _, _, _, _, _, _, _, by omega, rfl, ins_is hI hz hml hp2 hLt hGe, .inr ⟨by simp, g2, v2, by rw [show (m1.take k ++ z :: m1.drop k).length = i + 1 by simp; omega], hfin⟩, rfl, rfl⟩
  ·
   have hGe : GeB ks m1 0 p z := Or.inl (by have := of_decide_eq_false hgATB; omega)
   obtain ⟨g2, v2, H2, hap, hH2⟩ := hO.app (call := runF LP NN d) (by omega)
   rw [hml] at hap
   rw [hole_top, hml] at hH2
   have wn1 : IntKind.i64.wrap (((i + 1 : Nat) : Int) - 1) = ((i : Nat) : Int) := by rw [IntKind.wrap_i64]; omega
   refine dw_off (b' := false) (by simp only [opd, zv]) rfl ?_
   refine dw_off (b' := false) (by simp only [opd, zv]) rfl ?_
   refine dw_off (b' := false) (by simp only [opd, zv]) rfl ?_
   refine dw_off (b' := false) (by simp only [opd, zv]) rfl ?_
   refine dw_off (b' := false) (by simp only [opd, zv]) rfl ?_
   refine dw_off (b' := false) (by simp only [opd, zv]) rfl ?_
   refine dw_off (b' := false) (by simp only [opd, zv]) rfl ?_
   refine dw_off (b' := false) (by simp only [opd, zv]) rfl ?_
   refine dw_off (b' := false) (by simp only [opd, zv]) rfl ?_
   refine dw_off (b' := false) (by simp only [opd, zv]) rfl ?_
   refine dw_off (b' := false) (by simp only [opd, zv]) rfl ?_
   refine dw_off (b' := false) (by simp only [opd, zv]) rfl ?_
   refine dw_quiet (by simp only [zo, hY.len, rR_len, hol, wi, hia, wn1] <;> exact rfl) rfl rfl ?_
   refine dw_nil ?_
   refine sk_n (by simp only [ze] <;> exact rfl) ?_
   refine cw_false (by simp only [opd, zv, hY.len, rR_len, hol, wi, hia, wn1]) ?_
   refine cw_exit (sk_e (lk_e (bk_e (sk_n rfl (cw_seq (cw_region ?_))))))
   refine ow_me rfl ?_
   refine ow_op (by simp only [zl, zm, fillRows, List.replicate, snapVs, snaps, zs, zc, zf, hY.len, rR_len, hol, wi, hia, wn1] <;> exact rfl) ?_
   refine ow_op (by simp only [opd, zv]; exact hap) ?_
   refine ow_ml rfl ?_
   refine ow_nil ?_
   refine sk_n (by simp only [ze] <;> exact rfl) ?_
   refine cw_seq (cw_seq (cw_region ?_))
   refine ow_me rfl ?_
   refine ow_op (by simp only [zo, lenD_str, lenD_nils, lenD_sl, lenD_msl, hY.len, rR_len, hol, wi, hia, wn1] <;> exact rfl) ?_
   refine ow_op (by simp only [zo, binD, zb, Int.reduceEq, Int.reduceToNat, Int.reduceLT, hY.len, rR_len, hol, wi, hia, wn1] <;> exact rfl) ?_
   refine ow_ml rfl ?_
   refine ow_nil ?_
   refine sk_n (by simp only [ze] <;> exact rfl) ?_
   refine cw_block ?_
   refine cw_loop (fun rr env S' => ∃ (k : Nat) (wv : D) (H3 : List AObj) (t9 : D), p ≤ k ∧ k ≤ i ∧ rr = k - p ∧ H3[g2]? = some ⟨43, 1, hole m1 k wv, v2, 2, true⟩ ∧ S' = ⟨H3, 0⟩ ∧ env = [x, y, .nils, .msl g2 v2 0 (i + 1) none, .int .i64 (i : Nat), .int .i64 (p : Nat), .int .i64 (k : Nat), .bool (decide (((i : Nat) : Int) < ((m.length : Nat) : Int))), .bool false, t9]) (i - p) (by omega) (⟨i, .nils, _, _, hp2, Nat.le_refl _, rfl, hH2, rfl, rfl⟩) ?_
   rintro rr env S' ⟨k, wd, H3, t9, hk1, hk2, rfl, hH3, rfl, rfl⟩
   refine cw_seq (cw_seq (cw_region ?_))
   refine ow_me rfl ?_
   refine ow_me rfl ?_
   refine ow_op (by simp only [zo, binD, zb, Int.reduceEq, Int.reduceToNat, Int.reduceLT, hY.len, rR_len, hol, wi, hia, wn1] <;> exact rfl) ?_
   refine ow_nil ?_
   refine sk_n (by simp only [ze] <;> exact rfl) ?_
   refine cw_cond (by simp only [opd, zv, hY.len, rR_len, hol, wi, hia, wn1] <;> exact rfl) (fun hcATBFC => ?_) (fun hcATBFC => ?_)
   ·
    have hkp : p < k := by have := of_decide_eq_true hcATBFC; omega
    have wk : IntKind.i64.wrap (((k : Nat) : Int) - 1) = ((k - 1 : Nat) : Int) := by rw [IntKind.wrap_i64]; omega
    obtain ⟨zz, hzz⟩ : ∃ zz, m1[k - 1]? = some zz := ⟨_, List.getElem?_eq_getElem (by omega)⟩
    have hld := hole_low (m1 := m1) (k := k) (by omega) wd (show k - 1 < k by omega) hzz
    have hst := hole_at (m1 := m1) (k := k) (by omega) wd
    have heq : (hole m1 k wd).set k [recD zz.1] = hole m1 (k - 1) (recD zz.1) := by
     have h5 := hole_down hzz
     rw [show k - 1 + 1 = k by omega] at h5
     rw [hole_set (by omega), h5]
    have hH4 : (H3.set g2 ⟨43, 1, (hole m1 k wd).set k [recD zz.1], v2, 2, true⟩)[g2]? = some ⟨43, 1, hole m1 (k - 1) (recD zz.1), v2, 2, true⟩ := by rw [get_set_self hH3, heq]
    refine cw_skip (sk_n rfl (cw_seq (cw_block (cw_region ?_))))
    refine ow_me rfl ?_
    refine ow_me rfl ?_
    refine ow_me rfl ?_
    refine ow_me rfl ?_
    refine ow_op (by simp only [zo, binD, zb, Int.reduceEq, Int.reduceToNat, Int.reduceLT, hY.len, rR_len, hol, wi, hia, wn1, wk] <;> exact rfl) ?_
    refine ow_op (by simp only [opd, zv, wk]; exact gi_iaddr hH3 _ (by omega)) ?_
    refine ow_op (by simp only [opd, zv]; exact gl_load hH3 hld) ?_
    refine ow_op (by simp only [opd, zv, wk]; exact gi_iaddr hH3 _ (by omega)) ?_
    refine ow_op (by simp only [opd, zv]; exact gs_store hH3 hst) ?_
    refine ow_nil (bk_n ?_)
    refine sk_n (by simp only [ze] <;> exact rfl) ?_
    refine cw_region ?_
    refine ow_me rfl ?_
    refine ow_op (by simp only [zo, binD, zb, Int.reduceEq, Int.reduceToNat, Int.reduceLT, hY.len, rR_len, hol, wi, hia, wn1, wk] <;> exact rfl) ?_
    refine ow_ml rfl ?_
    refine ow_nil ?_
    refine lk_n (by simp only [ze] <;> exact rfl) ?_
    exact ⟨k - 1 - p, by omega, k - 1, recD zz.1, _, _, by omega, by omega, rfl, hH4, rfl, rfl⟩
   ·
    obtain rfl : k = p := by have := of_decide_eq_false hcATBFC; omega
    have hst := hole_at (m1 := m1) (k := k) (by omega) wd
    have hfin : (H3.set g2 ⟨43, 1, (hole m1 k wd).set k [recD z.1], v2, 2, true⟩)[g2]? = some ⟨43, 1, rR (m1.take k ++ z :: m1.drop k), v2, 2, true⟩ := by rw [get_set_self hH3, hole_set (by omega), hole_done]
    refine cw_exit (sk_e (lk_e (bk_e (sk_n rfl (cw_region ?_)))))
    refine ow_me rfl ?_
    refine ow_me rfl ?_
    refine ow_me rfl ?_
    refine ow_me rfl ?_
    refine ow_op (by simp only [zl, zm, iaddrD_sl, iaddrD_msl, Int.toNat_natCast, Int.toNat_zero, List.getElem?_map, Option.map_some, Int.le_refl, hY.len, rR_len, hol, wi, hia, wn1] <;> exact rfl) ?_
    refine ow_op (by simp only [zl, zm, zd, partD, List.take, List.drop, hY.len, rR_len, hol, wi, hia, wn1] <;> exact rfl) ?_
    refine ow_op (by simp only [opd, zv]; exact gi_iaddr hH3 _ (by omega)) ?_
    refine ow_op (by simp only [opd, zv]; exact gs_store hH3 hst) ?_
    refine ow_nil (bk_n ?_)
    refine sk_n (by simp only [ze] <;> exact rfl) ?_
    refine cw_region ?_
    refine ow_me rfl ?_
    refine ow_op (by simp only [zo, binD, zb, Int.reduceEq, Int.reduceToNat, Int.reduceLT, hY.len, rR_len, hol, wi, hia, wn1] <;> exact rfl) ?_
    refine ow_ml rfl ?_
    refine ow_nil ?_
    refine lk_n (by simp only [ze] <;> exact rfl) ?_
    exact ⟨m.length - (i + 1), by omega, i + 1, _, _, _, _, _, _, _, _, by omega, rfl, ins_is hI hz hml hp2 hLt hGe, .inr ⟨by simp, g2, v2, by rw [show (m1.take k ++ z :: m1.drop k).length = i + 1 by simp; omega], hfin⟩, rfl, rfl⟩
 ·
  obtain rfl : i = m.length := by have := of_decide_eq_false hcA; omega
  rw [List.take_length] at hI
  refine cw_exit (sk_e (lk_e (bk_e (sk_n rfl (cw_seq (cw_region ?_))))))
  refine ow_me rfl ?_
  refine ow_ml rfl ?_
  refine ow_nil ?_
  refine sk_n (by simp only [ze] <;> exact rfl) ?_
  refine cw_ret ?_
  refine ⟨_, by simp only [F14, resultD, resDs, resD, List.getD_cons_zero, List.getD_cons_succ, zd, rowsOf, partD, List.getElem?_cons_zero, List.getElem?_cons_succ, if_true, if_false, Bool.false_eq_true, List.take, List.drop, zm] <;> exact rfl, ?_⟩
  rw [← srt_eq hI]
  exact hO.leave

end Go.Proofs.YtabgobmeibjeeaaGreatDoor

namespace Go.Proofs.YtabgobmeibjeeaaGreatDoor
set_option linter.unusedSimpArgs false
set_option linter.unusedVariables false
set_option maxRecDepth 10000
set_option maxHeartbeats 4000000

theorem IsS.self {ks : List Ke} {m m' : List RecT} (h : IsS (cK ks) m m') : IsS (cK ks) m' m' := ⟨Same.refl _, h.2⟩
theorem srt_srt {ks : List Ke} {m : List RecT} (h : IsS (cK ks) m (srt ks m)) : srt ks (srt ks m) = srt ks m := (srt_eq h.self).symm

theorem lawOrder_run {d : Nat} (hd : 100 ≤ d) (S : St) {x y : D} {l : List (Nat × Nat × Nat)} (hS : SlD 3 (triRows l) x) (hbd : ∀ t ∈ l, t.1 < 256 ∧ t.2.1 < 256 ∧ t.2.2 < 256) (hll : l.length ≤ 9223372036854775807) {nums : List Nat} (hY : SlD 1 (numRows nums) y) (hmb : ∀ n ∈ nums, n < 4294967296) (hml0 : nums.length ≤ 9223372036854775807) : runF LP NN d 3 [x, y] S = some (.bool true, S, false) := by
 obtain ⟨m, hm⟩ : ∃ m, m = nums.map recOf := ⟨_, rfl⟩
 have hml : m.length = nums.length := by rw [hm, List.length_map]
 refine run_pure (F := F3) rfl (by simp only [LP, fnOf, snapVs, snaps, zs, Bool.false_eq_true, if_false, Option.map_some, List.map_cons, List.map_nil, hS.snapV, hS.freeV, hY.snapV, hY.freeV] <;> exact rfl) rfl (by simp only [LP, zf, List.all_cons, List.all_nil, Bool.and_true, Bool.true_and, hS.snapV, hS.freeV, hY.snapV, hY.freeV]; try rfl) (by simp only [F3, zv] <;> exact rfl) (by omega) ?_
 rintro d rfl
 refine cw_seq (cw_region ?_)
 refine ow_mc ?_
 refine ow_nil ?_
 refine sk_n (by simp only [ze] <;> exact rfl) ?_
 refine cw_seq (cw_seq (cw_region ?_))
 refine ow_me rfl ?_
 refine ow_op (by simp only [zo, lenD_str, lenD_nils, lenD_sl, lenD_msl, hY.len, numRows_len] <;> exact rfl) ?_
 refine ow_op (by simp only [zo, binD, zb, Int.reduceEq, Int.reduceToNat, Int.reduceLT, hY.len, numRows_len] <;> exact rfl) ?_
 refine ow_nil ?_
 refine sk_n (by simp only [ze] <;> exact rfl) ?_
 refine cw_cond (by simp only [opd, zv, hY.len, numRows_len] <;> exact rfl) (fun hc => ?_) (fun hc => ?_)
 ·
  refine cw_seq (cw_region ?_)
  refine ow_op (by simp only [zo, hY.len, numRows_len]; exact livesD (by omega) _) ?_
  refine ow_ml rfl ?_
  refine ow_nil ?_
  refine sk_n (by simp only [ze] <;> exact rfl) ?_
  refine cw_ret (sk_r ?_)
  refine ⟨_, by simp only [F3, resultD, resDs, resD, List.getD_cons_zero, List.getD_cons_succ, zd, rowsOf, partD, List.getElem?_cons_zero, List.getElem?_cons_succ, if_true, if_false, Bool.false_eq_true, List.take, List.drop, zm] <;> exact rfl, ?_⟩
  simp only [leaveP, leave, snapVs, snaps, zs, zf, zk]
 ·
  have h60 : nums.length ≤ 60 := by have := of_decide_eq_false hc; omega
  have hI := srt_ok l m (by omega)
  have hsl : (srt (keysF l) m).length = m.length := hI.1.1
  have hss := srt_srt hI
  have t1 : decide (srt (keysF l) m = srt (keysF l) m) = true := decide_eq_true rfl
  have t2 : decide (m = m) = true := decide_eq_true rfl
  have n0 : ((0 : Int) != 0) = false := rfl
  have n1 : (((m.length : Nat) : Int) != ((m.length : Nat) : Int)) = false := by simp
  refine cw_skip (sk_n rfl (cw_seq (cw_region ?_)))
  refine ow_me rfl ?_
  refine ow_op (by simp only [zo, hY.len, numRows_len, hss, t1, t2, n0, n1, hsl, rR_len]; exact kOf_run (by omega) _ hS hbd hll) ?_
  refine ow_ml rfl ?_
  refine ow_nil ?_
  refine sk_n (by simp only [ze] <;> exact rfl) ?_
  refine cw_seq (cw_region ?_)
  refine ow_me rfl ?_
  refine ow_op (by simp only [zo, hY.len, numRows_len, hss, t1, t2, n0, n1, hsl, rR_len]; exact (records_run (by omega) _ hY hmb (by omega)).trans (by rw [← hm] <;> rfl)) ?_
  refine ow_ml rfl ?_
  refine ow_nil ?_
  refine sk_n (by simp only [ze] <;> exact rfl) ?_
  refine cw_seq (cw_region ?_)
  refine ow_me rfl ?_
  refine ow_me rfl ?_
  first
   | refine ow_op (by simp only [zo, hY.len, numRows_len, hss, t1, t2, n0, n1, hsl, rR_len]; exact (Sort_run _ (.of _ _ _) (keysF_len l).1 (by have := (keysF_len l).2; omega) (keysF_gk l) m (by omega) (appY_S _ _) (.rR m) (by omega))) ?_
   | refine ow_op (by simp only [zo, hY.len, numRows_len, hss, t1, t2, n0, n1, hsl, rR_len]; exact (Sort_run _ (.of _ _ _) (keysF_len l).1 (by have := (keysF_len l).2; omega) (keysF_gk l) (srt (keysF l) m) (by omega) (.of _ _ _) (.rR _) (by omega)).trans (by rw [hss, hsl] <;> rfl)) ?_
  refine ow_ml rfl ?_
  refine ow_op (by simp only [zo, List.getElem?_cons_zero, List.getElem?_cons_succ, hY.len, numRows_len, hss, t1, t2, n0, n1, hsl, rR_len] <;> exact rfl) ?_
  refine ow_op (by simp only [zo, List.getElem?_cons_zero, List.getElem?_cons_succ, hY.len, numRows_len, hss, t1, t2, n0, n1, hsl, rR_len] <;> exact rfl) ?_
  refine ow_ml rfl ?_
  refine ow_ml rfl ?_
  refine ow_nil ?_
  refine sk_n (by simp only [ze] <;> exact rfl) ?_
  refine cw_seq (cw_region ?_)
  refine ow_me rfl ?_
  refine ow_me rfl ?_
  first
   | refine ow_op (by simp only [zo, hY.len, numRows_len, hss, t1, t2, n0, n1, hsl, rR_len]; exact (Sort_run _ (.of _ _ _) (keysF_len l).1 (by have := (keysF_len l).2; omega) (keysF_gk l) m (by omega) (appY_S _ _) (.rR m) (by omega))) ?_
   | refine ow_op (by simp only [zo, hY.len, numRows_len, hss, t1, t2, n0, n1, hsl, rR_len]; exact (Sort_run _ (.of _ _ _) (keysF_len l).1 (by have := (keysF_len l).2; omega) (keysF_gk l) (srt (keysF l) m) (by omega) (.of _ _ _) (.rR _) (by omega)).trans (by rw [hss, hsl] <;> rfl)) ?_
  refine ow_ml rfl ?_
  refine ow_op (by simp only [zo, List.getElem?_cons_zero, List.getElem?_cons_succ, hY.len, numRows_len, hss, t1, t2, n0, n1, hsl, rR_len] <;> exact rfl) ?_
  refine ow_op (by simp only [zo, List.getElem?_cons_zero, List.getElem?_cons_succ, hY.len, numRows_len, hss, t1, t2, n0, n1, hsl, rR_len] <;> exact rfl) ?_
  refine ow_ml rfl ?_
  refine ow_ml rfl ?_
  refine ow_nil ?_
  refine sk_n (by simp only [ze] <;> exact rfl) ?_
  refine cw_seq (cw_seq (cw_region ?_))
  refine ow_me rfl ?_
  refine ow_op (by simp only [zo, binD, zb, Int.reduceEq, Int.reduceToNat, Int.reduceLT, hY.len, numRows_len, hss, t1, t2, n0, n1, hsl, rR_len] <;> exact rfl) ?_
  refine ow_ml rfl ?_
  refine ow_know 0 (b := false) (by simp only [opd, zv, hY.len, numRows_len, hss, t1, t2, n0, n1, hsl, rR_len] <;> rfl) (by simp only [zn] <;> exact rfl) ?_
  refine ow_on (by simp only [opd, zv]) ?_
  refine ow_me rfl ?_
  refine ow_on (by simp only [opd, zv]) ?_
  refine ow_op (by simp only [zo, binD, zb, Int.reduceEq, Int.reduceToNat, Int.reduceLT, hY.len, numRows_len, hss, t1, t2, n0, n1, hsl, rR_len] <;> exact rfl) ?_
  refine ow_op (by simp only [zo, hY.len, numRows_len, hss, t1, t2, n0, n1, hsl, rR_len] <;> exact rfl) ?_
  refine ow_ml rfl ?_
  refine ow_know 0 (b := false) (by simp only [opd, zv, hY.len, numRows_len, hss, t1, t2, n0, n1, hsl, rR_len] <;> rfl) (by simp only [zn] <;> exact rfl) ?_
  refine ow_on (by simp only [opd, zv]) ?_
  refine ow_me rfl ?_
  refine ow_on (by simp only [opd, zv]) ?_
  refine ow_op (by simp only [zo, capD_nils, capD_sl, capD_msl, hY.len, numRows_len, hss, t1, t2, n0, n1, hsl, rR_len] <;> exact rfl) ?_
  refine ow_on (by simp only [opd, zv]) ?_
  refine ow_me rfl ?_
  refine ow_on (by simp only [opd, zv]) ?_
  refine ow_op (by simp only [zo, lenD_str, lenD_nils, lenD_sl, lenD_msl, hY.len, numRows_len, hss, t1, t2, n0, n1, hsl, rR_len] <;> exact rfl) ?_
  refine ow_on (by simp only [opd, zv]) ?_
  refine ow_op (by simp only [zo, binD, zb, Int.reduceEq, Int.reduceToNat, Int.reduceLT, hY.len, numRows_len, hss, t1, t2, n0, n1, hsl, rR_len] <;> exact rfl) ?_
  refine ow_op (by simp only [zo, hY.len, numRows_len, hss, t1, t2, n0, n1, hsl, rR_len] <;> exact rfl) ?_
  refine ow_nil ?_
  refine sk_n (by simp only [ze] <;> exact rfl) ?_
  skip
  refine cw_false (by simp only [opd, zv, hY.len, numRows_len, hss, t1, t2, n0, n1, hsl, rR_len] <;> rfl) ?_
  refine cw_skip (sk_n rfl (cw_seq (cw_region ?_)))
  refine ow_me rfl ?_
  refine ow_me rfl ?_
  refine ow_me rfl ?_
  refine ow_op (by simp only [zo, hY.len, numRows_len, hss, t1, t2, n0, n1, hsl, rR_len]; exact inserted_run (by omega) _ (.of _ _ _) (by have := (keysF_len l).2; omega) (keysF_gk l) (appY_S _ _) (by omega)) ?_
  first
   | refine ow_op (by simp only [zo, hY.len, numRows_len, hss, t1, t2, n0, n1, hsl, rR_len]; exact same_run (by omega) _ (.of _ _ _) (appY_S _ _) (.rR _) (.rR _) (by omega) (by omega)) ?_
   | refine ow_op (by simp only [zo, hY.len, numRows_len, hss, t1, t2, n0, n1, hsl, rR_len]; exact same_run (by omega) _ (.of _ _ _) (.of _ _ _) (.rR _) (.rR _) (by omega) (by omega)) ?_
   | refine ow_op (by simp only [zo, hY.len, numRows_len, hss, t1, t2, n0, n1, hsl, rR_len]; exact same_run (by omega) _ (appY_S _ _) (appY_S _ _) (.rR _) (.rR _) (by omega) (by omega)) ?_
  refine ow_ml rfl ?_
  refine ow_know 0 (b := true) (by simp only [opd, zv, hY.len, numRows_len, hss, t1, t2, n0, n1, hsl, rR_len] <;> rfl) (by simp only [zn] <;> exact rfl) ?_
  refine ow_on (by simp only [opd, zv]) ?_
  refine ow_me rfl ?_
  refine ow_on (by simp only [opd, zv]) ?_
  refine ow_me rfl ?_
  refine ow_on (by simp only [opd, zv]) ?_
  first
   | refine ow_op (by simp only [zo, hY.len, numRows_len, hss, t1, t2, n0, n1, hsl, rR_len]; exact same_run (by omega) _ (.of _ _ _) (appY_S _ _) (.rR _) (.rR _) (by omega) (by omega)) ?_
   | refine ow_op (by simp only [zo, hY.len, numRows_len, hss, t1, t2, n0, n1, hsl, rR_len]; exact same_run (by omega) _ (.of _ _ _) (.of _ _ _) (.rR _) (.rR _) (by omega) (by omega)) ?_
   | refine ow_op (by simp only [zo, hY.len, numRows_len, hss, t1, t2, n0, n1, hsl, rR_len]; exact same_run (by omega) _ (appY_S _ _) (appY_S _ _) (.rR _) (.rR _) (by omega) (by omega)) ?_
  refine ow_op (by simp only [zo, hY.len, numRows_len, hss, t1, t2, n0, n1, hsl, rR_len] <;> exact rfl) ?_
  refine ow_ml rfl ?_
  refine ow_know 0 (b := true) (by simp only [opd, zv, hY.len, numRows_len, hss, t1, t2, n0, n1, hsl, rR_len] <;> rfl) (by simp only [zn] <;> exact rfl) ?_
  refine ow_on (by simp only [opd, zv]) ?_
  refine ow_me rfl ?_
  refine ow_on (by simp only [opd, zv]) ?_
  refine ow_me rfl ?_
  refine ow_on (by simp only [opd, zv]) ?_
  refine ow_op (by simp only [zo, hY.len, numRows_len, hss, t1, t2, n0, n1, hsl, rR_len]; exact (records_run (by omega) _ hY hmb (by omega)).trans (by rw [← hm] <;> rfl)) ?_
  refine ow_on (by simp only [opd, zv]) ?_
  first
   | refine ow_op (by simp only [zo, hY.len, numRows_len, hss, t1, t2, n0, n1, hsl, rR_len]; exact same_run (by omega) _ (.of _ _ _) (appY_S _ _) (.rR _) (.rR _) (by omega) (by omega)) ?_
   | refine ow_op (by simp only [zo, hY.len, numRows_len, hss, t1, t2, n0, n1, hsl, rR_len]; exact same_run (by omega) _ (.of _ _ _) (.of _ _ _) (.rR _) (.rR _) (by omega) (by omega)) ?_
   | refine ow_op (by simp only [zo, hY.len, numRows_len, hss, t1, t2, n0, n1, hsl, rR_len]; exact same_run (by omega) _ (appY_S _ _) (appY_S _ _) (.rR _) (.rR _) (by omega) (by omega)) ?_
  refine ow_op (by simp only [zo, hY.len, numRows_len, hss, t1, t2, n0, n1, hsl, rR_len] <;> exact rfl) ?_
  refine ow_ml rfl ?_
  refine ow_know 0 (b := true) (by simp only [opd, zv, hY.len, numRows_len, hss, t1, t2, n0, n1, hsl, rR_len] <;> rfl) (by simp only [zn] <;> exact rfl) ?_
  refine ow_on (by simp only [opd, zv]) ?_
  refine ow_op (by simp only [zo, hY.len, numRows_len, hss, t1, t2, n0, n1, hsl, rR_len]; exact livesD (by omega) _) ?_
  refine ow_op (by simp only [zo, hY.len, numRows_len, hss, t1, t2, n0, n1, hsl, rR_len] <;> exact rfl) ?_
  refine ow_ml rfl ?_
  refine ow_nil ?_
  refine sk_n (by simp only [ze] <;> exact rfl) ?_
  refine cw_ret ?_
  refine ⟨_, by simp only [F3, resultD, resDs, resD, List.getD_cons_zero, List.getD_cons_succ, zd, rowsOf, partD, List.getElem?_cons_zero, List.getElem?_cons_succ, if_true, if_false, Bool.false_eq_true, List.take, List.drop, zm] <;> exact rfl, ?_⟩
  simp only [leaveP, leave, snapVs, snaps, zs, zf, zk]

end Go.Proofs.YtabgobmeibjeeaaGreatDoor

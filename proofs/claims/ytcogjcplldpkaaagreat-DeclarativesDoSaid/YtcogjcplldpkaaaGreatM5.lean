/- Proved here: parts of the proof, joined (E8, E9, E10, E12, E13, E14, E15, E16, E17, E18, E19, E20, E21): an abstract machine, its soundness, what functions of the program compute in it; no condition. -/
import Derived.Test.YtcogjcplldpkaaaGreatM4
namespace Go.Proofs.YtcogjcplldpkaaaGreat
set_option linter.unusedSimpArgs false
set_option linter.unusedVariables false
set_option maxRecDepth 10000

def tokAt (line : Nat) (k : Nat) (s : ByteArray) : Tok := ⟨1, s, line, ((k + 1 : Nat) : Int), false⟩
/-- the tokens of words in a line -/
def toksF (line : Nat) (l : List ByteArray) : List Tok := l.mapIdx (tokAt line)
theorem toksF_len (line : Nat) (l : List ByteArray) : (toksF line l).length = l.length := by simp [toksF]
theorem toks_add (line : Nat) (l : List ByteArray) (k : Nat) (h : k < l.length) : tokRows ((toksF line l).take (k + 1)) = tokRows ((toksF line l).take k) ++ [(tokAt line k l[k]).row] := by
 have h' : k < (toksF line l).length := by rw [toksF_len]; exact h
 rw [List.take_add_one, List.getElem?_eq_getElem h', tokRows, tokRows, List.map_append]
 simp [toksF]
def useRow (i : Nat) (u : Uu) : List D := [.str (secF i), appY 5 (tokRows (toksF (i + 1) (textF u))), .nils]
def useRows (l : List Uu) : List (List D) := l.mapIdx useRow
theorem use_add (l : List Uu) (i : Nat) (h : i < l.length) : (useRows l).take (i + 1) = (useRows l).take i ++ [useRow i l[i]] := by
 rw [List.take_add_one]
 simp [useRows, h]
theorem useRows_len (l : List Uu) : (useRows l).length = l.length := by simp [useRows]
theorem text_few (u : Uu) : (textF u).length ≤ 9 := by
 have := names_few u.f
 unfold textF
 repeat' split
 all_goals (simp; try omega)
theorem strRows_get {l : List ByteArray} {k : Nat} (h : k < l.length) : (strRows l)[k]? = some [.str l[k]] := strRows_at h

theorem fpApp_eta (s x r : D) (wr : Bool) : fpApp s x r wr = ⟨(fpApp s x r wr).loud, (fpApp s x r wr).reads, (fpApp s x r wr).writes, (fpApp s x r wr).creates, none⟩ := by
 have h := fpApp_hoist s x r wr
 revert h; generalize fpApp s x r wr = f; intro h; cases f; simp at h; subst h; rfl
theorem okHere_nil {n : Nat} {o : LOper} {fps : List FP} {fp : FP} {S : St} (h : okFP o.ord fps fp = true) : okHere n [] o fps fp S = true := by
 simp [okHere, h, sparesFP]

def theFiles : List Fi := [⟨⟨#[70, 48]⟩, .sl 1 [[.str ⟨#[83]⟩]] (some 1), ⟨_, .of _ _ _⟩⟩, ⟨⟨#[70, 49]⟩, .nils, ⟨_, .nil 1⟩⟩, ⟨⟨#[70, 50]⟩, .sl 1 [[.str ⟨#[83]⟩]] (some 1), ⟨_, .of _ _ _⟩⟩, ⟨⟨#[70, 51]⟩, .nils, ⟨_, .nil 1⟩⟩]
def filesObj : AObj := ⟨68, 12, fiRows theFiles, 3, 1, true⟩

theorem program_run {d : Nat} (hd : 4 ≤ d) (S : St) {x : D} {l : List Uu} (hS : SlD 3 (uRows l) x) (hl : l.length ≤ 6) :
  runF LP NN d 5 [x] S = some (progD (.sl 12 (fiRows theFiles) none) (appY 3 (useRows l)), S, false) := by
 refine run_pure (F := F5) rfl (by simp only [LP, fnOf, snapVs, snaps, zs, zm, zv, hS.snapV, hS.freeV] <;> exact rfl) rfl (by simp only [LP, zf, zm, hS.snapV, hS.freeV]; try rfl) (by simp only [F5, zv] <;> exact rfl) (by omega) ?_
 rintro d rfl
 refine cw_seq (cw_region ?_)
 refine ow_op (by simp only [zl, zm, hS.len, uRows_len, strRows_len, Nat.zero_min] <;> exact rfl) ?_
 refine ow_nil ?_
 refine sk_n (by simp only [ze] <;> exact rfl) ?_
 refine cw_seq (cw_region ?_)
 refine ow_op (by simp only [zl, zm, hS.len, uRows_len, strRows_len, Nat.zero_min] <;> exact rfl) ?_
 refine ow_nil ?_
 refine sk_n (by simp only [ze] <;> exact rfl) ?_
 refine cw_seq (cw_seq (cw_region ?_))
 refine ow_mc ?_
 refine ow_nil ?_
 refine sk_n (by simp only [ze] <;> exact rfl) ?_
 refine cw_eval (e := .normal) (env' := [x, .ptr 0 0 0 0, .ptr 1 0 0 0, .int .i64 4, .ptr 6 0 0 0, .undef, .undef, .undef, .undef, .bool false, .bool false, .undef, .undef]) (S' := ⟨[⟨32, 9, [[.str ⟨#[]⟩, .nils, .nils, .nils, .nils, .nils, .nils, .nils, .nils]], 0, 0, false⟩, ⟨32, 9, [[.str ⟨#[]⟩, .msl 3 3 0 4 none, .nils, .nils, .nils, .nils, .nils, .nils, .nils]], 0, 0, false⟩, ⟨68, 12, [[.str ⟨#[70, 48]⟩, .str ⟨#[]⟩, .int .u8 0, .int .u8 0, .nils, .nils, .sl 1 [[.str ⟨#[83]⟩]] (some 1), .bool false, .nils, .nils, .int .i64 0, .int .i64 0]], 0, 0, false⟩, filesObj, ⟨68, 12, [[.str ⟨#[70, 49]⟩, .str ⟨#[]⟩, .int .u8 0, .int .u8 0, .nils, .nils, .nils, .bool false, .nils, .nils, .int .i64 0, .int .i64 0]], 0, 0, false⟩, ⟨68, 12, [[.str ⟨#[70, 50]⟩, .str ⟨#[]⟩, .int .u8 0, .int .u8 0, .nils, .nils, .sl 1 [[.str ⟨#[83]⟩]] (some 1), .bool false, .nils, .nils, .int .i64 0, .int .i64 0]], 0, 0, false⟩, ⟨68, 12, [[.str ⟨#[70, 51]⟩, .str ⟨#[]⟩, .int .u8 0, .int .u8 0, .nils, .nils, .nils, .bool false, .nils, .nils, .int .i64 0, .int .i64 0]], 0, 0, false⟩], 0⟩) (by kernel_rfl) ?_
 refine sk_n rfl (cw_seq (cw_seq (cw_region ?_)))
 refine ow_mc ?_
 refine ow_nil ?_
 refine sk_n (by simp only [ze] <;> exact rfl) ?_
 refine cw_block ?_
 refine cw_loop (fun n env S' => ∃ (H : List AObj) (i : Nat) (ux u4 u6 u7 u8 u9 u10 u11 u12 : D), H[0]? = some ⟨32, 9, [[.str ⟨#[]⟩, .nils, .nils, .nils, .nils, .nils, .nils, .nils, .nils]], 0, 0, false⟩ ∧ H[1]? = some ⟨32, 9, [[.str ⟨#[]⟩, .msl 3 3 0 4 none, .nils, .nils, .nils, .nils, .nils, ux, .nils]], 0, 0, false⟩ ∧ H[3]? = some filesObj ∧ AppAt 71 3 ((useRows l).take i) H ux ∧ i ≤ l.length ∧ n = l.length - i ∧ S' = ⟨H, 0⟩ ∧ env = [x, .ptr 0 0 0 0, .ptr 1 0 0 0, .int .i64 4, u4, .int .i64 i, u6, u7, u8, u9, u10, u11, u12]) (l.length) (by omega) (⟨_, 0, _, _, _, _, _, _, _, _, _, rfl, rfl, rfl, AppAt.nil _ _ _, by omega, by omega, rfl, rfl⟩) ?_
 rintro n env S' ⟨H, i, ux, u4, u6, u7, u8, u9, u10, u11, u12, h0, h1, h3, hA, hi, rfl, rfl, rfl⟩
 refine cw_seq (cw_seq (cw_region ?_))
 refine ow_me rfl ?_
 refine ow_me rfl ?_
 refine ow_op (by simp only [zo, lenD_str, lenD_nils, lenD_sl, lenD_msl, hS.len, uRows_len, strRows_len, Nat.zero_min] <;> exact rfl) ?_
 refine ow_op (by simp only [zo, binD, zb, Int.reduceEq, Int.reduceToNat, Int.reduceLT, hS.len, uRows_len, strRows_len, Nat.zero_min] <;> exact rfl) ?_
 refine ow_nil ?_
 refine sk_n (by simp only [ze] <;> exact rfl) ?_
 refine cw_cond (by simp only [opd, zv, hS.len, uRows_len, strRows_len, Nat.zero_min] <;> exact rfl) (fun hcA => ?_) (fun hcA => ?_)
 ·
  have hlt : i < l.length := by have := of_decide_eq_true hcA; omega
  have hw := wrap_nat i (by omega)
  have hia := fun (S : St) => hS.iaddrN S .i64 (uRows_at hlt)
  have hgu : 3 < H.length := (List.getElem?_eq_some_iff.1 h3).1
  refine cw_skip (sk_n rfl (cw_seq (cw_block (cw_seq (cw_region ?_)))))
  refine ow_me rfl ?_
  refine ow_op (by simp only [zo, hS.len, uRows_len, strRows_len, Nat.zero_min, hw, hia]; exact section_run (by omega) _ i (by omega)) ?_
  refine ow_op (by simp only [zo, fillD, overlay, zc, List.take, List.drop, Nat.reduceAdd, Nat.reduceLeDiff, Nat.reduceBEq, zm, hS.len, uRows_len, strRows_len, Nat.zero_min, hw, hia] <;> exact rfl) ?_
  refine ow_op (by simp only [zl, zm, hS.len, uRows_len, strRows_len, Nat.zero_min, hw, hia] <;> exact rfl) ?_
  refine ow_op (by simp only [zl, zm, storeD, overlay, snapVs, snaps, zs, zc, zf, List.take, List.drop, hS.len, uRows_len, strRows_len, Nat.zero_min, hw, hia] <;> exact rfl) ?_
  refine ow_nil ?_
  refine sk_n (by simp only [ze] <;> exact rfl) ?_
  refine cw_seq (cw_region ?_)
  refine ow_me rfl ?_
  refine ow_me rfl ?_
  refine ow_op (by simp only [zl, zm, iaddrD_sl, iaddrD_msl, Int.toNat_natCast, Int.toNat_zero, List.getElem?_map, Option.map_some, Int.le_refl, hS.len, uRows_len, strRows_len, Nat.zero_min, hw, hia] <;> exact rfl) ?_
  refine ow_op (by simp only [zl, zm, zd, partD, List.take, List.drop, hS.len, uRows_len, strRows_len, Nat.zero_min, hw, hia] <;> exact rfl) ?_
  refine ow_op (by simp only [zo, hS.len, uRows_len, strRows_len, Nat.zero_min, hw, hia]; exact text_run (by omega) _ l[i]) ?_
  refine ow_ml rfl ?_
  refine ow_nil ?_
  refine sk_n (by simp only [ze] <;> exact rfl) ?_
  refine cw_seq (cw_seq (cw_region ?_))
  refine ow_mc ?_
  refine ow_nil ?_
  refine sk_n (by simp only [ze] <;> exact rfl) ?_
  refine cw_block ?_
  refine cw_loop (fun n env S' => ∃ (H' : List AObj) (k : Nat) (tx v9 v10 v11 v12 : D), H'[0]? = some ⟨32, 9, [[.str ⟨#[]⟩, .nils, .nils, .nils, .nils, .nils, .nils, .nils, .nils]], 0, 0, false⟩ ∧ H'[1]? = some ⟨32, 9, [[.str ⟨#[]⟩, .msl 3 3 0 4 none, .nils, .nils, .nils, .nils, .nils, ux, .nils]], 0, 0, false⟩ ∧ H'[3]? = some filesObj ∧ H'[H.length]? = some ⟨71, 3, [[.str (secF i), tx, .nils]], 0, 0, false⟩ ∧ AppAt 74 5 (tokRows ((toksF (i + 1) (textF l[i])).take k)) H' tx ∧ AppAt 71 3 ((useRows l).take i) H' ux ∧ k ≤ (textF l[i]).length ∧ n = (textF l[i]).length - k ∧ S' = ⟨H', 0⟩ ∧ env = [x, .ptr 0 0 0 0, .ptr 1 0 0 0, .int .i64 4, u4, .int .i64 i, .ptr H.length 0 0 0, .sl 1 (strRows (textF l[i])) none, .int .i64 k, v9, v10, v11, v12]) ((textF l[i]).length) (by have := text_few l[i]; omega) (⟨_, 0, _, _, _, _, _, get_app h0 _, get_app h1 _, get_app h3 _, by simp, AppAt.nil _ _ _, hA.push _, by omega, by omega, rfl, rfl⟩) ?_
  rintro n env S' ⟨H', k, tx, v9, v10, v11, v12, g0, g1, g3, gu, gA, gB, hk, rfl, rfl, rfl⟩
  refine cw_seq (cw_seq (cw_region ?_))
  refine ow_me rfl ?_
  refine ow_me rfl ?_
  refine ow_op (by simp only [zo, lenD_str, lenD_nils, lenD_sl, lenD_msl, hS.len, uRows_len, strRows_len, Nat.zero_min, hw, hia] <;> exact rfl) ?_
  refine ow_op (by simp only [zo, binD, zb, Int.reduceEq, Int.reduceToNat, Int.reduceLT, hS.len, uRows_len, strRows_len, Nat.zero_min, hw, hia] <;> exact rfl) ?_
  refine ow_nil ?_
  refine sk_n (by simp only [ze] <;> exact rfl) ?_
  refine cw_cond (by simp only [opd, zv, hS.len, uRows_len, strRows_len, Nat.zero_min, hw, hia] <;> exact rfl) (fun hcATB => ?_) (fun hcATB => ?_)
  ·
   have hkt : k < (textF l[i]).length := by have := of_decide_eq_true hcATB; omega
   have hfew := text_few l[i]
   have hwk := wrap_nat k (by omega)
   have hix := strRows_get hkt
   obtain ⟨tx', H2, gap, gA', glen', gkeep⟩ := gA.app 48 (new := [(tokAt (i + 1) k (textF l[i])[k]).row]) (c := some 1) rfl (by rw [tokRows_len, List.length_take]; simp; omega)
   simp only [tokAt, Tok.row] at gap
   have q0 := gkeep 0 _ g0 (.inl rfl)
   have q1 := gkeep 1 _ g1 (.inl rfl)
   have q3 := gkeep 3 _ g3 (.inr (by decide))
   have qu := gkeep _ _ gu (.inl rfl)
   have hpl := gA'.plainV (by simp)
   refine cw_skip (sk_n rfl (cw_seq (cw_block ?_)))
   refine cw_drawn (by simp only [newsVals, zw, Nat.reduceAdd] <;> exact rfl) (by simp only [zw, newsObj, St.eta] <;> exact rfl) ?_
   refine dw_quiet (by simp only [zo, faddrD_ptr, faddrD_cptr, zm, hS.len, uRows_len, strRows_len, Nat.zero_min, hw, hia, hwk, hix, gu, qu, hpl, Int.natCast_nonneg, gA.isCell, gA'.isCell, gA'.val, gA'.cells, Bool.false_eq_true] <;> exact rfl) rfl rfl ?_
   refine dw_op (by simp only [zl, zm, zd, partD, List.take, List.drop, hS.len, uRows_len, strRows_len, Nat.zero_min, hw, hia, hwk, hix, gu, qu, hpl, Int.natCast_nonneg, gA.isCell, gA'.isCell, gA'.val, gA'.cells, Bool.false_eq_true] <;> exact rfl) (by simp only [fpHere, zo, zq, hpl, Bool.false_eq_true, if_false] <;> exact rfl) rfl ?_
   refine dw_me rfl rfl ?_
   refine dw_me rfl rfl ?_
   refine dw_op (by simp only [zl, zm, iaddrD_sl, iaddrD_msl, Int.toNat_natCast, Int.toNat_zero, List.getElem?_map, Option.map_some, Int.le_refl, hS.len, uRows_len, strRows_len, Nat.zero_min, hw, hia, hwk, hix, gu, qu, hpl, Int.natCast_nonneg, gA.isCell, gA'.isCell, gA'.val, gA'.cells, Bool.false_eq_true] <;> exact rfl) (by simp only [fpHere, zo, zq, hpl, Bool.false_eq_true, if_false] <;> exact rfl) rfl ?_
   refine dw_op (by simp only [zl, zm, zd, partD, List.take, List.drop, hS.len, uRows_len, strRows_len, Nat.zero_min, hw, hia, hwk, hix, gu, qu, hpl, Int.natCast_nonneg, gA.isCell, gA'.isCell, gA'.val, gA'.cells, Bool.false_eq_true] <;> exact rfl) (by simp only [fpHere, zo, zq, hpl, Bool.false_eq_true, if_false] <;> exact rfl) rfl ?_
   refine dw_me rfl rfl ?_
   refine dw_quiet (by simp only [zo, binD, zb, Int.reduceEq, Int.reduceToNat, Int.reduceLT, hS.len, uRows_len, strRows_len, Nat.zero_min, hw, hia, hwk, hix, gu, qu, hpl, Int.natCast_nonneg, gA.isCell, gA'.isCell, gA'.val, gA'.cells, Bool.false_eq_true] <;> exact rfl) rfl rfl ?_
   refine dw_me rfl rfl ?_
   refine dw_quiet (by simp only [zo, binD, zb, Int.reduceEq, Int.reduceToNat, Int.reduceLT, hS.len, uRows_len, strRows_len, Nat.zero_min, hw, hia, hwk, hix, gu, qu, hpl, Int.natCast_nonneg, gA.isCell, gA'.isCell, gA'.val, gA'.cells, Bool.false_eq_true] <;> exact rfl) rfl rfl ?_
   refine dw_quiet (by simp only [zo, fillD, overlay, zc, List.take, List.drop, Nat.reduceAdd, Nat.reduceLeDiff, Nat.reduceBEq, zm, hS.len, uRows_len, strRows_len, Nat.zero_min, hw, hia, hwk, hix, gu, qu, hpl, Int.natCast_nonneg, gA.isCell, gA'.isCell, gA'.val, gA'.cells, Bool.false_eq_true] <;> exact rfl) rfl rfl ?_
   refine dw_quiet (by simp only [zo, fillD, overlay, zc, List.take, List.drop, Nat.reduceAdd, Nat.reduceLeDiff, Nat.reduceBEq, zm, hS.len, uRows_len, strRows_len, Nat.zero_min, hw, hia, hwk, hix, gu, qu, hpl, Int.natCast_nonneg, gA.isCell, gA'.isCell, gA'.val, gA'.cells, Bool.false_eq_true] <;> exact rfl) rfl rfl ?_
   refine dw_op (by simp only [zl, zm, fillRows, List.replicate, snapVs, snaps, zs, zc, zf, hS.len, uRows_len, strRows_len, Nat.zero_min, hw, hia, hwk, hix, gu, qu, hpl, Int.natCast_nonneg, gA.isCell, gA'.isCell, gA'.val, gA'.cells, Bool.false_eq_true] <;> exact rfl) (by simp only [fpHere, zo, zq, hpl, Bool.false_eq_true, if_false] <;> exact rfl) rfl ?_
   refine dw_op (by simp only [opd, zv, exOp, aop, LOp.loud, lop, if_true]; exact gap) (by simp only [fpHere, zo, zq]; exact fpApp_eta _ _ _ _) (okHere_nil rfl) ?_
   refine dw_quiet (by simp only [zo, faddrD_ptr, faddrD_cptr, zm, hS.len, uRows_len, strRows_len, Nat.zero_min, hw, hia, hwk, hix, gu, qu, hpl, Int.natCast_nonneg, gA.isCell, gA'.isCell, gA'.val, gA'.cells, Bool.false_eq_true] <;> exact rfl) rfl rfl ?_
   refine dw_op (by simp only [zl, zm, storeD, overlay, snapVs, snaps, zs, zc, zf, List.take, List.drop, hS.len, uRows_len, strRows_len, Nat.zero_min, hw, hia, hwk, hix, gu, qu, hpl, Int.natCast_nonneg, gA.isCell, gA'.isCell, gA'.val, gA'.cells, Bool.false_eq_true] <;> exact rfl) (by simp only [fpHere, zo, zq, hpl, Bool.false_eq_true, if_false] <;> exact rfl) rfl ?_
   refine dw_nil (bk_n ?_)
   refine sk_n (by simp only [ze] <;> exact rfl) ?_
   refine cw_region ?_
   refine ow_me rfl ?_
   refine ow_op (by simp only [zo, binD, zb, Int.reduceEq, Int.reduceToNat, Int.reduceLT, hS.len, uRows_len, strRows_len, Nat.zero_min, hw, hia, hwk, hix, gu, qu, hpl, Int.natCast_nonneg, gA.isCell, gA'.isCell, gA'.val, gA'.cells, Bool.false_eq_true] <;> exact rfl) ?_
   refine ow_ml rfl ?_
   refine ow_nil ?_
   refine lk_n (by simp only [ze] <;> exact rfl) ?_
   exact ⟨(textF l[i]).length - (k + 1), by omega, _, k + 1, tx', _, _, _, _, get_set_ne q0 (by omega) _, get_set_ne q1 (by omega) _, get_set_ne q3 (by omega) _, get_set_self qu _, by rw [toks_add (i + 1) (textF l[i]) k hkt]; exact gA'.put qu (.inl rfl) _, (gB.keep fun g o ho h1 h2 => gkeep g o ho (.inr (by rw [h2]; decide))).put qu (.inl rfl) _, by omega, rfl, rfl, rfl⟩
  ·
   obtain rfl : k = (textF l[i]).length := by have := of_decide_eq_false hcATB; omega
   rw [List.take_of_length_le (by rw [toksF_len]; omega)] at gA
   have hY := appY_S 5 (tokRows (toksF (i + 1) (textF l[i])))
   obtain ⟨ux', H2, hap, hA', hlen', hkeep⟩ := gB.app 64 (new := [useRow i l[i]]) (c := some 1) rfl (by rw [List.length_take, useRows_len]; simp; omega)
   simp only [useRow] at hap
   have hk0 := hkeep 0 _ g0 (.inl rfl)
   have hk1 := hkeep 1 _ g1 (.inl rfl)
   have hk3 := hkeep 3 _ g3 (.inr (by decide))
   have zz11 := And.intro hk1 (And.intro hY.free (And.intro hY.isCell (And.intro hY.val (And.intro hA'.isCell (And.intro hA'.val (hA'.cells))))))
   refine cw_exit (sk_e (lk_e (bk_e (sk_n rfl (cw_region ?_)))))
   refine ow_op (by simp only [zo, faddrD_ptr, faddrD_cptr, zm, hS.len, uRows_len, strRows_len, Nat.zero_min, hw, hia, g0, g1, gu, gA.snap, gA.isCell, gB.isCell, zz11] <;> exact rfl) ?_
   refine ow_op (by simp only [zl, zm, zd, partD, List.take, List.drop, hS.len, uRows_len, strRows_len, Nat.zero_min, hw, hia, g0, g1, gu, gA.snap, gA.isCell, gB.isCell, zz11] <;> exact rfl) ?_
   refine ow_op (by simp only [zl, zm, zd, partD, List.take, List.drop, hS.len, uRows_len, strRows_len, Nat.zero_min, hw, hia, g0, g1, gu, gA.snap, gA.isCell, gB.isCell, zz11] <;> exact rfl) ?_
   refine ow_op (by simp only [zl, zm, fillRows, List.replicate, snapVs, snaps, zs, zc, zf, hS.len, uRows_len, strRows_len, Nat.zero_min, hw, hia, g0, g1, gu, gA.snap, gA.isCell, gB.isCell, zz11] <;> exact rfl) ?_
   refine ow_op (by simp only [opd, zv, exOp, aop, LOp.loud, lop, if_true]; exact hap) ?_
   refine ow_op (by simp only [zo, faddrD_ptr, faddrD_cptr, zm, hS.len, uRows_len, strRows_len, Nat.zero_min, hw, hia, g0, g1, gu, gA.snap, gA.isCell, gB.isCell, zz11] <;> exact rfl) ?_
   refine ow_op (by simp only [zl, zm, storeD, overlay, snapVs, snaps, zs, zc, zf, List.take, List.drop, hS.len, uRows_len, strRows_len, Nat.zero_min, hw, hia, g0, g1, gu, gA.snap, gA.isCell, gB.isCell, zz11] <;> exact rfl) ?_
   refine ow_nil (bk_n ?_)
   refine sk_n (by simp only [ze] <;> exact rfl) ?_
   refine cw_region ?_
   refine ow_me rfl ?_
   refine ow_op (by simp only [zo, binD, zb, Int.reduceEq, Int.reduceToNat, Int.reduceLT, hS.len, uRows_len, strRows_len, Nat.zero_min, hw, hia, g0, g1, gu, gA.snap, gA.isCell, gB.isCell, zz11] <;> exact rfl) ?_
   refine ow_ml rfl ?_
   refine ow_nil ?_
   refine lk_n (by simp only [ze] <;> exact rfl) ?_
   exact ⟨l.length - (i + 1), by omega, _, i + 1, ux', _, _, _, _, _, _, _, _, get_set_ne hk0 (by omega) _, get_set_self hk1 _, get_set_ne hk3 (by omega) _, by rw [use_add l i hlt]; exact hA'.put hk1 (.inl rfl) _, by omega, rfl, rfl, rfl⟩
 ·
  obtain rfl : i = l.length := by have := of_decide_eq_false hcA; omega
  rw [List.take_of_length_le (by rw [useRows_len]; omega)] at hA
  have zz12 := And.intro h0 (And.intro h1 (And.intro hA.isCell (And.intro hA.val (hA.cells))))
  refine cw_exit (sk_e (lk_e (bk_e (sk_n rfl (cw_seq (cw_region ?_))))))
  refine ow_op (by simp only [zl, zm, zd, partD, List.take, List.drop, hS.len, uRows_len, strRows_len, Nat.zero_min, zz12] <;> exact rfl) ?_
  refine ow_op (by simp only [zl, zm, storeD, overlay, snapVs, snaps, zs, zc, zf, List.take, List.drop, hS.len, uRows_len, strRows_len, Nat.zero_min, zz12] <;> exact rfl) ?_
  refine ow_nil ?_
  refine sk_n (by simp only [ze] <;> exact rfl) ?_
  refine cw_ret ?_
  refine ⟨_, by simp only [F5, resultD, resDs, resD, zg, zd, rowsOf, partD, List.take, List.drop, zm, get_set_self h0] <;> exact rfl, ?_⟩
  have hA2 := hA.put h0 (.inl rfl) (⟨32, 9, [[.str ⟨#[]⟩, .msl 3 3 0 4 none, .nils, .nils, .nils, .nils, .nils, ux, .nils]], 0, 0, false⟩ : AObj)
  have h3' := get_set_ne h3 (show 0 ≠ 3 by decide) (⟨32, 9, [[.str ⟨#[]⟩, .msl 3 3 0 4 none, .nils, .nils, .nils, .nils, .nils, ux, .nils]], 0, 0, false⟩ : AObj)
  have hY := appY_S 3 (useRows l)
  simp only [leaveP, leave, snapVs, snaps, zs, zf, zk, hY.snapV, hY.freeV, hY.snap, hY.free, hY.snapR, hY.freeR, hA2.snap, h3', filesObj, true_and, true_or, Nat.le_refl, and_self, List.drop_zero]
  rfl

end Go.Proofs.YtcogjcplldpkaaaGreat

namespace Go.Proofs.YtcogjcplldpkaaaGreat
set_option linter.unusedSimpArgs false
set_option linter.unusedVariables false
set_option maxRecDepth 10000

theorem wrap_id (z : Int) (h1 : -1000000000 < z) (h2 : z < 1000000000) : IntKind.i64.wrap z = z := by rw [IntKind.wrap_i64]; omega
/-- where a section has a file or a mode of an earlier one: the column -/
def pB (u v : Uu) : Bool := decide ((modeF u.f u.m : Int) > 0) && ((modeF v.f v.m : Int) == (modeF u.f u.m : Int))
def pD (nm : ByteArray) (v : Uu) : Bool := (namesF v.f).any fun x => x.toList == nm.toList
def twiceAt (pre : List Uu) (u : Uu) : Option Int :=
 if pre.any (pB u) then some (textF u).length else
 match (namesF u.f).findIdx? (fun nm => pre.any (pD nm)) with
 | some n => some ((textF u).length - (namesF u.f).length + n + 1)
 | none => none
def twAt (l : List Uu) (i : Nat) : Option (Nat × Int) := (l[i]?).bind fun u => (twiceAt (l.take i) u).map fun c => (i, c)
def firstDup (l : List Uu) : Option (Nat × Int) := (List.range l.length).findSome? (twAt l)
def twD : Option (Nat × Int) → List D
 | none => [.int .i64 0, .int .i64 0, .int .i64 0]
 | some (i, c) => [.int .i64 8, .int .i64 ((i + 1 : Nat) : Int), .int .i64 c]
theorem find_range {α : Type} {f : Nat → Option α} {n i : Nat} {y : α} (hi : i < n) (h : f i = some y) (hb : ∀ j, j < i → f j = none) : (List.range n).findSome? f = some y := by
 rw [List.findSome?_eq_some_iff]
 refine ⟨List.range i, i, (List.range' (i + 1) (n - (i + 1))), ?_, h, fun j hj => hb j (by simpa using hj)⟩
 rw [List.range_eq_range', List.range_eq_range']
 have : n = i + (1 + (n - (i + 1))) := by omega
 conv => lhs; rw [this]
 rw [← List.range'_append_1, ← List.range'_append_1]
 simp [List.range'_succ]
theorem find_none {α : Type} {f : Nat → Option α} {n : Nat} (hb : ∀ j, j < n → f j = none) : (List.range n).findSome? f = none := by
 rw [List.findSome?_eq_none_iff]
 intro j hj
 exact hb j (by simpa using hj)
theorem findIdx_at {α : Type} {p : α → Bool} {l : List α} {i : Nat} (hi : i < l.length) (hp : p l[i] = true) (hb : (l.take i).any p = false) : l.findIdx? p = some i := by
 rw [List.findIdx?_eq_some_iff_getElem]
 refine ⟨hi, hp, fun j hj => ?_⟩
 have := List.any_eq_false.1 hb l[j] (by
  rw [List.mem_take_iff_getElem]
  exact ⟨j, by omega, rfl⟩)
 simpa using this
theorem findIdx_no {α : Type} {p : α → Bool} {l : List α} (h : l.any p = false) : l.findIdx? p = none := by
 rw [List.findIdx?_eq_none_iff]
 intro x hx
 have := List.any_eq_false.1 h x hx
 simpa using this
theorem any_hit {α : Type} {p : α → Bool} {l : List α} {k i : Nat} (hk : k < l.length) (hki : k < i) (hp : p l[k] = true) : (l.take i).any p = true :=
 List.any_eq_true.2 ⟨l[k], by rw [List.mem_take_iff_getElem]; exact ⟨k, by omega, rfl⟩, hp⟩

theorem twice_run {d : Nat} (hd : 4 ≤ d) (S : St) {x : D} {l : List Uu} (hS : SlD 3 (uRows l) x) (hl : l.length ≤ 6) :
  runF LP NN d 7 [x] S = some (.agg (twD (firstDup l)), S, false) := by
 refine run_pure (F := F7) rfl (by simp only [LP, fnOf, snapVs, snaps, zs, zm, zv, hS.snapV, hS.freeV] <;> exact rfl) rfl (by simp only [LP, zf, zm, hS.snapV, hS.freeV]; try rfl) (by simp only [F7, zv] <;> exact rfl) (by omega) ?_
 rintro d rfl
 refine cw_seq (cw_region ?_)
 refine ow_op (by simp only [zl, zm, hS.len, uRows_len, strRows_len, Nat.zero_min] <;> exact rfl) ?_
 refine ow_nil ?_
 refine sk_n (by simp only [ze] <;> exact rfl) ?_
 refine cw_seq (cw_seq (cw_region ?_))
 refine ow_mc ?_
 refine ow_nil ?_
 refine sk_n (by simp only [ze] <;> exact rfl) ?_
 refine cw_block ?_
 refine cw_loop (fun n env S' => ∃ (i : Nat) (u3 u4 u5 u6 u7 u8 u9 u10 u11 u12 u13 : D), i ≤ l.length ∧ n = l.length - i ∧ (∀ j, j < i → twAt l j = none) ∧ S' = ⟨[⟨45, 3, [[.int .i64 0, .int .i64 0, .int .i64 0]], 0, 0, false⟩], 0⟩ ∧ env = [x, .ptr 0 0 0 0, .int .i64 i, u3, u4, u5, u6, u7, u8, u9, u10, u11, u12, u13]) (l.length) (by omega) (⟨0, _, _, _, _, _, _, _, _, _, _, _, by omega, by omega, by intro j hj; omega, rfl, rfl⟩) ?_
 rintro n env S' ⟨i, u3, u4, u5, u6, u7, u8, u9, u10, u11, u12, u13, hi, rfl, hno, rfl, rfl⟩
 refine cw_seq (cw_seq (cw_region ?_))
 refine ow_me rfl ?_
 refine ow_me rfl ?_
 refine ow_op (by simp only [zo, lenD_str, lenD_nils, lenD_sl, lenD_msl, hS.len, uRows_len, strRows_len, Nat.zero_min] <;> exact rfl) ?_
 refine ow_op (by simp only [zo, binD, zb, Int.reduceEq, Int.reduceToNat, Int.reduceLT, hS.len, uRows_len, strRows_len, Nat.zero_min] <;> exact rfl) ?_
 refine ow_nil ?_
 refine sk_n (by simp only [ze] <;> exact rfl) ?_
 refine cw_cond (by simp only [opd, zv, hS.len, uRows_len, strRows_len, Nat.zero_min] <;> exact rfl) (fun hcA => ?_) (fun hcA => ?_)
 ·
  have hlt : i < l.length := by have := of_decide_eq_true hcA; omega
  have hw := wrap_nat i (by omega)
  have hia := fun (S : St) => hS.iaddrN S .i64 (uRows_at hlt)
  have hfew := names_few l[i].f
  have htf := text_few l[i]
  have hNi := strsD_S (namesF l[i].f)
  refine cw_skip (sk_n rfl (cw_seq (cw_block (cw_seq (cw_region ?_)))))
  refine ow_me rfl ?_
  refine ow_me rfl ?_
  refine ow_op (by simp only [zl, zm, iaddrD_sl, iaddrD_msl, Int.toNat_natCast, Int.toNat_zero, List.getElem?_map, Option.map_some, Int.le_refl, hS.len, uRows_len, strRows_len, Nat.zero_min, hw, hia, hNi.len] <;> exact rfl) ?_
  refine ow_op (by simp only [zl, zm, zd, partD, List.take, List.drop, hS.len, uRows_len, strRows_len, Nat.zero_min, hw, hia, hNi.len] <;> exact rfl) ?_
  refine ow_op (by simp only [zo, hS.len, uRows_len, strRows_len, Nat.zero_min, hw, hia, hNi.len]; exact text_run (by omega) _ l[i]) ?_
  refine ow_ml rfl ?_
  refine ow_nil ?_
  refine sk_n (by simp only [ze] <;> exact rfl) ?_
  refine cw_seq (cw_region ?_)
  refine ow_me rfl ?_
  refine ow_me rfl ?_
  refine ow_op (by simp only [zl, zm, iaddrD_sl, iaddrD_msl, Int.toNat_natCast, Int.toNat_zero, List.getElem?_map, Option.map_some, Int.le_refl, hS.len, uRows_len, strRows_len, Nat.zero_min, hw, hia, hNi.len] <;> exact rfl) ?_
  refine ow_op (by simp only [zl, zm, zd, partD, List.take, List.drop, hS.len, uRows_len, strRows_len, Nat.zero_min, hw, hia, hNi.len] <;> exact rfl) ?_
  refine ow_op (by simp only [zo, hS.len, uRows_len, strRows_len, Nat.zero_min, hw, hia, hNi.len]; exact names_run (by omega) _ _ _ _ l[i].hf) ?_
  refine ow_op (by simp only [zo, lenD_str, lenD_nils, lenD_sl, lenD_msl, hS.len, uRows_len, strRows_len, Nat.zero_min, hw, hia, hNi.len] <;> exact rfl) ?_
  refine ow_ml rfl ?_
  refine ow_nil ?_
  refine sk_n (by simp only [ze] <;> exact rfl) ?_
  refine cw_seq (cw_seq (cw_region ?_))
  refine ow_mc ?_
  refine ow_nil ?_
  refine sk_n (by simp only [ze] <;> exact rfl) ?_
  refine cw_block ?_
  refine cw_loop (fun n env S' => ∃ (k : Nat) (v6 v7 v8 v9 v10 v11 v12 v13 : D), k ≤ i ∧ n = i - k ∧ ((l.take k).any (pB l[i])) = false ∧ S' = ⟨[⟨45, 3, [[.int .i64 0, .int .i64 0, .int .i64 0]], 0, 0, false⟩], 0⟩ ∧ env = [x, .ptr 0 0 0 0, .int .i64 i, .sl 1 (strRows (textF l[i])) none, .int .i64 (namesF l[i].f).length, .int .i64 k, v6, v7, v8, v9, v10, v11, v12, v13]) (i) (by omega) (⟨0, _, _, _, _, _, _, _, _, by omega, by omega, by simp, rfl, rfl⟩) ?_
  rintro n env S' ⟨k, v6, v7, v8, v9, v10, v11, v12, v13, hk, rfl, hany, rfl, rfl⟩
  refine cw_seq (cw_seq (cw_region ?_))
  refine ow_me rfl ?_
  refine ow_me rfl ?_
  refine ow_op (by simp only [zo, binD, zb, Int.reduceEq, Int.reduceToNat, Int.reduceLT, hS.len, uRows_len, strRows_len, Nat.zero_min, hw, hia, hNi.len] <;> exact rfl) ?_
  refine ow_nil ?_
  refine sk_n (by simp only [ze] <;> exact rfl) ?_
  refine cw_cond (by simp only [opd, zv, hS.len, uRows_len, strRows_len, Nat.zero_min, hw, hia, hNi.len] <;> exact rfl) (fun hcATB => ?_) (fun hcATB => ?_)
  ·
   have hki : k < i := by have := of_decide_eq_true hcATB; omega
   have hkl : k < l.length := by omega
   have hwk := wrap_nat k (by omega)
   have hik := fun (S : St) => hS.iaddrN S .i64 (uRows_at hkl)
   refine cw_skip (sk_n rfl (cw_seq (cw_block (cw_seq ?_))))
   refine cw_drawn (by simp only [newsVals, zw, Nat.reduceAdd] <;> exact rfl) (by simp only [zw, newsObj, St.eta] <;> exact rfl) ?_
   refine dw_me rfl rfl ?_
   refine dw_me rfl rfl ?_
   refine dw_op (by simp only [zl, zm, iaddrD_sl, iaddrD_msl, Int.toNat_natCast, Int.toNat_zero, List.getElem?_map, Option.map_some, Int.le_refl, hS.len, uRows_len, strRows_len, Nat.zero_min, hw, hia, hNi.len, hwk, hik] <;> exact rfl) (by simp only [fpHere, zo, zq, hS.fpi, (strsD_S _).fpi] <;> exact rfl) rfl ?_
   refine dw_op (by simp only [zl, zm, zd, partD, List.take, List.drop, hS.len, uRows_len, strRows_len, Nat.zero_min, hw, hia, hNi.len, hwk, hik] <;> exact rfl) (by simp only [fpHere, zo, zq, hS.fpi, (strsD_S _).fpi] <;> exact rfl) rfl ?_
   first
    | refine dw_op (by simp only [zo, hS.len, uRows_len, strRows_len, Nat.zero_min, hw, hia, hNi.len, hwk, hik]; exact mode_run (by omega) _ _ _ _ l[i].hf) (by simp only [fpHere, zo, zq, hS.fpi, (strsD_S _).fpi] <;> exact rfl) rfl ?_
    | refine dw_op (by simp only [zo, hS.len, uRows_len, strRows_len, Nat.zero_min, hw, hia, hNi.len, hwk, hik]; exact mode_run (by omega) _ _ _ _ l[k].hf) (by simp only [fpHere, zo, zq, hS.fpi, (strsD_S _).fpi] <;> exact rfl) rfl ?_
   refine dw_quiet (by simp only [zo, binD, zb, Int.reduceEq, Int.reduceToNat, Int.reduceLT, hS.len, uRows_len, strRows_len, Nat.zero_min, hw, hia, hNi.len, hwk, hik] <;> exact rfl) rfl rfl ?_
   refine dw_ml rfl rfl ?_
   refine dw_split 0 (by simp only [opd, zv] <;> exact rfl) (by simp only [zn] <;> exact rfl) (by simp only [zn] <;> exact rfl) (fun hgATBT => ?_) (fun hgATBT => ?_)
   ·
    refine dw_on rfl ?_
    refine dw_me rfl rfl ?_
    refine dw_on rfl ?_
    refine dw_me rfl rfl ?_
    refine dw_on rfl ?_
    refine dw_op (by simp only [zl, zm, iaddrD_sl, iaddrD_msl, Int.toNat_natCast, Int.toNat_zero, List.getElem?_map, Option.map_some, Int.le_refl, hS.len, uRows_len, strRows_len, Nat.zero_min, hw, hia, hNi.len, hwk, hik] <;> exact rfl) (by simp only [fpHere, zo, zq, hS.fpi, (strsD_S _).fpi] <;> exact rfl) rfl ?_
    refine dw_on rfl ?_
    refine dw_op (by simp only [zl, zm, zd, partD, List.take, List.drop, hS.len, uRows_len, strRows_len, Nat.zero_min, hw, hia, hNi.len, hwk, hik] <;> exact rfl) (by simp only [fpHere, zo, zq, hS.fpi, (strsD_S _).fpi] <;> exact rfl) rfl ?_
    refine dw_on rfl ?_
    first
     | refine dw_op (by simp only [zo, hS.len, uRows_len, strRows_len, Nat.zero_min, hw, hia, hNi.len, hwk, hik]; exact mode_run (by omega) _ _ _ _ l[i].hf) (by simp only [fpHere, zo, zq, hS.fpi, (strsD_S _).fpi] <;> exact rfl) rfl ?_
     | refine dw_op (by simp only [zo, hS.len, uRows_len, strRows_len, Nat.zero_min, hw, hia, hNi.len, hwk, hik]; exact mode_run (by omega) _ _ _ _ l[k].hf) (by simp only [fpHere, zo, zq, hS.fpi, (strsD_S _).fpi] <;> exact rfl) rfl ?_
    refine dw_on rfl ?_
    refine dw_me rfl rfl ?_
    refine dw_on rfl ?_
    refine dw_me rfl rfl ?_
    refine dw_on rfl ?_
    refine dw_op (by simp only [zl, zm, iaddrD_sl, iaddrD_msl, Int.toNat_natCast, Int.toNat_zero, List.getElem?_map, Option.map_some, Int.le_refl, hS.len, uRows_len, strRows_len, Nat.zero_min, hw, hia, hNi.len, hwk, hik] <;> exact rfl) (by simp only [fpHere, zo, zq, hS.fpi, (strsD_S _).fpi] <;> exact rfl) rfl ?_
    refine dw_on rfl ?_
    refine dw_op (by simp only [zl, zm, zd, partD, List.take, List.drop, hS.len, uRows_len, strRows_len, Nat.zero_min, hw, hia, hNi.len, hwk, hik] <;> exact rfl) (by simp only [fpHere, zo, zq, hS.fpi, (strsD_S _).fpi] <;> exact rfl) rfl ?_
    refine dw_on rfl ?_
    first
     | refine dw_op (by simp only [zo, hS.len, uRows_len, strRows_len, Nat.zero_min, hw, hia, hNi.len, hwk, hik]; exact mode_run (by omega) _ _ _ _ l[i].hf) (by simp only [fpHere, zo, zq, hS.fpi, (strsD_S _).fpi] <;> exact rfl) rfl ?_
     | refine dw_op (by simp only [zo, hS.len, uRows_len, strRows_len, Nat.zero_min, hw, hia, hNi.len, hwk, hik]; exact mode_run (by omega) _ _ _ _ l[k].hf) (by simp only [fpHere, zo, zq, hS.fpi, (strsD_S _).fpi] <;> exact rfl) rfl ?_
    refine dw_on rfl ?_
    refine dw_quiet (by simp only [zo, binD, zb, Int.reduceEq, Int.reduceToNat, Int.reduceLT, hS.len, uRows_len, strRows_len, Nat.zero_min, hw, hia, hNi.len, hwk, hik] <;> exact rfl) rfl rfl ?_
    refine dw_quiet (by simp only [zo, hS.len, uRows_len, strRows_len, Nat.zero_min, hw, hia, hNi.len, hwk, hik] <;> exact rfl) rfl rfl ?_
    refine dw_nil ?_
    refine sk_n (by simp only [ze] <;> exact rfl) ?_
    refine cw_cond (by simp only [opd, zv, hS.len, uRows_len, strRows_len, Nat.zero_min, hw, hia, hNi.len, hwk, hik] <;> exact rfl) (fun hcATBTT => ?_) (fun hcATBTT => ?_)
    ·
     refine cw_seq (cw_region ?_)
     refine ow_me rfl ?_
     refine ow_op (by simp only [zo, binD, zb, Int.reduceEq, Int.reduceToNat, Int.reduceLT, hS.len, uRows_len, strRows_len, Nat.zero_min, hw, hia, hNi.len, hwk, hik] <;> exact rfl) ?_
     refine ow_me rfl ?_
     refine ow_op (by simp only [zo, lenD_str, lenD_nils, lenD_sl, lenD_msl, hS.len, uRows_len, strRows_len, Nat.zero_min, hw, hia, hNi.len, hwk, hik] <;> exact rfl) ?_
     refine ow_op (by simp only [zo, fillD, overlay, zc, List.take, List.drop, Nat.reduceAdd, Nat.reduceLeDiff, Nat.reduceBEq, zm, hS.len, uRows_len, strRows_len, Nat.zero_min, hw, hia, hNi.len, hwk, hik] <;> exact rfl) ?_
     refine ow_op (by simp only [zo, fillD, overlay, zc, List.take, List.drop, Nat.reduceAdd, Nat.reduceLeDiff, Nat.reduceBEq, zm, hS.len, uRows_len, strRows_len, Nat.zero_min, hw, hia, hNi.len, hwk, hik] <;> exact rfl) ?_
     refine ow_op (by simp only [zl, zm, storeD, overlay, snapVs, snaps, zs, zc, zf, List.take, List.drop, hS.len, uRows_len, strRows_len, Nat.zero_min, hw, hia, hNi.len, hwk, hik] <;> exact rfl) ?_
     refine ow_nil ?_
     refine sk_n (by simp only [ze] <;> exact rfl) ?_
     refine cw_ret (bk_r (sk_r (lk_r (bk_r (sk_r (bk_r (sk_r (lk_r (bk_r (sk_r ?_))))))))))
     refine ⟨_, by simp only [F7, resultD, resDs, resD, zg, zd, rowsOf, partD, List.take, List.drop, zm] <;> exact rfl, ?_⟩
     have hP : pB l[i] l[k] = true := by simp only [pB, hgATBT, hcATBTT, Bool.and_self]
     have h1 : twAt l i = some (i, ((textF l[i]).length : Int)) := by
      rw [twAt, List.getElem?_eq_getElem hlt, Option.bind_some, twiceAt, any_hit hkl hki hP, if_pos rfl]; rfl
     rw [firstDup, find_range hlt h1 hno]
     simp only [leaveP, leave, snapVs, snaps, zs, zf, zk]
     rfl
    ·
     refine cw_skip (bk_n (sk_n rfl (cw_region ?_)))
     refine ow_me rfl ?_
     refine ow_op (by simp only [zo, binD, zb, Int.reduceEq, Int.reduceToNat, Int.reduceLT, hS.len, uRows_len, strRows_len, Nat.zero_min, hw, hia, hNi.len, hwk, hik] <;> exact rfl) ?_
     refine ow_ml rfl ?_
     refine ow_nil ?_
     refine lk_n (by simp only [ze] <;> exact rfl) ?_
     have hP : pB l[i] l[k] = false := by simp only [pB, hgATBT, hcATBTT, Bool.and_false]
     exact ⟨i - (k + 1), by omega, k + 1, _, _, _, _, _, _, _, _, by omega, rfl, any_take_succ hkl hany hP, rfl, rfl⟩
   ·
    refine dw_off rfl rfl ?_
    refine dw_off rfl rfl ?_
    refine dw_off rfl rfl ?_
    refine dw_off rfl rfl ?_
    refine dw_off rfl rfl ?_
    refine dw_off rfl rfl ?_
    refine dw_off rfl rfl ?_
    refine dw_off rfl rfl ?_
    refine dw_off rfl rfl ?_
    refine dw_off rfl rfl ?_
    refine dw_off rfl rfl ?_
    refine dw_quiet (by simp only [zo, hS.len, uRows_len, strRows_len, Nat.zero_min, hw, hia, hNi.len, hwk, hik] <;> exact rfl) rfl rfl ?_
    refine dw_nil ?_
    refine sk_n (by simp only [ze] <;> exact rfl) ?_
    refine cw_false (by simp only [opd, zv, hS.len, uRows_len, strRows_len, Nat.zero_min, hw, hia, hNi.len, hwk, hik]) ?_
    refine cw_skip (bk_n (sk_n rfl (cw_region ?_)))
    refine ow_me rfl ?_
    refine ow_op (by simp only [zo, binD, zb, Int.reduceEq, Int.reduceToNat, Int.reduceLT, hS.len, uRows_len, strRows_len, Nat.zero_min, hw, hia, hNi.len, hwk, hik] <;> exact rfl) ?_
    refine ow_ml rfl ?_
    refine ow_nil ?_
    refine lk_n (by simp only [ze] <;> exact rfl) ?_
    have hP : pB l[i] l[k] = false := by simp only [pB, hgATBT, Bool.false_and]
    exact ⟨i - (k + 1), by omega, k + 1, _, _, _, _, _, _, _, _, by omega, rfl, any_take_succ hkl hany hP, rfl, rfl⟩
  ·
   have hki : i = k := by have := of_decide_eq_false hcATB; omega
   subst hki
   have hanyB := hany
   refine cw_exit (sk_e (lk_e (bk_e (sk_n rfl (cw_seq (cw_region ?_))))))
   refine ow_mc ?_
   refine ow_nil ?_
   refine sk_n (by simp only [ze] <;> exact rfl) ?_
   refine cw_block ?_
   refine cw_loop (fun n env S' => ∃ (m : Nat) (v5 v7 v8 v9 v10 v11 v12 v13 : D), m ≤ (namesF l[i].f).length ∧ n = (namesF l[i].f).length - m ∧ (((namesF l[i].f).take m).any (fun nm => (l.take i).any (pD nm))) = false ∧ S' = ⟨[⟨45, 3, [[.int .i64 0, .int .i64 0, .int .i64 0]], 0, 0, false⟩], 0⟩ ∧ env = [x, .ptr 0 0 0 0, .int .i64 i, .sl 1 (strRows (textF l[i])) none, .int .i64 (namesF l[i].f).length, v5, .int .i64 m, v7, v8, v9, v10, v11, v12, v13]) ((namesF l[i].f).length) (by have := names_few l[i].f; omega) (⟨0, _, _, _, _, _, _, _, _, by omega, by omega, by simp, rfl, rfl⟩) ?_
   rintro n env S' ⟨m, v5, v7, v8, v9, v10, v11, v12, v13, hm, rfl, hanyC, rfl, rfl⟩
   refine cw_seq (cw_seq (cw_region ?_))
   refine ow_me rfl ?_
   refine ow_me rfl ?_
   refine ow_op (by simp only [zo, binD, zb, Int.reduceEq, Int.reduceToNat, Int.reduceLT, hS.len, uRows_len, strRows_len, Nat.zero_min, hw, hia, hNi.len] <;> exact rfl) ?_
   refine ow_nil ?_
   refine sk_n (by simp only [ze] <;> exact rfl) ?_
   refine cw_cond (by simp only [opd, zv, hS.len, uRows_len, strRows_len, Nat.zero_min, hw, hia, hNi.len] <;> exact rfl) (fun hcATBFC => ?_) (fun hcATBFC => ?_)
   ·
    have hml : m < (namesF l[i].f).length := by have := of_decide_eq_true hcATBFC; omega
    have hwm := wrap_nat m (by omega)
    have hin := fun (S : St) => hNi.iaddrN S .i64 (strRows_at hml)
    refine cw_skip (sk_n rfl (cw_seq (cw_block (cw_seq (cw_region ?_)))))
    refine ow_mc ?_
    refine ow_nil ?_
    refine sk_n (by simp only [ze] <;> exact rfl) ?_
    refine cw_block ?_
    refine cw_loop (fun n env S' => ∃ (k : Nat) (v5 v8 v9 v10 v11 v12 v13 : D), k ≤ i ∧ n = i - k ∧ ((l.take k).any (pD (namesF l[i].f)[m])) = false ∧ S' = ⟨[⟨45, 3, [[.int .i64 0, .int .i64 0, .int .i64 0]], 0, 0, false⟩], 0⟩ ∧ env = [x, .ptr 0 0 0 0, .int .i64 i, .sl 1 (strRows (textF l[i])) none, .int .i64 (namesF l[i].f).length, v5, .int .i64 m, .int .i64 k, v8, v9, v10, v11, v12, v13]) (i) (by omega) (⟨0, _, _, _, _, _, _, _, by omega, by omega, by simp, rfl, rfl⟩) ?_
    rintro n env S' ⟨k, v5, v8, v9, v10, v11, v12, v13, hk, rfl, hanyD, rfl, rfl⟩
    refine cw_seq (cw_seq (cw_region ?_))
    refine ow_me rfl ?_
    refine ow_me rfl ?_
    refine ow_op (by simp only [zo, binD, zb, Int.reduceEq, Int.reduceToNat, Int.reduceLT, hS.len, uRows_len, strRows_len, Nat.zero_min, hw, hia, hNi.len, hwm, hin] <;> exact rfl) ?_
    refine ow_nil ?_
    refine sk_n (by simp only [ze] <;> exact rfl) ?_
    refine cw_cond (by simp only [opd, zv, hS.len, uRows_len, strRows_len, Nat.zero_min, hw, hia, hNi.len, hwm, hin] <;> exact rfl) (fun hcATBFCTD => ?_) (fun hcATBFCTD => ?_)
    ·
     have hki : k < i := by have := of_decide_eq_true hcATBFCTD; omega
     have hkl : k < l.length := by omega
     have hwk := wrap_nat k (by omega)
     have hik := fun (S : St) => hS.iaddrN S .i64 (uRows_at hkl)
     have hs1 := wrap_id (((textF l[i]).length : Int) - ((namesF l[i].f).length : Int)) (by omega) (by omega)
     have hs2 := wrap_id (((textF l[i]).length : Int) - ((namesF l[i].f).length : Int) + (m : Int)) (by omega) (by omega)
     have hs3 := wrap_id (((textF l[i]).length : Int) - ((namesF l[i].f).length : Int) + (m : Int) + 1) (by omega) (by omega)
     have hfk := names_few l[k].f
     have zz13 := And.intro hwk (And.intro hik (And.intro hs1 (And.intro hs2 (hs3))))
     refine cw_skip (sk_n rfl (cw_seq (cw_block (cw_seq ?_))))
     refine cw_drawn (by simp only [newsVals, zw, Nat.reduceAdd] <;> exact rfl) (by simp only [zw, newsObj, St.eta] <;> exact rfl) ?_
     refine dw_me rfl rfl ?_
     refine dw_me rfl rfl ?_
     refine dw_op (by simp only [zl, zm, iaddrD_sl, iaddrD_msl, Int.toNat_natCast, Int.toNat_zero, List.getElem?_map, Option.map_some, Int.le_refl, hS.len, uRows_len, strRows_len, Nat.zero_min, hw, hia, hNi.len, hwm, hin, zz13] <;> exact rfl) (by simp only [fpHere, zo, zq, hS.fpi, (strsD_S _).fpi] <;> exact rfl) rfl ?_
     refine dw_op (by simp only [zl, zm, zd, partD, List.take, List.drop, hS.len, uRows_len, strRows_len, Nat.zero_min, hw, hia, hNi.len, hwm, hin, zz13] <;> exact rfl) (by simp only [fpHere, zo, zq, hS.fpi, (strsD_S _).fpi] <;> exact rfl) rfl ?_
     first
      | refine dw_op (by simp only [zo, hS.len, uRows_len, strRows_len, Nat.zero_min, hw, hia, hNi.len, hwm, hin, zz13]; exact names_run (by omega) _ _ _ _ l[i].hf) (by simp only [fpHere, zo, zq, hS.fpi, (strsD_S _).fpi] <;> exact rfl) rfl ?_
      | refine dw_op (by simp only [zo, hS.len, uRows_len, strRows_len, Nat.zero_min, hw, hia, hNi.len, hwm, hin, zz13]; exact names_run (by omega) _ _ _ _ l[k].hf) (by simp only [fpHere, zo, zq, hS.fpi, (strsD_S _).fpi] <;> exact rfl) rfl ?_
     refine dw_me rfl rfl ?_
     refine dw_me rfl rfl ?_
     refine dw_op (by simp only [zl, zm, iaddrD_sl, iaddrD_msl, Int.toNat_natCast, Int.toNat_zero, List.getElem?_map, Option.map_some, Int.le_refl, hS.len, uRows_len, strRows_len, Nat.zero_min, hw, hia, hNi.len, hwm, hin, zz13] <;> exact rfl) (by simp only [fpHere, zo, zq, hS.fpi, (strsD_S _).fpi] <;> exact rfl) rfl ?_
     refine dw_op (by simp only [zl, zm, zd, partD, List.take, List.drop, hS.len, uRows_len, strRows_len, Nat.zero_min, hw, hia, hNi.len, hwm, hin, zz13] <;> exact rfl) (by simp only [fpHere, zo, zq, hS.fpi, (strsD_S _).fpi] <;> exact rfl) rfl ?_
     first
      | refine dw_op (by simp only [zo, hS.len, uRows_len, strRows_len, Nat.zero_min, hw, hia, hNi.len, hwm, hin, zz13]; exact names_run (by omega) _ _ _ _ l[i].hf) (by simp only [fpHere, zo, zq, hS.fpi, (strsD_S _).fpi] <;> exact rfl) rfl ?_
      | refine dw_op (by simp only [zo, hS.len, uRows_len, strRows_len, Nat.zero_min, hw, hia, hNi.len, hwm, hin, zz13]; exact names_run (by omega) _ _ _ _ l[k].hf) (by simp only [fpHere, zo, zq, hS.fpi, (strsD_S _).fpi] <;> exact rfl) rfl ?_
     refine dw_me rfl rfl ?_
     refine dw_op (by simp only [zl, zm, iaddrD_sl, iaddrD_msl, Int.toNat_natCast, Int.toNat_zero, List.getElem?_map, Option.map_some, Int.le_refl, hS.len, uRows_len, strRows_len, Nat.zero_min, hw, hia, hNi.len, hwm, hin, zz13] <;> exact rfl) (by simp only [fpHere, zo, zq, hS.fpi, (strsD_S _).fpi] <;> exact rfl) rfl ?_
     refine dw_op (by simp only [zl, zm, zd, partD, List.take, List.drop, hS.len, uRows_len, strRows_len, Nat.zero_min, hw, hia, hNi.len, hwm, hin, zz13] <;> exact rfl) (by simp only [fpHere, zo, zq, hS.fpi, (strsD_S _).fpi] <;> exact rfl) rfl ?_
     refine dw_op (by simp only [zo, hS.len, uRows_len, strRows_len, Nat.zero_min, hw, hia, hNi.len, hwm, hin, zz13]; exact has_run (by omega) _ (strsD_S _) _ (by omega)) (by simp only [fpHere, zo, zq, hS.fpi, (strsD_S _).fpi] <;> exact rfl) rfl ?_
     refine dw_nil ?_
     refine sk_n (by simp only [ze] <;> exact rfl) ?_
     refine cw_cond (by simp only [opd, zv, hS.len, uRows_len, strRows_len, Nat.zero_min, hw, hia, hNi.len, hwm, hin, zz13] <;> exact rfl) (fun hcATBFCTDT => ?_) (fun hcATBFCTDT => ?_)
     ·
      refine cw_seq (cw_region ?_)
      refine ow_me rfl ?_
      refine ow_op (by simp only [zo, binD, zb, Int.reduceEq, Int.reduceToNat, Int.reduceLT, hS.len, uRows_len, strRows_len, Nat.zero_min, hw, hia, hNi.len, hwm, hin, zz13] <;> exact rfl) ?_
      refine ow_me rfl ?_
      refine ow_op (by simp only [zo, lenD_str, lenD_nils, lenD_sl, lenD_msl, hS.len, uRows_len, strRows_len, Nat.zero_min, hw, hia, hNi.len, hwm, hin, zz13] <;> exact rfl) ?_
      refine ow_me rfl ?_
      refine ow_op (by simp only [zo, binD, zb, Int.reduceEq, Int.reduceToNat, Int.reduceLT, hS.len, uRows_len, strRows_len, Nat.zero_min, hw, hia, hNi.len, hwm, hin, zz13] <;> exact rfl) ?_
      refine ow_me rfl ?_
      refine ow_op (by simp only [zo, binD, zb, Int.reduceEq, Int.reduceToNat, Int.reduceLT, hS.len, uRows_len, strRows_len, Nat.zero_min, hw, hia, hNi.len, hwm, hin, zz13] <;> exact rfl) ?_
      refine ow_op (by simp only [zo, binD, zb, Int.reduceEq, Int.reduceToNat, Int.reduceLT, hS.len, uRows_len, strRows_len, Nat.zero_min, hw, hia, hNi.len, hwm, hin, zz13] <;> exact rfl) ?_
      refine ow_op (by simp only [zo, fillD, overlay, zc, List.take, List.drop, Nat.reduceAdd, Nat.reduceLeDiff, Nat.reduceBEq, zm, hS.len, uRows_len, strRows_len, Nat.zero_min, hw, hia, hNi.len, hwm, hin, zz13] <;> exact rfl) ?_
      refine ow_op (by simp only [zo, fillD, overlay, zc, List.take, List.drop, Nat.reduceAdd, Nat.reduceLeDiff, Nat.reduceBEq, zm, hS.len, uRows_len, strRows_len, Nat.zero_min, hw, hia, hNi.len, hwm, hin, zz13] <;> exact rfl) ?_
      refine ow_op (by simp only [zl, zm, storeD, overlay, snapVs, snaps, zs, zc, zf, List.take, List.drop, hS.len, uRows_len, strRows_len, Nat.zero_min, hw, hia, hNi.len, hwm, hin, zz13] <;> exact rfl) ?_
      refine ow_nil ?_
      refine sk_n (by simp only [ze] <;> exact rfl) ?_
      refine cw_ret (bk_r (sk_r (lk_r (bk_r (bk_r (sk_r (lk_r (bk_r (bk_r (sk_r (lk_r (bk_r (sk_r ?_)))))))))))))
      refine ⟨_, by simp only [F7, resultD, resDs, resD, zg, zd, rowsOf, partD, List.take, List.drop, zm] <;> exact rfl, ?_⟩
      have h1 : twAt l i = some (i, ((textF l[i]).length : Int) - ((namesF l[i].f).length : Int) + (m : Int) + 1) := by
       rw [twAt, List.getElem?_eq_getElem hlt, Option.bind_some, twiceAt, hanyB, if_neg (by simp), findIdx_at hml (any_hit hkl hki hcATBFCTDT) hanyC]; rfl
      rw [firstDup, find_range hlt h1 hno]
      simp only [leaveP, leave, snapVs, snaps, zs, zf, zk]
      rfl
     ·
      refine cw_skip (bk_n (sk_n rfl (cw_region ?_)))
      refine ow_me rfl ?_
      refine ow_op (by simp only [zo, binD, zb, Int.reduceEq, Int.reduceToNat, Int.reduceLT, hS.len, uRows_len, strRows_len, Nat.zero_min, hw, hia, hNi.len, hwm, hin, zz13] <;> exact rfl) ?_
      refine ow_ml rfl ?_
      refine ow_nil ?_
      refine lk_n (by simp only [ze] <;> exact rfl) ?_
      exact ⟨i - (k + 1), by omega, k + 1, _, _, _, _, _, _, _, by omega, rfl, any_take_succ hkl hanyD hcATBFCTDT, rfl, rfl⟩
    ·
     have hki : i = k := by have := of_decide_eq_false hcATBFCTD; omega
     subst hki
     refine cw_exit (sk_e (lk_e (bk_e (bk_n (sk_n rfl (cw_region ?_))))))
     refine ow_me rfl ?_
     refine ow_op (by simp only [zo, binD, zb, Int.reduceEq, Int.reduceToNat, Int.reduceLT, hS.len, uRows_len, strRows_len, Nat.zero_min, hw, hia, hNi.len, hwm, hin] <;> exact rfl) ?_
     refine ow_ml rfl ?_
     refine ow_nil ?_
     refine lk_n (by simp only [ze] <;> exact rfl) ?_
     exact ⟨(namesF l[i].f).length - (m + 1), by omega, m + 1, _, _, _, _, _, _, _, _, by omega, rfl, any_take_succ hml hanyC hanyD, rfl, rfl⟩
   ·
    have hmm : (namesF l[i].f).length = m := by have := of_decide_eq_false hcATBFC; omega
    rw [List.take_of_length_le (by omega)] at hanyC
    have hnone : twAt l i = none := by
     rw [twAt, List.getElem?_eq_getElem hlt, Option.bind_some, twiceAt, hanyB, if_neg (by simp), findIdx_no hanyC]; rfl
    refine cw_exit (sk_e (lk_e (bk_e (bk_n (sk_n rfl (cw_region ?_))))))
    refine ow_me rfl ?_
    refine ow_op (by simp only [zo, binD, zb, Int.reduceEq, Int.reduceToNat, Int.reduceLT, hS.len, uRows_len, strRows_len, Nat.zero_min, hw, hia, hNi.len] <;> exact rfl) ?_
    refine ow_ml rfl ?_
    refine ow_nil ?_
    refine lk_n (by simp only [ze] <;> exact rfl) ?_
    have hno' : ∀ j, j < i + 1 → twAt l j = none := by
     intro j hj
     rcases Nat.lt_succ_iff_lt_or_eq.1 hj with h | h
     ·
      exact hno j h
     ·
      rw [h]; exact hnone
    exact ⟨l.length - (i + 1), by omega, i + 1, _, _, _, _, _, _, _, _, _, _, _, by omega, rfl, hno', rfl, rfl⟩
 ·
  obtain rfl : i = l.length := by have := of_decide_eq_false hcA; omega
  refine cw_exit (sk_e (lk_e (bk_e (sk_n rfl (cw_seq (cw_region ?_))))))
  refine ow_op (by simp only [zo, fillD, overlay, zc, List.take, List.drop, Nat.reduceAdd, Nat.reduceLeDiff, Nat.reduceBEq, zm, hS.len, uRows_len, strRows_len, Nat.zero_min] <;> exact rfl) ?_
  refine ow_op (by simp only [zl, zm, storeD, overlay, snapVs, snaps, zs, zc, zf, List.take, List.drop, hS.len, uRows_len, strRows_len, Nat.zero_min] <;> exact rfl) ?_
  refine ow_nil ?_
  refine sk_n (by simp only [ze] <;> exact rfl) ?_
  refine cw_ret ?_
  refine ⟨_, by simp only [F7, resultD, resDs, resD, zg, zd, rowsOf, partD, List.take, List.drop, zm] <;> exact rfl, ?_⟩
  rw [firstDup, find_none hno]
  simp only [leaveP, leave, snapVs, snaps, zs, zf, zk]
  rfl

end Go.Proofs.YtcogjcplldpkaaaGreat

namespace Go.Proofs.YtcogjcplldpkaaaGreat
set_option linter.unusedSimpArgs false
set_option linter.unusedVariables false
set_option maxRecDepth 10000

theorem mapIdx_ext {α β : Type} {f g : Nat → α → β} {l : List α} (h : ∀ (i : Nat) (hi : i < l.length), f i l[i] = g i l[i]) : l.mapIdx f = l.mapIdx g := by
 apply List.ext_getElem (by simp)
 intro i h1 h2
 simp only [List.getElem_mapIdx]
 exact h i (by simpa using h1)
/-- tokens of words that lie behind others -/
def toksO (line off : Nat) (l : List ByteArray) : List Tok := l.mapIdx fun k s => tokAt line (off + k) s
theorem toks_app (line : Nat) (a b : List ByteArray) : toksF line (a ++ b) = toksF line a ++ toksO line a.length b := by
 simp only [toksF, toksO, List.mapIdx_append]
 congr 1
 apply mapIdx_ext
 intro i h
 rw [Nat.add_comm]
def nmOK (nm : ByteArray) : Bool := !(nm.toList == wON.toList) && (modeW nm == 0) && (theFiles.any fun f => f.nm.toList == nm.toList)
def apart : List ByteArray → List ByteArray → Bool
 | _, [] => true
 | o, t :: ts => !(o.any fun x => t.toList == x.toList) && apart (o ++ [t]) ts
theorem names_tab2 : ((List.range 256).all fun f => (namesF f).all nmOK && apart [] (namesF f)) = true := by kernel_rfl
theorem names_good (f : Nat) (h : f < 256) : (∀ nm ∈ namesF f, nmOK nm = true) ∧ apart [] (namesF f) = true := by
 have := List.all_eq_true.1 names_tab2 f (by simpa using h)
 simp only [Bool.and_eq_true, List.all_eq_true] at this
 exact this
theorem modes_tab : ((List.range 5).all fun k => (k == 0) || ((modeW (modeN k) == k) && !((modeN k).toList == wON.toList))) = true := by kernel_rfl
theorem modeN_good (k : Nat) (h : k ≤ 4) (h0 : k ≠ 0) : modeW (modeN k) = k ∧ ((modeN k).toList == wON.toList) = false := by
 have := List.all_eq_true.1 modes_tab k (by simp; omega)
 simp only [Bool.or_eq_true, beq_iff_eq, Bool.and_eq_true, Bool.not_eq_true', h0, false_or] at this
 exact this
def preF (u : Uu) : List ByteArray := [wAFTER] ++ (if u.w % 2 = 1 then [wSTANDARD] else []) ++ [if u.w / 2 % 2 = 1 then wERROR else wEXCEPTION, wPROCEDURE] ++ (if u.w / 4 % 2 = 1 then [wON] else [])
def tailF (u : Uu) : List ByteArray := if modeF u.f u.m > 0 then [modeN (modeF u.f u.m)] else namesF u.f
theorem text_split (u : Uu) : textF u = preF u ++ tailF u := rfl
theorem tail_ne (u : Uu) : ∃ a l, tailF u = a :: l := by
 unfold tailF
 split
 ·
  exact ⟨_, _, rfl⟩
 ·
  rename_i h
  unfold modeF at h
  cases hn : namesF u.f with
  | nil => simp [hn] at h
  | cons a l => exact ⟨a, l, rfl⟩
theorem word_yes (line k : Nat) (s : ByteArray) : isWord (tokAt line k s) [s] = true := by simp [isWord, tokAt]
theorem tail_on (u : Uu) (line k : Nat) (a : ByteArray) (l : List ByteArray) (h : tailF u = a :: l) : isWord (tokAt line k a) [wON] = false := by
 have : (a.toList == wON.toList) = false := by
  unfold tailF at h
  split at h
  ·
   simp only [List.cons.injEq] at h
   obtain ⟨rfl, _⟩ := h
   exact (modeN_good _ (mode_le _ _) (by omega)).2
  ·
   have := (names_good u.f u.hf).1 a (by rw [h]; simp)
   simp only [nmOK, Bool.and_eq_true, Bool.not_eq_true'] at this
   exact this.1.1
 simp [isWord, tokAt, this]
/-- head leaves the tokens of the files or the mode -/
theorem head_text (u : Uu) (line : Nat) {x : D} (hx : SlD 5 (tokRows (toksF line (textF u))) x) (a : ByteArray) (l : List ByteArray) (h : tailF u = a :: l) :
  ∃ y, SlD 5 (tokRows (toksO line (preF u).length (a :: l))) y ∧ ∀ (d : Nat) (S : St), 4 ≤ d → runF LP NN d 32 [x] S = some (.tup [y, .bool true], S, false) := by
 rw [text_split, toks_app, h] at hx
 have hno : isWord (tokAt line (preF u).length a) [wON] = false := tail_on u line _ a l h
 have hk : ∀ k, isWord (tokAt line k (if u.w / 2 % 2 = 1 then wERROR else wEXCEPTION)) [wEXCEPTION, wERROR] = true := by intro k; split <;> simp [isWord, tokAt]
 have e1 : (wERROR.toList == wSTANDARD.toList) = false := by kernel_rfl
 have e2 : (wEXCEPTION.toList == wSTANDARD.toList) = false := by kernel_rfl
 have hn : ∀ k, isWord (tokAt line k (if u.w / 2 % 2 = 1 then wERROR else wEXCEPTION)) [wSTANDARD] = false := by intro k; split <;> simp [isWord, tokAt, e1, e2]
 have hto : toksO line (preF u).length (a :: l) = tokAt line (preF u).length a :: toksO line ((preF u).length + 1) l := by
  simp only [toksO, List.mapIdx_cons, Nat.add_zero]
  congr 1
  apply mapIdx_ext
  intro i h
  congr 1
  omega
 rw [hto] at hx ⊢
 unfold preF at hx hno ⊢
 by_cases h0 : u.w % 2 = 1
 ·
  by_cases h1 : u.w / 4 % 2 = 1
  ·
   simp only [h0, h1, if_true] at hx hno ⊢
   exact head_run11 (ta := tokAt line 0 wAFTER) (ts := tokAt line 1 wSTANDARD) (tp := tokAt line 3 wPROCEDURE) (tn := tokAt line 4 wON) hx (word_yes _ _ _) (word_yes _ _ _) (hk 2) (word_yes _ _ _) (word_yes _ _ _)
  ·
   simp only [h0, h1, if_true, if_false] at hx hno ⊢
   exact head_run10 (ta := tokAt line 0 wAFTER) (ts := tokAt line 1 wSTANDARD) (tp := tokAt line 3 wPROCEDURE) hx (word_yes _ _ _) (word_yes _ _ _) (hk 2) (word_yes _ _ _) hno
 ·
  by_cases h1 : u.w / 4 % 2 = 1
  ·
   simp only [h0, h1, if_true, if_false] at hx hno ⊢
   exact head_run01 (ta := tokAt line 0 wAFTER) (tp := tokAt line 2 wPROCEDURE) (tn := tokAt line 3 wON) hx (word_yes _ _ _) (hn 1) (hk 1) (word_yes _ _ _) (word_yes _ _ _)
  ·
   simp only [h0, h1, if_false] at hx hno ⊢
   exact head_run00 (ta := tokAt line 0 wAFTER) (tp := tokAt line 2 wPROCEDURE) hx (word_yes _ _ _) (hn 1) (hk 1) (word_yes _ _ _) hno
/-- the program's section -/
theorem us_ex (i : Nat) (u : Uu) : ∃ v : Us theFiles, v.row = useRow i u ∧ v.sec = secF i ∧ v.r :: v.rs = toksO (i + 1) (preF u).length (tailF u) := by
 obtain ⟨a, l, h⟩ := tail_ne u
 obtain ⟨y, hy, hh⟩ := head_text u (i + 1) (appY_S 5 (tokRows (toksF (i + 1) (textF u)))) a l h
 have hto : toksO (i + 1) (preF u).length (a :: l) = tokAt (i + 1) (preF u).length a :: (l.mapIdx fun k s => tokAt (i + 1) ((preF u).length + (k + 1)) s) := by
  simp only [toksO, List.mapIdx_cons, Nat.add_zero]
 rw [hto] at hy
 have hlen : l.length ≤ 4 := by
  have := names_few u.f
  unfold tailF at h
  split at h
  ·
   simp only [List.cons.injEq] at h; obtain ⟨_, rfl⟩ := h; simp
  ·
   rw [h] at this; simp at this; omega
 refine ⟨⟨secF i, appY 5 (tokRows (toksF (i + 1) (textF u))), _, appY_S _ _, y, _, _, hy, rfl, hh, by simp; omega, ?_, ?_⟩, rfl, rfl, by rw [h, hto]⟩
 ·
  intro hm
  unfold tailF at h
  split at h
  ·
   simp only [List.cons.injEq] at h; obtain ⟨_, rfl⟩ := h; rfl
  ·
   have := (names_good u.f u.hf).1 a (by rw [h]; simp)
   simp only [nmOK, Bool.and_eq_true, beq_iff_eq] at this
   exact absurd this.1.2 hm
 ·
  intro hm t ht
  unfold tailF at h
  split at h
  ·
   rename_i hp
   simp only [List.cons.injEq] at h
   obtain ⟨rfl, _⟩ := h
   have h1 := (modeN_good _ (mode_le u.f u.m) (by omega)).1
   have : modeW (modeN (modeF u.f u.m)) = 0 := hm
   omega
  ·
   have hall : ∀ s ∈ a :: l, okTok theFiles ⟨1, s, 0, 0, false⟩ := by
    intro s hs
    have := (names_good u.f u.hf).1 s (by rw [h]; exact hs)
    simp only [nmOK, Bool.and_eq_true] at this
    exact ⟨rfl, this.2⟩
   rcases List.mem_cons.1 ht with rfl | ht
   ·
    exact ⟨rfl, (hall a (by simp)).2⟩
   ·
    obtain ⟨k, hk, rfl⟩ := List.getElem_of_mem ht
    simp only [List.getElem_mapIdx, tokAt]
    exact ⟨rfl, (hall _ (List.mem_cons_of_mem _ (List.getElem_mem (by simpa using hk)))).2⟩
noncomputable def usOf (i : Nat) (u : Uu) : Us theFiles := (us_ex i u).choose
theorem usOf_spec (i : Nat) (u : Uu) : (usOf i u).row = useRow i u ∧ (usOf i u).sec = secF i ∧ (usOf i u).r :: (usOf i u).rs = toksO (i + 1) (preF u).length (tailF u) := (us_ex i u).choose_spec
noncomputable def ulOf (l : List Uu) : List (Us theFiles) := l.mapIdx usOf
theorem ulOf_rows (l : List Uu) : usRows (ulOf l) = useRows l := by
 apply List.ext_getElem (by simp [usRows, ulOf, useRows])
 intro i h1 h2
 simp only [usRows, ulOf, useRows, List.getElem_map, List.getElem_mapIdx]
 exact (usOf_spec i _).1
/-- the rules of the sections so far -/
def RuOK (o : List Ru) (pre : List Uu) : Prop := o.length = pre.length ∧ ∀ (j : Nat) (r : Ru) (u : Uu), o[j]? = some r → pre[j]? = some u → r.sec = secF j ∧ r.names = namesF u.f ∧ r.mode = modeF u.f u.m
theorem RuOK.any {o : List Ru} {pre : List Uu} (h : RuOK o pre) {p : Ru → Bool} {q : Uu → Bool} (hpq : ∀ (r : Ru) (u : Uu), r.names = namesF u.f → r.mode = modeF u.f u.m → p r = q u) : o.any p = pre.any q := by
 obtain ⟨h1, h2⟩ := h
 rw [Bool.eq_iff_iff, List.any_eq_true, List.any_eq_true]
 constructor
 ·
  rintro ⟨r, hr, hp⟩
  obtain ⟨j, hj, rfl⟩ := List.getElem_of_mem hr
  have hj' : j < pre.length := by omega
  obtain ⟨_, e1, e2⟩ := h2 j _ _ (List.getElem?_eq_getElem hj) (List.getElem?_eq_getElem hj')
  exact ⟨pre[j], List.getElem_mem hj', by rw [← hpq _ _ e1 e2]; exact hp⟩
 ·
  rintro ⟨u, hu, hp⟩
  obtain ⟨j, hj, rfl⟩ := List.getElem_of_mem hu
  have hj' : j < o.length := by omega
  obtain ⟨_, e1, e2⟩ := h2 j _ _ (List.getElem?_eq_getElem hj') (List.getElem?_eq_getElem hj)
  exact ⟨o[j], List.getElem_mem hj', by rw [hpq _ _ e1 e2]; exact hp⟩
theorem RuOK.add {o : List Ru} {pre : List Uu} (h : RuOK o pre) {r : Ru} {u : Uu} (h1 : r.sec = secF pre.length) (h2 : r.names = namesF u.f) (h3 : r.mode = modeF u.f u.m) : RuOK (o ++ [r]) (pre ++ [u]) := by
 refine ⟨by simp [h.1], fun j r' u' e1 e2 => ?_⟩
 rw [List.getElem?_append] at e1 e2
 rw [h.1] at e1
 by_cases hj : j < pre.length
 ·
  rw [if_pos hj] at e1 e2
  exact h.2 j r' u' e1 e2
 ·
  rw [if_neg hj] at e1 e2
  have : j = pre.length := by
   rcases Nat.lt_trichotomy j pre.length with h | h | h
   ·
    omega
   ·
    exact h
   ·
    rw [List.getElem?_eq_none (by simp; omega)] at e1; simp at e1
  subst this
  simp at e1 e2
  subst e1 e2
  exact ⟨h1, h2, h3⟩
/-- the names of a section, one by one -/
theorem files_names {o : List Ru} {pre : List Uu} (h : RuOK o pre) (line : Nat) : ∀ (nl : List ByteArray) (off : Nat) (out : List ByteArray), apart out nl = true →
  filesF o (toksO line off nl) out = match nl.findIdx? (fun nm => pre.any (pD nm)) with
   | some n => .inr (tokAt line (off + n) (nl.getD n ⟨#[]⟩))
   | none => .inl (out ++ nl)
 | [], off, out, _ => by simp [toksO, filesF]
 | s :: nl, off, out, ha => by
  simp only [apart, Bool.and_eq_true, Bool.not_eq_true'] at ha
  have hto : toksO line off (s :: nl) = tokAt line off s :: toksO line (off + 1) nl := by
   simp only [toksO, List.mapIdx_cons, Nat.add_zero]
   congr 1
   apply mapIdx_ext
   intro i h
   congr 1
   omega
  have ht : (tokAt line off s).text = s := rfl
  have hany : (o.any fun r => r.names.any fun x => s.toList == x.toList) = pre.any (pD s) := h.any (fun r u e1 e2 => by rw [e1, pD, any_beq_comm])
  rw [hto, filesF, ht, ha.1, Bool.false_or, hany, List.findIdx?_cons]
  cases hp : pre.any (pD s) with
  | true => simp
  | false =>
   rw [if_neg (by simp), files_names h line nl (off + 1) (out ++ [s]) ha.2]
   simp only [Bool.false_eq_true, if_false]
   cases hf : nl.findIdx? (fun nm => pre.any (pD nm)) with
   | none => simp
   | some n => simp [Nat.add_assoc, Nat.add_comm 1 n]
theorem pre_len (u : Uu) : (textF u).length = (preF u).length + (tailF u).length := by rw [text_split, List.length_append]
/-- one section: a rule, or the fault that the law asks -/
theorem rule_law {o : List Ru} {pre : List Uu} (h : RuOK o pre) (u : Uu) :
  match twiceAt pre u with
  | some c => (ruleR o (usOf pre.length u)).e = 8 ∧ (ruleR o (usOf pre.length u)).l = ((pre.length + 1 : Nat) : Int) ∧ (ruleR o (usOf pre.length u)).k = c
  | none => (ruleR o (usOf pre.length u)).e = 0 ∧ RuOK (o ++ [(ruleR o (usOf pre.length u)).ru]) (pre ++ [u]) := by
 obtain ⟨_, hsec, hrs⟩ := usOf_spec pre.length u
 generalize usOf pre.length u = v at hsec hrs
 have hlen := pre_len u
 by_cases hm : modeF u.f u.m > 0
 ·
  have htl : tailF u = [modeN (modeF u.f u.m)] := by rw [tailF, if_pos hm]
  rw [htl] at hrs
  simp only [toksO, List.mapIdx_cons, List.mapIdx_nil, Nat.add_zero, List.cons.injEq] at hrs
  obtain ⟨hr, hr2⟩ := hrs
  have hmw : modeW v.r.text = modeF u.f u.m := by rw [hr]; exact (modeN_good _ (mode_le _ _) (by omega)).1
  have hany : (o.any fun q => (q.mode : Int) == (modeW v.r.text : Int)) = pre.any (pB u) := h.any (fun r w e1 e2 => by
   rw [hmw, e2, pB]
   have : decide ((modeF u.f u.m : Int) > 0) = true := decide_eq_true (by omega)
   rw [this, Bool.true_and])
  have hne : modeW v.r.text ≠ 0 := by omega
  have hn0 : namesF u.f = [] := by have := mode_pos (f := u.f) (m := u.m) (by omega); exact List.length_eq_zero_iff.1 this
  unfold twiceAt
  cases hp : pre.any (pB u) with
  | true =>
   rw [if_pos rfl]
   unfold ruleR
   rw [if_pos hne, if_pos (by rw [hany, hp])]
   refine ⟨rfl, ?_, ?_⟩
   ·
    rw [hr]; rfl
   ·
    rw [hr, hlen, htl]; rfl
  | false =>
   rw [if_neg (by simp), hn0]
   simp only [List.findIdx?_nil]
   unfold ruleR
   rw [if_pos hne, if_neg (by rw [hany, hp]; simp)]
   exact ⟨rfl, h.add hsec hn0.symm hmw⟩
 ·
  have htl : tailF u = namesF u.f := by rw [tailF, if_neg hm]
  obtain ⟨a, l, hal⟩ := tail_ne u
  obtain ⟨hgood, hap⟩ := names_good u.f u.hf
  have hmw : ¬ modeW v.r.text ≠ 0 := by
   rw [hal] at hrs
   simp only [toksO, List.mapIdx_cons, List.cons.injEq] at hrs
   rw [hrs.1]
   have := hgood a (by rw [← htl, hal]; simp)
   simp only [nmOK, Bool.and_eq_true, beq_iff_eq] at this
   exact fun hc => hc this.1.2
  have hpb : pre.any (pB u) = false := by
   rw [List.any_eq_false]
   intro w _
   have : decide ((modeF u.f u.m : Int) > 0) = false := decide_eq_false (by omega)
   rw [pB, this, Bool.false_and]; simp
  have hff := files_names h (pre.length + 1) (namesF u.f) (preF u).length [] hap
  rw [← htl, ← hrs] at hff
  unfold twiceAt ruleR
  rw [hpb, if_neg (by simp), if_neg hmw]
  have hm0 : modeF u.f u.m = 0 := by omega
  cases hf : (namesF u.f).findIdx? (fun nm => pre.any (pD nm)) with
  | some n =>
   rw [htl, hf] at hff
   simp only
   split
   ·
    rename_i o' ho; rw [hff] at ho; simp at ho
   ·
    rename_i t ht
    rw [hff] at ht
    simp only [Sum.inr.injEq] at ht
    subst ht
    refine ⟨rfl, rfl, ?_⟩
    show (((preF u).length + n + 1 : Nat) : Int) = _
    rw [hlen, htl]
    omega
  | none =>
   rw [htl, hf] at hff
   simp only
   split
   ·
    rename_i o' ho
    rw [hff] at ho
    simp only [Sum.inl.injEq, List.nil_append] at ho
    refine ⟨rfl, h.add hsec ?_ ?_⟩
    ·
     exact ho.symm
    ·
     rw [hm0]
   ·
    rename_i t ht; rw [hff] at ht; simp at ht
theorem law_none (l : List Uu) : ∀ (n i : Nat) (o : List Ru), n = l.length - i → i ≤ l.length → RuOK o (l.take i) → (∀ j, i ≤ j → j < l.length → twAt l j = none) → ∃ o', rulesF ((ulOf l).drop i) o = .inl o' ∧ RuOK o' l
 | 0, i, o, hn, hi, ho, _ => by
  have : i = l.length := by omega
  subst this
  refine ⟨o, ?_, by simpa using ho⟩
  rw [List.drop_of_length_le (by simp [ulOf])]; rfl
 | n + 1, i, o, hn, hi, ho, hall => by
  have hlt : i < l.length := by omega
  have hul : i < (ulOf l).length := by simpa [ulOf] using hlt
  have h1 := hall i (Nat.le_refl _) hlt
  simp only [twAt, List.getElem?_eq_getElem hlt, Option.bind_some, Option.map_eq_none_iff] at h1
  have hr := rule_law ho l[i]
  rw [h1] at hr
  have hil : (l.take i).length = i := by simp; omega
  rw [hil] at hr
  obtain ⟨e1, e2⟩ := hr
  have hu : (ulOf l)[i] = usOf i l[i] := by simp [ulOf]
  rw [List.drop_eq_getElem_cons hul, rulesF, hu, if_neg (by simp [e1])]
  refine law_none l n (i + 1) _ (by omega) (by omega) ?_ (fun j hj => hall j (by omega))
  rw [List.take_add_one, List.getElem?_eq_getElem hlt]
  exact e2
theorem law_some (l : List Uu) (m : Nat) (c : Int) (hm : twAt l m = some (m, c)) (hml : m < l.length) : ∀ (n i : Nat) (o : List Ru), n = m - i → i ≤ m → RuOK o (l.take i) → (∀ j, i ≤ j → j < m → twAt l j = none) → rulesF ((ulOf l).drop i) o = .inr (8, ((m + 1 : Nat) : Int), c)
 | 0, i, o, hn, hi, ho, _ => by
  have : i = m := by omega
  subst this
  have hul : i < (ulOf l).length := by simpa [ulOf] using hml
  simp only [twAt, List.getElem?_eq_getElem hml, Option.bind_some, Option.map_eq_some_iff, Prod.mk.injEq, true_and, exists_eq_right] at hm
  have hr := rule_law ho l[i]
  rw [hm] at hr
  have hil : (l.take i).length = i := by simp; omega
  rw [hil] at hr
  obtain ⟨e1, e2, e3⟩ := hr
  have hu : (ulOf l)[i] = usOf i l[i] := by simp [ulOf]
  rw [List.drop_eq_getElem_cons hul, rulesF, hu, e1, e2, e3, if_pos (by decide)]
 | n + 1, i, o, hn, hi, ho, hall => by
  have hlt : i < l.length := by omega
  have hul : i < (ulOf l).length := by simpa [ulOf] using hlt
  have h1 := hall i (Nat.le_refl _) (by omega)
  simp only [twAt, List.getElem?_eq_getElem hlt, Option.bind_some, Option.map_eq_none_iff] at h1
  have hr := rule_law ho l[i]
  rw [h1] at hr
  have hil : (l.take i).length = i := by simp; omega
  rw [hil] at hr
  obtain ⟨e1, e2⟩ := hr
  have hu : (ulOf l)[i] = usOf i l[i] := by simp [ulOf]
  rw [List.drop_eq_getElem_cons hul, rulesF, hu, if_neg (by simp [e1])]
  refine law_some l m c hm hml n (i + 1) _ (by omega) (by omega) ?_ (fun j hj => hall j (by omega))
  rw [List.take_add_one, List.getElem?_eq_getElem hlt]
  exact e2
/-- what Rules returns is what the law asks -/
theorem rules_law (l : List Uu) : match firstDup l with
  | none => ∃ o, rulesF (ulOf l) [] = .inl o ∧ RuOK o l
  | some (i, c) => rulesF (ulOf l) [] = .inr (8, ((i + 1 : Nat) : Int), c) := by
 have h0 : RuOK [] (l.take 0) := ⟨by simp, fun j r u h => by simp at h⟩
 cases hf : firstDup l with
 | none =>
  rw [firstDup, List.findSome?_eq_none_iff] at hf
  obtain ⟨o, h1, h2⟩ := law_none l l.length 0 [] (by omega) (by omega) h0 (fun j _ hj => hf j (by simpa using hj))
  exact ⟨o, by simpa using h1, h2⟩
 | some p =>
  obtain ⟨i, c⟩ := p
  rw [firstDup, List.findSome?_eq_some_iff] at hf
  obtain ⟨a, m, b, hab, hm, hno⟩ := hf
  have hlen := congrArg List.length hab
  simp at hlen
  have hma : m = a.length := by
   have := congrArg (·[a.length]?) hab
   simp at this
   rw [List.getElem?_range (by omega)] at this
   simp at this
   exact this.symm
  have haj : ∀ j, j < a.length → j ∈ a := by
   intro j hj
   have := congrArg (·[j]?) hab
   simp only [List.getElem?_append_left hj] at this
   rw [List.getElem?_range (by omega)] at this
   exact List.mem_of_getElem? this.symm
  have him : m = i := by
   have hml : m < l.length := by omega
   simp only [twAt, List.getElem?_eq_getElem hml, Option.bind_some, Option.map_eq_some_iff, Prod.mk.injEq] at hm
   obtain ⟨_, _, h, _⟩ := hm
   exact h
  subst him
  have := law_some l m c hm (by omega) m 0 [] (by omega) (by omega) h0 (fun j _ hj => hno j (haj j (by omega)))
  simpa using this

end Go.Proofs.YtcogjcplldpkaaaGreat

namespace Go.Proofs.YtcogjcplldpkaaaGreat
set_option linter.unusedSimpArgs false
set_option linter.unusedVariables false
set_option maxRecDepth 10000

theorem at_L {H l : List AObj} {g : Nat} (h : g < H.length) : (H ++ l)[g]? = H[g]? := List.getElem?_append_left h
theorem set_L {H l : List AObj} {g : Nat} (h : g < H.length) (x : AObj) : (H ++ l).set g x = H.set g x ++ l := List.set_append_left g x h
theorem lt_of {H : List AObj} {g : Nat} {o : AObj} (h : H[g]? = some o) : g < H.length := (List.getElem?_eq_some_iff.1 h).1
theorem at_S0 (H l : List AObj) (g : Nat) (x : AObj) : (H.set g x ++ l)[H.length]? = l[0]? := by
 rw [List.getElem?_append_right (by simp)]; simp
theorem at_S (H l : List AObj) (g k : Nat) (x : AObj) : (H.set g x ++ l)[H.length + k]? = l[k]? := by
 rw [List.getElem?_append_right (by simp)]; simp
theorem set_S0 (H l : List AObj) (g : Nat) (x y : AObj) : (H.set g x ++ l).set H.length y = H.set g x ++ l.set 0 y := by
 rw [List.set_append_right _ _ (by simp)]; simp
theorem set_S (H l : List AObj) (g k : Nat) (x y : AObj) : (H.set g x ++ l).set (H.length + k) y = H.set g x ++ l.set k y := by
 rw [List.set_append_right _ _ (by simp)]; simp
/-- a reply without sections -/
structure Rp where
 h : Bool
 b : ByteArray
 e : Int
def Rp.cs (r : Rp) : List D := [.bool r.h, .nils, .str r.b, .bool false, .int .i64 r.e]
/-- the files of the law -/
def drO (last : ByteArray) (mode : Nat) (r : Rp) (many : Nat) : AObj := ⟨40, 8, [[.str last, .int .u8 mode, .bool r.h, .nils, .str r.b, .bool false, .int .i64 r.e, .int .i64 many]], 0, 0, false⟩
/-- a desk -/
def dkO (gd : Nat) (fx ux rx : D) (act : Bool) (dx : D) : AObj := ⟨88, 14, [[.ifr 34 (.ptr gd 0 0 0), .str ⟨#[]⟩, fx, .nils, .nils, .nils, .nils, .nils, ux, .nils, rx, .ifc 49 (.agg []), .bool act, dx]], 0, 0, false⟩

theorem last_run {d : Nat} (hd : 1 ≤ d) {H : List AObj} {gd many mode : Nat} {last : ByteArray} {r : Rp} (hd1 : H[gd]? = some (drO last mode r many)) (lo : Nat) : runF LP NN d 62 [.ptr gd 0 0 0] ⟨H, lo⟩ = some (.str last, ⟨H, lo⟩, false) := by
 refine run_at (F := F62) rfl (by simp only [LP, fnOf, snapVs, snaps, zs, zm, zv] <;> exact rfl) rfl (by simp only [LP, zf, zm]; try rfl) (by simp only [F62, zv] <;> exact rfl) (by omega) ?_
 rintro d rfl
 refine cw_seq (cw_region ?_)
 refine ow_mc ?_
 refine ow_nil ?_
 refine sk_n (by simp only [ze] <;> exact rfl) ?_
 refine cw_seq (cw_region ?_)
 refine ow_me rfl ?_
 refine ow_op (by simp only [zo, hd1, drO] <;> exact rfl) ?_
 refine ow_op (by simp only [zo, faddrD_ptr, faddrD_cptr, zm, hd1, drO] <;> exact rfl) ?_
 refine ow_op (by simp only [zl, zm, zd, partD, List.take, List.drop, hd1, drO] <;> exact rfl) ?_
 refine ow_ml rfl ?_
 refine ow_nil ?_
 refine sk_n (by simp only [ze] <;> exact rfl) ?_
 refine cw_ret ?_
 refine ⟨_, by simp only [F62, resultD, resDs, resD, zg, zd, rowsOf, partD, List.take, List.drop, zm] <;> exact rfl, ?_⟩
 simp [leave, LP, snapR, snapV, snaps, snap, D.freeR, D.freeV, D.free, D.free0]

theorem fmode_run {d : Nat} (hd : 1 ≤ d) {H : List AObj} {gd many mode : Nat} {last : ByteArray} {r : Rp} (hd1 : H[gd]? = some (drO last mode r many)) (s : ByteArray) (lo : Nat) : runF LP NN d 63 [.ptr gd 0 0 0, .str s] ⟨H, lo⟩ = some (.int .u8 mode, ⟨H, lo⟩, false) := by
 refine run_at (F := F63) rfl (by simp only [LP, fnOf, snapVs, snaps, zs, zm, zv] <;> exact rfl) rfl (by simp only [LP, zf, zm]; try rfl) (by simp only [F63, zv] <;> exact rfl) (by omega) ?_
 rintro d rfl
 refine cw_seq (cw_region ?_)
 refine ow_mc ?_
 refine ow_nil ?_
 refine sk_n (by simp only [ze] <;> exact rfl) ?_
 refine cw_seq (cw_region ?_)
 refine ow_me rfl ?_
 refine ow_op (by simp only [zo, hd1, drO] <;> exact rfl) ?_
 refine ow_op (by simp only [zo, faddrD_ptr, faddrD_cptr, zm, hd1, drO] <;> exact rfl) ?_
 refine ow_op (by simp only [zl, zm, zd, partD, List.take, List.drop, hd1, drO] <;> exact rfl) ?_
 refine ow_ml rfl ?_
 refine ow_nil ?_
 refine sk_n (by simp only [ze] <;> exact rfl) ?_
 refine cw_ret ?_
 refine ⟨_, by simp only [F63, resultD, resDs, resD, zg, zd, rowsOf, partD, List.take, List.drop, zm] <;> exact rfl, ?_⟩
 simp [leave, LP, snapR, snapV, snaps, snap, D.freeR, D.freeV, D.free, D.free0]

theorem fdo_run {d : Nat} (hd : 1 ≤ d) {H : List AObj} {gd many mode : Nat} {last : ByteArray} {r : Rp} (hd1 : H[gd]? = some (drO last mode r many)) (hm : many ≤ 1000) {vb : ByteArray} {px : D} {pr : List (List D)} (hP : SlD 2 pr px) (lo : Nat) : runF LP NN d 61 [.ptr gd 0 0 0, .nilp, .agg [.str vb, .int .i64 0, .int .i64 0, px, .nils], .int .i64 0] ⟨H, lo⟩ = some (.agg r.cs, ⟨H.set gd (drO last mode r (many + 1)) ++ [⟨38, 5, [r.cs], 0, 0, false⟩], min lo gd⟩, true) := by
 have hl := lt_of hd1
 have hlo : ¬ H.length ≤ min H.length gd := by omega
 have hlm : min lo (min H.length gd) = min lo gd := by omega
 have hwm := wrap_nat many (by omega)
 have hd2 := get_set_self hd1 (drO last mode r (many + 1))
 have hl2 := lt_of hd2
 simp only [drO] at hd2 hl2
 refine run_at (F := F61) rfl (by simp only [LP, fnOf, snapVs, snaps, zs, zm, zv, hP.snap, hP.snapV, hP.freeV, hP.free] <;> exact rfl) rfl (by simp only [LP, zf, zm, hP.snap, hP.snapV, hP.freeV, hP.free]; try rfl) (by simp only [F61, zv] <;> exact rfl) (by omega) ?_
 rintro d rfl
 have zz14 := And.intro @at_S0 (And.intro @at_S (And.intro @set_S0 (And.intro @set_S (And.intro @List.getElem?_cons_zero.{0} (And.intro @List.getElem?_cons_succ.{0} (And.intro @List.length_set.{0} (And.intro hd1 (And.intro hd2 (And.intro @drO.eq_1 (And.intro hP.isCell (And.intro hP.val (And.intro hP.cells (And.intro hP.free (hwm))))))))))))))
 refine cw_seq (cw_region ?_)
 refine ow_op (by simp only [opd, zv, exOp, LOp.loud, aop, lop, if_true, zm, zc, zf, beq_self_eq_true, Bool.and_self, Bool.and_true, Bool.true_and, List.all_cons, List.all_nil, Nat.reduceBEq, Nat.reduceAdd, at_L hl, set_L hl, at_L hl2, zz14] <;> exact rfl) ?_
 refine ow_op (by simp only [zl, zm, at_L hl, set_L hl, at_L hl2, zz14] <;> exact rfl) ?_
 refine ow_nil ?_
 refine sk_n (by simp only [ze] <;> exact rfl) ?_
 refine cw_seq (cw_region ?_)
 refine ow_me rfl ?_
 refine ow_op (by simp only [zo, at_L hl, set_L hl, at_L hl2, zz14] <;> exact rfl) ?_
 refine ow_op (by simp only [zo, faddrD_ptr, faddrD_cptr, zm, at_L hl, set_L hl, at_L hl2, zz14] <;> exact rfl) ?_
 refine ow_op (by simp only [zl, zm, zd, partD, List.take, List.drop, at_L hl, set_L hl, at_L hl2, zz14] <;> exact rfl) ?_
 refine ow_op (by simp only [zo, binD, zb, Int.reduceEq, Int.reduceToNat, Int.reduceLT, at_L hl, set_L hl, at_L hl2, zz14] <;> exact rfl) ?_
 refine ow_op (by simp only [zo, at_L hl, set_L hl, at_L hl2, zz14] <;> exact rfl) ?_
 refine ow_op (by simp only [zo, faddrD_ptr, faddrD_cptr, zm, at_L hl, set_L hl, at_L hl2, zz14] <;> exact rfl) ?_
 refine ow_op (by simp only [zl, zm, storeD, overlay, snapVs, snaps, zs, zc, zf, List.take, List.drop, at_L hl, set_L hl, at_L hl2, zz14] <;> exact rfl) ?_
 refine ow_nil ?_
 refine sk_n (by simp only [ze] <;> exact rfl) ?_
 refine cw_seq (cw_region ?_)
 refine ow_me rfl ?_
 refine ow_op (by simp only [zo, at_L hl, set_L hl, at_L hl2, zz14] <;> exact rfl) ?_
 refine ow_op (by simp only [zo, faddrD_ptr, faddrD_cptr, zm, at_L hl, set_L hl, at_L hl2, zz14] <;> exact rfl) ?_
 refine ow_op (by simp only [zl, zm, zd, partD, List.take, List.drop, at_L hl, set_L hl, at_L hl2, zz14] <;> exact rfl) ?_
 refine ow_op (by simp only [zl, zm, storeD, overlay, snapVs, snaps, zs, zc, zf, List.take, List.drop, at_L hl, set_L hl, at_L hl2, zz14] <;> exact rfl) ?_
 refine ow_nil ?_
 refine sk_n (by simp only [ze] <;> exact rfl) ?_
 refine cw_ret ?_
 refine ⟨_, by simp only [F61, resultD, resDs, resD, zg, zd, rowsOf, partD, List.take, List.drop, zm, hd2, drO, at_L hl2, at_S0, List.getElem?_cons_zero] <;> exact rfl, ?_⟩
 simp [leave, LP, snapR, snapV, snaps, snap, D.freeR, D.freeV, D.free, D.free0, hlo, hlm, drO, Rp.cs]

end Go.Proofs.YtcogjcplldpkaaaGreat

namespace Go.Proofs.YtcogjcplldpkaaaGreat
set_option linter.unusedSimpArgs false
set_option linter.unusedVariables false
set_option maxRecDepth 10000

/-- the section that fits -/
def lawQ (m : Nat) (u : Uu) : Bool := (modeF u.f u.m : Int) == (m : Int)
def fitI (l : List Uu) (s : ByteArray) (m : Nat) : Int := if idxI (lawP1 s) l < 0 ∧ m ≠ 0 then idxI (lawQ m) l else idxI (lawP1 s) l
theorem idxI_lt {α : Type} {p : α → Bool} {l : List α} {i : Nat} (hi : i < l.length) (hp : p l[i] = true) (hb : (l.take i).any p = false) : ¬ idxI p l < 0 := by rw [idxI_at hi hp hb]; omega

theorem fits_z {d : Nat} (hd : 4 ≤ d) (S : St) {x : D} {l : List Uu} (hS : SlD 3 (uRows l) x) (hl : l.length ≤ 6) (s : ByteArray) (m : Nat) (hm0 : m = 0) : runF LP NN d 11 [x, .str s, .int .u8 m] S = some (.tup [.int .i64 (max (fitI l s m) 0), .bool (decide (fitI l s m ≥ 0))], S, false) := by
 have hmp : decide ((m : Int) > 0) = false := decide_eq_false (by omega)
 refine run_pure (F := F11) rfl (by simp only [LP, fnOf, snapVs, snaps, zs, zm, zv, hS.snapV, hS.freeV] <;> exact rfl) rfl (by simp only [LP, zf, zm, hS.snapV, hS.freeV]; try rfl) (by simp only [F11, zv] <;> exact rfl) (by omega) ?_
 rintro d rfl
 refine cw_seq (cw_region ?_)
 refine ow_mc ?_
 refine ow_mc ?_
 refine ow_nil ?_
 refine sk_n (by simp only [ze] <;> exact rfl) ?_
 refine cw_seq (cw_seq (cw_region ?_))
 refine ow_mc ?_
 refine ow_nil ?_
 refine sk_n (by simp only [ze] <;> exact rfl) ?_
 refine cw_block ?_
 refine cw_loop (fun n env S' => ∃ (i : Nat) (u6 u7 u8 u9 u10 : D), i ≤ l.length ∧ n = l.length - i ∧ ((l.take i).any fun x => lawP1 s x) = false ∧ S' = ⟨[], 0⟩ ∧ env = [x, .str s, .int .u8 m, .int .i64 0, .bool false, .int .i64 i, u6, u7, u8, u9, u10]) (l.length) (by omega) (⟨0, _, _, _, _, _, by omega, by omega, by simp, rfl, rfl⟩) ?_
 rintro n env S' ⟨i, u6, u7, u8, u9, u10, hi, rfl, hany, rfl, rfl⟩
 refine cw_seq (cw_seq (cw_region ?_))
 refine ow_me rfl ?_
 refine ow_me rfl ?_
 refine ow_op (by simp only [zo, lenD_str, lenD_nils, lenD_sl, lenD_msl, hS.len, uRows_len, hmp] <;> exact rfl) ?_
 refine ow_op (by simp only [zo, binD, zb, Int.reduceEq, Int.reduceToNat, Int.reduceLT, hS.len, uRows_len, hmp] <;> exact rfl) ?_
 refine ow_nil ?_
 refine sk_n (by simp only [ze] <;> exact rfl) ?_
 refine cw_cond (by simp only [opd, zv, hS.len, uRows_len, hmp] <;> exact rfl) (fun hcA => ?_) (fun hcA => ?_)
 ·
  have hlt : i < l.length := by have := of_decide_eq_true hcA; omega
  have hw := wrap_nat i (by omega)
  have hia := fun (S : St) => hS.iaddrN S .i64 (uRows_at hlt)
  refine cw_skip (sk_n rfl (cw_seq (cw_block (cw_seq (cw_region ?_)))))
  refine ow_me rfl ?_
  refine ow_me rfl ?_
  refine ow_op (by simp only [zl, zm, iaddrD_sl, iaddrD_msl, Int.toNat_natCast, Int.toNat_zero, List.getElem?_map, Option.map_some, Int.le_refl, hS.len, uRows_len, hmp, hw, hia] <;> exact rfl) ?_
  refine ow_op (by simp only [zl, zm, zd, partD, List.take, List.drop, hS.len, uRows_len, hmp, hw, hia] <;> exact rfl) ?_
  refine ow_op (by simp only [zo, hS.len, uRows_len, hmp, hw, hia]; exact names_run (by omega) _ _ _ _ l[i].hf) ?_
  refine ow_me rfl ?_
  refine ow_op (by simp only [zo, hS.len, uRows_len, hmp, hw, hia]; exact has_run (by omega) _ (strsD_S _) _ (by have := names_few l[i].f; omega)) ?_
  refine ow_nil ?_
  refine sk_n (by simp only [ze] <;> exact rfl) ?_
  refine cw_cond (by simp only [opd, zv, hS.len, uRows_len, hmp, hw, hia] <;> exact rfl) (fun hcAT => ?_) (fun hcAT => ?_)
  ·
   refine cw_seq (cw_region ?_)
   refine ow_me rfl ?_
   refine ow_ml rfl ?_
   refine ow_mc ?_
   refine ow_nil ?_
   refine sk_n (by simp only [ze] <;> exact rfl) ?_
   refine cw_ret (bk_r (sk_r (lk_r (bk_r (sk_r ?_)))))
   refine ⟨_, by simp only [F11, resultD, resDs, resD, zg, zd, rowsOf, partD, List.take, List.drop, zm] <;> exact rfl, ?_⟩
   have h1 := idxI_lt (p := fun x => lawP1 s x) hlt hcAT hany
   have h2 := idxI_at (p := fun x => lawP1 s x) hlt hcAT hany
   have h3 : fitI l s m = (i : Int) := by rw [fitI, if_neg (fun h => h1 h.1)]; exact h2
   rw [h3, show max (i : Int) 0 = (i : Int) by omega, decide_eq_true (show (i : Int) ≥ 0 by omega)]; rfl
  ·
   refine cw_skip (bk_n (sk_n rfl (cw_region ?_)))
   refine ow_me rfl ?_
   refine ow_op (by simp only [zo, binD, zb, Int.reduceEq, Int.reduceToNat, Int.reduceLT, hS.len, uRows_len, hmp, hw, hia] <;> exact rfl) ?_
   refine ow_ml rfl ?_
   refine ow_nil ?_
   refine lk_n (by simp only [ze] <;> exact rfl) ?_
   exact ⟨l.length - (i + 1), by omega, i + 1, _, _, _, _, _, by omega, rfl, any_take_succ hlt hany hcAT, rfl, rfl⟩
 ·
  have hge : l.length ≤ i := by have := of_decide_eq_false hcA; omega
  rw [List.take_of_length_le hge] at hany
  refine cw_exit (sk_e (lk_e (bk_e (sk_n rfl (cw_seq (cw_seq (cw_region ?_)))))))
  refine ow_mc ?_
  refine ow_nil ?_
  refine sk_n (by simp only [ze] <;> exact rfl) ?_
  refine cw_block ?_
  refine cw_loop (fun n env S' => ∃ (k : Nat) (v5 v7 v8 v9 v10 : D), k ≤ l.length ∧ n = l.length - k ∧ True ∧ S' = ⟨[], 0⟩ ∧ env = [x, .str s, .int .u8 m, .int .i64 0, .bool false, v5, .int .i64 k, v7, v8, v9, v10]) (l.length) (by omega) (⟨0, _, _, _, _, _, by omega, by omega, by simp, rfl, rfl⟩) ?_
  rintro n env S' ⟨k, v5, v7, v8, v9, v10, hk, rfl, hanz, rfl, rfl⟩
  refine cw_seq (cw_seq (cw_region ?_))
  refine ow_me rfl ?_
  refine ow_me rfl ?_
  refine ow_op (by simp only [zo, lenD_str, lenD_nils, lenD_sl, lenD_msl, hS.len, uRows_len, hmp] <;> exact rfl) ?_
  refine ow_op (by simp only [zo, binD, zb, Int.reduceEq, Int.reduceToNat, Int.reduceLT, hS.len, uRows_len, hmp] <;> exact rfl) ?_
  refine ow_nil ?_
  refine sk_n (by simp only [ze] <;> exact rfl) ?_
  refine cw_cond (by simp only [opd, zv, hS.len, uRows_len, hmp] <;> exact rfl) (fun hcAFB => ?_) (fun hcAFB => ?_)
  ·
   have hlt2 : k < l.length := by have := of_decide_eq_true hcAFB; omega
   have hwk := wrap_nat k (by omega)
   have hia2 := fun (S : St) => hS.iaddrN S .i64 (uRows_at hlt2)
   refine cw_skip (sk_n rfl (cw_seq (cw_block (cw_seq (cw_region ?_)))))
   refine ow_me rfl ?_
   refine ow_op (by simp only [zo, binD, zb, Int.reduceEq, Int.reduceToNat, Int.reduceLT, hS.len, uRows_len, hmp, hwk, hia2] <;> exact rfl) ?_
   refine ow_ml rfl ?_
   refine ow_know 0 (b := false) (by simp only [opd, zv, hS.len, uRows_len, hmp, hwk, hia2] <;> rfl) (by simp only [zn] <;> exact rfl) ?_
   refine ow_off rfl rfl ?_
   refine ow_off rfl rfl ?_
   refine ow_off rfl rfl ?_
   refine ow_off rfl rfl ?_
   refine ow_off rfl rfl ?_
   refine ow_off rfl rfl ?_
   refine ow_off rfl rfl ?_
   refine ow_op (by simp only [zo, hS.len, uRows_len, hmp, hwk, hia2] <;> exact rfl) ?_
   refine ow_nil ?_
   refine sk_n (by simp only [ze] <;> exact rfl) ?_
   refine cw_false (by simp only [opd, zv, hS.len, uRows_len, hmp, hwk, hia2]) ?_
   refine cw_skip (bk_n (sk_n rfl (cw_region ?_)))
   refine ow_me rfl ?_
   refine ow_op (by simp only [zo, binD, zb, Int.reduceEq, Int.reduceToNat, Int.reduceLT, hS.len, uRows_len, hmp, hwk, hia2] <;> exact rfl) ?_
   refine ow_ml rfl ?_
   refine ow_nil ?_
   refine lk_n (by simp only [ze] <;> exact rfl) ?_
   exact ⟨l.length - (k + 1), by omega, k + 1, _, _, _, _, _, by omega, rfl, trivial, rfl, rfl⟩
  ·
   have hge2 : l.length ≤ k := by have := of_decide_eq_false hcAFB; omega
   refine cw_exit (sk_e (lk_e (bk_e (sk_n rfl (cw_seq (cw_region ?_))))))
   refine ow_mc ?_
   refine ow_mc ?_
   refine ow_nil ?_
   refine sk_n (by simp only [ze] <;> exact rfl) ?_
   refine cw_ret ?_
   refine ⟨_, by simp only [F11, resultD, resDs, resD, zg, zd, rowsOf, partD, List.take, List.drop, zm] <;> exact rfl, ?_⟩
   have h1 : idxI (lawP1 s) l = -1 := idxI_none hany
   have h3 : fitI l s m = -1 := by
    rw [fitI, h1]
    rw [if_neg (fun h => h.2 hm0)]
   rw [h3]; rfl

theorem fits_p {d : Nat} (hd : 4 ≤ d) (S : St) {x : D} {l : List Uu} (hS : SlD 3 (uRows l) x) (hl : l.length ≤ 6) (s : ByteArray) (m : Nat) (hm0 : m ≠ 0) : runF LP NN d 11 [x, .str s, .int .u8 m] S = some (.tup [.int .i64 (max (fitI l s m) 0), .bool (decide (fitI l s m ≥ 0))], S, false) := by
 have hmp : decide ((m : Int) > 0) = true := decide_eq_true (by omega)
 refine run_pure (F := F11) rfl (by simp only [LP, fnOf, snapVs, snaps, zs, zm, zv, hS.snapV, hS.freeV] <;> exact rfl) rfl (by simp only [LP, zf, zm, hS.snapV, hS.freeV]; try rfl) (by simp only [F11, zv] <;> exact rfl) (by omega) ?_
 rintro d rfl
 refine cw_seq (cw_region ?_)
 refine ow_mc ?_
 refine ow_mc ?_
 refine ow_nil ?_
 refine sk_n (by simp only [ze] <;> exact rfl) ?_
 refine cw_seq (cw_seq (cw_region ?_))
 refine ow_mc ?_
 refine ow_nil ?_
 refine sk_n (by simp only [ze] <;> exact rfl) ?_
 refine cw_block ?_
 refine cw_loop (fun n env S' => ∃ (i : Nat) (u6 u7 u8 u9 u10 : D), i ≤ l.length ∧ n = l.length - i ∧ ((l.take i).any fun x => lawP1 s x) = false ∧ S' = ⟨[], 0⟩ ∧ env = [x, .str s, .int .u8 m, .int .i64 0, .bool false, .int .i64 i, u6, u7, u8, u9, u10]) (l.length) (by omega) (⟨0, _, _, _, _, _, by omega, by omega, by simp, rfl, rfl⟩) ?_
 rintro n env S' ⟨i, u6, u7, u8, u9, u10, hi, rfl, hany, rfl, rfl⟩
 refine cw_seq (cw_seq (cw_region ?_))
 refine ow_me rfl ?_
 refine ow_me rfl ?_
 refine ow_op (by simp only [zo, lenD_str, lenD_nils, lenD_sl, lenD_msl, hS.len, uRows_len, hmp] <;> exact rfl) ?_
 refine ow_op (by simp only [zo, binD, zb, Int.reduceEq, Int.reduceToNat, Int.reduceLT, hS.len, uRows_len, hmp] <;> exact rfl) ?_
 refine ow_nil ?_
 refine sk_n (by simp only [ze] <;> exact rfl) ?_
 refine cw_cond (by simp only [opd, zv, hS.len, uRows_len, hmp] <;> exact rfl) (fun hcA => ?_) (fun hcA => ?_)
 ·
  have hlt : i < l.length := by have := of_decide_eq_true hcA; omega
  have hw := wrap_nat i (by omega)
  have hia := fun (S : St) => hS.iaddrN S .i64 (uRows_at hlt)
  refine cw_skip (sk_n rfl (cw_seq (cw_block (cw_seq (cw_region ?_)))))
  refine ow_me rfl ?_
  refine ow_me rfl ?_
  refine ow_op (by simp only [zl, zm, iaddrD_sl, iaddrD_msl, Int.toNat_natCast, Int.toNat_zero, List.getElem?_map, Option.map_some, Int.le_refl, hS.len, uRows_len, hmp, hw, hia] <;> exact rfl) ?_
  refine ow_op (by simp only [zl, zm, zd, partD, List.take, List.drop, hS.len, uRows_len, hmp, hw, hia] <;> exact rfl) ?_
  refine ow_op (by simp only [zo, hS.len, uRows_len, hmp, hw, hia]; exact names_run (by omega) _ _ _ _ l[i].hf) ?_
  refine ow_me rfl ?_
  refine ow_op (by simp only [zo, hS.len, uRows_len, hmp, hw, hia]; exact has_run (by omega) _ (strsD_S _) _ (by have := names_few l[i].f; omega)) ?_
  refine ow_nil ?_
  refine sk_n (by simp only [ze] <;> exact rfl) ?_
  refine cw_cond (by simp only [opd, zv, hS.len, uRows_len, hmp, hw, hia] <;> exact rfl) (fun hcAT => ?_) (fun hcAT => ?_)
  ·
   refine cw_seq (cw_region ?_)
   refine ow_me rfl ?_
   refine ow_ml rfl ?_
   refine ow_mc ?_
   refine ow_nil ?_
   refine sk_n (by simp only [ze] <;> exact rfl) ?_
   refine cw_ret (bk_r (sk_r (lk_r (bk_r (sk_r ?_)))))
   refine ⟨_, by simp only [F11, resultD, resDs, resD, zg, zd, rowsOf, partD, List.take, List.drop, zm] <;> exact rfl, ?_⟩
   have h1 := idxI_lt (p := fun x => lawP1 s x) hlt hcAT hany
   have h2 := idxI_at (p := fun x => lawP1 s x) hlt hcAT hany
   have h3 : fitI l s m = (i : Int) := by rw [fitI, if_neg (fun h => h1 h.1)]; exact h2
   rw [h3, show max (i : Int) 0 = (i : Int) by omega, decide_eq_true (show (i : Int) ≥ 0 by omega)]; rfl
  ·
   refine cw_skip (bk_n (sk_n rfl (cw_region ?_)))
   refine ow_me rfl ?_
   refine ow_op (by simp only [zo, binD, zb, Int.reduceEq, Int.reduceToNat, Int.reduceLT, hS.len, uRows_len, hmp, hw, hia] <;> exact rfl) ?_
   refine ow_ml rfl ?_
   refine ow_nil ?_
   refine lk_n (by simp only [ze] <;> exact rfl) ?_
   exact ⟨l.length - (i + 1), by omega, i + 1, _, _, _, _, _, by omega, rfl, any_take_succ hlt hany hcAT, rfl, rfl⟩
 ·
  have hge : l.length ≤ i := by have := of_decide_eq_false hcA; omega
  rw [List.take_of_length_le hge] at hany
  refine cw_exit (sk_e (lk_e (bk_e (sk_n rfl (cw_seq (cw_seq (cw_region ?_)))))))
  refine ow_mc ?_
  refine ow_nil ?_
  refine sk_n (by simp only [ze] <;> exact rfl) ?_
  refine cw_block ?_
  refine cw_loop (fun n env S' => ∃ (k : Nat) (v5 v7 v8 v9 v10 : D), k ≤ l.length ∧ n = l.length - k ∧ ((l.take k).any fun x => lawQ m x) = false ∧ S' = ⟨[], 0⟩ ∧ env = [x, .str s, .int .u8 m, .int .i64 0, .bool false, v5, .int .i64 k, v7, v8, v9, v10]) (l.length) (by omega) (⟨0, _, _, _, _, _, by omega, by omega, by simp, rfl, rfl⟩) ?_
  rintro n env S' ⟨k, v5, v7, v8, v9, v10, hk, rfl, hanz, rfl, rfl⟩
  refine cw_seq (cw_seq (cw_region ?_))
  refine ow_me rfl ?_
  refine ow_me rfl ?_
  refine ow_op (by simp only [zo, lenD_str, lenD_nils, lenD_sl, lenD_msl, hS.len, uRows_len, hmp] <;> exact rfl) ?_
  refine ow_op (by simp only [zo, binD, zb, Int.reduceEq, Int.reduceToNat, Int.reduceLT, hS.len, uRows_len, hmp] <;> exact rfl) ?_
  refine ow_nil ?_
  refine sk_n (by simp only [ze] <;> exact rfl) ?_
  refine cw_cond (by simp only [opd, zv, hS.len, uRows_len, hmp] <;> exact rfl) (fun hcAFB => ?_) (fun hcAFB => ?_)
  ·
   have hlt2 : k < l.length := by have := of_decide_eq_true hcAFB; omega
   have hwk := wrap_nat k (by omega)
   have hia2 := fun (S : St) => hS.iaddrN S .i64 (uRows_at hlt2)
   refine cw_skip (sk_n rfl (cw_seq (cw_block (cw_seq (cw_region ?_)))))
   refine ow_me rfl ?_
   refine ow_op (by simp only [zo, binD, zb, Int.reduceEq, Int.reduceToNat, Int.reduceLT, hS.len, uRows_len, hmp, hwk, hia2] <;> exact rfl) ?_
   refine ow_ml rfl ?_
   refine ow_know 0 (b := true) (by simp only [opd, zv, hS.len, uRows_len, hmp, hwk, hia2] <;> rfl) (by simp only [zn] <;> exact rfl) ?_
   refine ow_on rfl ?_
   refine ow_me rfl ?_
   refine ow_on rfl ?_
   refine ow_me rfl ?_
   refine ow_on rfl ?_
   refine ow_op (by simp only [zl, zm, iaddrD_sl, iaddrD_msl, Int.toNat_natCast, Int.toNat_zero, List.getElem?_map, Option.map_some, Int.le_refl, hS.len, uRows_len, hmp, hwk, hia2] <;> exact rfl) ?_
   refine ow_on rfl ?_
   refine ow_op (by simp only [zl, zm, zd, partD, List.take, List.drop, hS.len, uRows_len, hmp, hwk, hia2] <;> exact rfl) ?_
   refine ow_on rfl ?_
   refine ow_op (by simp only [zo, hS.len, uRows_len, hmp, hwk, hia2]; exact mode_run (by omega) _ _ _ _ l[k].hf) ?_
   refine ow_on rfl ?_
   refine ow_me rfl ?_
   refine ow_on rfl ?_
   refine ow_op (by simp only [zo, binD, zb, Int.reduceEq, Int.reduceToNat, Int.reduceLT, hS.len, uRows_len, hmp, hwk, hia2] <;> exact rfl) ?_
   refine ow_op (by simp only [zo, hS.len, uRows_len, hmp, hwk, hia2] <;> exact rfl) ?_
   refine ow_nil ?_
   refine sk_n (by simp only [ze] <;> exact rfl) ?_
   refine cw_cond (by simp only [opd, zv, hS.len, uRows_len, hmp, hwk, hia2] <;> exact rfl) (fun hcAFBT => ?_) (fun hcAFBT => ?_)
   ·
    refine cw_seq (cw_region ?_)
    refine ow_me rfl ?_
    refine ow_ml rfl ?_
    refine ow_mc ?_
    refine ow_nil ?_
    refine sk_n (by simp only [ze] <;> exact rfl) ?_
    refine cw_ret (bk_r (sk_r (lk_r (bk_r (sk_r ?_)))))
    refine ⟨_, by simp only [F11, resultD, resDs, resD, zg, zd, rowsOf, partD, List.take, List.drop, zm] <;> exact rfl, ?_⟩
    have h1 : idxI (lawP1 s) l = -1 := idxI_none hany
    have h2 := idxI_at (p := fun x => lawQ m x) hlt2 hcAFBT hanz
    have h3 : fitI l s m = (k : Int) := by rw [fitI, h1, if_pos ⟨by decide, hm0⟩]; exact h2
    rw [h3, show max (k : Int) 0 = (k : Int) by omega, decide_eq_true (show (k : Int) ≥ 0 by omega)]; rfl
   ·
    refine cw_skip (bk_n (sk_n rfl (cw_region ?_)))
    refine ow_me rfl ?_
    refine ow_op (by simp only [zo, binD, zb, Int.reduceEq, Int.reduceToNat, Int.reduceLT, hS.len, uRows_len, hmp, hwk, hia2] <;> exact rfl) ?_
    refine ow_ml rfl ?_
    refine ow_nil ?_
    refine lk_n (by simp only [ze] <;> exact rfl) ?_
    exact ⟨l.length - (k + 1), by omega, k + 1, _, _, _, _, _, by omega, rfl, any_take_succ hlt2 hanz hcAFBT, rfl, rfl⟩
  ·
   have hge2 : l.length ≤ k := by have := of_decide_eq_false hcAFB; omega
   rw [List.take_of_length_le hge2] at hanz
   refine cw_exit (sk_e (lk_e (bk_e (sk_n rfl (cw_seq (cw_region ?_))))))
   refine ow_mc ?_
   refine ow_mc ?_
   refine ow_nil ?_
   refine sk_n (by simp only [ze] <;> exact rfl) ?_
   refine cw_ret ?_
   refine ⟨_, by simp only [F11, resultD, resDs, resD, zg, zd, rowsOf, partD, List.take, List.drop, zm] <;> exact rfl, ?_⟩
   have h1 : idxI (lawP1 s) l = -1 := idxI_none hany
   have h3 : fitI l s m = -1 := by
    rw [fitI, h1]
    rw [if_pos ⟨by decide, hm0⟩]; exact idxI_none hanz
   rw [h3]; rfl

theorem fits_run {d : Nat} (hd : 4 ≤ d) (S : St) {x : D} {l : List Uu} (hS : SlD 3 (uRows l) x) (hl : l.length ≤ 6) (s : ByteArray) (m : Nat) : runF LP NN d 11 [x, .str s, .int .u8 m] S = some (.tup [.int .i64 (max (fitI l s m) 0), .bool (decide (fitI l s m ≥ 0))], S, false) := by
 by_cases h : m = 0
 ·
  exact fits_z hd S hS hl s m h
 ·
  exact fits_p hd S hS hl s m h
/-- the replies that are compared -/
def rpS (s : ByteArray) : List D := [.bool true, .sl 1 [[.str s], [.str s]] (some 2), .str ⟨#[]⟩, .bool false, .int .i64 0]
def allR : List (List D) := [[.bool true, .nils, .str ⟨#[]⟩, .bool false, .int .i64 0], [.bool false, .nils, .str ⟨#[]⟩, .bool false, .int .i64 0], [.bool true, .nils, .str ⟨#[65, 84, 32, 69, 78, 68]⟩, .bool false, .int .i64 0], [.bool true, .nils, .str ⟨#[]⟩, .bool false, .int .i64 6], [.bool true, .nils, .str ⟨#[]⟩, .bool false, .int .i64 9]] ++ (List.range 6).map fun i => rpS (secF i)
theorem same_tab (d : Nat) (S : St) : allR.map (fun c => runF LP NN (d + 1) 9 [.agg c, .agg c] S) = allR.map fun _ => some (.bool true, S, false) := by kernel_rfl
theorem same_run {d : Nat} (hd : 1 ≤ d) (S : St) {c : List D} (hc : c ∈ allR) : runF LP NN d 9 [.agg c, .agg c] S = some (.bool true, S, false) := by
 obtain ⟨d, rfl⟩ : ∃ d', d = d' + 1 := ⟨d - 1, by omega⟩
 exact List.map_inj_left.1 (same_tab d S) c hc
theorem nilDo_run {d : Nat} (hd : 1 ≤ d) (S : St) : runF LP NN d 8 [.nilp, .nilp, .agg [.str ⟨#[82, 69, 65, 68]⟩, .int .i64 0, .int .i64 0, .nils, .nils], .int .i64 0] S = some (.agg [.bool false, .nils, .str ⟨#[]⟩, .bool false, .int .i64 0], S, false) := by
 obtain ⟨d, rfl⟩ : ∃ d', d = d' + 1 := ⟨d - 1, by omega⟩
 kernel_rfl
theorem nilPerf_run {d : Nat} (hd : 1 ≤ d) (S : St) : runF LP NN d 13 [.nilp] S = some (.nils, S, false) := by
 obtain ⟨d, rfl⟩ : ∃ d', d = d' + 1 := ⟨d - 1, by omega⟩
 kernel_rfl

theorem odo_run {d : Nat} (hd : 1 ≤ d) (S : St) {vb : ByteArray} {px : D} {pr : List (List D)} (hP : SlD 2 pr px) : runF LP NN d 64 [.agg [], .nilp, .agg [.str vb, .int .i64 0, .int .i64 0, px, .nils], .int .i64 0] S = some (.agg [.bool true, .nils, .str ⟨#[]⟩, .bool false, .int .i64 9], S, false) := by
 refine run_pure (F := F64) rfl (by simp only [LP, fnOf, snapVs, snaps, zs, zm, zv, hP.snap, hP.snapV, hP.freeV, hP.free] <;> exact rfl) rfl (by simp only [LP, zf, zm, hP.snap, hP.snapV, hP.freeV, hP.free]; try rfl) (by simp only [F64, zv] <;> exact rfl) (by omega) ?_
 rintro d rfl
 have zz15 := And.intro hP.free (And.intro hP.isCell (And.intro hP.val (hP.cells)))
 refine cw_seq (cw_region ?_)
 refine ow_op (by simp only [opd, zv, exOp, LOp.loud, aop, lop, if_true, zm, zc, zf, beq_self_eq_true, Bool.and_self, Bool.and_true, Bool.true_and, List.all_cons, List.all_nil, Nat.reduceBEq, Nat.reduceAdd, zz15] <;> exact rfl) ?_
 refine ow_op (by simp only [opd, zv, exOp, LOp.loud, aop, lop, if_true, zm, zc, zf, beq_self_eq_true, Bool.and_self, Bool.and_true, Bool.true_and, List.all_cons, List.all_nil, Nat.reduceBEq, Nat.reduceAdd, zz15] <;> exact rfl) ?_
 refine ow_op (by simp only [zl, zm, zz15] <;> exact rfl) ?_
 refine ow_nil ?_
 refine sk_n (by simp only [ze] <;> exact rfl) ?_
 refine cw_seq (cw_region ?_)
 refine ow_op (by simp only [zo, fillD, overlay, zc, List.take, List.drop, Nat.reduceAdd, Nat.reduceLeDiff, Nat.reduceBEq, zm, zz15] <;> exact rfl) ?_
 refine ow_op (by simp only [zl, zm, storeD, overlay, snapVs, snaps, zs, zc, zf, List.take, List.drop, zz15] <;> exact rfl) ?_
 refine ow_nil ?_
 refine sk_n (by simp only [ze] <;> exact rfl) ?_
 refine cw_ret ?_
 refine ⟨_, by simp only [F64, resultD, resDs, resD, zg, zd, rowsOf, partD, List.take, List.drop, zm] <;> exact rfl, ?_⟩
 simp only [leaveP, leave, snapVs, snaps, zs, zf, zk]

end Go.Proofs.YtcogjcplldpkaaaGreat

namespace Go.Proofs.YtcogjcplldpkaaaGreat
set_option linter.unusedSimpArgs false
set_option linter.unusedVariables false
set_option maxRecDepth 10000

def verbN (k : Nat) : ByteArray := ([⟨#[79, 80, 69, 78]⟩, ⟨#[67, 76, 79, 83, 69]⟩, ⟨#[82, 69, 65, 68]⟩, ⟨#[87, 82, 73, 84, 69]⟩, ⟨#[82, 69, 87, 82, 73, 84, 69]⟩, ⟨#[68, 69, 76, 69, 84, 69]⟩, ⟨#[83, 84, 65, 82, 84]⟩, ⟨#[68, 73, 83, 80, 76, 65, 89]⟩] : List ByteArray).getD k ⟨#[]⟩
def wordN (k : Nat) : ByteArray := ([⟨#[73, 78, 80, 85, 84]⟩, ⟨#[79, 85, 84, 80, 85, 84]⟩, ⟨#[73, 45, 79]⟩, ⟨#[69, 88, 84, 69, 78, 68]⟩] : List ByteArray).getD k ⟨#[]⟩
theorem verb_at (k : Nat) (h : k < 8) : ([[D.str ⟨#[79, 80, 69, 78]⟩], [D.str ⟨#[67, 76, 79, 83, 69]⟩], [D.str ⟨#[82, 69, 65, 68]⟩], [D.str ⟨#[87, 82, 73, 84, 69]⟩], [D.str ⟨#[82, 69, 87, 82, 73, 84, 69]⟩], [D.str ⟨#[68, 69, 76, 69, 84, 69]⟩], [D.str ⟨#[83, 84, 65, 82, 84]⟩], [D.str ⟨#[68, 73, 83, 80, 76, 65, 89]⟩]] : List (List D))[k]? = some [.str (verbN k)] := by
 match k, h with
 | 0, _ => rfl
 | 1, _ => rfl
 | 2, _ => rfl
 | 3, _ => rfl
 | 4, _ => rfl
 | 5, _ => rfl
 | 6, _ => rfl
 | 7, _ => rfl
theorem word_at (k : Nat) (h : k < 4) : ([[D.str ⟨#[73, 78, 80, 85, 84]⟩], [D.str ⟨#[79, 85, 84, 80, 85, 84]⟩], [D.str ⟨#[73, 45, 79]⟩], [D.str ⟨#[69, 88, 84, 69, 78, 68]⟩]] : List (List D))[k]? = some [.str (wordN k)] := by
 match k, h with
 | 0, _ => rfl
 | 1, _ => rfl
 | 2, _ => rfl
 | 3, _ => rfl
theorem verb_open (k : Nat) (h : k < 8) (h0 : k ≠ 0) : ((verbN k).toList == (⟨#[79, 80, 69, 78]⟩ : ByteArray).toList) = false := by
 match k, h, h0 with
 | 1, _, _ => decide +kernel
 | 2, _, _ => decide +kernel
 | 3, _, _ => decide +kernel
 | 4, _, _ => decide +kernel
 | 5, _, _ => decide +kernel
 | 6, _, _ => decide +kernel
 | 7, _, _ => decide +kernel
/-- the phrases of a statement -/
def ph0 : D := .sl 2 [[.str ⟨#[]⟩, .nils]] (some 1)
def phR (k : Nat) (name : ByteArray) : List (List D) := [[.str ⟨#[]⟩, .nils], [.str (wordN k), .sl 5 [[.int .u8 1, .str ⟨#[70, 88]⟩, .int .i64 0, .int .i64 0, .bool false], [.int .u8 1, .str name, .int .i64 0, .int .i64 0, .bool false]] (some 2)]]
def ph1 (k : Nat) (name : ByteArray) : D := .sl 2 (phR k name) none

theorem stmt_other {d : Nat} (hd : 1 ≤ d) (S : St) (vb fi mo how : Nat) (name : ByteArray) (h0 : vb % 8 ≠ 0) : runF LP NN d 10 [.agg [.int .u8 vb, .int .u8 fi, .int .u8 mo, .int .u8 how], .str name] S = some (.agg [.str (verbN (vb % 8)), .int .i64 0, .int .i64 0, ph0, .nils], S, false) := by
 have hm8 : (vb : Int).tmod 8 = ((vb % 8 : Nat) : Int) := tmod_nat vb 8
 have hix := verb_at (vb % 8) (by omega)
 have hop := verb_open (vb % 8) (by omega) h0
 refine run_pure (F := F10) rfl (by simp only [LP, fnOf, snapVs, snaps, zs, zm, zv] <;> exact rfl) rfl (by simp only [LP, zf, zm]; try rfl) (by simp only [F10, zv] <;> exact rfl) (by omega) ?_
 rintro d rfl
 refine cw_seq (cw_region ?_)
 refine ow_op (by simp only [opd, zv, exOp, LOp.loud, aop, lop, if_true, zm, zc, zf, beq_self_eq_true, Bool.and_self, Bool.and_true, Bool.true_and, List.all_cons, List.all_nil, Nat.reduceBEq, Nat.reduceAdd, hm8, hix, hop, Int.natCast_nonneg] <;> exact rfl) ?_
 refine ow_op (by simp only [zl, zm, hm8, hix, hop, Int.natCast_nonneg] <;> exact rfl) ?_
 refine ow_nil ?_
 refine sk_n (by simp only [ze] <;> exact rfl) ?_
 refine cw_seq (cw_region ?_)
 refine ow_op (by simp only [zl, zm, fillRows, List.replicate, snapVs, snaps, zs, zc, zf, hm8, hix, hop, Int.natCast_nonneg] <;> exact rfl) ?_
 refine ow_op (by simp only [zo, faddrD_ptr, faddrD_cptr, zm, hm8, hix, hop, Int.natCast_nonneg] <;> exact rfl) ?_
 refine ow_op (by simp only [zl, zm, zd, partD, List.take, List.drop, hm8, hix, hop, Int.natCast_nonneg] <;> exact rfl) ?_
 refine ow_op (by simp only [zo, binD, zb, Int.reduceEq, Int.reduceToNat, Int.reduceLT, hm8, hix, hop, Int.natCast_nonneg] <;> exact rfl) ?_
 refine ow_op (by simp only [zl, zm, iaddrD_sl, iaddrD_msl, Int.toNat_natCast, Int.toNat_zero, List.getElem?_map, Option.map_some, Int.le_refl, hm8, hix, hop, Int.natCast_nonneg] <;> exact rfl) ?_
 refine ow_op (by simp only [zl, zm, zd, partD, List.take, List.drop, hm8, hix, hop, Int.natCast_nonneg] <;> exact rfl) ?_
 refine ow_ml rfl ?_
 refine ow_nil ?_
 refine sk_n (by simp only [ze] <;> exact rfl) ?_
 refine cw_seq (cw_region ?_)
 refine ow_me rfl ?_
 refine ow_op (by simp only [zo, fillD, overlay, zc, List.take, List.drop, Nat.reduceAdd, Nat.reduceLeDiff, Nat.reduceBEq, zm, hm8, hix, hop, Int.natCast_nonneg] <;> exact rfl) ?_
 refine ow_op (by simp only [zl, zm, fillRows, List.replicate, snapVs, snaps, zs, zc, zf, hm8, hix, hop, Int.natCast_nonneg] <;> exact rfl) ?_
 refine ow_op (by simp only [zo, fillD, overlay, zc, List.take, List.drop, Nat.reduceAdd, Nat.reduceLeDiff, Nat.reduceBEq, zm, hm8, hix, hop, Int.natCast_nonneg] <;> exact rfl) ?_
 refine ow_op (by simp only [zl, zm, hm8, hix, hop, Int.natCast_nonneg] <;> exact rfl) ?_
 refine ow_op (by simp only [zl, zm, storeD, overlay, snapVs, snaps, zs, zc, zf, List.take, List.drop, hm8, hix, hop, Int.natCast_nonneg] <;> exact rfl) ?_
 refine ow_nil ?_
 refine sk_n (by simp only [ze] <;> exact rfl) ?_
 refine cw_seq (cw_seq (cw_region ?_))
 refine ow_me rfl ?_
 refine ow_op (by simp only [zo, binD, zb, Int.reduceEq, Int.reduceToNat, Int.reduceLT, hm8, hix, hop, Int.natCast_nonneg] <;> exact rfl) ?_
 refine ow_nil ?_
 refine sk_n (by simp only [ze] <;> exact rfl) ?_
 skip
 refine cw_false (by simp only [opd, zv, hm8, hix, hop, Int.natCast_nonneg] <;> rfl) ?_
 refine cw_skip (sk_n rfl (cw_seq (cw_region ?_)))
 refine ow_op (by simp only [zl, zm, zd, partD, List.take, List.drop, hm8, hix, hop, Int.natCast_nonneg] <;> exact rfl) ?_
 refine ow_op (by simp only [zl, zm, storeD, overlay, snapVs, snaps, zs, zc, zf, List.take, List.drop, hm8, hix, hop, Int.natCast_nonneg] <;> exact rfl) ?_
 refine ow_nil ?_
 refine sk_n (by simp only [ze] <;> exact rfl) ?_
 refine cw_ret ?_
 refine ⟨_, by simp only [F10, resultD, resDs, resD, zg, zd, rowsOf, partD, List.take, List.drop, zm] <;> exact rfl, ?_⟩
 simp only [leaveP, leave, snapVs, snaps, zs, zf, zk]
 rfl

theorem stmt_open {d : Nat} (hd : 1 ≤ d) (S : St) (vb fi mo how : Nat) (name : ByteArray) (h0 : vb % 8 = 0) : runF LP NN d 10 [.agg [.int .u8 vb, .int .u8 fi, .int .u8 mo, .int .u8 how], .str name] S = some (.agg [.str (verbN 0), .int .i64 0, .int .i64 0, ph1 (mo % 4) name, .nils], S, false) := by
 have hm8 : (vb : Int).tmod 8 = 0 := by have h := tmod_nat vb 8; rw [h0] at h; exact h
 have hm4 : (mo : Int).tmod 4 = ((mo % 4 : Nat) : Int) := tmod_nat mo 4
 have hix := word_at (mo % 4) (by omega)
 refine run_pure (F := F10) rfl (by simp only [LP, fnOf, snapVs, snaps, zs, zm, zv] <;> exact rfl) rfl (by simp only [LP, zf, zm]; try rfl) (by simp only [F10, zv] <;> exact rfl) (by omega) ?_
 rintro d rfl
 have zz16 := And.intro hm8 (And.intro hm4 (And.intro hix (@beq_self_eq_true.{0})))
 refine cw_seq (cw_region ?_)
 refine ow_op (by simp only [opd, zv, exOp, LOp.loud, aop, lop, if_true, zm, zc, zf, beq_self_eq_true, Bool.and_self, Bool.and_true, Bool.true_and, List.all_cons, List.all_nil, Nat.reduceBEq, Nat.reduceAdd, Nat.one_ne_zero, true_or, true_and, Int.natCast_nonneg, Int.toNat_zero, Nat.reduceAdd, Nat.reduceMul, Nat.reduceLeDiff, zz16] <;> exact rfl) ?_
 refine ow_op (by simp only [zl, zm, Nat.one_ne_zero, true_or, true_and, Int.natCast_nonneg, Int.toNat_zero, Nat.reduceAdd, Nat.reduceMul, Nat.reduceLeDiff, zz16] <;> exact rfl) ?_
 refine ow_nil ?_
 refine sk_n (by simp only [ze] <;> exact rfl) ?_
 refine cw_seq (cw_region ?_)
 refine ow_op (by simp only [zl, zm, fillRows, List.replicate, snapVs, snaps, zs, zc, zf, Nat.one_ne_zero, true_or, true_and, Int.natCast_nonneg, Int.toNat_zero, Nat.reduceAdd, Nat.reduceMul, Nat.reduceLeDiff, zz16] <;> exact rfl) ?_
 refine ow_op (by simp only [zo, faddrD_ptr, faddrD_cptr, zm, Nat.one_ne_zero, true_or, true_and, Int.natCast_nonneg, Int.toNat_zero, Nat.reduceAdd, Nat.reduceMul, Nat.reduceLeDiff, zz16] <;> exact rfl) ?_
 refine ow_op (by simp only [zl, zm, zd, partD, List.take, List.drop, Nat.one_ne_zero, true_or, true_and, Int.natCast_nonneg, Int.toNat_zero, Nat.reduceAdd, Nat.reduceMul, Nat.reduceLeDiff, zz16] <;> exact rfl) ?_
 refine ow_op (by simp only [zo, binD, zb, Int.reduceEq, Int.reduceToNat, Int.reduceLT, Nat.one_ne_zero, true_or, true_and, Int.natCast_nonneg, Int.toNat_zero, Nat.reduceAdd, Nat.reduceMul, Nat.reduceLeDiff, zz16] <;> exact rfl) ?_
 refine ow_op (by simp only [zl, zm, iaddrD_sl, iaddrD_msl, Int.toNat_natCast, Int.toNat_zero, List.getElem?_map, Option.map_some, Int.le_refl, Nat.one_ne_zero, true_or, true_and, Int.natCast_nonneg, Int.toNat_zero, Nat.reduceAdd, Nat.reduceMul, Nat.reduceLeDiff, zz16] <;> exact rfl) ?_
 refine ow_op (by simp only [zl, zm, zd, partD, List.take, List.drop, Nat.one_ne_zero, true_or, true_and, Int.natCast_nonneg, Int.toNat_zero, Nat.reduceAdd, Nat.reduceMul, Nat.reduceLeDiff, zz16] <;> exact rfl) ?_
 refine ow_ml rfl ?_
 refine ow_nil ?_
 refine sk_n (by simp only [ze] <;> exact rfl) ?_
 refine cw_seq (cw_region ?_)
 refine ow_me rfl ?_
 refine ow_op (by simp only [zo, fillD, overlay, zc, List.take, List.drop, Nat.reduceAdd, Nat.reduceLeDiff, Nat.reduceBEq, zm, Nat.one_ne_zero, true_or, true_and, Int.natCast_nonneg, Int.toNat_zero, Nat.reduceAdd, Nat.reduceMul, Nat.reduceLeDiff, zz16] <;> exact rfl) ?_
 refine ow_op (by simp only [zl, zm, fillRows, List.replicate, snapVs, snaps, zs, zc, zf, Nat.one_ne_zero, true_or, true_and, Int.natCast_nonneg, Int.toNat_zero, Nat.reduceAdd, Nat.reduceMul, Nat.reduceLeDiff, zz16] <;> exact rfl) ?_
 refine ow_op (by simp only [zo, fillD, overlay, zc, List.take, List.drop, Nat.reduceAdd, Nat.reduceLeDiff, Nat.reduceBEq, zm, Nat.one_ne_zero, true_or, true_and, Int.natCast_nonneg, Int.toNat_zero, Nat.reduceAdd, Nat.reduceMul, Nat.reduceLeDiff, zz16] <;> exact rfl) ?_
 refine ow_op (by simp only [zl, zm, Nat.one_ne_zero, true_or, true_and, Int.natCast_nonneg, Int.toNat_zero, Nat.reduceAdd, Nat.reduceMul, Nat.reduceLeDiff, zz16] <;> exact rfl) ?_
 refine ow_op (by simp only [zl, zm, storeD, overlay, snapVs, snaps, zs, zc, zf, List.take, List.drop, Nat.one_ne_zero, true_or, true_and, Int.natCast_nonneg, Int.toNat_zero, Nat.reduceAdd, Nat.reduceMul, Nat.reduceLeDiff, zz16] <;> exact rfl) ?_
 refine ow_nil ?_
 refine sk_n (by simp only [ze] <;> exact rfl) ?_
 refine cw_seq (cw_seq (cw_region ?_))
 refine ow_me rfl ?_
 refine ow_op (by simp only [zo, binD, zb, Int.reduceEq, Int.reduceToNat, Int.reduceLT, Nat.one_ne_zero, true_or, true_and, Int.natCast_nonneg, Int.toNat_zero, Nat.reduceAdd, Nat.reduceMul, Nat.reduceLeDiff, zz16] <;> exact rfl) ?_
 refine ow_nil ?_
 refine sk_n (by simp only [ze] <;> exact rfl) ?_
 skip
 refine cw_true (by simp only [opd, zv, Nat.one_ne_zero, true_or, true_and, Int.natCast_nonneg, Int.toNat_zero, Nat.reduceAdd, Nat.reduceMul, Nat.reduceLeDiff, zz16] <;> rfl) ?_
 refine cw_drawn (by simp only [newsVals, zw, Nat.reduceAdd] <;> exact rfl) (by simp only [zw, newsObj, St.eta] <;> exact rfl) ?_
 refine dw_quiet (by simp only [zo, faddrD_ptr, faddrD_cptr, zm, Nat.one_ne_zero, true_or, true_and, Int.natCast_nonneg, Int.toNat_zero, Nat.reduceAdd, Nat.reduceMul, Nat.reduceLeDiff, zz16] <;> exact rfl) rfl rfl ?_
 refine dw_op (by simp only [zl, zm, zd, partD, List.take, List.drop, Nat.one_ne_zero, true_or, true_and, Int.natCast_nonneg, Int.toNat_zero, Nat.reduceAdd, Nat.reduceMul, Nat.reduceLeDiff, zz16] <;> exact rfl) (by simp only [fpHere, zo, zq] <;> exact rfl) rfl ?_
 refine dw_op (by simp only [zl, zm, fillRows, List.replicate, snapVs, snaps, zs, zc, zf, Nat.one_ne_zero, true_or, true_and, Int.natCast_nonneg, Int.toNat_zero, Nat.reduceAdd, Nat.reduceMul, Nat.reduceLeDiff, zz16] <;> exact rfl) (by simp only [fpHere, zo, zq] <;> exact rfl) rfl ?_
 refine dw_quiet (by simp only [zo, faddrD_ptr, faddrD_cptr, zm, Nat.one_ne_zero, true_or, true_and, Int.natCast_nonneg, Int.toNat_zero, Nat.reduceAdd, Nat.reduceMul, Nat.reduceLeDiff, zz16] <;> exact rfl) rfl rfl ?_
 refine dw_op (by simp only [zl, zm, zd, partD, List.take, List.drop, Nat.one_ne_zero, true_or, true_and, Int.natCast_nonneg, Int.toNat_zero, Nat.reduceAdd, Nat.reduceMul, Nat.reduceLeDiff, zz16] <;> exact rfl) (by simp only [fpHere, zo, zq] <;> exact rfl) rfl ?_
 refine dw_quiet (by simp only [zo, binD, zb, Int.reduceEq, Int.reduceToNat, Int.reduceLT, Nat.one_ne_zero, true_or, true_and, Int.natCast_nonneg, Int.toNat_zero, Nat.reduceAdd, Nat.reduceMul, Nat.reduceLeDiff, zz16] <;> exact rfl) rfl rfl ?_
 refine dw_op (by simp only [zl, zm, iaddrD_sl, iaddrD_msl, Int.toNat_natCast, Int.toNat_zero, List.getElem?_map, Option.map_some, Int.le_refl, Nat.one_ne_zero, true_or, true_and, Int.natCast_nonneg, Int.toNat_zero, Nat.reduceAdd, Nat.reduceMul, Nat.reduceLeDiff, zz16] <;> exact rfl) (by simp only [fpHere, zo, zq] <;> exact rfl) rfl ?_
 refine dw_op (by simp only [zl, zm, zd, partD, List.take, List.drop, Nat.one_ne_zero, true_or, true_and, Int.natCast_nonneg, Int.toNat_zero, Nat.reduceAdd, Nat.reduceMul, Nat.reduceLeDiff, zz16] <;> exact rfl) (by simp only [fpHere, zo, zq] <;> exact rfl) rfl ?_
 refine dw_quiet (by simp only [zo, fillD, overlay, zc, List.take, List.drop, Nat.reduceAdd, Nat.reduceLeDiff, Nat.reduceBEq, zm, Nat.one_ne_zero, true_or, true_and, Int.natCast_nonneg, Int.toNat_zero, Nat.reduceAdd, Nat.reduceMul, Nat.reduceLeDiff, zz16] <;> exact rfl) rfl rfl ?_
 refine dw_me rfl rfl ?_
 refine dw_quiet (by simp only [zo, fillD, overlay, zc, List.take, List.drop, Nat.reduceAdd, Nat.reduceLeDiff, Nat.reduceBEq, zm, Nat.one_ne_zero, true_or, true_and, Int.natCast_nonneg, Int.toNat_zero, Nat.reduceAdd, Nat.reduceMul, Nat.reduceLeDiff, zz16] <;> exact rfl) rfl rfl ?_
 refine dw_op (by simp only [zl, zm, fillRows, List.replicate, snapVs, snaps, zs, zc, zf, Nat.one_ne_zero, true_or, true_and, Int.natCast_nonneg, Int.toNat_zero, Nat.reduceAdd, Nat.reduceMul, Nat.reduceLeDiff, zz16] <;> exact rfl) (by simp only [fpHere, zo, zq] <;> exact rfl) rfl ?_
 refine dw_quiet (by simp only [zo, fillD, overlay, zc, List.take, List.drop, Nat.reduceAdd, Nat.reduceLeDiff, Nat.reduceBEq, zm, Nat.one_ne_zero, true_or, true_and, Int.natCast_nonneg, Int.toNat_zero, Nat.reduceAdd, Nat.reduceMul, Nat.reduceLeDiff, zz16] <;> exact rfl) rfl rfl ?_
 refine dw_op (by simp only [zl, zm, fillRows, List.replicate, snapVs, snaps, zs, zc, zf, Nat.one_ne_zero, true_or, true_and, Int.natCast_nonneg, Int.toNat_zero, Nat.reduceAdd, Nat.reduceMul, Nat.reduceLeDiff, zz16] <;> exact rfl) (by simp only [fpHere, zo, zq] <;> exact rfl) rfl ?_
 refine dw_op (by simp only [zl, zm, appendD, appendRows, readRows_nils, readRows_sl, readRows_msl, List.isEmpty_cons, List.isEmpty_nil, reduceIte, Nat.one_ne_zero, true_or, true_and, Int.natCast_nonneg, Int.toNat_zero, Nat.reduceAdd, Nat.reduceMul, Nat.reduceLeDiff, zz16] <;> exact rfl) (by simp only [fpHere, zo, zq]; exact fpApp_eta _ _ _ _) (okHere_nil rfl) ?_
 refine dw_quiet (by simp only [zo, faddrD_ptr, faddrD_cptr, zm, Nat.one_ne_zero, true_or, true_and, Int.natCast_nonneg, Int.toNat_zero, Nat.reduceAdd, Nat.reduceMul, Nat.reduceLeDiff, zz16] <;> exact rfl) rfl rfl ?_
 refine dw_op (by simp only [zl, zm, storeD, overlay, snapVs, snaps, zs, zc, zf, List.take, List.drop, Nat.one_ne_zero, true_or, true_and, Int.natCast_nonneg, Int.toNat_zero, Nat.reduceAdd, Nat.reduceMul, Nat.reduceLeDiff, zz16] <;> exact rfl) (by simp only [fpHere, zo, zq] <;> exact rfl) rfl ?_
 refine dw_nil ?_
 refine sk_n (by simp only [ze] <;> exact rfl) ?_
 refine cw_seq (cw_region ?_)
 refine ow_op (by simp only [zl, zm, zd, partD, List.take, List.drop, Nat.one_ne_zero, true_or, true_and, Int.natCast_nonneg, Int.toNat_zero, Nat.reduceAdd, Nat.reduceMul, Nat.reduceLeDiff, zz16] <;> exact rfl) ?_
 refine ow_op (by simp only [zl, zm, storeD, overlay, snapVs, snaps, zs, zc, zf, List.take, List.drop, Nat.one_ne_zero, true_or, true_and, Int.natCast_nonneg, Int.toNat_zero, Nat.reduceAdd, Nat.reduceMul, Nat.reduceLeDiff, zz16] <;> exact rfl) ?_
 refine ow_nil ?_
 refine sk_n (by simp only [ze] <;> exact rfl) ?_
 refine cw_ret ?_
 refine ⟨_, by simp only [F10, resultD, resDs, resD, zg, zd, rowsOf, partD, List.take, List.drop, zm] <;> exact rfl, ?_⟩
 simp only [leaveP, leave, snapVs, snaps, zs, zf, zk]
 rfl

end Go.Proofs.YtcogjcplldpkaaaGreat

namespace Go.Proofs.YtcogjcplldpkaaaGreat
set_option linter.unusedSimpArgs false
set_option linter.unusedVariables false
set_option maxRecDepth 10000

/-- rows that are appended to, in a known object -/
def AppI (e : TypeId) (sz : Nat) (rows : List (List D)) (H : List AObj) (x : D) (g : Option Nat) : Prop :=
 (rows = [] ∧ x = .nils ∧ g = none) ∨ (rows ≠ [] ∧ ∃ k v, g = some k ∧ x = .msl k v 0 rows.length none ∧ H[k]? = some ⟨e, sz, rows, v, 1, true⟩)
section
variable {e : TypeId} {sz : Nat} {rows : List (List D)} {H : List AObj} {x : D} {g : Option Nat}
theorem AppI.nil (e : TypeId) (sz : Nat) (H : List AObj) : AppI e sz [] H .nils none := .inl ⟨rfl, rfl, rfl⟩
theorem AppI.at (h : AppI e sz rows H x g) : AppAt e sz rows H x := by
 rcases h with ⟨h1, h2, _⟩ | ⟨h0, k, v, _, h1, h2⟩
 ·
  exact .inl ⟨h1, h2⟩
 ·
  exact .inr ⟨h0, k, v, h1, h2⟩
theorem AppI.lt (h : AppI e sz rows H x g) : ∀ k, g = some k → k < H.length := by
 rcases h with ⟨h1, h2, h3⟩ | ⟨h0, k, v, h3, h1, h2⟩
 ·
  intro k hk; rw [h3] at hk; simp at hk
 ·
  intro k' hk; rw [h3] at hk; simp at hk; subst hk; exact lt_of h2
theorem AppI.keep {H' : List AObj} (h : AppI e sz rows H x g) (hk : ∀ (k : Nat) (o : AObj), g = some k → H[k]? = some o → H'[k]? = some o) : AppI e sz rows H' x g := by
 rcases h with h | ⟨h0, k, v, h3, h1, h2⟩
 ·
  exact .inl h
 ·
  exact .inr ⟨h0, k, v, h3, h1, hk k _ h3 h2⟩
theorem AppI.push (h : AppI e sz rows H x g) (l : List AObj) : AppI e sz rows (H ++ l) x g := h.keep fun k o _ ho => get_app ho l
theorem AppI.ne (h : AppI e sz rows H x g) {k : Nat} {o : AObj} (hk : H[k]? = some o) (h0 : o.kind ≠ 1) : g ≠ some k := by
 rcases h with ⟨h1, h2, h3⟩ | ⟨h0', k', v, h3, h1, h2⟩
 ·
  rw [h3]; simp
 ·
  rw [h3]; intro hh; simp at hh; subst hh; rw [h2] at hk; simp at hk; subst hk; simp at h0
theorem AppI.put (h : AppI e sz rows H x g) {k : Nat} {o : AObj} (hk : H[k]? = some o) (h0 : o.kind ≠ 1) (n : AObj) : AppI e sz rows (H.set k n) x g :=
 h.keep fun k' o' he ho => get_set_ne ho (fun hh => h.ne hk h0 (by rw [he, hh])) n
def appLow (g : Option Nat) (lo : Nat) : Nat := match g with | none => lo | some k => min lo k
theorem appLow_le (g : Option Nat) (lo : Nat) : appLow g lo ≤ lo := by cases g <;> simp only [appLow] <;> omega
theorem AppI.app (h : AppI e sz rows H x g) (bytes : Nat) {new : List (List D)} {c : Option Nat} (hn : new.isEmpty = false) (hb : (rows.length + new.length) * bytes ≤ 140737488355328) :
  ∃ x' H' k', (∀ lo, appendD e sz bytes 1 x (.sl sz new c) ⟨H, lo⟩ = some (x', ⟨H', appLow g lo⟩, true)) ∧ AppI e sz (rows ++ new) H' x' (some k') ∧ (g = some k' ∨ (g = none ∧ k' = H.length)) ∧ H.length ≤ H'.length ∧ ∀ (k : Nat) (o : AObj), H[k]? = some o → g ≠ some k → H'[k]? = some o := by
 have hne : rows ++ new ≠ [] := by cases new <;> simp at hn ⊢
 rcases h with ⟨rfl, rfl, rfl⟩ | ⟨h0, k, v, rfl, rfl, h2⟩
 ·
  refine ⟨.msl H.length 0 0 new.length none, H ++ [⟨e, sz, new, 0, 1, true⟩], H.length, ?_, .inr ⟨hne, H.length, 0, rfl, by simp, by simp⟩, .inr ⟨rfl, rfl⟩, by simp, fun g o ho _ => get_app ho _⟩
  simp only [List.length_nil, Nat.zero_add] at hb
  simp [appendD, appendRows, readRows, hn, hb, newAt, appLow]
 ·
  refine ⟨.msl k (v + 1) 0 (rows.length + new.length) none, H.set k ⟨e, sz, rows ++ new, v + 1, 1, true⟩, k, ?_, .inr ⟨hne, k, v + 1, rfl, by simp, get_set_self h2 _⟩, .inl rfl, by simp, fun k' o ho hk => ?_⟩
  ·
   simp [appendD, appendRows, readRows, rowsOf, h2, hb, setAt, appLow]
  ·
   exact get_set_ne ho (fun hh => hk (by rw [hh])) _
end

theorem cloneS_nil {d : Nat} (hd : 1 ≤ d) (S : St) : runF LP NN d 22 [.nils] S = some (.nils, S, false) := by
 refine run_pure (F := F22) rfl (by simp only [LP, fnOf, snapVs, snaps, zs, zm, zv] <;> exact rfl) rfl (by simp only [LP, zf, zm]; try rfl) (by simp only [F22, zv] <;> exact rfl) (by omega) ?_
 rintro d rfl
 refine cw_seq (cw_region ?_)
 refine ow_mc ?_
 refine ow_nil ?_
 refine sk_n (by simp only [ze] <;> exact rfl) ?_
 refine cw_seq (cw_seq (cw_region ?_))
 refine ow_me rfl ?_
 refine ow_op (by simp only [zo, eqnilD] <;> exact rfl) ?_
 refine ow_nil ?_
 refine sk_n (by simp only [ze] <;> exact rfl) ?_
 skip
 refine cw_true (by simp only [opd, zv] <;> rfl) ?_
 refine cw_seq (cw_region ?_)
 refine ow_mc ?_
 refine ow_nil ?_
 refine sk_n (by simp only [ze] <;> exact rfl) ?_
 refine cw_ret (sk_r ?_)
 refine ⟨_, by simp only [F22, resultD, resDs, resD, zg, zd, rowsOf, partD, List.take, List.drop, zm] <;> exact rfl, ?_⟩
 rfl

theorem cloneS_sl {d : Nat} (hd : 1 ≤ d) (S : St) {rows : List (List D)} (hne : rows.isEmpty = false) (h8 : rows.length ≤ 1000) : runF LP NN d 22 [.sl 1 rows none] S = some (.sl 1 rows none, S, false) := by
 have hnil : (0 : Nat) = 0 := rfl
 have happ : appendD 9 1 16 1 (.sl 1 [] (some 0)) (.sl 1 rows none) ⟨[], 0⟩ = some (.msl 0 0 0 rows.length none, ⟨[⟨9, 1, rows, 0, 1, true⟩], 0⟩, true) := by
  have h2 : (rows.length) * 16 ≤ 140737488355328 := by omega
  simp [appendD, readRows, appendRows, hne, newAt]
  omega
 refine run_pure (F := F22) rfl (by simp only [LP, fnOf, snapVs, snaps, zs, zm, zv] <;> exact rfl) rfl (by simp only [LP, zf, zm]; try rfl) (by simp only [F22, zv] <;> exact rfl) (by omega) ?_
 rintro d rfl
 refine cw_seq (cw_region ?_)
 refine ow_mc ?_
 refine ow_nil ?_
 refine sk_n (by simp only [ze] <;> exact rfl) ?_
 refine cw_seq (cw_seq (cw_region ?_))
 refine ow_me rfl ?_
 refine ow_op (by simp only [zo, eqnilD, happ] <;> exact rfl) ?_
 refine ow_nil ?_
 refine sk_n (by simp only [ze] <;> exact rfl) ?_
 skip
 refine cw_false (by simp only [opd, zv, happ] <;> rfl) ?_
 refine cw_skip (sk_n rfl (cw_seq (cw_region ?_)))
 refine ow_op (by simp only [zl, zm, fillRows, List.replicate, snapVs, snaps, zs, zc, zf, happ] <;> exact rfl) ?_
 refine ow_me rfl ?_
 refine ow_op (by simp only [opd, zv, exOp, aop, LOp.loud, lop, if_true, happ] <;> exact rfl) ?_
 refine ow_ml rfl ?_
 refine ow_nil ?_
 refine sk_n (by simp only [ze] <;> exact rfl) ?_
 refine cw_ret ?_
 refine ⟨_, by simp only [F22, resultD, resDs, resD, zg, zd, rowsOf, partD, List.take, List.drop, zm] <;> exact rfl, ?_⟩
 exact leaveP_app (by rfl) rfl

theorem cloneS_run {d : Nat} (hd : 1 ≤ d) (S : St) (rows : List (List D)) (h8 : rows.length ≤ 1000) : runF LP NN d 22 [appY 1 rows] S = some (appY 1 rows, S, false) := by
 cases rows with
 | nil => exact cloneS_nil hd S
 | cons a l => exact cloneS_sl hd S rfl h8

theorem perf_run {d : Nat} (hd : 2 ≤ d) {H : List AObj} {gd gk : Nat} {fx ux rx dx : D} {act : Bool} (hk1 : H[gk]? = some (dkO gd fx ux rx act dx)) {dn : List ByteArray} (hA : AppAt 9 1 (strRows dn) H dx) (hdn : dn.length ≤ 1000) (lo : Nat) : runF LP NN d 13 [.ptr gk 0 0 0] ⟨H, lo⟩ = some (clipD (appY 1 (strRows dn)), ⟨H, lo⟩, false) := by
 refine run_at (F := F13) rfl (by simp only [LP, fnOf, snapVs, snaps, zs, zm, zv] <;> exact rfl) rfl (by simp only [LP, zf, zm]; try rfl) (by simp only [F13, zv] <;> exact rfl) (by omega) ?_
 rintro d rfl
 have zz17 := And.intro hk1 (And.intro @dkO.eq_1 (And.intro hA.isCell (hA.val)))
 refine cw_seq (cw_region ?_)
 refine ow_mc ?_
 refine ow_nil ?_
 refine sk_n (by simp only [ze] <;> exact rfl) ?_
 refine cw_seq (cw_seq (cw_region ?_))
 refine ow_me rfl ?_
 refine ow_op (by simp only [zl, zm, eqpD, zz17] <;> exact rfl) ?_
 refine ow_nil ?_
 refine sk_n (by simp only [ze] <;> exact rfl) ?_
 skip
 refine cw_false (by simp only [opd, zv, zz17] <;> rfl) ?_
 refine cw_skip (sk_n rfl (cw_seq (cw_region ?_)))
 refine ow_me rfl ?_
 refine ow_op (by simp only [zo, zz17] <;> exact rfl) ?_
 refine ow_op (by simp only [zo, faddrD_ptr, faddrD_cptr, zm, zz17] <;> exact rfl) ?_
 refine ow_op (by simp only [zl, zm, zd, partD, List.take, List.drop, zz17] <;> exact rfl) ?_
 refine ow_op (by simp only [zo, zz17]; exact (run_snap rfl (by simp only [snapVs, hA.snapV] <;> exact rfl) (by simp only [snapVs, (appY_S 1 (strRows dn)).snapV] <;> exact rfl)).trans (cloneS_run (by omega) _ _ (by rw [strRows_len]; exact hdn))) ?_
 refine ow_op (by simp only [zo, zz17]; exact clip1_run (by omega) _ (appY_S 1 (strRows dn))) ?_
 refine ow_ml rfl ?_
 refine ow_nil ?_
 refine sk_n (by simp only [ze] <;> exact rfl) ?_
 refine cw_ret ?_
 refine ⟨_, by simp only [F13, resultD, resDs, resD, zg, zd, rowsOf, partD, List.take, List.drop, zm] <;> exact rfl, ?_⟩
 have hq := (appY_S 1 (strRows dn)).clip
 simp [leave, LP, hq.snapR, hq.snapV, hq.freeR, hq.freeV]

end Go.Proofs.YtcogjcplldpkaaaGreat

namespace Go.Proofs.YtcogjcplldpkaaaGreat
set_option linter.unusedSimpArgs false
set_option linter.unusedVariables false
set_option maxRecDepth 10000

theorem loopN_mono {f : List D → St → Option (LExit × List D × St)} : ∀ {k : Nat} {env : List D} {S : St} {r : LExit × List D × St}, loopN f k env S = some r → loopN f (k + 1) env S = some r
 | 0, env, S, r, h => by simp [loopN] at h
 | k + 1, env, S, r, h => by
  rw [loopN] at h ⊢
  cases e : f env S with
  | none => rw [e] at h; simp at h
  | some x =>
   obtain ⟨ex, env1, S1⟩ := x
   rw [e] at h
   cases ex with
   | normal => exact loopN_mono h
   | ret => exact h
   | exit i => exact h
/-- a loop, unrolled: k rounds at most -/
def CL (call : CallF) (k : Nat) (c : LCode) (Q : LExit → List D → St → Prop) (env : List D) (S : St) : Prop := ∃ e env' S', loopN (exCode call NN c) k env S = some (e, env', S') ∧ Q e env' S'
theorem loopN_le {f : List D → St → Option (LExit × List D × St)} {k : Nat} {env : List D} {S : St} {r : LExit × List D × St} (h : loopN f k env S = some r) (j : Nat) : loopN f (k + j) env S = some r := by
 induction j with
 | zero => exact h
 | succ j ih => exact loopN_mono ih
section
variable {call : CallF} {Q : LExit → List D → St → Prop} {env env' : List D} {S : St} {c : LCode} {k : Nat}
/-- behind a round of a loop that is unrolled -/
def LuK (call : CallF) (k : Nat) (c : LCode) (Q : LExit → List D → St → Prop) : LExit → List D → St → Prop
 | .normal, env, S => CL call k c Q env S
 | e, env, S => Q e env S
theorem lu_n (h : env = env') (h2 : CL call k c Q env' S) : LuK call k c Q .normal env S := by subst h; exact h2
theorem lu_r (h : Q .ret env S) : LuK call k c Q .ret env S := h
theorem cl_step (h : CW call c (LuK call k c Q) env S) : CL call (k + 1) c Q env S := by
 obtain ⟨e, env', S', h1, h2⟩ := h
 unfold CL
 simp only [loopN, h1]
 cases e with
 | normal => exact h2
 | ret => exact ⟨_, _, _, rfl, h2⟩
 | exit i => exact ⟨_, _, _, rfl, h2⟩
theorem cw_unroll (h : CL call 1000 c Q env S) : CW call (.loop c) Q env S := by
 obtain ⟨e, env', S', h1, h2⟩ := h
 refine ⟨e, env', S', ?_, h2⟩
 simp only [exCode]
 have := loopN_le h1 (18446744073709551616 - 1000)
 exact this
end

/-- behind a cut -/
def CutK (I : List D → St → Prop) : LExit → List D → St → Prop
 | .normal, env, S => I env S
 | _, _, _ => False
theorem ck_n {I : List D → St → Prop} {env env' : List D} {S : St} (h : env = env') (h2 : I env' S) : CutK I .normal env S := by subst h; exact h2
theorem cw_cut {call : CallF} {Q : LExit → List D → St → Prop} {env : List D} {S : St} {a b : LCode} (I : List D → St → Prop) (h1 : CW call a (CutK I) env S) (h2 : ∀ env S, I env S → CW call b Q env S) : CW call (.seq a b) Q env S := by
 refine cw_seq (cw_mono h1 ?_)
 intro e env' S' h
 cases e with
 | normal => exact h2 env' S' h
 | ret => exact h.elim
 | exit i => exact h.elim

theorem tokRows_at {l : List Tok} {i : Nat} (h : i < l.length) : (tokRows l)[i]? = some [.int .u8 l[i].kind, .str l[i].text, .int .i64 l[i].line, .int .i64 l[i].col, .bool l[i].rep] := by simp [tokRows, h, Tok.row]
theorem mode_word (k : Nat) (h : k < 4) : modeW (wordN k) = k + 1 := by
 match k, h with
 | 0, _ => decide +kernel
 | 1, _ => decide +kernel
 | 2, _ => decide +kernel
 | 3, _ => decide +kernel

theorem tok40_run {d : Nat} (hd : 1 ≤ d) (S : St) (r : Tok) (s : ByteArray) (g : Nat) (e : TypeId) (hcap : S.heap[g]? = some ⟨e, 1, [[.str s]], 0, 0, false⟩) (hlt : g < S.heap.length) :
  runF LP NN d 40 [.agg [.int .u8 r.kind, .str r.text, .int .i64 r.line, .int .i64 r.col, .bool r.rep], .ptr g 0 0 0] S = some (.bool (r.text.toList == s.toList), S, false) := by
 refine run_at (F := F40) rfl (by simp only [LP, fnOf, snapVs, snaps, zs, zm, zv] <;> exact rfl) rfl (by simp only [LP, zf, zm]; try rfl) (by simp only [F40, zv] <;> exact rfl) (by omega) ?_
 rintro d rfl
 refine cw_seq (cw_region ?_)
 refine ow_op (by simp only [zl, zm, zc, hcap, List.getElem?_append_left hlt] <;> exact rfl) ?_
 refine ow_mc ?_
 refine ow_nil ?_
 refine sk_n (by simp only [ze] <;> exact rfl) ?_
 refine cw_seq (cw_region ?_)
 refine ow_op (by simp only [zo, faddrD_ptr, faddrD_cptr, zm, hcap, List.getElem?_append_left hlt] <;> exact rfl) ?_
 refine ow_op (by simp only [zl, zm, zd, partD, List.take, List.drop, hcap, List.getElem?_append_left hlt] <;> exact rfl) ?_
 refine ow_op (by simp only [zl, zm, zd, partD, List.take, List.drop, hcap, List.getElem?_append_left hlt] <;> exact rfl) ?_
 refine ow_op (by simp only [zo, binD, zb, Int.reduceEq, Int.reduceToNat, Int.reduceLT, hcap, List.getElem?_append_left hlt] <;> exact rfl) ?_
 refine ow_ml rfl ?_
 refine ow_nil ?_
 refine sk_n (by simp only [ze] <;> exact rfl) ?_
 refine cw_ret ?_
 refine ⟨_, by simp only [F40, resultD, resDs, resD, zg, zd, rowsOf, partD, List.take, List.drop, zm] <;> exact rfl, ?_⟩
 simp [leave, LP, snapR, snapV, snap, D.freeR, D.freeV, D.free, D.free0, D.free0]

theorem indexTok_run {d : Nat} (hd : 1 ≤ d) (S : St) {x : D} {l : List Tok} (hS : SlD 5 (tokRows l) x) (hl : l.length ≤ 1000000) (f : FuncId) (caps : List D) (hne : caps.all D.free0 = false) (p : Tok → Bool)
  (hcall : ∀ {d'}, d = d' + 1 → ∀ r ∈ l, runF LP NN d' f (.agg [.int .u8 r.kind, .str r.text, .int .i64 r.line, .int .i64 r.col, .bool r.rep] :: caps) ⟨S.heap, S.heap.length⟩ = some (.bool (p r), ⟨S.heap, S.heap.length⟩, false)) :
  runF LP NN d 45 [x, .fn f caps] S = some (.int .i64 (idxI p l), S, false) := by
 refine run_at (F := F45) rfl (by simp only [LP, fnOf, snapVs, snaps, zs, zm, zv, hS.snapV, hS.freeV, hne, Bool.and_false] <;> exact rfl) rfl (by simp only [LP, zf, zm, hS.snapV, hS.freeV, hne, Bool.and_false]; try rfl) (by simp only [F45, zv] <;> exact rfl) (by omega) ?_
 rintro d rfl
 refine cw_seq (cw_region ?_)
 refine ow_mc ?_
 refine ow_nil ?_
 refine sk_n (by simp only [ze] <;> exact rfl) ?_
 refine cw_seq (cw_seq (cw_region ?_))
 refine ow_me rfl ?_
 refine ow_op (by simp only [zo, lenD_str, lenD_nils, lenD_sl, lenD_msl, hS.len, tokRows_len] <;> exact rfl) ?_
 refine ow_mc ?_
 refine ow_nil ?_
 refine sk_n (by simp only [ze] <;> exact rfl) ?_
 refine cw_block ?_
 refine cw_loop (fun n env S' => ∃ (i : Nat) (u3 u6 u7 : D), i ≤ l.length ∧ n = l.length - i ∧ ((l.take i).any fun x => p x) = false ∧ S' = ⟨S.heap, S.heap.length⟩ ∧ env = [x, .fn f caps, .int .i64 0, u3, .int .i64 l.length, .int .i64 i, u6, u7]) (l.length) (by omega) (⟨0, _, _, _, by omega, by omega, by simp, rfl, rfl⟩) ?_
 rintro n env S' ⟨i, u3, u6, u7, hi, rfl, hany, rfl, rfl⟩
 have h0 : (0 : Int) ≤ (i : Int) := by omega
 refine cw_seq (cw_region ?_)
 refine ow_op (by simp only [zo, binD, zb, Int.reduceEq, Int.reduceToNat, Int.reduceLT, hS.len, tokRows_len, h0] <;> exact rfl) ?_
 refine ow_nil ?_
 refine sk_n (by simp only [ze] <;> exact rfl) ?_
 refine cw_seq ?_
 refine cw_cond (by simp only [opd, zv, hS.len, tokRows_len, h0] <;> exact rfl) (fun hcA => ?_) (fun hcA => ?_)
 ·
  have hlt : i < l.length := by have := of_decide_eq_true hcA; omega
  have hw := wrap_nat i (by omega)
  have hx := List.getElem?_eq_getElem hlt
  have hia := fun (S : St) => hS.iaddrN S .i64 (tokRows_at hlt)
  refine cw_skip (sk_n rfl (cw_seq (cw_block (cw_seq (cw_region ?_)))))
  refine ow_me rfl ?_
  refine ow_ml rfl ?_
  refine ow_nil ?_
  refine sk_n (by simp only [ze] <;> exact rfl) ?_
  refine cw_seq (cw_region ?_)
  refine ow_me rfl ?_
  refine ow_me rfl ?_
  refine ow_me rfl ?_
  refine ow_op (by simp only [zl, zm, iaddrD_sl, iaddrD_msl, Int.toNat_natCast, Int.toNat_zero, List.getElem?_map, Option.map_some, Int.le_refl, hS.len, tokRows_len, h0, hw, hx, hia] <;> exact rfl) ?_
  refine ow_op (by simp only [zl, zm, zd, partD, List.take, List.drop, hS.len, tokRows_len, h0, hw, hx, hia] <;> exact rfl) ?_
  refine ow_op (by simp only [zo, hS.len, tokRows_len, h0, hw, hx, hia]; exact hcall rfl _ (List.getElem_mem hlt)) ?_
  refine ow_nil ?_
  refine sk_n (by simp only [ze] <;> exact rfl) ?_
  refine cw_cond (by simp only [opd, zv, hS.len, tokRows_len, h0, hw, hx, hia] <;> exact rfl) (fun hcAT => ?_) (fun hcAT => ?_)
  ·
   refine cw_seq (cw_region ?_)
   refine ow_me rfl ?_
   refine ow_ml rfl ?_
   refine ow_nil ?_
   refine sk_n (by simp only [ze] <;> exact rfl) ?_
   refine cw_ret (bk_r (sk_r (lk_r (bk_r (sk_r ?_)))))
   refine ⟨_, by simp only [F45, resultD, resDs, resD, zg, zd, rowsOf, partD, List.take, List.drop, zm] <;> exact rfl, ?_⟩
   rw [idxI_at hlt hcAT hany]
   simp [leave, LP, snapR, snapV, snap, D.freeR, D.freeV, D.free, D.free0, D.free0]
  ·
   refine cw_skip (bk_n (sk_n rfl (cw_region ?_)))
   refine ow_op (by simp only [zo, binD, zb, Int.reduceEq, Int.reduceToNat, Int.reduceLT, hS.len, tokRows_len, h0, hw, hx, hia] <;> exact rfl) ?_
   refine ow_ml rfl ?_
   refine ow_nil ?_
   refine lk_n (by simp only [ze] <;> exact rfl) ?_
   exact ⟨l.length - (i + 1), by omega, i + 1, _, _, _, by omega, rfl, any_take_succ hlt hany hcAT, rfl, rfl⟩
 ·
  have hge : l.length ≤ i := by have := of_decide_eq_false hcA; omega
  refine cw_exit (sk_e (lk_e (bk_e (sk_n rfl (cw_seq (cw_region ?_))))))
  refine ow_mc ?_
  refine ow_nil ?_
  refine sk_n (by simp only [ze] <;> exact rfl) ?_
  refine cw_ret ?_
  refine ⟨_, by simp only [F45, resultD, resDs, resD, zg, zd, rowsOf, partD, List.take, List.drop, zm] <;> exact rfl, ?_⟩
  rw [List.take_of_length_le hge] at hany
  rw [idxI_none hany]
  simp [leave, LP, snapR, snapV, snap, D.freeR, D.freeV, D.free, D.free0, D.free0]

theorem containsTok_run {d : Nat} (hd : 2 ≤ d) (S : St) {x : D} {l : List Tok} (hS : SlD 5 (tokRows l) x) (hl : l.length ≤ 1000000) (f : FuncId) (caps : List D) (hne : caps.all D.free0 = false) (p : Tok → Bool)
  (hcall : ∀ {d'}, d = d' + 2 → ∀ r ∈ l, runF LP NN d' f (.agg [.int .u8 r.kind, .str r.text, .int .i64 r.line, .int .i64 r.col, .bool r.rep] :: caps) ⟨S.heap, S.heap.length⟩ = some (.bool (p r), ⟨S.heap, S.heap.length⟩, false)) :
  runF LP NN d 39 [x, .fn f caps] S = some (.bool (l.any p), S, false) := by
 refine run_at (F := F39) rfl (by simp only [LP, fnOf, snapVs, snaps, zs, zm, zv, hS.snapV, hS.freeV, hne, Bool.and_false] <;> exact rfl) rfl (by simp only [LP, zf, zm, hS.snapV, hS.freeV, hne, Bool.and_false]; try rfl) (by simp only [F39, zv] <;> exact rfl) (by omega) ?_
 rintro d rfl
 refine cw_seq (cw_region ?_)
 refine ow_mc ?_
 refine ow_nil ?_
 refine sk_n (by simp only [ze] <;> exact rfl) ?_
 refine cw_seq (cw_region ?_)
 refine ow_me rfl ?_
 refine ow_me rfl ?_
 refine ow_op (by simp only [zo]; exact indexTok_run (by omega) _ hS hl f caps hne p (fun he r hr => by cases he; exact hcall rfl r hr)) ?_
 refine ow_op (by simp only [zo, binD, zb, Int.reduceEq, Int.reduceToNat, Int.reduceLT] <;> exact rfl) ?_
 refine ow_ml rfl ?_
 refine ow_nil ?_
 refine sk_n (by simp only [ze] <;> exact rfl) ?_
 refine cw_ret ?_
 refine ⟨_, by simp only [F39, resultD, resDs, resD, zg, zd, rowsOf, partD, List.take, List.drop, zm] <;> exact rfl, ?_⟩
 rw [idxI_nonneg]
 simp [leave, LP, snapR, snapV, snap, D.freeR, D.freeV, D.free, D.free0, D.free0]

theorem mode_other {d : Nat} (hd : 2 ≤ d) {H : List AObj} {gd gk many mode : Nat} {last : ByteArray} {r : Rp} {fx ux rx dx : D} {act : Bool} (hd1 : H[gd]? = some (drO last mode r many)) (hk1 : H[gk]? = some (dkO gd fx ux rx act dx)) {rows0 : List (List D)} (hA : AppAt 9 1 rows0 H dx) {vb : ByteArray} {px : D} {pr : List (List D)} (hP : SlD 2 pr px) (hvo : (vb.toList == (⟨#[79, 80, 69, 78]⟩ : ByteArray).toList) = false) (nm : ByteArray) (lo : Nat) : runF LP NN d 29 [.ptr gk 0 0 0, .agg [.str vb, .int .i64 0, .int .i64 0, px, .nils], .str nm] ⟨H, lo⟩ = some (.int .u8 mode, ⟨H, lo⟩, false) := by
 have hgk := lt_of hk1

 refine run_at (F := F29) rfl (by simp only [LP, fnOf, snapVs, snaps, zs, zm, zv, hP.snap, hP.snapV, hP.freeV, hP.free] <;> exact rfl) rfl (by simp only [LP, zf, zm, hP.snap, hP.snapV, hP.freeV, hP.free]; try rfl) (by simp only [F29, zv] <;> exact rfl) (by omega) ?_
 rintro d rfl
 have zz18 := And.intro hP.isCell (And.intro hP.val (And.intro hP.cells (And.intro hvo (And.intro hk1 (And.intro @dkO.eq_1 (And.intro hA.isCell (hA.val)))))))
 refine cw_seq (cw_region ?_)
 refine ow_op (by simp only [zl, zm, zc, bne, Bool.not_false, at_L hgk, zz18] <;> exact rfl) ?_
 refine ow_op (by simp only [zl, zm, zc, bne, Bool.not_false, at_L hgk, zz18] <;> exact rfl) ?_
 refine ow_mc ?_
 refine ow_nil ?_
 refine sk_n (by simp only [ze] <;> exact rfl) ?_
 refine cw_seq (cw_seq (cw_region ?_))
 refine ow_op (by simp only [zo, faddrD_ptr, faddrD_cptr, zm, bne, Bool.not_false, at_L hgk, zz18] <;> exact rfl) ?_
 refine ow_op (by simp only [zl, zm, zd, partD, List.take, List.drop, bne, Bool.not_false, at_L hgk, zz18] <;> exact rfl) ?_
 refine ow_op (by simp only [zo, binD, zb, Int.reduceEq, Int.reduceToNat, Int.reduceLT, bne, Bool.not_false, at_L hgk, zz18] <;> exact rfl) ?_
 refine ow_nil ?_
 refine sk_n (by simp only [ze] <;> exact rfl) ?_
 skip
 refine cw_true (by simp only [opd, zv, bne, Bool.not_false, at_L hgk, zz18] <;> rfl) ?_
 refine cw_seq ?_
 refine cw_drawn (by simp only [newsVals, zw, Nat.reduceAdd] <;> exact rfl) (by simp only [zw, newsObj, St.eta] <;> exact rfl) ?_
 refine dw_me rfl rfl ?_
 refine dw_quiet (by simp only [zo, bne, Bool.not_false, at_L hgk, zz18] <;> exact rfl) rfl rfl ?_
 refine dw_quiet (by simp only [zo, faddrD_ptr, faddrD_cptr, zm, bne, Bool.not_false, at_L hgk, zz18] <;> exact rfl) rfl rfl ?_
 refine dw_op (by simp only [zl, zm, zd, partD, List.take, List.drop, bne, Bool.not_false, at_L hgk, zz18] <;> exact rfl) (by simp only [fpHere, zo, zq] <;> exact rfl) rfl ?_
 refine dw_op (by simp only [zl, zm, zd, partD, List.take, List.drop, bne, Bool.not_false, at_L hgk, zz18] <;> exact rfl) (by simp only [fpHere, zo, zq] <;> exact rfl) rfl ?_
 refine dw_op (by simp only [zo, bne, Bool.not_false, at_L hgk, zz18]; exact fmode_run (by omega) (get_app hd1 _) _ _) (by simp only [fpHere, zo, zq] <;> exact rfl) rfl ?_
 refine dw_ml rfl rfl ?_
 refine dw_nil ?_
 refine sk_n (by simp only [ze] <;> exact rfl) ?_
 refine cw_ret (sk_r ?_)
 refine ⟨_, by simp only [F29, resultD, resDs, resD, zg, zd, rowsOf, partD, List.take, List.drop, zm] <;> exact rfl, ?_⟩
 simp [leave, LP, snapR, snapV, snap, D.freeR, D.freeV, D.free, D.free0, D.free0]

theorem mode_open {d : Nat} (hd : 4 ≤ d) {H : List AObj} {gd gk many mode : Nat} {last : ByteArray} {r : Rp} {fx ux rx dx : D} {act : Bool} (hd1 : H[gd]? = some (drO last mode r many)) (hk1 : H[gk]? = some (dkO gd fx ux rx act dx)) {rows0 : List (List D)} (hA : AppAt 9 1 rows0 H dx) (k : Nat) (hk : k < 4) (nm : ByteArray) (lo : Nat) : runF LP NN d 29 [.ptr gk 0 0 0, .agg [.str (verbN 0), .int .i64 0, .int .i64 0, ph1 k nm, .nils], .str nm] ⟨H, lo⟩ = some (.int .u8 ((k + 1 : Nat) : Int), ⟨H, lo⟩, false) := by
 have hgk := lt_of hk1
 have hv0 : verbN 0 = ⟨#[79, 80, 69, 78]⟩ := rfl
 rw [hv0]
 have hany1 : (([⟨1, ⟨#[70, 88]⟩, 0, 0, false⟩, ⟨1, nm, 0, 0, false⟩] : List Tok).any fun t => t.text.toList == nm.toList) = true := by simp
 have hmw := mode_word k hk
 have wrap_1 : IntKind.i64.wrap (0 + 1) = 1 := by decide
 have wrap_2 : IntKind.i64.wrap (1 + 1) = 2 := by decide
 refine run_at (F := F29) rfl (by simp only [LP, fnOf, snapVs, snaps, zs, zm, zv, ph1, phR] <;> exact rfl) rfl (by simp only [LP, zf, zm, ph1, phR]; try rfl) (by simp only [F29, zv] <;> exact rfl) (by omega) ?_
 rintro d rfl
 have zz19 := And.intro @beq_self_eq_true.{0} (And.intro @Bool.not_true (And.intro hk1 (And.intro @dkO.eq_1 (And.intro hA.isCell (And.intro hA.val (And.intro hany1 (hmw)))))))
 refine cw_seq (cw_region ?_)
 refine ow_op (by simp only [zl, zm, zc, bne, at_L hgk, ph1, phR, List.any_nil, mapget_modes, wrap_1, wrap_2, zz19] <;> exact rfl) ?_
 refine ow_op (by simp only [zl, zm, zc, bne, at_L hgk, ph1, phR, List.any_nil, mapget_modes, wrap_1, wrap_2, zz19] <;> exact rfl) ?_
 refine ow_mc ?_
 refine ow_nil ?_
 refine sk_n (by simp only [ze] <;> exact rfl) ?_
 refine cw_seq (cw_seq (cw_region ?_))
 refine ow_op (by simp only [zo, faddrD_ptr, faddrD_cptr, zm, bne, at_L hgk, ph1, phR, List.any_nil, mapget_modes, wrap_1, wrap_2, zz19] <;> exact rfl) ?_
 refine ow_op (by simp only [zl, zm, zd, partD, List.take, List.drop, bne, at_L hgk, ph1, phR, List.any_nil, mapget_modes, wrap_1, wrap_2, zz19] <;> exact rfl) ?_
 refine ow_op (by simp only [zo, binD, zb, Int.reduceEq, Int.reduceToNat, Int.reduceLT, bne, at_L hgk, ph1, phR, List.any_nil, mapget_modes, wrap_1, wrap_2, zz19] <;> exact rfl) ?_
 refine ow_nil ?_
 refine sk_n (by simp only [ze] <;> exact rfl) ?_
 skip
 refine cw_false (by simp only [opd, zv, bne, at_L hgk, ph1, phR, List.any_nil, mapget_modes, wrap_1, wrap_2, zz19] <;> rfl) ?_
 refine cw_skip (sk_n rfl (cw_seq (cw_seq (cw_region ?_))))
 refine ow_op (by simp only [zo, faddrD_ptr, faddrD_cptr, zm, bne, at_L hgk, ph1, phR, List.any_nil, mapget_modes, wrap_1, wrap_2, zz19] <;> exact rfl) ?_
 refine ow_op (by simp only [zl, zm, zd, partD, List.take, List.drop, bne, at_L hgk, ph1, phR, List.any_nil, mapget_modes, wrap_1, wrap_2, zz19] <;> exact rfl) ?_
 refine ow_op (by simp only [zo, lenD_str, lenD_nils, lenD_sl, lenD_msl, bne, at_L hgk, ph1, phR, List.any_nil, mapget_modes, wrap_1, wrap_2, zz19] <;> exact rfl) ?_
 refine ow_mc ?_
 refine ow_nil ?_
 refine sk_n (by simp only [ze] <;> exact rfl) ?_
 refine cw_block (cw_unroll ?_)
 refine cl_step ?_
 refine cw_seq (cw_region ?_)
 refine ow_op (by simp only [zo, binD, zb, Int.reduceEq, Int.reduceToNat, Int.reduceLT, bne, at_L hgk, ph1, phR, List.any_nil, mapget_modes, wrap_1, wrap_2, zz19] <;> exact rfl) ?_
 refine ow_nil ?_
 refine sk_n (by simp only [ze] <;> exact rfl) ?_
 refine cw_seq ?_
 skip
 refine cw_true (by simp only [opd, zv, bne, at_L hgk, ph1, phR, List.any_nil, mapget_modes, wrap_1, wrap_2, zz19] <;> rfl) ?_
 refine cw_skip (sk_n rfl (cw_seq (cw_block (cw_seq (cw_region ?_)))))
 refine ow_op (by simp only [zl, zm, iaddrD_sl, iaddrD_msl, Int.toNat_natCast, Int.toNat_zero, List.getElem?_map, Option.map_some, Int.le_refl, bne, at_L hgk, ph1, phR, List.any_nil, mapget_modes, wrap_1, wrap_2, zz19] <;> exact rfl) ?_
 refine ow_op (by simp only [zl, zm, zd, partD, List.take, List.drop, bne, at_L hgk, ph1, phR, List.any_nil, mapget_modes, wrap_1, wrap_2, zz19] <;> exact rfl) ?_
 refine ow_op (by simp only [zl, zm, bne, at_L hgk, ph1, phR, List.any_nil, mapget_modes, wrap_1, wrap_2, zz19] <;> exact rfl) ?_
 refine ow_op (by simp only [zl, zm, storeD, overlay, snapVs, snaps, zs, zc, zf, List.take, List.drop, bne, at_L hgk, ph1, phR, List.any_nil, mapget_modes, wrap_1, wrap_2, zz19] <;> exact rfl) ?_
 refine ow_nil ?_
 refine sk_n (by simp only [ze] <;> exact rfl) ?_
 refine cw_seq (cw_region ?_)
 refine ow_op (by simp only [zo, faddrD_ptr, faddrD_cptr, zm, bne, at_L hgk, ph1, phR, List.any_nil, mapget_modes, wrap_1, wrap_2, zz19] <;> exact rfl) ?_
 refine ow_op (by simp only [zl, zm, zd, partD, List.take, List.drop, bne, at_L hgk, ph1, phR, List.any_nil, mapget_modes, wrap_1, wrap_2, zz19] <;> exact rfl) ?_
 refine ow_op (by simp only [zo, bne, at_L hgk, ph1, phR, List.any_nil, mapget_modes, wrap_1, wrap_2, zz19] <;> exact rfl) ?_
 refine ow_op (by simp only [zo, bne, at_L hgk, ph1, phR, List.any_nil, mapget_modes, wrap_1, wrap_2, zz19]; exact containsTok_run (by omega) _ (l := []) (.nil 5) (by simp) 40 [_] rfl (fun t => t.text.toList == nm.toList) (fun he r hr => by cases he; exact tok40_run (by omega) _ r _ _ 9 (by simp) (by simp))) ?_
 refine ow_nil ?_
 refine sk_n (by simp only [ze] <;> exact rfl) ?_
 skip
 refine cw_false (by simp only [opd, zv, bne, at_L hgk, ph1, phR, List.any_nil, mapget_modes, wrap_1, wrap_2, zz19] <;> rfl) ?_
 refine cw_skip (bk_n (sk_n rfl (cw_region ?_)))
 refine ow_op (by simp only [zo, binD, zb, Int.reduceEq, Int.reduceToNat, Int.reduceLT, bne, at_L hgk, ph1, phR, List.any_nil, mapget_modes, wrap_1, wrap_2, zz19] <;> exact rfl) ?_
 refine ow_ml rfl ?_
 refine ow_nil ?_
 refine lu_n (by simp only [ze] <;> exact rfl) ?_
 refine cl_step ?_
 refine cw_seq (cw_region ?_)
 refine ow_op (by simp only [zo, binD, zb, Int.reduceEq, Int.reduceToNat, Int.reduceLT, bne, at_L hgk, ph1, phR, List.any_nil, mapget_modes, wrap_1, wrap_2, zz19] <;> exact rfl) ?_
 refine ow_nil ?_
 refine sk_n (by simp only [ze] <;> exact rfl) ?_
 refine cw_seq ?_
 skip
 refine cw_true (by simp only [opd, zv, bne, at_L hgk, ph1, phR, List.any_nil, mapget_modes, wrap_1, wrap_2, zz19] <;> rfl) ?_
 refine cw_skip (sk_n rfl (cw_seq (cw_block (cw_seq (cw_region ?_)))))
 refine ow_op (by simp only [zl, zm, iaddrD_sl, iaddrD_msl, Int.toNat_natCast, Int.toNat_zero, List.getElem?_map, Option.map_some, Int.le_refl, bne, at_L hgk, ph1, phR, List.any_nil, mapget_modes, wrap_1, wrap_2, zz19] <;> exact rfl) ?_
 refine ow_op (by simp only [zl, zm, zd, partD, List.take, List.drop, bne, at_L hgk, ph1, phR, List.any_nil, mapget_modes, wrap_1, wrap_2, zz19] <;> exact rfl) ?_
 refine ow_op (by simp only [zl, zm, bne, at_L hgk, ph1, phR, List.any_nil, mapget_modes, wrap_1, wrap_2, zz19] <;> exact rfl) ?_
 refine ow_op (by simp only [zl, zm, storeD, overlay, snapVs, snaps, zs, zc, zf, List.take, List.drop, bne, at_L hgk, ph1, phR, List.any_nil, mapget_modes, wrap_1, wrap_2, zz19] <;> exact rfl) ?_
 refine ow_nil ?_
 refine sk_n (by simp only [ze] <;> exact rfl) ?_
 refine cw_seq (cw_region ?_)
 refine ow_op (by simp only [zo, faddrD_ptr, faddrD_cptr, zm, bne, at_L hgk, ph1, phR, List.any_nil, mapget_modes, wrap_1, wrap_2, zz19] <;> exact rfl) ?_
 refine ow_op (by simp only [zl, zm, zd, partD, List.take, List.drop, bne, at_L hgk, ph1, phR, List.any_nil, mapget_modes, wrap_1, wrap_2, zz19] <;> exact rfl) ?_
 refine ow_op (by simp only [zo, bne, at_L hgk, ph1, phR, List.any_nil, mapget_modes, wrap_1, wrap_2, zz19] <;> exact rfl) ?_
 refine ow_op (by simp only [zo, bne, at_L hgk, ph1, phR, List.any_nil, mapget_modes, wrap_1, wrap_2, zz19]; exact containsTok_run (by omega) _ (l := [⟨1, ⟨#[70, 88]⟩, 0, 0, false⟩, ⟨1, nm, 0, 0, false⟩]) (.of 5 (tokRows [⟨1, ⟨#[70, 88]⟩, 0, 0, false⟩, ⟨1, nm, 0, 0, false⟩]) (some 2)) (by simp) 40 [_] rfl (fun t => t.text.toList == nm.toList) (fun he r hr => by cases he; exact tok40_run (by omega) _ r _ _ 9 (by simp) (by simp))) ?_
 refine ow_nil ?_
 refine sk_n (by simp only [ze] <;> exact rfl) ?_
 skip
 refine cw_true (by simp only [opd, zv, bne, at_L hgk, ph1, phR, List.any_nil, mapget_modes, wrap_1, wrap_2, zz19] <;> rfl) ?_
 refine cw_seq ?_
 refine cw_drawn (by simp only [newsVals, zw, Nat.reduceAdd] <;> exact rfl) (by simp only [zw, newsObj, St.eta] <;> exact rfl) ?_
 refine dw_op (by simp only [zo, bne, at_L hgk, ph1, phR, List.any_nil, mapget_modes, wrap_1, wrap_2, zz19]; exact modes_run (by omega) _) (by simp only [fpHere, zo, zq] <;> exact rfl) rfl ?_
 refine dw_quiet (by simp only [zo, faddrD_ptr, faddrD_cptr, zm, bne, at_L hgk, ph1, phR, List.any_nil, mapget_modes, wrap_1, wrap_2, zz19] <;> exact rfl) rfl rfl ?_
 refine dw_op (by simp only [zl, zm, zd, partD, List.take, List.drop, bne, at_L hgk, ph1, phR, List.any_nil, mapget_modes, wrap_1, wrap_2, zz19] <;> exact rfl) (by simp only [fpHere, zo, zq] <;> exact rfl) rfl ?_
 refine dw_op (by simp only [opd, zv, exOp, aop, LOp.loud, lop, if_true, Option.map_some, bne, at_L hgk, ph1, phR, List.any_nil, mapget_modes, wrap_1, wrap_2, zz19] <;> exact rfl) (by simp only [fpHere, zo, zq] <;> exact rfl) rfl ?_
 refine dw_ml rfl rfl ?_
 refine dw_nil ?_
 refine sk_n (by simp only [ze] <;> exact rfl) ?_
 refine cw_ret (bk_r (sk_r (lu_r (bk_r (sk_r ?_)))))
 refine ⟨_, by simp only [F29, resultD, resDs, resD, zg, zd, rowsOf, partD, List.take, List.drop, zm] <;> exact rfl, ?_⟩
 simp [leave, LP, snapR, snapV, snap, D.freeR, D.freeV, D.free, D.free0, D.free0]

end Go.Proofs.YtcogjcplldpkaaaGreat

namespace Go.Proofs.YtcogjcplldpkaaaGreat
set_option linter.unusedSimpArgs false
set_option linter.unusedVariables false
set_option maxRecDepth 10000
set_option maxHeartbeats 1000000

/-- has a file a status -/
def stN (f : Fi) : Bool := match lenD false f.st with | some (.int _ n) => decide (n > 0) | _ => false
theorem stN_of {f : Fi} {rows : List (List D)} (h : SlD 1 rows f.st) : stN f = decide ((rows.length : Int) > 0) := by
 unfold stN; rw [h.len]

theorem fil31_T {d : Nat} (hd : 1 ≤ d) (S : St) (r : Fi) (s : ByteArray) (g : Nat) (e : TypeId) (hcap : S.heap[g]? = some ⟨e, 1, [[.str s]], 0, 0, false⟩) (hlt : g < S.heap.length) {rows : List (List D)} (hst : SlD 1 rows r.st) (hnm : (r.nm.toList == s.toList) = true) :
  runF LP NN d 31 [.agg [.str r.nm, .str ⟨#[]⟩, .int .u8 0, .int .u8 0, .nils, .nils, r.st, .bool false, .nils, .nils, .int .i64 0, .int .i64 0], .ptr g 0 0 0] S = some (.bool ((r.nm.toList == s.toList) && stN r), S, false) := by
 refine run_at (F := F31) rfl (by simp only [LP, fnOf, snapVs, snaps, zs, zm, zv, hst.snap, hst.freeV, hst.free] <;> exact rfl) rfl (by simp only [LP, zf, zm, hst.snap, hst.freeV, hst.free]; try rfl) (by simp only [F31, zv] <;> exact rfl) (by omega) ?_
 rintro d rfl
 have zz20 := And.intro hst.isCell (And.intro hst.val (And.intro hst.cells (And.intro hst.len (And.intro hcap (hnm)))))
 refine cw_seq (cw_region ?_)
 refine ow_op (by simp only [zl, zm, zc, List.getElem?_append_left hlt, zz20] <;> exact rfl) ?_
 refine ow_mc ?_
 refine ow_nil ?_
 refine sk_n (by simp only [ze] <;> exact rfl) ?_
 refine cw_seq (cw_region ?_)
 refine ow_op (by simp only [zo, faddrD_ptr, faddrD_cptr, zm, List.getElem?_append_left hlt, zz20] <;> exact rfl) ?_
 refine ow_op (by simp only [zl, zm, zd, partD, List.take, List.drop, List.getElem?_append_left hlt, zz20] <;> exact rfl) ?_
 refine ow_op (by simp only [zl, zm, zd, partD, List.take, List.drop, List.getElem?_append_left hlt, zz20] <;> exact rfl) ?_
 refine ow_op (by simp only [zo, binD, zb, Int.reduceEq, Int.reduceToNat, Int.reduceLT, List.getElem?_append_left hlt, zz20] <;> exact rfl) ?_
 refine ow_ml rfl ?_
 refine ow_know 0 (b := true) (by simp only [opd, zv, List.getElem?_append_left hlt, zz20] <;> rfl) (by simp only [zn] <;> exact rfl) ?_
 refine ow_on rfl ?_
 refine ow_op (by simp only [zo, faddrD_ptr, faddrD_cptr, zm, List.getElem?_append_left hlt, zz20] <;> exact rfl) ?_
 refine ow_on rfl ?_
 refine ow_op (by simp only [zl, zm, zd, partD, List.take, List.drop, List.getElem?_append_left hlt, zz20] <;> exact rfl) ?_
 refine ow_on rfl ?_
 refine ow_op (by simp only [zo, lenD_str, lenD_nils, lenD_sl, lenD_msl, List.getElem?_append_left hlt, zz20] <;> exact rfl) ?_
 refine ow_on rfl ?_
 refine ow_op (by simp only [zo, binD, zb, Int.reduceEq, Int.reduceToNat, Int.reduceLT, List.getElem?_append_left hlt, zz20] <;> exact rfl) ?_
 refine ow_op (by simp only [zo, List.getElem?_append_left hlt, zz20] <;> exact rfl) ?_
 refine ow_ml rfl ?_
 refine ow_nil ?_
 refine sk_n (by simp only [ze] <;> exact rfl) ?_
 refine cw_ret ?_
 refine ⟨_, by simp only [F31, resultD, resDs, resD, zg, zd, rowsOf, partD, List.take, List.drop, zm] <;> exact rfl, ?_⟩
 rw [stN_of hst, hnm]
 simp [leave, LP, snapR, snapV, snap, D.freeR, D.freeV, D.free, D.free0, D.free0]

theorem fil31_F {d : Nat} (hd : 1 ≤ d) (S : St) (r : Fi) (s : ByteArray) (g : Nat) (e : TypeId) (hcap : S.heap[g]? = some ⟨e, 1, [[.str s]], 0, 0, false⟩) (hlt : g < S.heap.length) {rows : List (List D)} (hst : SlD 1 rows r.st) (hnm : (r.nm.toList == s.toList) = false) :
  runF LP NN d 31 [.agg [.str r.nm, .str ⟨#[]⟩, .int .u8 0, .int .u8 0, .nils, .nils, r.st, .bool false, .nils, .nils, .int .i64 0, .int .i64 0], .ptr g 0 0 0] S = some (.bool ((r.nm.toList == s.toList) && stN r), S, false) := by
 refine run_at (F := F31) rfl (by simp only [LP, fnOf, snapVs, snaps, zs, zm, zv, hst.snap, hst.freeV, hst.free] <;> exact rfl) rfl (by simp only [LP, zf, zm, hst.snap, hst.freeV, hst.free]; try rfl) (by simp only [F31, zv] <;> exact rfl) (by omega) ?_
 rintro d rfl
 have zz21 := And.intro hst.isCell (And.intro hst.val (And.intro hst.cells (And.intro hst.len (And.intro hcap (hnm)))))
 refine cw_seq (cw_region ?_)
 refine ow_op (by simp only [zl, zm, zc, List.getElem?_append_left hlt, zz21] <;> exact rfl) ?_
 refine ow_mc ?_
 refine ow_nil ?_
 refine sk_n (by simp only [ze] <;> exact rfl) ?_
 refine cw_seq (cw_region ?_)
 refine ow_op (by simp only [zo, faddrD_ptr, faddrD_cptr, zm, List.getElem?_append_left hlt, zz21] <;> exact rfl) ?_
 refine ow_op (by simp only [zl, zm, zd, partD, List.take, List.drop, List.getElem?_append_left hlt, zz21] <;> exact rfl) ?_
 refine ow_op (by simp only [zl, zm, zd, partD, List.take, List.drop, List.getElem?_append_left hlt, zz21] <;> exact rfl) ?_
 refine ow_op (by simp only [zo, binD, zb, Int.reduceEq, Int.reduceToNat, Int.reduceLT, List.getElem?_append_left hlt, zz21] <;> exact rfl) ?_
 refine ow_ml rfl ?_
 refine ow_know 0 (b := false) (by simp only [opd, zv, List.getElem?_append_left hlt, zz21] <;> rfl) (by simp only [zn] <;> exact rfl) ?_
 refine ow_off rfl rfl ?_
 refine ow_off rfl rfl ?_
 refine ow_off rfl rfl ?_
 refine ow_off rfl rfl ?_
 refine ow_op (by simp only [zo, List.getElem?_append_left hlt, zz21] <;> exact rfl) ?_
 refine ow_ml rfl ?_
 refine ow_nil ?_
 refine sk_n (by simp only [ze] <;> exact rfl) ?_
 refine cw_ret ?_
 refine ⟨_, by simp only [F31, resultD, resDs, resD, zg, zd, rowsOf, partD, List.take, List.drop, zm] <;> exact rfl, ?_⟩
 rw [stN_of hst, hnm]
 simp [leave, LP, snapR, snapV, snap, D.freeR, D.freeV, D.free, D.free0, D.free0]

theorem fil31_run {d : Nat} (hd : 1 ≤ d) (S : St) (r : Fi) (s : ByteArray) (g : Nat) (e : TypeId) (hcap : S.heap[g]? = some ⟨e, 1, [[.str s]], 0, 0, false⟩) (hlt : g < S.heap.length) :
  runF LP NN d 31 [.agg [.str r.nm, .str ⟨#[]⟩, .int .u8 0, .int .u8 0, .nils, .nils, r.st, .bool false, .nils, .nils, .int .i64 0, .int .i64 0], .ptr g 0 0 0] S = some (.bool ((r.nm.toList == s.toList) && stN r), S, false) := by
 obtain ⟨rows, hst⟩ := r.hst
 rcases Bool.eq_false_or_eq_true (r.nm.toList == s.toList) with h | h
 ·
  exact fil31_T hd S r s g e hcap hlt hst h
 ·
  exact fil31_F hd S r s g e hcap hlt hst h

theorem failed_n {d : Nat} (hd : 8 ≤ d) {H : List AObj} {gd gk many mode : Nat} {last : ByteArray} {r : Rp} {fx ux rx dx : D} {act : Bool} (hd1 : H[gd]? = some (drO last mode r many)) (hk1 : H[gk]? = some (dkO gd fx ux rx act dx)) {rows0 : List (List D)} (hA : AppAt 9 1 rows0 H dx) {fl : List Fi} (hX : SlD 12 (fiRows fl) fx) (hfl : fl.length ≤ 1000000) {ur : List (List D)} (hU : SlD 3 ur ux) {o : List Ru} (hR : SlD 3 (ruRows o) rx) (hol : o.length ≤ 1000000) {vb : ByteArray} {px : D} {pr : List (List D)} (hP : SlD 2 pr px) (mv : Nat) (hmd : ∀ {d' : Nat} (lo : Nat) (l : List AObj), 4 ≤ d' → runF LP NN d' 29 [.ptr gk 0 0 0, .agg [.str vb, .int .i64 0, .int .i64 0, px, .nils], .str last] ⟨H ++ l, lo⟩ = some (.int .u8 mv, ⟨H ++ l, lo⟩, false)) (q : Rp) (hsel : decide (selI o last mv ≥ 0) = false) (lo : Nat) : runF LP NN d 20 [.ptr gk 0 0 0, .agg [.str vb, .int .i64 0, .int .i64 0, px, .nils], .agg q.cs] ⟨H, lo⟩ = some (.agg (if (fl.any fun f => (f.nm.toList == last.toList) && stN f) = true then [.bool true, .nils, .str ⟨#[]⟩, .bool false, .int .i64 0] else q.cs), ⟨H, lo⟩, false) := by
 have hgk := lt_of hk1
 refine run_at (F := F20) rfl (by simp only [LP, fnOf, snapVs, snaps, zs, zm, zv, hP.snap, hP.snapV, hP.freeV, hP.free, Rp.cs] <;> exact rfl) rfl (by simp only [LP, zf, zm, hP.snap, hP.snapV, hP.freeV, hP.free, Rp.cs]; try rfl) (by simp only [F20, zv] <;> exact rfl) (by omega) ?_
 rintro d rfl
 have zz22 := And.intro hP.isCell (And.intro hP.val (And.intro hP.cells (And.intro hk1 (And.intro @dkO.eq_1 (And.intro hA.isCell (And.intro hA.val (And.intro hX.isCell (And.intro hX.val (And.intro hU.isCell (And.intro hU.val (And.intro hR.isCell (And.intro hR.val (hsel)))))))))))))
 refine cw_seq (cw_region ?_)
 refine ow_op (by simp only [zl, zm, zc, at_L hgk, set_L hgk, zz22] <;> exact rfl) ?_
 refine ow_op (by simp only [zl, zm, zc, at_L hgk, set_L hgk, zz22] <;> exact rfl) ?_
 refine ow_op (by simp only [zl, zm, at_L hgk, set_L hgk, zz22] <;> exact rfl) ?_
 refine ow_nil ?_
 refine sk_n (by simp only [ze] <;> exact rfl) ?_
 refine cw_seq (cw_region ?_)
 refine ow_me rfl ?_
 refine ow_op (by simp only [zo, at_L hgk, set_L hgk, zz22] <;> exact rfl) ?_
 refine ow_op (by simp only [zo, faddrD_ptr, faddrD_cptr, zm, at_L hgk, set_L hgk, zz22] <;> exact rfl) ?_
 refine ow_op (by simp only [zl, zm, zd, partD, List.take, List.drop, at_L hgk, set_L hgk, zz22] <;> exact rfl) ?_
 refine ow_op (by simp only [zo, at_L hgk, set_L hgk, zz22]; exact last_run (by omega) (get_app hd1 _) _) ?_
 refine ow_op (by simp only [zl, zm, at_L hgk, set_L hgk, zz22] <;> exact rfl) ?_
 refine ow_op (by simp only [zl, zm, storeD, overlay, snapVs, snaps, zs, zc, zf, List.take, List.drop, at_L hgk, set_L hgk, zz22] <;> exact rfl) ?_
 refine ow_nil ?_
 refine sk_n (by simp only [ze] <;> exact rfl) ?_
 refine cw_seq (cw_seq ?_)
 refine cw_drawn (by simp only [newsVals, zw, Nat.reduceAdd] <;> exact rfl) (by simp only [zw, newsObj, St.eta] <;> exact rfl) ?_
 refine dw_me rfl rfl ?_
 refine dw_quiet (by simp only [zo, at_L hgk, set_L hgk, zz22] <;> exact rfl) rfl rfl ?_
 refine dw_quiet (by simp only [zo, faddrD_ptr, faddrD_cptr, zm, at_L hgk, set_L hgk, zz22] <;> exact rfl) rfl rfl ?_
 refine dw_op (by simp only [zl, zm, zd, partD, List.take, List.drop, at_L hgk, set_L hgk, zz22] <;> exact rfl) (by simp only [fpHere, zo, zq] <;> exact rfl) rfl ?_
 refine dw_op (by simp only [zl, zm, zd, partD, List.take, List.drop, at_L hgk, set_L hgk, zz22] <;> exact rfl) (by simp only [fpHere, zo, zq] <;> exact rfl) rfl ?_
 refine dw_me rfl rfl ?_
 refine dw_op (by simp only [zl, zm, zd, partD, List.take, List.drop, at_L hgk, set_L hgk, zz22] <;> exact rfl) (by simp only [fpHere, zo, zq] <;> exact rfl) rfl ?_
 refine dw_op (by simp only [zl, zm, zd, partD, List.take, List.drop, at_L hgk, set_L hgk, zz22] <;> exact rfl) (by simp only [fpHere, zo, zq] <;> exact rfl) rfl ?_
 refine dw_op (by simp only [zo, at_L hgk, set_L hgk, zz22]; exact hmd _ _ (by omega)) (by simp only [fpHere, zo, zq] <;> exact rfl) rfl ?_
 refine dw_op (by simp only [zo, at_L hgk, set_L hgk, zz22]; exact select_run (by omega) _ hR hol last mv) (by simp only [fpHere, zo, zq] <;> exact rfl) rfl ?_
 refine dw_ml rfl rfl ?_
 refine dw_quiet (by simp only [zo, List.getElem?_cons_zero, List.getElem?_cons_succ, at_L hgk, set_L hgk, zz22] <;> exact rfl) rfl rfl ?_
 refine dw_quiet (by simp only [zo, List.getElem?_cons_zero, List.getElem?_cons_succ, at_L hgk, set_L hgk, zz22] <;> exact rfl) rfl rfl ?_
 refine dw_ml rfl rfl ?_
 refine dw_ml rfl rfl ?_
 refine dw_nil ?_
 refine sk_n (by simp only [ze] <;> exact rfl) ?_
 refine cw_seq (cw_region ?_)
 refine ow_me rfl ?_
 refine ow_ml rfl ?_
 refine ow_know 0 (b := false) (by simp only [opd, zv, at_L hgk, set_L hgk, zz22] <;> rfl) (by simp only [zn] <;> exact rfl) ?_
 refine ow_off rfl rfl ?_
 refine ow_off rfl rfl ?_
 refine ow_off rfl rfl ?_
 refine ow_off rfl rfl ?_
 refine ow_off rfl rfl ?_
 refine ow_op (by simp only [zo, at_L hgk, set_L hgk, zz22] <;> exact rfl) ?_
 refine ow_nil ?_
 refine sk_n (by simp only [ze] <;> exact rfl) ?_
 refine cw_false (by simp only [opd, zv, at_L hgk, set_L hgk, zz22]) ?_
 refine cw_skip (sk_n rfl (cw_seq (cw_seq (cw_region ?_))))
 refine ow_me rfl ?_
 refine ow_op (by simp only [zo, at_L hgk, set_L hgk, zz22] <;> exact rfl) ?_
 refine ow_op (by simp only [zo, faddrD_ptr, faddrD_cptr, zm, at_L hgk, set_L hgk, zz22] <;> exact rfl) ?_
 refine ow_op (by simp only [zo, faddrD_ptr, faddrD_cptr, zm, at_L hgk, set_L hgk, zz22] <;> exact rfl) ?_
 refine ow_op (by simp only [zl, zm, zd, partD, List.take, List.drop, at_L hgk, set_L hgk, zz22] <;> exact rfl) ?_
 refine ow_op (by simp only [zo, at_L hgk, set_L hgk, zz22] <;> exact rfl) ?_
 refine ow_op (by simp only [zo, at_L hgk, set_L hgk, zz22]; exact containsFile_run (by omega) _ hX hfl 31 [_] rfl (fun f => (f.nm.toList == last.toList) && stN f) (fun he r hr => by cases he; exact fil31_run (by omega) _ r _ _ 9 (by simp) (by simp))) ?_
 refine ow_nil ?_
 refine sk_n (by simp only [ze] <;> exact rfl) ?_
 refine cw_cond (by simp only [opd, zv, at_L hgk, set_L hgk, zz22] <;> exact rfl) (fun hc => ?_) (fun hc => ?_)
 ·
  refine cw_seq (cw_region ?_)
  refine ow_op (by simp only [zo, fillD, overlay, zc, List.take, List.drop, Nat.reduceAdd, Nat.reduceLeDiff, Nat.reduceBEq, zm, at_L hgk, set_L hgk, zz22] <;> exact rfl) ?_
  refine ow_op (by simp only [zl, zm, storeD, overlay, snapVs, snaps, zs, zc, zf, List.take, List.drop, at_L hgk, set_L hgk, zz22] <;> exact rfl) ?_
  refine ow_nil ?_
  refine sk_n (by simp only [ze] <;> exact rfl) ?_
  refine cw_ret (sk_r ?_)
  refine ⟨_, by simp only [F20, resultD, resDs, resD, zg, zd, rowsOf, partD, List.take, List.drop, zm, at_app, at_app0, Nat.reduceAdd, List.getElem?_cons_succ, List.getElem?_cons_zero] <;> exact rfl, ?_⟩
  rw [if_pos (by rw [hc])]
  simp [leave, LP, snapR, snapV, snaps, snap, D.freeR, D.freeV, D.free, D.free0, Rp.cs]
 ·
  refine cw_skip (sk_n rfl (cw_seq (cw_region ?_)))
  refine ow_op (by simp only [zl, zm, zd, partD, List.take, List.drop, at_L hgk, set_L hgk, zz22] <;> exact rfl) ?_
  refine ow_op (by simp only [zl, zm, storeD, overlay, snapVs, snaps, zs, zc, zf, List.take, List.drop, at_L hgk, set_L hgk, zz22] <;> exact rfl) ?_
  refine ow_nil ?_
  refine sk_n (by simp only [ze] <;> exact rfl) ?_
  refine cw_ret ?_
  refine ⟨_, by simp only [F20, resultD, resDs, resD, zg, zd, rowsOf, partD, List.take, List.drop, zm, at_app, at_app0, Nat.reduceAdd, List.getElem?_cons_succ, List.getElem?_cons_zero] <;> exact rfl, ?_⟩
  rw [if_neg (by rw [hc]; simp)]
  simp [leave, LP, snapR, snapV, snaps, snap, D.freeR, D.freeV, D.free, D.free0, Rp.cs]

theorem failed_a {d : Nat} (hd : 8 ≤ d) {H : List AObj} {gd gk many mode : Nat} {last : ByteArray} {r : Rp} {fx ux rx dx : D} (hd1 : H[gd]? = some (drO last mode r many)) (hk1 : H[gk]? = some (dkO gd fx ux rx true dx)) {rows0 : List (List D)} (hA : AppAt 9 1 rows0 H dx) {fl : List Fi} (hX : SlD 12 (fiRows fl) fx) (hfl : fl.length ≤ 1000000) {ur : List (List D)} (hU : SlD 3 ur ux) {o : List Ru} (hR : SlD 3 (ruRows o) rx) (hol : o.length ≤ 1000000) {vb : ByteArray} {px : D} {pr : List (List D)} (hP : SlD 2 pr px) (mv : Nat) (hmd : ∀ {d' : Nat} (lo : Nat) (l : List AObj), 4 ≤ d' → runF LP NN d' 29 [.ptr gk 0 0 0, .agg [.str vb, .int .i64 0, .int .i64 0, px, .nils], .str last] ⟨H ++ l, lo⟩ = some (.int .u8 mv, ⟨H ++ l, lo⟩, false)) (q : Rp) (hsel : decide (selI o last mv ≥ 0) = true) (lo : Nat) : runF LP NN d 20 [.ptr gk 0 0 0, .agg [.str vb, .int .i64 0, .int .i64 0, px, .nils], .agg q.cs] ⟨H, lo⟩ = some (.agg (if (fl.any fun f => (f.nm.toList == last.toList) && stN f) = true then [.bool true, .nils, .str ⟨#[]⟩, .bool false, .int .i64 0] else q.cs), ⟨H, lo⟩, false) := by
 have hgk := lt_of hk1
 refine run_at (F := F20) rfl (by simp only [LP, fnOf, snapVs, snaps, zs, zm, zv, hP.snap, hP.snapV, hP.freeV, hP.free, Rp.cs] <;> exact rfl) rfl (by simp only [LP, zf, zm, hP.snap, hP.snapV, hP.freeV, hP.free, Rp.cs]; try rfl) (by simp only [F20, zv] <;> exact rfl) (by omega) ?_
 rintro d rfl
 have zz23 := And.intro hP.isCell (And.intro hP.val (And.intro hP.cells (And.intro hk1 (And.intro @dkO.eq_1 (And.intro hA.isCell (And.intro hA.val (And.intro hX.isCell (And.intro hX.val (And.intro hU.isCell (And.intro hU.val (And.intro hR.isCell (And.intro hR.val (And.intro hsel (@Bool.not_true))))))))))))))
 refine cw_seq (cw_region ?_)
 refine ow_op (by simp only [zl, zm, zc, at_L hgk, set_L hgk, zz23] <;> exact rfl) ?_
 refine ow_op (by simp only [zl, zm, zc, at_L hgk, set_L hgk, zz23] <;> exact rfl) ?_
 refine ow_op (by simp only [zl, zm, at_L hgk, set_L hgk, zz23] <;> exact rfl) ?_
 refine ow_nil ?_
 refine sk_n (by simp only [ze] <;> exact rfl) ?_
 refine cw_seq (cw_region ?_)
 refine ow_me rfl ?_
 refine ow_op (by simp only [zo, at_L hgk, set_L hgk, zz23] <;> exact rfl) ?_
 refine ow_op (by simp only [zo, faddrD_ptr, faddrD_cptr, zm, at_L hgk, set_L hgk, zz23] <;> exact rfl) ?_
 refine ow_op (by simp only [zl, zm, zd, partD, List.take, List.drop, at_L hgk, set_L hgk, zz23] <;> exact rfl) ?_
 refine ow_op (by simp only [zo, at_L hgk, set_L hgk, zz23]; exact last_run (by omega) (get_app hd1 _) _) ?_
 refine ow_op (by simp only [zl, zm, at_L hgk, set_L hgk, zz23] <;> exact rfl) ?_
 refine ow_op (by simp only [zl, zm, storeD, overlay, snapVs, snaps, zs, zc, zf, List.take, List.drop, at_L hgk, set_L hgk, zz23] <;> exact rfl) ?_
 refine ow_nil ?_
 refine sk_n (by simp only [ze] <;> exact rfl) ?_
 refine cw_seq (cw_seq ?_)
 refine cw_drawn (by simp only [newsVals, zw, Nat.reduceAdd] <;> exact rfl) (by simp only [zw, newsObj, St.eta] <;> exact rfl) ?_
 refine dw_me rfl rfl ?_
 refine dw_quiet (by simp only [zo, at_L hgk, set_L hgk, zz23] <;> exact rfl) rfl rfl ?_
 refine dw_quiet (by simp only [zo, faddrD_ptr, faddrD_cptr, zm, at_L hgk, set_L hgk, zz23] <;> exact rfl) rfl rfl ?_
 refine dw_op (by simp only [zl, zm, zd, partD, List.take, List.drop, at_L hgk, set_L hgk, zz23] <;> exact rfl) (by simp only [fpHere, zo, zq] <;> exact rfl) rfl ?_
 refine dw_op (by simp only [zl, zm, zd, partD, List.take, List.drop, at_L hgk, set_L hgk, zz23] <;> exact rfl) (by simp only [fpHere, zo, zq] <;> exact rfl) rfl ?_
 refine dw_me rfl rfl ?_
 refine dw_op (by simp only [zl, zm, zd, partD, List.take, List.drop, at_L hgk, set_L hgk, zz23] <;> exact rfl) (by simp only [fpHere, zo, zq] <;> exact rfl) rfl ?_
 refine dw_op (by simp only [zl, zm, zd, partD, List.take, List.drop, at_L hgk, set_L hgk, zz23] <;> exact rfl) (by simp only [fpHere, zo, zq] <;> exact rfl) rfl ?_
 refine dw_op (by simp only [zo, at_L hgk, set_L hgk, zz23]; exact hmd _ _ (by omega)) (by simp only [fpHere, zo, zq] <;> exact rfl) rfl ?_
 refine dw_op (by simp only [zo, at_L hgk, set_L hgk, zz23]; exact select_run (by omega) _ hR hol last mv) (by simp only [fpHere, zo, zq] <;> exact rfl) rfl ?_
 refine dw_ml rfl rfl ?_
 refine dw_quiet (by simp only [zo, List.getElem?_cons_zero, List.getElem?_cons_succ, at_L hgk, set_L hgk, zz23] <;> exact rfl) rfl rfl ?_
 refine dw_quiet (by simp only [zo, List.getElem?_cons_zero, List.getElem?_cons_succ, at_L hgk, set_L hgk, zz23] <;> exact rfl) rfl rfl ?_
 refine dw_ml rfl rfl ?_
 refine dw_ml rfl rfl ?_
 refine dw_nil ?_
 refine sk_n (by simp only [ze] <;> exact rfl) ?_
 refine cw_seq (cw_region ?_)
 refine ow_me rfl ?_
 refine ow_ml rfl ?_
 refine ow_know 0 (b := true) (by simp only [opd, zv, at_L hgk, set_L hgk, zz23] <;> rfl) (by simp only [zn] <;> exact rfl) ?_
 refine ow_on rfl ?_
 refine ow_me rfl ?_
 refine ow_on rfl ?_
 refine ow_op (by simp only [zo, at_L hgk, set_L hgk, zz23] <;> exact rfl) ?_
 refine ow_on rfl ?_
 refine ow_op (by simp only [zo, faddrD_ptr, faddrD_cptr, zm, at_L hgk, set_L hgk, zz23] <;> exact rfl) ?_
 refine ow_on rfl ?_
 refine ow_op (by simp only [zl, zm, zd, partD, List.take, List.drop, at_L hgk, set_L hgk, zz23] <;> exact rfl) ?_
 refine ow_on rfl ?_
 refine ow_op (by simp only [zo, unD, at_L hgk, set_L hgk, zz23] <;> exact rfl) ?_
 refine ow_op (by simp only [zo, at_L hgk, set_L hgk, zz23] <;> exact rfl) ?_
 refine ow_nil ?_
 refine sk_n (by simp only [ze] <;> exact rfl) ?_
 skip
 refine cw_false (by simp only [opd, zv, at_L hgk, set_L hgk, zz23] <;> rfl) ?_
 refine cw_skip (sk_n rfl (cw_seq (cw_seq (cw_region ?_))))
 refine ow_me rfl ?_
 refine ow_op (by simp only [zo, at_L hgk, set_L hgk, zz23] <;> exact rfl) ?_
 refine ow_op (by simp only [zo, faddrD_ptr, faddrD_cptr, zm, at_L hgk, set_L hgk, zz23] <;> exact rfl) ?_
 refine ow_op (by simp only [zo, faddrD_ptr, faddrD_cptr, zm, at_L hgk, set_L hgk, zz23] <;> exact rfl) ?_
 refine ow_op (by simp only [zl, zm, zd, partD, List.take, List.drop, at_L hgk, set_L hgk, zz23] <;> exact rfl) ?_
 refine ow_op (by simp only [zo, at_L hgk, set_L hgk, zz23] <;> exact rfl) ?_
 refine ow_op (by simp only [zo, at_L hgk, set_L hgk, zz23]; exact containsFile_run (by omega) _ hX hfl 31 [_] rfl (fun f => (f.nm.toList == last.toList) && stN f) (fun he r hr => by cases he; exact fil31_run (by omega) _ r _ _ 9 (by simp) (by simp))) ?_
 refine ow_nil ?_
 refine sk_n (by simp only [ze] <;> exact rfl) ?_
 refine cw_cond (by simp only [opd, zv, at_L hgk, set_L hgk, zz23] <;> exact rfl) (fun hc => ?_) (fun hc => ?_)
 ·
  refine cw_seq (cw_region ?_)
  refine ow_op (by simp only [zo, fillD, overlay, zc, List.take, List.drop, Nat.reduceAdd, Nat.reduceLeDiff, Nat.reduceBEq, zm, at_L hgk, set_L hgk, zz23] <;> exact rfl) ?_
  refine ow_op (by simp only [zl, zm, storeD, overlay, snapVs, snaps, zs, zc, zf, List.take, List.drop, at_L hgk, set_L hgk, zz23] <;> exact rfl) ?_
  refine ow_nil ?_
  refine sk_n (by simp only [ze] <;> exact rfl) ?_
  refine cw_ret (sk_r ?_)
  refine ⟨_, by simp only [F20, resultD, resDs, resD, zg, zd, rowsOf, partD, List.take, List.drop, zm, at_app, at_app0, Nat.reduceAdd, List.getElem?_cons_succ, List.getElem?_cons_zero] <;> exact rfl, ?_⟩
  rw [if_pos (by rw [hc])]
  simp [leave, LP, snapR, snapV, snaps, snap, D.freeR, D.freeV, D.free, D.free0, Rp.cs]
 ·
  refine cw_skip (sk_n rfl (cw_seq (cw_region ?_)))
  refine ow_op (by simp only [zl, zm, zd, partD, List.take, List.drop, at_L hgk, set_L hgk, zz23] <;> exact rfl) ?_
  refine ow_op (by simp only [zl, zm, storeD, overlay, snapVs, snaps, zs, zc, zf, List.take, List.drop, at_L hgk, set_L hgk, zz23] <;> exact rfl) ?_
  refine ow_nil ?_
  refine sk_n (by simp only [ze] <;> exact rfl) ?_
  refine cw_ret ?_
  refine ⟨_, by simp only [F20, resultD, resDs, resD, zg, zd, rowsOf, partD, List.take, List.drop, zm, at_app, at_app0, Nat.reduceAdd, List.getElem?_cons_succ, List.getElem?_cons_zero] <;> exact rfl, ?_⟩
  rw [if_neg (by rw [hc]; simp)]
  simp [leave, LP, snapR, snapV, snaps, snap, D.freeR, D.freeV, D.free, D.free0, Rp.cs]

end Go.Proofs.YtcogjcplldpkaaaGreat

namespace Go.Proofs.YtcogjcplldpkaaaGreat
set_option linter.unusedSimpArgs false
set_option linter.unusedVariables false
set_option maxRecDepth 10000
set_option maxHeartbeats 2000000

theorem strRows_snoc (l : List ByteArray) (s : ByteArray) : strRows (l ++ [s]) = strRows l ++ [[.str s]] := by simp [strRows]

theorem failed_hit {d : Nat} (hd : 8 ≤ d) {H : List AObj} {gd gk many mode : Nat} {last : ByteArray} {r : Rp} {fx ux rx dx : D} (hd1 : H[gd]? = some (drO last mode r many)) (hk1 : H[gk]? = some (dkO gd fx ux rx false dx)) {dn : List ByteArray} {g : Option Nat} (hA : AppI 9 1 (strRows dn) H dx g) (hdn : dn.length ≤ 1000) {fl : List Fi} (hX : SlD 12 (fiRows fl) fx) (hfl : fl.length ≤ 1000000) {ur : List (List D)} (hU : SlD 3 ur ux) {o : List Ru} (hR : SlD 3 (ruRows o) rx) (hol : o.length ≤ 1000000) {vb : ByteArray} {px : D} {pr : List (List D)} (hP : SlD 2 pr px) (mv : Nat) (hmd : ∀ {d' : Nat} (lo : Nat) (l : List AObj), 4 ≤ d' → runF LP NN d' 29 [.ptr gk 0 0 0, .agg [.str vb, .int .i64 0, .int .i64 0, px, .nils], .str last] ⟨H ++ l, lo⟩ = some (.int .u8 mv, ⟨H ++ l, lo⟩, false)) (q : Rp) {i : Nat} (hi : i < o.length) (hsel : selI o last mv = (i : Int)) (lo : Nat) : ∃ H' dx' g' lo', runF LP NN d 20 [.ptr gk 0 0 0, .agg [.str vb, .int .i64 0, .int .i64 0, px, .nils], .agg q.cs] ⟨H, lo⟩ = some (.agg (rpS o[i].sec), ⟨H', min lo lo'⟩, true) ∧ H'[gk]? = some (dkO gd fx ux rx true dx') ∧ AppI 9 1 (strRows (dn ++ [o[i].sec])) H' dx' (some g') ∧ (g = some g' ∨ H.length ≤ g') ∧ H.length ≤ H'.length ∧ ∀ (k : Nat) (ob : AObj), H[k]? = some ob → k ≠ gk → g ≠ some k → H'[k]? = some ob := by
 have hgk := lt_of hk1
 have hne := hA.ne hk1 (by simp [dkO])
 have hAA := hA.at
 have hA1 := (hA.put hk1 (by simp [dkO]) (dkO gd fx ux rx true dx)).push [⟨57, 5, [[.str vb, .int .i64 0, .int .i64 0, px, .nils]], 0, 0, false⟩, ⟨38, 5, [[.bool q.h, .nils, .str q.b, .bool false, .int .i64 q.e]], 0, 0, false⟩, ⟨38, 5, [[.bool false, .nils, .str ⟨#[]⟩, .bool false, .int .i64 0]], 0, 0, false⟩, ⟨9, 1, [[.str last]], 0, 0, false⟩]
 obtain ⟨dx', H2, k', hap, hA2, hg', hlen, hkeep⟩ := hA1.app 16 (new := [[.str o[i].sec]]) (c := some 1) rfl (by rw [strRows_len]; simp; omega)
 have hA2p := hA2.at.plainV (by simp)
 have hA2c := hA2.at.isCell
 have hA2v := hA2.at.val
 have hA2e := hA2.at.cells
 have hks := get_set_self hk1 (dkO gd fx ux rx true dx)
 have hgk2 := lt_of hks
 have hk2 := hkeep gk _ (get_app hks _) hne
 have hr2 : H2[H.length + 2]? = some ⟨38, 5, [[.bool false, .nils, .str ⟨#[]⟩, .bool false, .int .i64 0]], 0, 0, false⟩ := hkeep _ _ (by rw [at_S]; rfl) (by intro h; have := hA.lt _ h; omega)
 have hl2 := lt_of hr2
 have hk3 := get_set_self hk2 (dkO gd fx ux rx true dx')
 have hr3 := get_set_ne hr2 (show gk ≠ H.length + 2 by omega) (dkO gd fx ux rx true dx')
 have hr4 := get_set_self hr3 (⟨38, 5, [rpS o[i].sec], 0, 0, false⟩ : AObj)
 have hA3 := hA2.put hk2 (by simp [dkO]) (dkO gd fx ux rx true dx')
 have hA4 := hA3.put hr3 (by simp) (⟨38, 5, [rpS o[i].sec], 0, 0, false⟩ : AObj)
 have hk4 := get_set_ne hk3 (show H.length + 2 ≠ gk by omega) (⟨38, 5, [rpS o[i].sec], 0, 0, false⟩ : AObj)
 have hle := appLow_le g gk
 have hm1 : min H.length gk = gk := by omega
 have hm2 : min (appLow g gk) gk = appLow g gk := by omega
 have hm3 : min (appLow g gk) (H.length + 2) = appLow g gk := by omega
 have hm4 : ¬ H.length ≤ appLow g gk := by omega
 refine ⟨_, dx', k', appLow g gk, ?_, hk4, by rw [strRows_snoc]; exact hA4, by rcases hg' with h | ⟨h1, h2⟩; exact .inl h; right; rw [h2]; simp, by simp at hlen ⊢; omega, fun k ob hk hkg hgn => ?_⟩
 case refine_2 =>
  have hkl := lt_of hk
  exact get_set_ne (get_set_ne (hkeep k ob (get_app (get_set_ne hk (fun h => hkg h.symm) _) _) hgn) (fun h => hkg h.symm) _) (by omega) _
 have hmx : max (i : Int) 0 = (i : Int) := by omega
 have hdi : decide ((i : Int) ≥ 0) = true := decide_eq_true (by omega)
 have hiR := fun (S : St) => hR.iaddrN S .i64 (ruRows_at hi)
 simp only [dkO, rpS] at hk1 hks hgk2 hk2 hk3 hr3 hr4 ⊢
 refine run_at (F := F20) rfl (by simp only [LP, fnOf, snapVs, snaps, zs, zm, zv, hP.snap, hP.snapV, hP.freeV, hP.free, Rp.cs] <;> exact rfl) rfl (by simp only [LP, zf, zm, hP.snap, hP.snapV, hP.freeV, hP.free, Rp.cs]; try rfl) (by simp only [F20, zv] <;> exact rfl) (by omega) ?_
 rintro d rfl
 have zz24 := And.intro hP.isCell (And.intro hP.val (And.intro hP.cells (And.intro hk1 (And.intro hAA.isCell (And.intro hAA.val (And.intro hX.isCell (And.intro hX.val (And.intro hU.isCell (And.intro hU.val (And.intro hR.isCell (And.intro hR.val (And.intro hsel (And.intro hmx (And.intro hdi (And.intro hks (And.intro hk2 (And.intro hk3 (And.intro hr3 (And.intro hr4 (And.intro hA2c (And.intro hA2v (And.intro hA2e (And.intro hm1 (And.intro hm2 (And.intro hm3 (hiR))))))))))))))))))))))))))
 refine cw_seq (cw_region ?_)
 refine ow_op (by simp only [zl, zm, zc, at_L hgk, set_L hgk, Nat.reduceAdd, at_L hgk2, zz24] <;> exact rfl) ?_
 refine ow_op (by simp only [zl, zm, zc, at_L hgk, set_L hgk, Nat.reduceAdd, at_L hgk2, zz24] <;> exact rfl) ?_
 refine ow_op (by simp only [zl, zm, at_L hgk, set_L hgk, Nat.reduceAdd, at_L hgk2, zz24] <;> exact rfl) ?_
 refine ow_nil ?_
 refine sk_n (by simp only [ze] <;> exact rfl) ?_
 refine cw_seq (cw_region ?_)
 refine ow_me rfl ?_
 refine ow_op (by simp only [zo, at_L hgk, set_L hgk, Nat.reduceAdd, at_L hgk2, zz24] <;> exact rfl) ?_
 refine ow_op (by simp only [zo, faddrD_ptr, faddrD_cptr, zm, at_L hgk, set_L hgk, Nat.reduceAdd, at_L hgk2, zz24] <;> exact rfl) ?_
 refine ow_op (by simp only [zl, zm, zd, partD, List.take, List.drop, at_L hgk, set_L hgk, Nat.reduceAdd, at_L hgk2, zz24] <;> exact rfl) ?_
 refine ow_op (by simp only [zo, at_L hgk, set_L hgk, Nat.reduceAdd, at_L hgk2, zz24]; exact last_run (by omega) (get_app hd1 _) _) ?_
 refine ow_op (by simp only [zl, zm, at_L hgk, set_L hgk, Nat.reduceAdd, at_L hgk2, zz24] <;> exact rfl) ?_
 refine ow_op (by simp only [zl, zm, storeD, overlay, snapVs, snaps, zs, zc, zf, List.take, List.drop, at_L hgk, set_L hgk, Nat.reduceAdd, at_L hgk2, zz24] <;> exact rfl) ?_
 refine ow_nil ?_
 refine sk_n (by simp only [ze] <;> exact rfl) ?_
 refine cw_seq (cw_seq ?_)
 refine cw_drawn (by simp only [newsVals, zw, Nat.reduceAdd] <;> exact rfl) (by simp only [zw, newsObj, St.eta] <;> exact rfl) ?_
 refine dw_me rfl rfl ?_
 refine dw_quiet (by simp only [zo, at_L hgk, set_L hgk, Nat.reduceAdd, at_L hgk2, zz24] <;> exact rfl) rfl rfl ?_
 refine dw_quiet (by simp only [zo, faddrD_ptr, faddrD_cptr, zm, at_L hgk, set_L hgk, Nat.reduceAdd, at_L hgk2, zz24] <;> exact rfl) rfl rfl ?_
 refine dw_op (by simp only [zl, zm, zd, partD, List.take, List.drop, at_L hgk, set_L hgk, Nat.reduceAdd, at_L hgk2, zz24] <;> exact rfl) (by simp only [fpHere, zo, zq, hA2p, Bool.false_eq_true, if_false, hR.fpi] <;> exact rfl) rfl ?_
 refine dw_op (by simp only [zl, zm, zd, partD, List.take, List.drop, at_L hgk, set_L hgk, Nat.reduceAdd, at_L hgk2, zz24] <;> exact rfl) (by simp only [fpHere, zo, zq, hA2p, Bool.false_eq_true, if_false, hR.fpi] <;> exact rfl) rfl ?_
 refine dw_me rfl rfl ?_
 refine dw_op (by simp only [zl, zm, zd, partD, List.take, List.drop, at_L hgk, set_L hgk, Nat.reduceAdd, at_L hgk2, zz24] <;> exact rfl) (by simp only [fpHere, zo, zq, hA2p, Bool.false_eq_true, if_false, hR.fpi] <;> exact rfl) rfl ?_
 refine dw_op (by simp only [zl, zm, zd, partD, List.take, List.drop, at_L hgk, set_L hgk, Nat.reduceAdd, at_L hgk2, zz24] <;> exact rfl) (by simp only [fpHere, zo, zq, hA2p, Bool.false_eq_true, if_false, hR.fpi] <;> exact rfl) rfl ?_
 refine dw_op (by simp only [zo, at_L hgk, set_L hgk, Nat.reduceAdd, at_L hgk2, zz24]; exact hmd _ _ (by omega)) (by simp only [fpHere, zo, zq, hA2p, Bool.false_eq_true, if_false, hR.fpi] <;> exact rfl) rfl ?_
 refine dw_op (by simp only [zo, at_L hgk, set_L hgk, Nat.reduceAdd, at_L hgk2, zz24]; exact select_run (by omega) _ hR hol last mv) (by simp only [fpHere, zo, zq, hA2p, Bool.false_eq_true, if_false, hR.fpi] <;> exact rfl) rfl ?_
 refine dw_ml rfl rfl ?_
 refine dw_quiet (by simp only [zo, List.getElem?_cons_zero, List.getElem?_cons_succ, at_L hgk, set_L hgk, Nat.reduceAdd, at_L hgk2, zz24] <;> exact rfl) rfl rfl ?_
 refine dw_quiet (by simp only [zo, List.getElem?_cons_zero, List.getElem?_cons_succ, at_L hgk, set_L hgk, Nat.reduceAdd, at_L hgk2, zz24] <;> exact rfl) rfl rfl ?_
 refine dw_ml rfl rfl ?_
 refine dw_ml rfl rfl ?_
 refine dw_nil ?_
 refine sk_n (by simp only [ze] <;> exact rfl) ?_
 refine cw_seq (cw_region ?_)
 refine ow_me rfl ?_
 refine ow_ml rfl ?_
 refine ow_know 0 (b := true) (by simp only [opd, zv, at_L hgk, set_L hgk, Nat.reduceAdd, at_L hgk2, zz24] <;> rfl) (by simp only [zn] <;> exact rfl) ?_
 refine ow_on rfl ?_
 refine ow_me rfl ?_
 refine ow_on rfl ?_
 refine ow_op (by simp only [zo, at_L hgk, set_L hgk, Nat.reduceAdd, at_L hgk2, zz24] <;> exact rfl) ?_
 refine ow_on rfl ?_
 refine ow_op (by simp only [zo, faddrD_ptr, faddrD_cptr, zm, at_L hgk, set_L hgk, Nat.reduceAdd, at_L hgk2, zz24] <;> exact rfl) ?_
 refine ow_on rfl ?_
 refine ow_op (by simp only [zl, zm, zd, partD, List.take, List.drop, at_L hgk, set_L hgk, Nat.reduceAdd, at_L hgk2, zz24] <;> exact rfl) ?_
 refine ow_on rfl ?_
 refine ow_op (by simp only [zo, unD, at_L hgk, set_L hgk, Nat.reduceAdd, at_L hgk2, zz24] <;> exact rfl) ?_
 refine ow_op (by simp only [zo, at_L hgk, set_L hgk, Nat.reduceAdd, at_L hgk2, zz24] <;> exact rfl) ?_
 refine ow_nil ?_
 refine sk_n (by simp only [ze] <;> exact rfl) ?_
 skip
 refine cw_true (by simp only [opd, zv, at_L hgk, set_L hgk, Nat.reduceAdd, at_L hgk2, zz24] <;> rfl) ?_
 refine cw_seq (cw_region ?_)
 refine ow_me rfl ?_
 refine ow_op (by simp only [zo, at_L hgk, set_L hgk, Nat.reduceAdd, at_L hgk2, zz24] <;> exact rfl) ?_
 refine ow_op (by simp only [zo, faddrD_ptr, faddrD_cptr, zm, at_L hgk, set_L hgk, Nat.reduceAdd, at_L hgk2, zz24] <;> exact rfl) ?_
 refine ow_op (by simp only [zl, zm, storeD, overlay, snapVs, snaps, zs, zc, zf, List.take, List.drop, at_L hgk, set_L hgk, Nat.reduceAdd, at_L hgk2, zz24] <;> exact rfl) ?_
 refine ow_nil ?_
 refine sk_n (by simp only [ze] <;> exact rfl) ?_
 refine cw_seq ?_
 refine cw_drawn (by simp only [newsVals, zw, Nat.reduceAdd] <;> exact rfl) (by simp only [zw, newsObj, St.eta] <;> exact rfl) ?_
 refine dw_me rfl rfl ?_
 refine dw_me rfl rfl ?_
 refine dw_quiet (by simp only [zo, at_L hgk, set_L hgk, Nat.reduceAdd, at_L hgk2, zz24] <;> exact rfl) rfl rfl ?_
 refine dw_quiet (by simp only [zo, faddrD_ptr, faddrD_cptr, zm, at_L hgk, set_L hgk, Nat.reduceAdd, at_L hgk2, zz24] <;> exact rfl) rfl rfl ?_
 refine dw_op (by simp only [zl, zm, zd, partD, List.take, List.drop, at_L hgk, set_L hgk, Nat.reduceAdd, at_L hgk2, zz24] <;> exact rfl) (by simp only [fpHere, zo, zq, hA2p, Bool.false_eq_true, if_false, hR.fpi] <;> exact rfl) rfl ?_
 refine dw_me rfl rfl ?_
 refine dw_quiet (by simp only [zo, at_L hgk, set_L hgk, Nat.reduceAdd, at_L hgk2, zz24] <;> exact rfl) rfl rfl ?_
 refine dw_quiet (by simp only [zo, faddrD_ptr, faddrD_cptr, zm, at_L hgk, set_L hgk, Nat.reduceAdd, at_L hgk2, zz24] <;> exact rfl) rfl rfl ?_
 refine dw_op (by simp only [zl, zm, zd, partD, List.take, List.drop, at_L hgk, set_L hgk, Nat.reduceAdd, at_L hgk2, zz24] <;> exact rfl) (by simp only [fpHere, zo, zq, hA2p, Bool.false_eq_true, if_false, hR.fpi] <;> exact rfl) rfl ?_
 refine dw_me rfl rfl ?_
 refine dw_op (by simp only [zl, zm, iaddrD_sl, iaddrD_msl, Int.toNat_natCast, Int.toNat_zero, List.getElem?_map, Option.map_some, Int.le_refl, at_L hgk, set_L hgk, Nat.reduceAdd, at_L hgk2, zz24] <;> exact rfl) (by simp only [fpHere, zo, zq, hA2p, Bool.false_eq_true, if_false, hR.fpi] <;> exact rfl) rfl ?_
 refine dw_quiet (by simp only [zo, faddrD_ptr, faddrD_cptr, zm, at_L hgk, set_L hgk, Nat.reduceAdd, at_L hgk2, zz24] <;> exact rfl) rfl rfl ?_
 refine dw_op (by simp only [zl, zm, zd, partD, List.take, List.drop, at_L hgk, set_L hgk, Nat.reduceAdd, at_L hgk2, zz24] <;> exact rfl) (by simp only [fpHere, zo, zq, hA2p, Bool.false_eq_true, if_false, hR.fpi] <;> exact rfl) rfl ?_
 refine dw_op (by simp only [zl, zm, fillRows, List.replicate, snapVs, snaps, zs, zc, zf, at_L hgk, set_L hgk, Nat.reduceAdd, at_L hgk2, zz24] <;> exact rfl) (by simp only [fpHere, zo, zq, hA2p, Bool.false_eq_true, if_false, hR.fpi] <;> exact rfl) rfl ?_
 refine dw_op (by simp only [opd, zv, exOp, aop, LOp.loud, lop, if_true]; exact hap _) (by simp only [fpHere, zo, zq]; exact fpApp_eta _ _ _ _) (okHere_nil rfl) ?_
 refine dw_quiet (by simp only [zo, at_L hgk, set_L hgk, Nat.reduceAdd, at_L hgk2, zz24] <;> exact rfl) rfl rfl ?_
 refine dw_quiet (by simp only [zo, faddrD_ptr, faddrD_cptr, zm, at_L hgk, set_L hgk, Nat.reduceAdd, at_L hgk2, zz24] <;> exact rfl) rfl rfl ?_
 refine dw_op (by simp only [zl, zm, storeD, overlay, snapVs, snaps, zs, zc, zf, List.take, List.drop, at_L hgk, set_L hgk, Nat.reduceAdd, at_L hgk2, zz24] <;> exact rfl) (by simp only [fpHere, zo, zq, hA2p, Bool.false_eq_true, if_false, hR.fpi] <;> exact rfl) rfl ?_
 refine dw_nil ?_
 refine sk_n (by simp only [ze] <;> exact rfl) ?_
 refine cw_seq ?_
 refine cw_drawn (by simp only [newsVals, zw, Nat.reduceAdd] <;> exact rfl) (by simp only [zw, newsObj, St.eta] <;> exact rfl) ?_
 refine dw_me rfl rfl ?_
 refine dw_quiet (by simp only [zo, at_L hgk, set_L hgk, Nat.reduceAdd, at_L hgk2, zz24] <;> exact rfl) rfl rfl ?_
 refine dw_quiet (by simp only [zo, faddrD_ptr, faddrD_cptr, zm, at_L hgk, set_L hgk, Nat.reduceAdd, at_L hgk2, zz24] <;> exact rfl) rfl rfl ?_
 refine dw_op (by simp only [zl, zm, zd, partD, List.take, List.drop, at_L hgk, set_L hgk, Nat.reduceAdd, at_L hgk2, zz24] <;> exact rfl) (by simp only [fpHere, zo, zq, hA2p, Bool.false_eq_true, if_false, hR.fpi] <;> exact rfl) rfl ?_
 refine dw_me rfl rfl ?_
 refine dw_op (by simp only [zl, zm, iaddrD_sl, iaddrD_msl, Int.toNat_natCast, Int.toNat_zero, List.getElem?_map, Option.map_some, Int.le_refl, at_L hgk, set_L hgk, Nat.reduceAdd, at_L hgk2, zz24] <;> exact rfl) (by simp only [fpHere, zo, zq, hA2p, Bool.false_eq_true, if_false, hR.fpi] <;> exact rfl) rfl ?_
 refine dw_quiet (by simp only [zo, faddrD_ptr, faddrD_cptr, zm, at_L hgk, set_L hgk, Nat.reduceAdd, at_L hgk2, zz24] <;> exact rfl) rfl rfl ?_
 refine dw_op (by simp only [zl, zm, zd, partD, List.take, List.drop, at_L hgk, set_L hgk, Nat.reduceAdd, at_L hgk2, zz24] <;> exact rfl) (by simp only [fpHere, zo, zq, hA2p, Bool.false_eq_true, if_false, hR.fpi] <;> exact rfl) rfl ?_
 refine dw_me rfl rfl ?_
 refine dw_quiet (by simp only [zo, at_L hgk, set_L hgk, Nat.reduceAdd, at_L hgk2, zz24] <;> exact rfl) rfl rfl ?_
 refine dw_quiet (by simp only [zo, faddrD_ptr, faddrD_cptr, zm, at_L hgk, set_L hgk, Nat.reduceAdd, at_L hgk2, zz24] <;> exact rfl) rfl rfl ?_
 refine dw_op (by simp only [zl, zm, zd, partD, List.take, List.drop, at_L hgk, set_L hgk, Nat.reduceAdd, at_L hgk2, zz24] <;> exact rfl) (by simp only [fpHere, zo, zq, hA2p, Bool.false_eq_true, if_false, hR.fpi] <;> exact rfl) rfl ?_
 refine dw_me rfl rfl ?_
 refine dw_op (by simp only [zl, zm, iaddrD_sl, iaddrD_msl, Int.toNat_natCast, Int.toNat_zero, List.getElem?_map, Option.map_some, Int.le_refl, at_L hgk, set_L hgk, Nat.reduceAdd, at_L hgk2, zz24] <;> exact rfl) (by simp only [fpHere, zo, zq, hA2p, Bool.false_eq_true, if_false, hR.fpi] <;> exact rfl) rfl ?_
 refine dw_quiet (by simp only [zo, faddrD_ptr, faddrD_cptr, zm, at_L hgk, set_L hgk, Nat.reduceAdd, at_L hgk2, zz24] <;> exact rfl) rfl rfl ?_
 refine dw_op (by simp only [zl, zm, zd, partD, List.take, List.drop, at_L hgk, set_L hgk, Nat.reduceAdd, at_L hgk2, zz24] <;> exact rfl) (by simp only [fpHere, zo, zq, hA2p, Bool.false_eq_true, if_false, hR.fpi] <;> exact rfl) rfl ?_
 refine dw_op (by simp only [zl, zm, fillRows, List.replicate, snapVs, snaps, zs, zc, zf, at_L hgk, set_L hgk, Nat.reduceAdd, at_L hgk2, zz24] <;> exact rfl) (by simp only [fpHere, zo, zq, hA2p, Bool.false_eq_true, if_false, hR.fpi] <;> exact rfl) rfl ?_
 refine dw_quiet (by simp only [zo, fillD, overlay, zc, List.take, List.drop, Nat.reduceAdd, Nat.reduceLeDiff, Nat.reduceBEq, zm, at_L hgk, set_L hgk, Nat.reduceAdd, at_L hgk2, zz24] <;> exact rfl) rfl rfl ?_
 refine dw_op (by simp only [zl, zm, storeD, overlay, snapVs, snaps, zs, zc, zf, List.take, List.drop, at_L hgk, set_L hgk, Nat.reduceAdd, at_L hgk2, zz24] <;> exact rfl) (by simp only [fpHere, zo, zq, hA2p, Bool.false_eq_true, if_false, hR.fpi] <;> exact rfl) rfl ?_
 refine dw_nil ?_
 refine sk_n (by simp only [ze] <;> exact rfl) ?_
 refine cw_ret (sk_r ?_)
 refine ⟨_, by simp only [F20, resultD, resDs, resD, zg, zd, rowsOf, partD, List.take, List.drop, zm, hr4] <;> exact rfl, ?_⟩
 simp [leave, LP, snapR, snapV, snaps, snap, D.freeR, D.freeV, D.free, D.free0, hm4]

end Go.Proofs.YtcogjcplldpkaaaGreat

namespace Go.Proofs.YtcogjcplldpkaaaGreat
set_option linter.unusedSimpArgs false
set_option linter.unusedVariables false
set_option maxRecDepth 10000
set_option maxHeartbeats 2000000

/-- a verb for files -/
def fileV (vb : ByteArray) : Prop := ((vb.toList == (⟨#[79, 80, 69, 78]⟩ : ByteArray).toList) || (vb.toList == (⟨#[67, 76, 79, 83, 69]⟩ : ByteArray).toList) || (vb.toList == (⟨#[82, 69, 65, 68]⟩ : ByteArray).toList) || (vb.toList == (⟨#[87, 82, 73, 84, 69]⟩ : ByteArray).toList) || (vb.toList == (⟨#[82, 69, 87, 82, 73, 84, 69]⟩ : ByteArray).toList) || (vb.toList == (⟨#[68, 69, 76, 69, 84, 69]⟩ : ByteArray).toList) || (vb.toList == (⟨#[83, 84, 65, 82, 84]⟩ : ByteArray).toList)) = true
theorem fileV_at (k : Nat) (h : k < 7) : fileV (verbN k) := by
 match k, h with
 | 0, _ => (unfold fileV; decide +kernel)
 | 1, _ => (unfold fileV; decide +kernel)
 | 2, _ => (unfold fileV; decide +kernel)
 | 3, _ => (unfold fileV; decide +kernel)
 | 4, _ => (unfold fileV; decide +kernel)
 | 5, _ => (unfold fileV; decide +kernel)
 | 6, _ => (unfold fileV; decide +kernel)

theorem do_stage {d : Nat} (hd : 1 ≤ d) {H : List AObj} {gd gk : Nat} {fx ux rx dx : D} {act : Bool} (hk1 : H[gk]? = some (dkO gd fx ux rx act dx)) {rows0 : List (List D)} (hA : AppAt 9 1 rows0 H dx) (hX : ∃ r, SlD 12 r fx) (hU : ∃ r, SlD 3 r ux) (hR : ∃ r, SlD 3 r rx) {vb : ByteArray} {px : D} {pr : List (List D)} (hP : SlD 2 pr px) (hV : fileV vb) (lo : Nat) : runF LP NN d 8 [.ptr gk 0 0 0, .nilp, .agg [.str vb, .int .i64 0, .int .i64 0, px, .nils], .int .i64 1] ⟨H, lo⟩ = some (.agg [.bool true, .nils, .str ⟨#[]⟩, .bool false, .int .i64 0], ⟨H.set gk (dkO gd fx ux rx false dx) ++ [⟨57, 5, [[.str vb, .int .i64 0, .int .i64 0, px, .nils]], 0, 0, false⟩, ⟨38, 5, [[.bool true, .nils, .str ⟨#[]⟩, .bool false, .int .i64 0]], 0, 0, false⟩], min lo gk⟩, true) := by
 obtain ⟨rX, hX⟩ := hX
 obtain ⟨rU, hU⟩ := hU
 obtain ⟨rR, hR⟩ := hR
 have hgk := lt_of hk1
 have hm1 : min H.length gk = gk := by omega
 have hm2 : min gk (H.length + 1) = gk := by omega
 have hm4 : ¬ H.length ≤ gk := by omega
 refine run_at (F := F8) rfl (by simp only [LP, fnOf, snapVs, snaps, zs, zm, zv, hP.snap, hP.snapV, hP.freeV, hP.free] <;> exact rfl) rfl (by simp only [LP, zf, zm, hP.snap, hP.snapV, hP.freeV, hP.free]; try rfl) (by simp only [F8, zv] <;> exact rfl) (by omega) ?_
 rintro d rfl
 have zz25 := And.intro @at_S0 (And.intro @at_S (And.intro @set_S0 (And.intro @set_S (And.intro @List.getElem?_cons_zero.{0} (And.intro @List.getElem?_cons_succ.{0} (And.intro hk1 (And.intro @dkO.eq_1 (And.intro hA.isCell (And.intro hA.val (And.intro hP.isCell (And.intro hP.val (And.intro hP.cells (And.intro hX.isCell (And.intro hX.val (And.intro hU.isCell (And.intro hU.val (And.intro hR.isCell (And.intro hR.val (And.intro hm1 (hm2))))))))))))))))))))
 refine cw_seq (cw_region ?_)
 refine ow_op (by simp only [zl, zm, zc, at_L hgk, set_L hgk, Nat.reduceAdd, zz25] <;> exact rfl) ?_
 refine ow_op (by simp only [zl, zm, at_L hgk, set_L hgk, Nat.reduceAdd, zz25] <;> exact rfl) ?_
 refine ow_nil ?_
 refine sk_n (by simp only [ze] <;> exact rfl) ?_
 refine cw_seq (cw_seq (cw_region ?_))
 refine ow_me rfl ?_
 refine ow_op (by simp only [zl, zm, eqpD, at_L hgk, set_L hgk, Nat.reduceAdd, zz25] <;> exact rfl) ?_
 refine ow_nil ?_
 refine sk_n (by simp only [ze] <;> exact rfl) ?_
 skip
 refine cw_false (by simp only [opd, zv, at_L hgk, set_L hgk, Nat.reduceAdd, zz25] <;> rfl) ?_
 refine cw_skip (sk_n rfl (cw_seq (cw_seq (cw_region ?_))))
 refine ow_op (by simp only [zo, faddrD_ptr, faddrD_cptr, zm, at_L hgk, set_L hgk, Nat.reduceAdd, zz25] <;> exact rfl) ?_
 refine ow_op (by simp only [zl, zm, zd, partD, List.take, List.drop, at_L hgk, set_L hgk, Nat.reduceAdd, zz25] <;> exact rfl) ?_
 refine ow_nil ?_
 refine sk_n (by simp only [ze] <;> exact rfl) ?_
 refine cw_block ?_
 refine cw_cut (fun env S' => S' = ⟨H ++ [⟨57, 5, [[.str vb, .int .i64 0, .int .i64 0, px, .nils]], 0, 0, false⟩, ⟨38, 5, [[.bool false, .nils, .str ⟨#[]⟩, .bool false, .int .i64 0]], 0, 0, false⟩], H.length⟩ ∧ env = [.ptr gk 0 0 0, .nilp, .agg [.str vb, .int .i64 0, .int .i64 0, px, .nils], .int .i64 1, .ptr H.length 0 0 0, .ptr (H.length + 1) 0 0 0, .undef, .bool false, .str vb, .undef, .bool true, .undef, .undef, .undef]) ?_ ?_
 ·
  refine cw_seq (cw_region ?_)
  refine ow_op (by simp only [zo, binD, zb, Int.reduceEq, Int.reduceToNat, Int.reduceLT, at_L hgk, set_L hgk, Nat.reduceAdd, zz25] <;> exact rfl) ?_
  refine ow_ml rfl ?_
  refine ow_nil ?_
  refine sk_n (by simp only [ze] <;> exact rfl) ?_
  refine cw_cond (by simp only [opd, zv, at_L hgk, set_L hgk, Nat.reduceAdd, zz25] <;> exact rfl) (fun hc => ?_) (fun hc => ?_)
  ·
   refine cw_skip ?_
   refine ck_n rfl ?_
   exact ⟨rfl, by rw [hc]; rfl⟩
  ·
   refine cw_seq (cw_region ?_)
   refine ow_op (by simp only [zo, binD, zb, Int.reduceEq, Int.reduceToNat, Int.reduceLT, at_L hgk, set_L hgk, Nat.reduceAdd, zz25] <;> exact rfl) ?_
   refine ow_ml rfl ?_
   refine ow_nil ?_
   refine sk_n (by simp only [ze] <;> exact rfl) ?_
   refine cw_cond (by simp only [opd, zv, at_L hgk, set_L hgk, Nat.reduceAdd, zz25] <;> exact rfl) (fun hcF => ?_) (fun hcF => ?_)
   ·
    refine cw_skip ?_
    refine ck_n rfl ?_
    exact ⟨rfl, by rw [hcF]; rfl⟩
   ·
    refine cw_seq (cw_region ?_)
    refine ow_op (by simp only [zo, binD, zb, Int.reduceEq, Int.reduceToNat, Int.reduceLT, at_L hgk, set_L hgk, Nat.reduceAdd, zz25] <;> exact rfl) ?_
    refine ow_ml rfl ?_
    refine ow_nil ?_
    refine sk_n (by simp only [ze] <;> exact rfl) ?_
    refine cw_cond (by simp only [opd, zv, at_L hgk, set_L hgk, Nat.reduceAdd, zz25] <;> exact rfl) (fun hcFF => ?_) (fun hcFF => ?_)
    ·
     refine cw_skip ?_
     refine ck_n rfl ?_
     exact ⟨rfl, by rw [hcFF]; rfl⟩
    ·
     refine cw_seq (cw_region ?_)
     refine ow_op (by simp only [zo, binD, zb, Int.reduceEq, Int.reduceToNat, Int.reduceLT, at_L hgk, set_L hgk, Nat.reduceAdd, zz25] <;> exact rfl) ?_
     refine ow_ml rfl ?_
     refine ow_nil ?_
     refine sk_n (by simp only [ze] <;> exact rfl) ?_
     refine cw_cond (by simp only [opd, zv, at_L hgk, set_L hgk, Nat.reduceAdd, zz25] <;> exact rfl) (fun hcFFF => ?_) (fun hcFFF => ?_)
     ·
      refine cw_skip ?_
      refine ck_n rfl ?_
      exact ⟨rfl, by rw [hcFFF]; rfl⟩
     ·
      refine cw_seq (cw_region ?_)
      refine ow_op (by simp only [zo, binD, zb, Int.reduceEq, Int.reduceToNat, Int.reduceLT, at_L hgk, set_L hgk, Nat.reduceAdd, zz25] <;> exact rfl) ?_
      refine ow_ml rfl ?_
      refine ow_nil ?_
      refine sk_n (by simp only [ze] <;> exact rfl) ?_
      refine cw_cond (by simp only [opd, zv, at_L hgk, set_L hgk, Nat.reduceAdd, zz25] <;> exact rfl) (fun hcFFFF => ?_) (fun hcFFFF => ?_)
      ·
       refine cw_skip ?_
       refine ck_n rfl ?_
       exact ⟨rfl, by rw [hcFFFF]; rfl⟩
      ·
       refine cw_seq (cw_region ?_)
       refine ow_op (by simp only [zo, binD, zb, Int.reduceEq, Int.reduceToNat, Int.reduceLT, at_L hgk, set_L hgk, Nat.reduceAdd, zz25] <;> exact rfl) ?_
       refine ow_ml rfl ?_
       refine ow_nil ?_
       refine sk_n (by simp only [ze] <;> exact rfl) ?_
       refine cw_cond (by simp only [opd, zv, at_L hgk, set_L hgk, Nat.reduceAdd, zz25] <;> exact rfl) (fun hcFFFFF => ?_) (fun hcFFFFF => ?_)
       ·
        refine cw_skip ?_
        refine ck_n rfl ?_
        exact ⟨rfl, by rw [hcFFFFF]; rfl⟩
       ·
        refine cw_region ?_
        refine ow_op (by simp only [zo, binD, zb, Int.reduceEq, Int.reduceToNat, Int.reduceLT, at_L hgk, set_L hgk, Nat.reduceAdd, zz25] <;> exact rfl) ?_
        refine ow_ml rfl ?_
        refine ow_nil ?_
        refine ck_n (by simp only [ze] <;> exact rfl) ?_
        have hv := hV
        unfold fileV at hv
        rw [hc, hcF, hcFF, hcFFF, hcFFFF, hcFFFFF] at hv
        simp only [Bool.false_or] at hv
        exact ⟨rfl, by rw [hv]; rfl⟩
 rintro env S' ⟨rfl, rfl⟩
 skip
 refine cw_true (by simp only [opd, zv, at_L hgk, set_L hgk, Nat.reduceAdd, zz25] <;> rfl) ?_
 refine cw_skip (bk_n (sk_n rfl (cw_seq (cw_seq (cw_region ?_)))))
 refine ow_me rfl ?_
 refine ow_op (by simp only [zo, binD, zb, Int.reduceEq, Int.reduceToNat, Int.reduceLT, at_L hgk, set_L hgk, Nat.reduceAdd, zz25] <;> exact rfl) ?_
 refine ow_nil ?_
 refine sk_n (by simp only [ze] <;> exact rfl) ?_
 skip
 refine cw_true (by simp only [opd, zv, at_L hgk, set_L hgk, Nat.reduceAdd, zz25] <;> rfl) ?_
 refine cw_seq (cw_region ?_)
 refine ow_me rfl ?_
 refine ow_op (by simp only [zo, at_L hgk, set_L hgk, Nat.reduceAdd, zz25] <;> exact rfl) ?_
 refine ow_op (by simp only [zo, faddrD_ptr, faddrD_cptr, zm, at_L hgk, set_L hgk, Nat.reduceAdd, zz25] <;> exact rfl) ?_
 refine ow_op (by simp only [zl, zm, storeD, overlay, snapVs, snaps, zs, zc, zf, List.take, List.drop, at_L hgk, set_L hgk, Nat.reduceAdd, zz25] <;> exact rfl) ?_
 refine ow_nil ?_
 refine sk_n (by simp only [ze] <;> exact rfl) ?_
 refine cw_seq (cw_region ?_)
 refine ow_op (by simp only [zo, fillD, overlay, zc, List.take, List.drop, Nat.reduceAdd, Nat.reduceLeDiff, Nat.reduceBEq, zm, at_L hgk, set_L hgk, Nat.reduceAdd, zz25] <;> exact rfl) ?_
 refine ow_op (by simp only [zl, zm, storeD, overlay, snapVs, snaps, zs, zc, zf, List.take, List.drop, at_L hgk, set_L hgk, Nat.reduceAdd, zz25] <;> exact rfl) ?_
 refine ow_nil ?_
 refine sk_n (by simp only [ze] <;> exact rfl) ?_
 refine cw_ret (sk_r ?_)
 refine ⟨_, by simp only [F8, resultD, resDs, resD, zg, zd, rowsOf, partD, List.take, List.drop, zm, at_S, List.getElem?_cons_succ, List.getElem?_cons_zero] <;> exact rfl, ?_⟩
 simp [leave, LP, snapR, snapV, snaps, snap, D.freeR, D.freeV, D.free, D.free0, hm4, dkO]

theorem do_display {d : Nat} (hd : 2 ≤ d) {H : List AObj} {gd gk : Nat} {fx ux rx dx : D} {act : Bool} (hk1 : H[gk]? = some (dkO gd fx ux rx act dx)) {rows0 : List (List D)} (hA : AppAt 9 1 rows0 H dx) (hX : ∃ r, SlD 12 r fx) (hU : ∃ r, SlD 3 r ux) (hR : ∃ r, SlD 3 r rx) {px : D} {pr : List (List D)} (hP : SlD 2 pr px) (lo : Nat) : runF LP NN d 8 [.ptr gk 0 0 0, .nilp, .agg [.str (verbN 7), .int .i64 0, .int .i64 0, px, .nils], .int .i64 0] ⟨H, lo⟩ = some (.agg [.bool true, .nils, .str ⟨#[]⟩, .bool false, .int .i64 9], ⟨H, lo⟩, false) := by
 obtain ⟨rX, hX⟩ := hX
 obtain ⟨rU, hU⟩ := hU
 obtain ⟨rR, hR⟩ := hR
 have hgk := lt_of hk1
 have hv7 : verbN 7 = ⟨#[68, 73, 83, 80, 76, 65, 89]⟩ := rfl
 rw [hv7]
 have hq0 : ((⟨#[68, 73, 83, 80, 76, 65, 89]⟩ : ByteArray).toList == (⟨#[79, 80, 69, 78]⟩ : ByteArray).toList) = false := by decide +kernel
 have hq1 : ((⟨#[68, 73, 83, 80, 76, 65, 89]⟩ : ByteArray).toList == (⟨#[67, 76, 79, 83, 69]⟩ : ByteArray).toList) = false := by decide +kernel
 have hq2 : ((⟨#[68, 73, 83, 80, 76, 65, 89]⟩ : ByteArray).toList == (⟨#[82, 69, 65, 68]⟩ : ByteArray).toList) = false := by decide +kernel
 have hq3 : ((⟨#[68, 73, 83, 80, 76, 65, 89]⟩ : ByteArray).toList == (⟨#[87, 82, 73, 84, 69]⟩ : ByteArray).toList) = false := by decide +kernel
 have hq4 : ((⟨#[68, 73, 83, 80, 76, 65, 89]⟩ : ByteArray).toList == (⟨#[82, 69, 87, 82, 73, 84, 69]⟩ : ByteArray).toList) = false := by decide +kernel
 have hq5 : ((⟨#[68, 73, 83, 80, 76, 65, 89]⟩ : ByteArray).toList == (⟨#[68, 69, 76, 69, 84, 69]⟩ : ByteArray).toList) = false := by decide +kernel
 have hq6 : ((⟨#[68, 73, 83, 80, 76, 65, 89]⟩ : ByteArray).toList == (⟨#[83, 84, 65, 82, 84]⟩ : ByteArray).toList) = false := by decide +kernel
 refine run_at (F := F8) rfl (by simp only [LP, fnOf, snapVs, snaps, zs, zm, zv, hP.snap, hP.snapV, hP.freeV, hP.free] <;> exact rfl) rfl (by simp only [LP, zf, zm, hP.snap, hP.snapV, hP.freeV, hP.free]; try rfl) (by simp only [F8, zv] <;> exact rfl) (by omega) ?_
 rintro d rfl
 have zz26 := And.intro @at_S0 (And.intro @at_S (And.intro @set_S0 (And.intro @set_S (And.intro @List.getElem?_cons_zero.{0} (And.intro @List.getElem?_cons_succ.{0} (And.intro hk1 (And.intro @dkO.eq_1 (And.intro hA.isCell (And.intro hA.val (And.intro hP.isCell (And.intro hP.val (And.intro hP.cells (And.intro hX.isCell (And.intro hX.val (And.intro hU.isCell (And.intro hU.val (And.intro hR.isCell (And.intro hR.val (And.intro @beq_self_eq_true.{0} (And.intro hq0 (And.intro hq1 (And.intro hq2 (And.intro hq3 (And.intro hq4 (And.intro hq5 (hq6))))))))))))))))))))))))))
 refine cw_seq (cw_region ?_)
 refine ow_op (by simp only [zl, zm, zc, at_L hgk, set_L hgk, Nat.reduceAdd, zz26] <;> exact rfl) ?_
 refine ow_op (by simp only [zl, zm, at_L hgk, set_L hgk, Nat.reduceAdd, zz26] <;> exact rfl) ?_
 refine ow_nil ?_
 refine sk_n (by simp only [ze] <;> exact rfl) ?_
 refine cw_seq (cw_seq (cw_region ?_))
 refine ow_me rfl ?_
 refine ow_op (by simp only [zl, zm, eqpD, at_L hgk, set_L hgk, Nat.reduceAdd, zz26] <;> exact rfl) ?_
 refine ow_nil ?_
 refine sk_n (by simp only [ze] <;> exact rfl) ?_
 skip
 refine cw_false (by simp only [opd, zv, at_L hgk, set_L hgk, Nat.reduceAdd, zz26] <;> rfl) ?_
 refine cw_skip (sk_n rfl (cw_seq (cw_seq (cw_region ?_))))
 refine ow_op (by simp only [zo, faddrD_ptr, faddrD_cptr, zm, at_L hgk, set_L hgk, Nat.reduceAdd, zz26] <;> exact rfl) ?_
 refine ow_op (by simp only [zl, zm, zd, partD, List.take, List.drop, at_L hgk, set_L hgk, Nat.reduceAdd, zz26] <;> exact rfl) ?_
 refine ow_nil ?_
 refine sk_n (by simp only [ze] <;> exact rfl) ?_
 refine cw_block (cw_seq (cw_seq (cw_region ?_)))
 refine ow_op (by simp only [zo, binD, zb, Int.reduceEq, Int.reduceToNat, Int.reduceLT, at_L hgk, set_L hgk, Nat.reduceAdd, zz26] <;> exact rfl) ?_
 refine ow_ml rfl ?_
 refine ow_nil ?_
 refine sk_n (by simp only [ze] <;> exact rfl) ?_
 skip
 refine cw_false (by simp only [opd, zv, at_L hgk, set_L hgk, Nat.reduceAdd, zz26] <;> rfl) ?_
 refine cw_seq (cw_region ?_)
 refine ow_op (by simp only [zo, binD, zb, Int.reduceEq, Int.reduceToNat, Int.reduceLT, at_L hgk, set_L hgk, Nat.reduceAdd, zz26] <;> exact rfl) ?_
 refine ow_ml rfl ?_
 refine ow_nil ?_
 refine sk_n (by simp only [ze] <;> exact rfl) ?_
 skip
 refine cw_false (by simp only [opd, zv, at_L hgk, set_L hgk, Nat.reduceAdd, zz26] <;> rfl) ?_
 refine cw_seq (cw_region ?_)
 refine ow_op (by simp only [zo, binD, zb, Int.reduceEq, Int.reduceToNat, Int.reduceLT, at_L hgk, set_L hgk, Nat.reduceAdd, zz26] <;> exact rfl) ?_
 refine ow_ml rfl ?_
 refine ow_nil ?_
 refine sk_n (by simp only [ze] <;> exact rfl) ?_
 skip
 refine cw_false (by simp only [opd, zv, at_L hgk, set_L hgk, Nat.reduceAdd, zz26] <;> rfl) ?_
 refine cw_seq (cw_region ?_)
 refine ow_op (by simp only [zo, binD, zb, Int.reduceEq, Int.reduceToNat, Int.reduceLT, at_L hgk, set_L hgk, Nat.reduceAdd, zz26] <;> exact rfl) ?_
 refine ow_ml rfl ?_
 refine ow_nil ?_
 refine sk_n (by simp only [ze] <;> exact rfl) ?_
 skip
 refine cw_false (by simp only [opd, zv, at_L hgk, set_L hgk, Nat.reduceAdd, zz26] <;> rfl) ?_
 refine cw_seq (cw_region ?_)
 refine ow_op (by simp only [zo, binD, zb, Int.reduceEq, Int.reduceToNat, Int.reduceLT, at_L hgk, set_L hgk, Nat.reduceAdd, zz26] <;> exact rfl) ?_
 refine ow_ml rfl ?_
 refine ow_nil ?_
 refine sk_n (by simp only [ze] <;> exact rfl) ?_
 skip
 refine cw_false (by simp only [opd, zv, at_L hgk, set_L hgk, Nat.reduceAdd, zz26] <;> rfl) ?_
 refine cw_seq (cw_region ?_)
 refine ow_op (by simp only [zo, binD, zb, Int.reduceEq, Int.reduceToNat, Int.reduceLT, at_L hgk, set_L hgk, Nat.reduceAdd, zz26] <;> exact rfl) ?_
 refine ow_ml rfl ?_
 refine ow_nil ?_
 refine sk_n (by simp only [ze] <;> exact rfl) ?_
 skip
 refine cw_false (by simp only [opd, zv, at_L hgk, set_L hgk, Nat.reduceAdd, zz26] <;> rfl) ?_
 refine cw_region ?_
 refine ow_op (by simp only [zo, binD, zb, Int.reduceEq, Int.reduceToNat, Int.reduceLT, at_L hgk, set_L hgk, Nat.reduceAdd, zz26] <;> exact rfl) ?_
 refine ow_ml rfl ?_
 refine ow_nil ?_
 refine sk_n (by simp only [ze] <;> exact rfl) ?_
 skip
 refine cw_false (by simp only [opd, zv, at_L hgk, set_L hgk, Nat.reduceAdd, zz26] <;> rfl) ?_
 refine cw_seq (cw_seq (cw_region ?_))
 refine ow_me rfl ?_
 refine ow_op (by simp only [zo, at_L hgk, set_L hgk, Nat.reduceAdd, zz26] <;> exact rfl) ?_
 refine ow_op (by simp only [zo, faddrD_ptr, faddrD_cptr, zm, at_L hgk, set_L hgk, Nat.reduceAdd, zz26] <;> exact rfl) ?_
 refine ow_op (by simp only [zl, zm, zd, partD, List.take, List.drop, at_L hgk, set_L hgk, Nat.reduceAdd, zz26] <;> exact rfl) ?_
 refine ow_op (by simp only [zo, eqnilD, at_L hgk, set_L hgk, Nat.reduceAdd, zz26] <;> exact rfl) ?_
 refine ow_nil ?_
 refine sk_n (by simp only [ze] <;> exact rfl) ?_
 skip
 refine cw_true (by simp only [opd, zv, at_L hgk, set_L hgk, Nat.reduceAdd, zz26] <;> rfl) ?_
 refine cw_seq ?_
 refine cw_drawn (by simp only [newsVals, zw, Nat.reduceAdd] <;> exact rfl) (by simp only [zw, newsObj, St.eta] <;> exact rfl) ?_
 refine dw_me rfl rfl ?_
 refine dw_quiet (by simp only [zo, at_L hgk, set_L hgk, Nat.reduceAdd, zz26] <;> exact rfl) rfl rfl ?_
 refine dw_quiet (by simp only [zo, faddrD_ptr, faddrD_cptr, zm, at_L hgk, set_L hgk, Nat.reduceAdd, zz26] <;> exact rfl) rfl rfl ?_
 refine dw_op (by simp only [zl, zm, zd, partD, List.take, List.drop, at_L hgk, set_L hgk, Nat.reduceAdd, zz26] <;> exact rfl) (by simp only [fpHere, zo, zq] <;> exact rfl) rfl ?_
 refine dw_me rfl rfl ?_
 refine dw_op (by simp only [zl, zm, zd, partD, List.take, List.drop, at_L hgk, set_L hgk, Nat.reduceAdd, zz26] <;> exact rfl) (by simp only [fpHere, zo, zq] <;> exact rfl) rfl ?_
 refine dw_me rfl rfl ?_
 refine dw_op (by simp only [zo, at_L hgk, set_L hgk, Nat.reduceAdd, zz26]; exact odo_run (by omega) _ hP) (by simp only [fpHere, zo, zq] <;> exact rfl) rfl ?_
 refine dw_op (by simp only [zl, zm, storeD, overlay, snapVs, snaps, zs, zc, zf, List.take, List.drop, at_L hgk, set_L hgk, Nat.reduceAdd, zz26] <;> exact rfl) (by simp only [fpHere, zo, zq] <;> exact rfl) rfl ?_
 refine dw_nil ?_
 refine sk_n (by simp only [ze] <;> exact rfl) ?_
 refine cw_ret (sk_r (bk_r (sk_r ?_)))
 refine ⟨_, by simp only [F8, resultD, resDs, resD, zg, zd, rowsOf, partD, List.take, List.drop, zm, at_app, at_app0, List.getElem?_cons_succ, List.getElem?_cons_zero] <;> exact rfl, ?_⟩
 simp [leave, LP, snapR, snapV, snap, D.freeR, D.freeV, D.free, D.free0, D.free0, snaps]

end Go.Proofs.YtcogjcplldpkaaaGreat

namespace Go.Proofs.YtcogjcplldpkaaaGreat
set_option linter.unusedSimpArgs false
set_option linter.unusedVariables false
set_option maxRecDepth 10000
set_option maxHeartbeats 2000000

theorem do_ok_t {d : Nat} (hd : 2 ≤ d) {H : List AObj} {gd gk many mode : Nat} {last : ByteArray} {r : Rp} {fx ux rx dx : D} {act : Bool} (hd1 : H[gd]? = some (drO last mode r many)) (hk1 : H[gk]? = some (dkO gd fx ux rx act dx)) (hm : many ≤ 1000) {vb : ByteArray} {px : D} {pr : List (List D)} (hP : SlD 2 pr px) (hV : fileV vb) (hh : r.h = true) (he : (r.e == 6) = false) (lo : Nat) : runF LP NN d 8 [.ptr gk 0 0 0, .nilp, .agg [.str vb, .int .i64 0, .int .i64 0, px, .nils], .int .i64 0] ⟨H, lo⟩ = some (.agg r.cs, ⟨H.set gd (drO last mode r (many + 1)) ++ [⟨57, 5, [[.str vb, .int .i64 0, .int .i64 0, px, .nils]], 0, 0, false⟩, ⟨38, 5, [[.bool r.h, .nils, .str r.b, .bool false, .int .i64 r.e]], 0, 0, false⟩, ⟨38, 5, [[.bool r.h, .nils, .str r.b, .bool false, .int .i64 r.e]], 0, 0, false⟩, ⟨38, 5, [[.bool r.h, .nils, .str r.b, .bool false, .int .i64 r.e]], 0, 0, false⟩], min lo gd⟩, true) := by
 have hgk := lt_of hk1
 have hgd := lt_of hd1
 have hm1 : min H.length gd = gd := by omega
 have hm2 : min gd (H.length + 2) = gd := by omega
 have hm3 : min gd (H.length + 1) = gd := by omega
 have hm5 : min (H.length + 2) gd = gd := by omega
 have hm4 : ¬ H.length ≤ gd := by omega
 refine run_at (F := F8) rfl (by simp only [LP, fnOf, snapVs, snaps, zs, zm, zv, hP.snap, hP.snapV, hP.freeV, hP.free] <;> exact rfl) rfl (by simp only [LP, zf, zm, hP.snap, hP.snapV, hP.freeV, hP.free]; try rfl) (by simp only [F8, zv] <;> exact rfl) (by omega) ?_
 rintro d rfl
 have zz27 := And.intro @at_S0 (And.intro @at_S (And.intro @set_S0 (And.intro @set_S (And.intro @List.getElem?_cons_zero.{0} (And.intro @List.getElem?_cons_succ.{0} (And.intro hd1 (And.intro hk1 (And.intro @dkO.eq_1 (And.intro @drO.eq_1 (And.intro hP.isCell (And.intro hP.val (And.intro hP.cells (And.intro hm1 (And.intro hm2 (And.intro hm3 (And.intro hm5 (And.intro hh (he))))))))))))))))))
 refine cw_seq (cw_region ?_)
 refine ow_op (by simp only [zl, zm, zc, at_L hgk, set_L hgk, Nat.reduceAdd, Rp.cs, at_L hgd, set_L hgd, zz27] <;> exact rfl) ?_
 refine ow_op (by simp only [zl, zm, at_L hgk, set_L hgk, Nat.reduceAdd, Rp.cs, at_L hgd, set_L hgd, zz27] <;> exact rfl) ?_
 refine ow_nil ?_
 refine sk_n (by simp only [ze] <;> exact rfl) ?_
 refine cw_seq (cw_seq (cw_region ?_))
 refine ow_me rfl ?_
 refine ow_op (by simp only [zl, zm, eqpD, at_L hgk, set_L hgk, Nat.reduceAdd, Rp.cs, at_L hgd, set_L hgd, zz27] <;> exact rfl) ?_
 refine ow_nil ?_
 refine sk_n (by simp only [ze] <;> exact rfl) ?_
 skip
 refine cw_false (by simp only [opd, zv, at_L hgk, set_L hgk, Nat.reduceAdd, Rp.cs, at_L hgd, set_L hgd, zz27] <;> rfl) ?_
 refine cw_skip (sk_n rfl (cw_seq (cw_seq (cw_region ?_))))
 refine ow_op (by simp only [zo, faddrD_ptr, faddrD_cptr, zm, at_L hgk, set_L hgk, Nat.reduceAdd, Rp.cs, at_L hgd, set_L hgd, zz27] <;> exact rfl) ?_
 refine ow_op (by simp only [zl, zm, zd, partD, List.take, List.drop, at_L hgk, set_L hgk, Nat.reduceAdd, Rp.cs, at_L hgd, set_L hgd, zz27] <;> exact rfl) ?_
 refine ow_nil ?_
 refine sk_n (by simp only [ze] <;> exact rfl) ?_
 refine cw_block ?_
 refine cw_cut (fun env S' => S' = ⟨H ++ [⟨57, 5, [[.str vb, .int .i64 0, .int .i64 0, px, .nils]], 0, 0, false⟩, ⟨38, 5, [[.bool false, .nils, .str ⟨#[]⟩, .bool false, .int .i64 0]], 0, 0, false⟩], H.length⟩ ∧ env = [.ptr gk 0 0 0, .nilp, .agg [.str vb, .int .i64 0, .int .i64 0, px, .nils], .int .i64 0, .ptr H.length 0 0 0, .ptr (H.length + 1) 0 0 0, .undef, .bool false, .str vb, .undef, .bool true, .undef, .undef, .undef]) ?_ ?_
 ·
  refine cw_seq (cw_region ?_)
  refine ow_op (by simp only [zo, binD, zb, Int.reduceEq, Int.reduceToNat, Int.reduceLT, at_L hgk, set_L hgk, Nat.reduceAdd, Rp.cs, at_L hgd, set_L hgd, zz27] <;> exact rfl) ?_
  refine ow_ml rfl ?_
  refine ow_nil ?_
  refine sk_n (by simp only [ze] <;> exact rfl) ?_
  refine cw_cond (by simp only [opd, zv, at_L hgk, set_L hgk, Nat.reduceAdd, Rp.cs, at_L hgd, set_L hgd, zz27] <;> exact rfl) (fun hc => ?_) (fun hc => ?_)
  ·
   refine cw_skip ?_
   refine ck_n rfl ?_
   exact ⟨rfl, by rw [hc]; rfl⟩
  ·
   refine cw_seq (cw_region ?_)
   refine ow_op (by simp only [zo, binD, zb, Int.reduceEq, Int.reduceToNat, Int.reduceLT, at_L hgk, set_L hgk, Nat.reduceAdd, Rp.cs, at_L hgd, set_L hgd, zz27] <;> exact rfl) ?_
   refine ow_ml rfl ?_
   refine ow_nil ?_
   refine sk_n (by simp only [ze] <;> exact rfl) ?_
   refine cw_cond (by simp only [opd, zv, at_L hgk, set_L hgk, Nat.reduceAdd, Rp.cs, at_L hgd, set_L hgd, zz27] <;> exact rfl) (fun hcF => ?_) (fun hcF => ?_)
   ·
    refine cw_skip ?_
    refine ck_n rfl ?_
    exact ⟨rfl, by rw [hcF]; rfl⟩
   ·
    refine cw_seq (cw_region ?_)
    refine ow_op (by simp only [zo, binD, zb, Int.reduceEq, Int.reduceToNat, Int.reduceLT, at_L hgk, set_L hgk, Nat.reduceAdd, Rp.cs, at_L hgd, set_L hgd, zz27] <;> exact rfl) ?_
    refine ow_ml rfl ?_
    refine ow_nil ?_
    refine sk_n (by simp only [ze] <;> exact rfl) ?_
    refine cw_cond (by simp only [opd, zv, at_L hgk, set_L hgk, Nat.reduceAdd, Rp.cs, at_L hgd, set_L hgd, zz27] <;> exact rfl) (fun hcFF => ?_) (fun hcFF => ?_)
    ·
     refine cw_skip ?_
     refine ck_n rfl ?_
     exact ⟨rfl, by rw [hcFF]; rfl⟩
    ·
     refine cw_seq (cw_region ?_)
     refine ow_op (by simp only [zo, binD, zb, Int.reduceEq, Int.reduceToNat, Int.reduceLT, at_L hgk, set_L hgk, Nat.reduceAdd, Rp.cs, at_L hgd, set_L hgd, zz27] <;> exact rfl) ?_
     refine ow_ml rfl ?_
     refine ow_nil ?_
     refine sk_n (by simp only [ze] <;> exact rfl) ?_
     refine cw_cond (by simp only [opd, zv, at_L hgk, set_L hgk, Nat.reduceAdd, Rp.cs, at_L hgd, set_L hgd, zz27] <;> exact rfl) (fun hcFFF => ?_) (fun hcFFF => ?_)
     ·
      refine cw_skip ?_
      refine ck_n rfl ?_
      exact ⟨rfl, by rw [hcFFF]; rfl⟩
     ·
      refine cw_seq (cw_region ?_)
      refine ow_op (by simp only [zo, binD, zb, Int.reduceEq, Int.reduceToNat, Int.reduceLT, at_L hgk, set_L hgk, Nat.reduceAdd, Rp.cs, at_L hgd, set_L hgd, zz27] <;> exact rfl) ?_
      refine ow_ml rfl ?_
      refine ow_nil ?_
      refine sk_n (by simp only [ze] <;> exact rfl) ?_
      refine cw_cond (by simp only [opd, zv, at_L hgk, set_L hgk, Nat.reduceAdd, Rp.cs, at_L hgd, set_L hgd, zz27] <;> exact rfl) (fun hcFFFF => ?_) (fun hcFFFF => ?_)
      ·
       refine cw_skip ?_
       refine ck_n rfl ?_
       exact ⟨rfl, by rw [hcFFFF]; rfl⟩
      ·
       refine cw_seq (cw_region ?_)
       refine ow_op (by simp only [zo, binD, zb, Int.reduceEq, Int.reduceToNat, Int.reduceLT, at_L hgk, set_L hgk, Nat.reduceAdd, Rp.cs, at_L hgd, set_L hgd, zz27] <;> exact rfl) ?_
       refine ow_ml rfl ?_
       refine ow_nil ?_
       refine sk_n (by simp only [ze] <;> exact rfl) ?_
       refine cw_cond (by simp only [opd, zv, at_L hgk, set_L hgk, Nat.reduceAdd, Rp.cs, at_L hgd, set_L hgd, zz27] <;> exact rfl) (fun hcFFFFF => ?_) (fun hcFFFFF => ?_)
       ·
        refine cw_skip ?_
        refine ck_n rfl ?_
        exact ⟨rfl, by rw [hcFFFFF]; rfl⟩
       ·
        refine cw_region ?_
        refine ow_op (by simp only [zo, binD, zb, Int.reduceEq, Int.reduceToNat, Int.reduceLT, at_L hgk, set_L hgk, Nat.reduceAdd, Rp.cs, at_L hgd, set_L hgd, zz27] <;> exact rfl) ?_
        refine ow_ml rfl ?_
        refine ow_nil ?_
        refine ck_n (by simp only [ze] <;> exact rfl) ?_
        have hv := hV
        unfold fileV at hv
        rw [hc, hcF, hcFF, hcFFF, hcFFFF, hcFFFFF] at hv
        simp only [Bool.false_or] at hv
        exact ⟨rfl, by rw [hv]; rfl⟩
 rintro env S' ⟨rfl, rfl⟩
 skip
 refine cw_true (by simp only [opd, zv, at_L hgk, set_L hgk, Nat.reduceAdd, Rp.cs, at_L hgd, set_L hgd, zz27] <;> rfl) ?_
 refine cw_skip (bk_n (sk_n rfl (cw_seq (cw_seq (cw_region ?_)))))
 refine ow_me rfl ?_
 refine ow_op (by simp only [zo, binD, zb, Int.reduceEq, Int.reduceToNat, Int.reduceLT, at_L hgk, set_L hgk, Nat.reduceAdd, Rp.cs, at_L hgd, set_L hgd, zz27] <;> exact rfl) ?_
 refine ow_nil ?_
 refine sk_n (by simp only [ze] <;> exact rfl) ?_
 skip
 refine cw_false (by simp only [opd, zv, at_L hgk, set_L hgk, Nat.reduceAdd, Rp.cs, at_L hgd, set_L hgd, zz27] <;> rfl) ?_
 refine cw_skip (sk_n rfl (cw_seq (cw_seq (cw_region ?_))))
 refine ow_me rfl ?_
 refine ow_op (by simp only [zo, at_L hgk, set_L hgk, Nat.reduceAdd, Rp.cs, at_L hgd, set_L hgd, zz27] <;> exact rfl) ?_
 refine ow_op (by simp only [zo, faddrD_ptr, faddrD_cptr, zm, at_L hgk, set_L hgk, Nat.reduceAdd, Rp.cs, at_L hgd, set_L hgd, zz27] <;> exact rfl) ?_
 refine ow_op (by simp only [zl, zm, zd, partD, List.take, List.drop, at_L hgk, set_L hgk, Nat.reduceAdd, Rp.cs, at_L hgd, set_L hgd, zz27] <;> exact rfl) ?_
 refine ow_op (by simp only [zo, eqnilD, at_L hgk, set_L hgk, Nat.reduceAdd, Rp.cs, at_L hgd, set_L hgd, zz27] <;> exact rfl) ?_
 refine ow_nil ?_
 refine sk_n (by simp only [ze] <;> exact rfl) ?_
 skip
 refine cw_false (by simp only [opd, zv, at_L hgk, set_L hgk, Nat.reduceAdd, Rp.cs, at_L hgd, set_L hgd, zz27] <;> rfl) ?_
 refine cw_skip (sk_n rfl (cw_seq ?_))
 refine cw_drawn (by simp only [newsVals, zw, Nat.reduceAdd] <;> exact rfl) (by simp only [zw, newsObj, St.eta] <;> exact rfl) ?_
 refine dw_me rfl rfl ?_
 refine dw_quiet (by simp only [zo, at_L hgk, set_L hgk, Nat.reduceAdd, Rp.cs, at_L hgd, set_L hgd, zz27] <;> exact rfl) rfl rfl ?_
 refine dw_quiet (by simp only [zo, faddrD_ptr, faddrD_cptr, zm, at_L hgk, set_L hgk, Nat.reduceAdd, Rp.cs, at_L hgd, set_L hgd, zz27] <;> exact rfl) rfl rfl ?_
 refine dw_op (by simp only [zl, zm, zd, partD, List.take, List.drop, at_L hgk, set_L hgk, Nat.reduceAdd, Rp.cs, at_L hgd, set_L hgd, zz27] <;> exact rfl) (by simp only [fpHere, zo, zq] <;> exact rfl) rfl ?_
 refine dw_me rfl rfl ?_
 refine dw_op (by simp only [zl, zm, zd, partD, List.take, List.drop, at_L hgk, set_L hgk, Nat.reduceAdd, Rp.cs, at_L hgd, set_L hgd, zz27] <;> exact rfl) (by simp only [fpHere, zo, zq] <;> exact rfl) rfl ?_
 refine dw_op (by simp only [zo, at_L hgk, set_L hgk, Nat.reduceAdd, Rp.cs, at_L hgd, set_L hgd, zz27]; exact fdo_run (by omega) (get_app hd1 _) hm hP _) (by simp only [fpHere, zo, zq] <;> exact rfl) (by simp only [okHere, sparesFP, List.length_append, List.length_cons, List.length_nil, set_L hgd, List.append_assoc, List.cons_append, List.nil_append, Nat.zero_add, Nat.reduceAdd, Nat.add_zero, at_S, List.getElem?_cons_succ, List.getElem?_cons_zero, Bool.and_true] <;> rfl) ?_
 refine dw_op (by simp only [zo] <;> exact rfl) rfl rfl ?_
 refine dw_op (by simp only [zl, zm, storeD, overlay, snapVs, snaps, zs, zc, zf, List.take, List.drop, at_L hgk, set_L hgk, Nat.reduceAdd, Rp.cs, at_L hgd, set_L hgd, zz27] <;> exact rfl) (by simp only [fpHere, zo, zq] <;> exact rfl) rfl ?_
 refine dw_nil ?_
 refine sk_n (by simp only [ze] <;> exact rfl) ?_
 refine cw_seq (cw_seq (cw_region ?_))
 refine ow_op (by simp only [zo, faddrD_ptr, faddrD_cptr, zm, at_L hgk, set_L hgk, Nat.reduceAdd, Rp.cs, at_L hgd, set_L hgd, zz27] <;> exact rfl) ?_
 refine ow_op (by simp only [zl, zm, zd, partD, List.take, List.drop, at_L hgk, set_L hgk, Nat.reduceAdd, Rp.cs, at_L hgd, set_L hgd, zz27] <;> exact rfl) ?_
 refine ow_ml rfl ?_
 refine ow_know 0 (b := true) (by simp only [opd, zv, at_L hgk, set_L hgk, Nat.reduceAdd, Rp.cs, at_L hgd, set_L hgd, zz27] <;> rfl) (by simp only [zn] <;> exact rfl) ?_
 refine ow_on rfl ?_
 refine ow_op (by simp only [zo, faddrD_ptr, faddrD_cptr, zm, at_L hgk, set_L hgk, Nat.reduceAdd, Rp.cs, at_L hgd, set_L hgd, zz27] <;> exact rfl) ?_
 refine ow_on rfl ?_
 refine ow_op (by simp only [zl, zm, zd, partD, List.take, List.drop, at_L hgk, set_L hgk, Nat.reduceAdd, Rp.cs, at_L hgd, set_L hgd, zz27] <;> exact rfl) ?_
 refine ow_on rfl ?_
 refine ow_op (by simp only [zo, binD, zb, Int.reduceEq, Int.reduceToNat, Int.reduceLT, at_L hgk, set_L hgk, Nat.reduceAdd, Rp.cs, at_L hgd, set_L hgd, zz27] <;> exact rfl) ?_
 refine ow_op (by simp only [zo, at_L hgk, set_L hgk, Nat.reduceAdd, Rp.cs, at_L hgd, set_L hgd, zz27] <;> exact rfl) ?_
 refine ow_nil ?_
 refine sk_n (by simp only [ze] <;> exact rfl) ?_
 skip
 refine cw_false (by simp only [opd, zv, at_L hgk, set_L hgk, Nat.reduceAdd, Rp.cs, at_L hgd, set_L hgd, zz27] <;> rfl) ?_
 refine cw_skip (sk_n rfl (cw_seq (cw_region ?_)))
 refine ow_op (by simp only [zl, zm, zd, partD, List.take, List.drop, at_L hgk, set_L hgk, Nat.reduceAdd, Rp.cs, at_L hgd, set_L hgd, zz27] <;> exact rfl) ?_
 refine ow_op (by simp only [zl, zm, storeD, overlay, snapVs, snaps, zs, zc, zf, List.take, List.drop, at_L hgk, set_L hgk, Nat.reduceAdd, Rp.cs, at_L hgd, set_L hgd, zz27] <;> exact rfl) ?_
 refine ow_nil ?_
 refine sk_n (by simp only [ze] <;> exact rfl) ?_
 refine cw_ret ?_
 refine ⟨_, by simp only [F8, resultD, resDs, resD, zg, zd, rowsOf, partD, List.take, List.drop, zm, at_S, List.getElem?_cons_succ, List.getElem?_cons_zero] <;> exact rfl, ?_⟩
 simp [leave, LP, snapR, snapV, snaps, snap, D.freeR, D.freeV, D.free, D.free0, hm4, dkO, drO, Rp.cs, hh]

theorem do_ok_f {d : Nat} (hd : 2 ≤ d) {H : List AObj} {gd gk many mode : Nat} {last : ByteArray} {r : Rp} {fx ux rx dx : D} {act : Bool} (hd1 : H[gd]? = some (drO last mode r many)) (hk1 : H[gk]? = some (dkO gd fx ux rx act dx)) (hm : many ≤ 1000) {vb : ByteArray} {px : D} {pr : List (List D)} (hP : SlD 2 pr px) (hV : fileV vb) (hh : r.h = false) (lo : Nat) : runF LP NN d 8 [.ptr gk 0 0 0, .nilp, .agg [.str vb, .int .i64 0, .int .i64 0, px, .nils], .int .i64 0] ⟨H, lo⟩ = some (.agg r.cs, ⟨H.set gd (drO last mode r (many + 1)) ++ [⟨57, 5, [[.str vb, .int .i64 0, .int .i64 0, px, .nils]], 0, 0, false⟩, ⟨38, 5, [[.bool r.h, .nils, .str r.b, .bool false, .int .i64 r.e]], 0, 0, false⟩, ⟨38, 5, [[.bool r.h, .nils, .str r.b, .bool false, .int .i64 r.e]], 0, 0, false⟩, ⟨38, 5, [[.bool r.h, .nils, .str r.b, .bool false, .int .i64 r.e]], 0, 0, false⟩], min lo gd⟩, true) := by
 have hgk := lt_of hk1
 have hgd := lt_of hd1
 have hm1 : min H.length gd = gd := by omega
 have hm2 : min gd (H.length + 2) = gd := by omega
 have hm3 : min gd (H.length + 1) = gd := by omega
 have hm5 : min (H.length + 2) gd = gd := by omega
 have hm4 : ¬ H.length ≤ gd := by omega
 refine run_at (F := F8) rfl (by simp only [LP, fnOf, snapVs, snaps, zs, zm, zv, hP.snap, hP.snapV, hP.freeV, hP.free] <;> exact rfl) rfl (by simp only [LP, zf, zm, hP.snap, hP.snapV, hP.freeV, hP.free]; try rfl) (by simp only [F8, zv] <;> exact rfl) (by omega) ?_
 rintro d rfl
 have zz28 := And.intro @at_S0 (And.intro @at_S (And.intro @set_S0 (And.intro @set_S (And.intro @List.getElem?_cons_zero.{0} (And.intro @List.getElem?_cons_succ.{0} (And.intro hd1 (And.intro hk1 (And.intro @dkO.eq_1 (And.intro @drO.eq_1 (And.intro hP.isCell (And.intro hP.val (And.intro hP.cells (And.intro hm1 (And.intro hm2 (And.intro hm3 (And.intro hm5 (hh)))))))))))))))))
 refine cw_seq (cw_region ?_)
 refine ow_op (by simp only [zl, zm, zc, at_L hgk, set_L hgk, Nat.reduceAdd, Rp.cs, at_L hgd, set_L hgd, zz28] <;> exact rfl) ?_
 refine ow_op (by simp only [zl, zm, at_L hgk, set_L hgk, Nat.reduceAdd, Rp.cs, at_L hgd, set_L hgd, zz28] <;> exact rfl) ?_
 refine ow_nil ?_
 refine sk_n (by simp only [ze] <;> exact rfl) ?_
 refine cw_seq (cw_seq (cw_region ?_))
 refine ow_me rfl ?_
 refine ow_op (by simp only [zl, zm, eqpD, at_L hgk, set_L hgk, Nat.reduceAdd, Rp.cs, at_L hgd, set_L hgd, zz28] <;> exact rfl) ?_
 refine ow_nil ?_
 refine sk_n (by simp only [ze] <;> exact rfl) ?_
 skip
 refine cw_false (by simp only [opd, zv, at_L hgk, set_L hgk, Nat.reduceAdd, Rp.cs, at_L hgd, set_L hgd, zz28] <;> rfl) ?_
 refine cw_skip (sk_n rfl (cw_seq (cw_seq (cw_region ?_))))
 refine ow_op (by simp only [zo, faddrD_ptr, faddrD_cptr, zm, at_L hgk, set_L hgk, Nat.reduceAdd, Rp.cs, at_L hgd, set_L hgd, zz28] <;> exact rfl) ?_
 refine ow_op (by simp only [zl, zm, zd, partD, List.take, List.drop, at_L hgk, set_L hgk, Nat.reduceAdd, Rp.cs, at_L hgd, set_L hgd, zz28] <;> exact rfl) ?_
 refine ow_nil ?_
 refine sk_n (by simp only [ze] <;> exact rfl) ?_
 refine cw_block ?_
 refine cw_cut (fun env S' => S' = ⟨H ++ [⟨57, 5, [[.str vb, .int .i64 0, .int .i64 0, px, .nils]], 0, 0, false⟩, ⟨38, 5, [[.bool false, .nils, .str ⟨#[]⟩, .bool false, .int .i64 0]], 0, 0, false⟩], H.length⟩ ∧ env = [.ptr gk 0 0 0, .nilp, .agg [.str vb, .int .i64 0, .int .i64 0, px, .nils], .int .i64 0, .ptr H.length 0 0 0, .ptr (H.length + 1) 0 0 0, .undef, .bool false, .str vb, .undef, .bool true, .undef, .undef, .undef]) ?_ ?_
 ·
  refine cw_seq (cw_region ?_)
  refine ow_op (by simp only [zo, binD, zb, Int.reduceEq, Int.reduceToNat, Int.reduceLT, at_L hgk, set_L hgk, Nat.reduceAdd, Rp.cs, at_L hgd, set_L hgd, zz28] <;> exact rfl) ?_
  refine ow_ml rfl ?_
  refine ow_nil ?_
  refine sk_n (by simp only [ze] <;> exact rfl) ?_
  refine cw_cond (by simp only [opd, zv, at_L hgk, set_L hgk, Nat.reduceAdd, Rp.cs, at_L hgd, set_L hgd, zz28] <;> exact rfl) (fun hc => ?_) (fun hc => ?_)
  ·
   refine cw_skip ?_
   refine ck_n rfl ?_
   exact ⟨rfl, by rw [hc]; rfl⟩
  ·
   refine cw_seq (cw_region ?_)
   refine ow_op (by simp only [zo, binD, zb, Int.reduceEq, Int.reduceToNat, Int.reduceLT, at_L hgk, set_L hgk, Nat.reduceAdd, Rp.cs, at_L hgd, set_L hgd, zz28] <;> exact rfl) ?_
   refine ow_ml rfl ?_
   refine ow_nil ?_
   refine sk_n (by simp only [ze] <;> exact rfl) ?_
   refine cw_cond (by simp only [opd, zv, at_L hgk, set_L hgk, Nat.reduceAdd, Rp.cs, at_L hgd, set_L hgd, zz28] <;> exact rfl) (fun hcF => ?_) (fun hcF => ?_)
   ·
    refine cw_skip ?_
    refine ck_n rfl ?_
    exact ⟨rfl, by rw [hcF]; rfl⟩
   ·
    refine cw_seq (cw_region ?_)
    refine ow_op (by simp only [zo, binD, zb, Int.reduceEq, Int.reduceToNat, Int.reduceLT, at_L hgk, set_L hgk, Nat.reduceAdd, Rp.cs, at_L hgd, set_L hgd, zz28] <;> exact rfl) ?_
    refine ow_ml rfl ?_
    refine ow_nil ?_
    refine sk_n (by simp only [ze] <;> exact rfl) ?_
    refine cw_cond (by simp only [opd, zv, at_L hgk, set_L hgk, Nat.reduceAdd, Rp.cs, at_L hgd, set_L hgd, zz28] <;> exact rfl) (fun hcFF => ?_) (fun hcFF => ?_)
    ·
     refine cw_skip ?_
     refine ck_n rfl ?_
     exact ⟨rfl, by rw [hcFF]; rfl⟩
    ·
     refine cw_seq (cw_region ?_)
     refine ow_op (by simp only [zo, binD, zb, Int.reduceEq, Int.reduceToNat, Int.reduceLT, at_L hgk, set_L hgk, Nat.reduceAdd, Rp.cs, at_L hgd, set_L hgd, zz28] <;> exact rfl) ?_
     refine ow_ml rfl ?_
     refine ow_nil ?_
     refine sk_n (by simp only [ze] <;> exact rfl) ?_
     refine cw_cond (by simp only [opd, zv, at_L hgk, set_L hgk, Nat.reduceAdd, Rp.cs, at_L hgd, set_L hgd, zz28] <;> exact rfl) (fun hcFFF => ?_) (fun hcFFF => ?_)
     ·
      refine cw_skip ?_
      refine ck_n rfl ?_
      exact ⟨rfl, by rw [hcFFF]; rfl⟩
     ·
      refine cw_seq (cw_region ?_)
      refine ow_op (by simp only [zo, binD, zb, Int.reduceEq, Int.reduceToNat, Int.reduceLT, at_L hgk, set_L hgk, Nat.reduceAdd, Rp.cs, at_L hgd, set_L hgd, zz28] <;> exact rfl) ?_
      refine ow_ml rfl ?_
      refine ow_nil ?_
      refine sk_n (by simp only [ze] <;> exact rfl) ?_
      refine cw_cond (by simp only [opd, zv, at_L hgk, set_L hgk, Nat.reduceAdd, Rp.cs, at_L hgd, set_L hgd, zz28] <;> exact rfl) (fun hcFFFF => ?_) (fun hcFFFF => ?_)
      ·
       refine cw_skip ?_
       refine ck_n rfl ?_
       exact ⟨rfl, by rw [hcFFFF]; rfl⟩
      ·
       refine cw_seq (cw_region ?_)
       refine ow_op (by simp only [zo, binD, zb, Int.reduceEq, Int.reduceToNat, Int.reduceLT, at_L hgk, set_L hgk, Nat.reduceAdd, Rp.cs, at_L hgd, set_L hgd, zz28] <;> exact rfl) ?_
       refine ow_ml rfl ?_
       refine ow_nil ?_
       refine sk_n (by simp only [ze] <;> exact rfl) ?_
       refine cw_cond (by simp only [opd, zv, at_L hgk, set_L hgk, Nat.reduceAdd, Rp.cs, at_L hgd, set_L hgd, zz28] <;> exact rfl) (fun hcFFFFF => ?_) (fun hcFFFFF => ?_)
       ·
        refine cw_skip ?_
        refine ck_n rfl ?_
        exact ⟨rfl, by rw [hcFFFFF]; rfl⟩
       ·
        refine cw_region ?_
        refine ow_op (by simp only [zo, binD, zb, Int.reduceEq, Int.reduceToNat, Int.reduceLT, at_L hgk, set_L hgk, Nat.reduceAdd, Rp.cs, at_L hgd, set_L hgd, zz28] <;> exact rfl) ?_
        refine ow_ml rfl ?_
        refine ow_nil ?_
        refine ck_n (by simp only [ze] <;> exact rfl) ?_
        have hv := hV
        unfold fileV at hv
        rw [hc, hcF, hcFF, hcFFF, hcFFFF, hcFFFFF] at hv
        simp only [Bool.false_or] at hv
        exact ⟨rfl, by rw [hv]; rfl⟩
 rintro env S' ⟨rfl, rfl⟩
 skip
 refine cw_true (by simp only [opd, zv, at_L hgk, set_L hgk, Nat.reduceAdd, Rp.cs, at_L hgd, set_L hgd, zz28] <;> rfl) ?_
 refine cw_skip (bk_n (sk_n rfl (cw_seq (cw_seq (cw_region ?_)))))
 refine ow_me rfl ?_
 refine ow_op (by simp only [zo, binD, zb, Int.reduceEq, Int.reduceToNat, Int.reduceLT, at_L hgk, set_L hgk, Nat.reduceAdd, Rp.cs, at_L hgd, set_L hgd, zz28] <;> exact rfl) ?_
 refine ow_nil ?_
 refine sk_n (by simp only [ze] <;> exact rfl) ?_
 skip
 refine cw_false (by simp only [opd, zv, at_L hgk, set_L hgk, Nat.reduceAdd, Rp.cs, at_L hgd, set_L hgd, zz28] <;> rfl) ?_
 refine cw_skip (sk_n rfl (cw_seq (cw_seq (cw_region ?_))))
 refine ow_me rfl ?_
 refine ow_op (by simp only [zo, at_L hgk, set_L hgk, Nat.reduceAdd, Rp.cs, at_L hgd, set_L hgd, zz28] <;> exact rfl) ?_
 refine ow_op (by simp only [zo, faddrD_ptr, faddrD_cptr, zm, at_L hgk, set_L hgk, Nat.reduceAdd, Rp.cs, at_L hgd, set_L hgd, zz28] <;> exact rfl) ?_
 refine ow_op (by simp only [zl, zm, zd, partD, List.take, List.drop, at_L hgk, set_L hgk, Nat.reduceAdd, Rp.cs, at_L hgd, set_L hgd, zz28] <;> exact rfl) ?_
 refine ow_op (by simp only [zo, eqnilD, at_L hgk, set_L hgk, Nat.reduceAdd, Rp.cs, at_L hgd, set_L hgd, zz28] <;> exact rfl) ?_
 refine ow_nil ?_
 refine sk_n (by simp only [ze] <;> exact rfl) ?_
 skip
 refine cw_false (by simp only [opd, zv, at_L hgk, set_L hgk, Nat.reduceAdd, Rp.cs, at_L hgd, set_L hgd, zz28] <;> rfl) ?_
 refine cw_skip (sk_n rfl (cw_seq ?_))
 refine cw_drawn (by simp only [newsVals, zw, Nat.reduceAdd] <;> exact rfl) (by simp only [zw, newsObj, St.eta] <;> exact rfl) ?_
 refine dw_me rfl rfl ?_
 refine dw_quiet (by simp only [zo, at_L hgk, set_L hgk, Nat.reduceAdd, Rp.cs, at_L hgd, set_L hgd, zz28] <;> exact rfl) rfl rfl ?_
 refine dw_quiet (by simp only [zo, faddrD_ptr, faddrD_cptr, zm, at_L hgk, set_L hgk, Nat.reduceAdd, Rp.cs, at_L hgd, set_L hgd, zz28] <;> exact rfl) rfl rfl ?_
 refine dw_op (by simp only [zl, zm, zd, partD, List.take, List.drop, at_L hgk, set_L hgk, Nat.reduceAdd, Rp.cs, at_L hgd, set_L hgd, zz28] <;> exact rfl) (by simp only [fpHere, zo, zq] <;> exact rfl) rfl ?_
 refine dw_me rfl rfl ?_
 refine dw_op (by simp only [zl, zm, zd, partD, List.take, List.drop, at_L hgk, set_L hgk, Nat.reduceAdd, Rp.cs, at_L hgd, set_L hgd, zz28] <;> exact rfl) (by simp only [fpHere, zo, zq] <;> exact rfl) rfl ?_
 refine dw_op (by simp only [zo, at_L hgk, set_L hgk, Nat.reduceAdd, Rp.cs, at_L hgd, set_L hgd, zz28]; exact fdo_run (by omega) (get_app hd1 _) hm hP _) (by simp only [fpHere, zo, zq] <;> exact rfl) (by simp only [okHere, sparesFP, List.length_append, List.length_cons, List.length_nil, set_L hgd, List.append_assoc, List.cons_append, List.nil_append, Nat.zero_add, Nat.reduceAdd, Nat.add_zero, at_S, List.getElem?_cons_succ, List.getElem?_cons_zero, Bool.and_true] <;> rfl) ?_
 refine dw_op (by simp only [zo] <;> exact rfl) rfl rfl ?_
 refine dw_op (by simp only [zl, zm, storeD, overlay, snapVs, snaps, zs, zc, zf, List.take, List.drop, at_L hgk, set_L hgk, Nat.reduceAdd, Rp.cs, at_L hgd, set_L hgd, zz28] <;> exact rfl) (by simp only [fpHere, zo, zq] <;> exact rfl) rfl ?_
 refine dw_nil ?_
 refine sk_n (by simp only [ze] <;> exact rfl) ?_
 refine cw_seq (cw_seq (cw_region ?_))
 refine ow_op (by simp only [zo, faddrD_ptr, faddrD_cptr, zm, at_L hgk, set_L hgk, Nat.reduceAdd, Rp.cs, at_L hgd, set_L hgd, zz28] <;> exact rfl) ?_
 refine ow_op (by simp only [zl, zm, zd, partD, List.take, List.drop, at_L hgk, set_L hgk, Nat.reduceAdd, Rp.cs, at_L hgd, set_L hgd, zz28] <;> exact rfl) ?_
 refine ow_ml rfl ?_
 refine ow_know 0 (b := false) (by simp only [opd, zv, at_L hgk, set_L hgk, Nat.reduceAdd, Rp.cs, at_L hgd, set_L hgd, zz28] <;> rfl) (by simp only [zn] <;> exact rfl) ?_
 refine ow_off rfl rfl ?_
 refine ow_off rfl rfl ?_
 refine ow_off rfl rfl ?_
 refine ow_op (by simp only [zo, at_L hgk, set_L hgk, Nat.reduceAdd, Rp.cs, at_L hgd, set_L hgd, zz28] <;> exact rfl) ?_
 refine ow_nil ?_
 refine sk_n (by simp only [ze] <;> exact rfl) ?_
 refine cw_false (by simp only [opd, zv, at_L hgk, set_L hgk, Nat.reduceAdd, Rp.cs, at_L hgd, set_L hgd, zz28]) ?_
 refine cw_skip (sk_n rfl (cw_seq (cw_region ?_)))
 refine ow_op (by simp only [zl, zm, zd, partD, List.take, List.drop, at_L hgk, set_L hgk, Nat.reduceAdd, Rp.cs, at_L hgd, set_L hgd, zz28] <;> exact rfl) ?_
 refine ow_op (by simp only [zl, zm, storeD, overlay, snapVs, snaps, zs, zc, zf, List.take, List.drop, at_L hgk, set_L hgk, Nat.reduceAdd, Rp.cs, at_L hgd, set_L hgd, zz28] <;> exact rfl) ?_
 refine ow_nil ?_
 refine sk_n (by simp only [ze] <;> exact rfl) ?_
 refine cw_ret ?_
 refine ⟨_, by simp only [F8, resultD, resDs, resD, zg, zd, rowsOf, partD, List.take, List.drop, zm, at_S, List.getElem?_cons_succ, List.getElem?_cons_zero] <;> exact rfl, ?_⟩
 simp [leave, LP, snapR, snapV, snaps, snap, D.freeR, D.freeV, D.free, D.free0, hm4, dkO, drO, Rp.cs, hh]

theorem do_ok {d : Nat} (hd : 2 ≤ d) {H : List AObj} {gd gk many mode : Nat} {last : ByteArray} {r : Rp} {fx ux rx dx : D} {act : Bool} (hd1 : H[gd]? = some (drO last mode r many)) (hk1 : H[gk]? = some (dkO gd fx ux rx act dx)) (hm : many ≤ 1000) {vb : ByteArray} {px : D} {pr : List (List D)} (hP : SlD 2 pr px) (hV : fileV vb) (hq : r.h = false ∨ (r.e == 6) = false) (lo : Nat) : runF LP NN d 8 [.ptr gk 0 0 0, .nilp, .agg [.str vb, .int .i64 0, .int .i64 0, px, .nils], .int .i64 0] ⟨H, lo⟩ = some (.agg r.cs, ⟨H.set gd (drO last mode r (many + 1)) ++ [⟨57, 5, [[.str vb, .int .i64 0, .int .i64 0, px, .nils]], 0, 0, false⟩, ⟨38, 5, [[.bool r.h, .nils, .str r.b, .bool false, .int .i64 r.e]], 0, 0, false⟩, ⟨38, 5, [[.bool r.h, .nils, .str r.b, .bool false, .int .i64 r.e]], 0, 0, false⟩, ⟨38, 5, [[.bool r.h, .nils, .str r.b, .bool false, .int .i64 r.e]], 0, 0, false⟩], min lo gd⟩, true) := by
 rcases Bool.eq_false_or_eq_true r.h with hh | hh
 ·
  exact do_ok_t hd hd1 hk1 hm hP hV hh (hq.resolve_left (by rw [hh]; simp)) lo
 ·
  exact do_ok_f hd hd1 hk1 hm hP hV hh lo

theorem do_miss {d : Nat} (hd : 9 ≤ d) {H : List AObj} {gd gk many mode : Nat} {last : ByteArray} {fx ux rx dx : D} {act : Bool} (hd1 : H[gd]? = some (drO last mode (⟨true, ⟨#[]⟩, 6⟩ : Rp) many)) (hk1 : H[gk]? = some (dkO gd fx ux rx act dx)) (hm : many ≤ 1000) {vb : ByteArray} {px : D} {pr : List (List D)} (hP : SlD 2 pr px) (hV : fileV vb) {e : Int} (hF : ∀ {d' : Nat} (lo : Nat), 8 ≤ d' → runF LP NN d' 20 [.ptr gk 0 0 0, .agg [.str vb, .int .i64 0, .int .i64 0, px, .nils], .agg [.bool true, .nils, .str ⟨#[]⟩, .bool false, .int .i64 6]] ⟨(H.set gd (drO last mode (⟨true, ⟨#[]⟩, 6⟩ : Rp) (many + 1)) ++ [⟨57, 5, [[.str vb, .int .i64 0, .int .i64 0, px, .nils]], 0, 0, false⟩, ⟨38, 5, [[.bool false, .nils, .str ⟨#[]⟩, .bool false, .int .i64 0]], 0, 0, false⟩, ⟨38, 5, [[.bool true, .nils, .str ⟨#[]⟩, .bool false, .int .i64 6]], 0, 0, false⟩, ⟨38, 5, [[.bool true, .nils, .str ⟨#[]⟩, .bool false, .int .i64 6]], 0, 0, false⟩]), lo⟩ = some (.agg [.bool true, .nils, .str ⟨#[]⟩, .bool false, .int .i64 e], ⟨(H.set gd (drO last mode (⟨true, ⟨#[]⟩, 6⟩ : Rp) (many + 1)) ++ [⟨57, 5, [[.str vb, .int .i64 0, .int .i64 0, px, .nils]], 0, 0, false⟩, ⟨38, 5, [[.bool false, .nils, .str ⟨#[]⟩, .bool false, .int .i64 0]], 0, 0, false⟩, ⟨38, 5, [[.bool true, .nils, .str ⟨#[]⟩, .bool false, .int .i64 6]], 0, 0, false⟩, ⟨38, 5, [[.bool true, .nils, .str ⟨#[]⟩, .bool false, .int .i64 6]], 0, 0, false⟩]), lo⟩, false)) (lo : Nat) : runF LP NN d 8 [.ptr gk 0 0 0, .nilp, .agg [.str vb, .int .i64 0, .int .i64 0, px, .nils], .int .i64 0] ⟨H, lo⟩ = some (.agg [.bool true, .nils, .str ⟨#[]⟩, .bool false, .int .i64 e], ⟨H.set gd (drO last mode (⟨true, ⟨#[]⟩, 6⟩ : Rp) (many + 1)) ++ [⟨57, 5, [[.str vb, .int .i64 0, .int .i64 0, px, .nils]], 0, 0, false⟩, ⟨38, 5, [[.bool true, .nils, .str ⟨#[]⟩, .bool false, .int .i64 e]], 0, 0, false⟩, ⟨38, 5, [[.bool true, .nils, .str ⟨#[]⟩, .bool false, .int .i64 6]], 0, 0, false⟩, ⟨38, 5, [[.bool true, .nils, .str ⟨#[]⟩, .bool false, .int .i64 6]], 0, 0, false⟩], min lo gd⟩, true) := by
 have hgk := lt_of hk1
 have hgd := lt_of hd1
 have hm1 : min H.length gd = gd := by omega
 have hm2 : min gd (H.length + 2) = gd := by omega
 have hm3 : min gd (H.length + 1) = gd := by omega
 have hm5 : min (H.length + 2) gd = gd := by omega
 have hm4 : ¬ H.length ≤ gd := by omega
 simp only [drO] at hF
 refine run_at (F := F8) rfl (by simp only [LP, fnOf, snapVs, snaps, zs, zm, zv, hP.snap, hP.snapV, hP.freeV, hP.free] <;> exact rfl) rfl (by simp only [LP, zf, zm, hP.snap, hP.snapV, hP.freeV, hP.free]; try rfl) (by simp only [F8, zv] <;> exact rfl) (by omega) ?_
 rintro d rfl
 have zz29 := And.intro @at_S0 (And.intro @at_S (And.intro @set_S0 (And.intro @set_S (And.intro @List.getElem?_cons_zero.{0} (And.intro @List.getElem?_cons_succ.{0} (And.intro hd1 (And.intro hk1 (And.intro @dkO.eq_1 (And.intro @drO.eq_1 (And.intro hP.isCell (And.intro hP.val (And.intro hP.cells (And.intro hm1 (And.intro hm2 (And.intro hm3 (And.intro hm5 (@beq_self_eq_true.{0})))))))))))))))))
 refine cw_seq (cw_region ?_)
 refine ow_op (by simp only [zl, zm, zc, at_L hgk, set_L hgk, Nat.reduceAdd, Rp.cs, at_L hgd, set_L hgd, zz29] <;> exact rfl) ?_
 refine ow_op (by simp only [zl, zm, at_L hgk, set_L hgk, Nat.reduceAdd, Rp.cs, at_L hgd, set_L hgd, zz29] <;> exact rfl) ?_
 refine ow_nil ?_
 refine sk_n (by simp only [ze] <;> exact rfl) ?_
 refine cw_seq (cw_seq (cw_region ?_))
 refine ow_me rfl ?_
 refine ow_op (by simp only [zl, zm, eqpD, at_L hgk, set_L hgk, Nat.reduceAdd, Rp.cs, at_L hgd, set_L hgd, zz29] <;> exact rfl) ?_
 refine ow_nil ?_
 refine sk_n (by simp only [ze] <;> exact rfl) ?_
 skip
 refine cw_false (by simp only [opd, zv, at_L hgk, set_L hgk, Nat.reduceAdd, Rp.cs, at_L hgd, set_L hgd, zz29] <;> rfl) ?_
 refine cw_skip (sk_n rfl (cw_seq (cw_seq (cw_region ?_))))
 refine ow_op (by simp only [zo, faddrD_ptr, faddrD_cptr, zm, at_L hgk, set_L hgk, Nat.reduceAdd, Rp.cs, at_L hgd, set_L hgd, zz29] <;> exact rfl) ?_
 refine ow_op (by simp only [zl, zm, zd, partD, List.take, List.drop, at_L hgk, set_L hgk, Nat.reduceAdd, Rp.cs, at_L hgd, set_L hgd, zz29] <;> exact rfl) ?_
 refine ow_nil ?_
 refine sk_n (by simp only [ze] <;> exact rfl) ?_
 refine cw_block ?_
 refine cw_cut (fun env S' => S' = ⟨H ++ [⟨57, 5, [[.str vb, .int .i64 0, .int .i64 0, px, .nils]], 0, 0, false⟩, ⟨38, 5, [[.bool false, .nils, .str ⟨#[]⟩, .bool false, .int .i64 0]], 0, 0, false⟩], H.length⟩ ∧ env = [.ptr gk 0 0 0, .nilp, .agg [.str vb, .int .i64 0, .int .i64 0, px, .nils], .int .i64 0, .ptr H.length 0 0 0, .ptr (H.length + 1) 0 0 0, .undef, .bool false, .str vb, .undef, .bool true, .undef, .undef, .undef]) ?_ ?_
 ·
  refine cw_seq (cw_region ?_)
  refine ow_op (by simp only [zo, binD, zb, Int.reduceEq, Int.reduceToNat, Int.reduceLT, at_L hgk, set_L hgk, Nat.reduceAdd, Rp.cs, at_L hgd, set_L hgd, zz29] <;> exact rfl) ?_
  refine ow_ml rfl ?_
  refine ow_nil ?_
  refine sk_n (by simp only [ze] <;> exact rfl) ?_
  refine cw_cond (by simp only [opd, zv, at_L hgk, set_L hgk, Nat.reduceAdd, Rp.cs, at_L hgd, set_L hgd, zz29] <;> exact rfl) (fun hc => ?_) (fun hc => ?_)
  ·
   refine cw_skip ?_
   refine ck_n rfl ?_
   exact ⟨rfl, by rw [hc]; rfl⟩
  ·
   refine cw_seq (cw_region ?_)
   refine ow_op (by simp only [zo, binD, zb, Int.reduceEq, Int.reduceToNat, Int.reduceLT, at_L hgk, set_L hgk, Nat.reduceAdd, Rp.cs, at_L hgd, set_L hgd, zz29] <;> exact rfl) ?_
   refine ow_ml rfl ?_
   refine ow_nil ?_
   refine sk_n (by simp only [ze] <;> exact rfl) ?_
   refine cw_cond (by simp only [opd, zv, at_L hgk, set_L hgk, Nat.reduceAdd, Rp.cs, at_L hgd, set_L hgd, zz29] <;> exact rfl) (fun hcF => ?_) (fun hcF => ?_)
   ·
    refine cw_skip ?_
    refine ck_n rfl ?_
    exact ⟨rfl, by rw [hcF]; rfl⟩
   ·
    refine cw_seq (cw_region ?_)
    refine ow_op (by simp only [zo, binD, zb, Int.reduceEq, Int.reduceToNat, Int.reduceLT, at_L hgk, set_L hgk, Nat.reduceAdd, Rp.cs, at_L hgd, set_L hgd, zz29] <;> exact rfl) ?_
    refine ow_ml rfl ?_
    refine ow_nil ?_
    refine sk_n (by simp only [ze] <;> exact rfl) ?_
    refine cw_cond (by simp only [opd, zv, at_L hgk, set_L hgk, Nat.reduceAdd, Rp.cs, at_L hgd, set_L hgd, zz29] <;> exact rfl) (fun hcFF => ?_) (fun hcFF => ?_)
    ·
     refine cw_skip ?_
     refine ck_n rfl ?_
     exact ⟨rfl, by rw [hcFF]; rfl⟩
    ·
     refine cw_seq (cw_region ?_)
     refine ow_op (by simp only [zo, binD, zb, Int.reduceEq, Int.reduceToNat, Int.reduceLT, at_L hgk, set_L hgk, Nat.reduceAdd, Rp.cs, at_L hgd, set_L hgd, zz29] <;> exact rfl) ?_
     refine ow_ml rfl ?_
     refine ow_nil ?_
     refine sk_n (by simp only [ze] <;> exact rfl) ?_
     refine cw_cond (by simp only [opd, zv, at_L hgk, set_L hgk, Nat.reduceAdd, Rp.cs, at_L hgd, set_L hgd, zz29] <;> exact rfl) (fun hcFFF => ?_) (fun hcFFF => ?_)
     ·
      refine cw_skip ?_
      refine ck_n rfl ?_
      exact ⟨rfl, by rw [hcFFF]; rfl⟩
     ·
      refine cw_seq (cw_region ?_)
      refine ow_op (by simp only [zo, binD, zb, Int.reduceEq, Int.reduceToNat, Int.reduceLT, at_L hgk, set_L hgk, Nat.reduceAdd, Rp.cs, at_L hgd, set_L hgd, zz29] <;> exact rfl) ?_
      refine ow_ml rfl ?_
      refine ow_nil ?_
      refine sk_n (by simp only [ze] <;> exact rfl) ?_
      refine cw_cond (by simp only [opd, zv, at_L hgk, set_L hgk, Nat.reduceAdd, Rp.cs, at_L hgd, set_L hgd, zz29] <;> exact rfl) (fun hcFFFF => ?_) (fun hcFFFF => ?_)
      ·
       refine cw_skip ?_
       refine ck_n rfl ?_
       exact ⟨rfl, by rw [hcFFFF]; rfl⟩
      ·
       refine cw_seq (cw_region ?_)
       refine ow_op (by simp only [zo, binD, zb, Int.reduceEq, Int.reduceToNat, Int.reduceLT, at_L hgk, set_L hgk, Nat.reduceAdd, Rp.cs, at_L hgd, set_L hgd, zz29] <;> exact rfl) ?_
       refine ow_ml rfl ?_
       refine ow_nil ?_
       refine sk_n (by simp only [ze] <;> exact rfl) ?_
       refine cw_cond (by simp only [opd, zv, at_L hgk, set_L hgk, Nat.reduceAdd, Rp.cs, at_L hgd, set_L hgd, zz29] <;> exact rfl) (fun hcFFFFF => ?_) (fun hcFFFFF => ?_)
       ·
        refine cw_skip ?_
        refine ck_n rfl ?_
        exact ⟨rfl, by rw [hcFFFFF]; rfl⟩
       ·
        refine cw_region ?_
        refine ow_op (by simp only [zo, binD, zb, Int.reduceEq, Int.reduceToNat, Int.reduceLT, at_L hgk, set_L hgk, Nat.reduceAdd, Rp.cs, at_L hgd, set_L hgd, zz29] <;> exact rfl) ?_
        refine ow_ml rfl ?_
        refine ow_nil ?_
        refine ck_n (by simp only [ze] <;> exact rfl) ?_
        have hv := hV
        unfold fileV at hv
        rw [hc, hcF, hcFF, hcFFF, hcFFFF, hcFFFFF] at hv
        simp only [Bool.false_or] at hv
        exact ⟨rfl, by rw [hv]; rfl⟩
 rintro env S' ⟨rfl, rfl⟩
 skip
 refine cw_true (by simp only [opd, zv, at_L hgk, set_L hgk, Nat.reduceAdd, Rp.cs, at_L hgd, set_L hgd, zz29] <;> rfl) ?_
 refine cw_skip (bk_n (sk_n rfl (cw_seq (cw_seq (cw_region ?_)))))
 refine ow_me rfl ?_
 refine ow_op (by simp only [zo, binD, zb, Int.reduceEq, Int.reduceToNat, Int.reduceLT, at_L hgk, set_L hgk, Nat.reduceAdd, Rp.cs, at_L hgd, set_L hgd, zz29] <;> exact rfl) ?_
 refine ow_nil ?_
 refine sk_n (by simp only [ze] <;> exact rfl) ?_
 skip
 refine cw_false (by simp only [opd, zv, at_L hgk, set_L hgk, Nat.reduceAdd, Rp.cs, at_L hgd, set_L hgd, zz29] <;> rfl) ?_
 refine cw_skip (sk_n rfl (cw_seq (cw_seq (cw_region ?_))))
 refine ow_me rfl ?_
 refine ow_op (by simp only [zo, at_L hgk, set_L hgk, Nat.reduceAdd, Rp.cs, at_L hgd, set_L hgd, zz29] <;> exact rfl) ?_
 refine ow_op (by simp only [zo, faddrD_ptr, faddrD_cptr, zm, at_L hgk, set_L hgk, Nat.reduceAdd, Rp.cs, at_L hgd, set_L hgd, zz29] <;> exact rfl) ?_
 refine ow_op (by simp only [zl, zm, zd, partD, List.take, List.drop, at_L hgk, set_L hgk, Nat.reduceAdd, Rp.cs, at_L hgd, set_L hgd, zz29] <;> exact rfl) ?_
 refine ow_op (by simp only [zo, eqnilD, at_L hgk, set_L hgk, Nat.reduceAdd, Rp.cs, at_L hgd, set_L hgd, zz29] <;> exact rfl) ?_
 refine ow_nil ?_
 refine sk_n (by simp only [ze] <;> exact rfl) ?_
 skip
 refine cw_false (by simp only [opd, zv, at_L hgk, set_L hgk, Nat.reduceAdd, Rp.cs, at_L hgd, set_L hgd, zz29] <;> rfl) ?_
 refine cw_skip (sk_n rfl (cw_seq ?_))
 refine cw_drawn (by simp only [newsVals, zw, Nat.reduceAdd] <;> exact rfl) (by simp only [zw, newsObj, St.eta] <;> exact rfl) ?_
 refine dw_me rfl rfl ?_
 refine dw_quiet (by simp only [zo, at_L hgk, set_L hgk, Nat.reduceAdd, Rp.cs, at_L hgd, set_L hgd, zz29] <;> exact rfl) rfl rfl ?_
 refine dw_quiet (by simp only [zo, faddrD_ptr, faddrD_cptr, zm, at_L hgk, set_L hgk, Nat.reduceAdd, Rp.cs, at_L hgd, set_L hgd, zz29] <;> exact rfl) rfl rfl ?_
 refine dw_op (by simp only [zl, zm, zd, partD, List.take, List.drop, at_L hgk, set_L hgk, Nat.reduceAdd, Rp.cs, at_L hgd, set_L hgd, zz29] <;> exact rfl) (by simp only [fpHere, zo, zq] <;> exact rfl) rfl ?_
 refine dw_me rfl rfl ?_
 refine dw_op (by simp only [zl, zm, zd, partD, List.take, List.drop, at_L hgk, set_L hgk, Nat.reduceAdd, Rp.cs, at_L hgd, set_L hgd, zz29] <;> exact rfl) (by simp only [fpHere, zo, zq] <;> exact rfl) rfl ?_
 refine dw_op (by simp only [zo, at_L hgk, set_L hgk, Nat.reduceAdd, Rp.cs, at_L hgd, set_L hgd, zz29]; exact fdo_run (r := (⟨true, ⟨#[]⟩, 6⟩ : Rp)) (by omega) (get_app hd1 _) hm hP _) (by simp only [fpHere, zo, zq] <;> exact rfl) (by simp only [okHere, sparesFP, List.length_append, List.length_cons, List.length_nil, set_L hgd, List.append_assoc, List.cons_append, List.nil_append, Nat.zero_add, Nat.reduceAdd, Nat.add_zero, at_S, List.getElem?_cons_succ, List.getElem?_cons_zero, Bool.and_true] <;> rfl) ?_
 refine dw_op (by simp only [zo] <;> exact rfl) rfl rfl ?_
 refine dw_op (by simp only [zl, zm, storeD, overlay, snapVs, snaps, zs, zc, zf, List.take, List.drop, at_L hgk, set_L hgk, Nat.reduceAdd, Rp.cs, at_L hgd, set_L hgd, zz29] <;> exact rfl) (by simp only [fpHere, zo, zq] <;> exact rfl) rfl ?_
 refine dw_nil ?_
 refine sk_n (by simp only [ze] <;> exact rfl) ?_
 refine cw_seq (cw_seq (cw_region ?_))
 refine ow_op (by simp only [zo, faddrD_ptr, faddrD_cptr, zm, at_L hgk, set_L hgk, Nat.reduceAdd, Rp.cs, at_L hgd, set_L hgd, zz29] <;> exact rfl) ?_
 refine ow_op (by simp only [zl, zm, zd, partD, List.take, List.drop, at_L hgk, set_L hgk, Nat.reduceAdd, Rp.cs, at_L hgd, set_L hgd, zz29] <;> exact rfl) ?_
 refine ow_ml rfl ?_
 refine ow_know 0 (b := true) (by simp only [opd, zv, at_L hgk, set_L hgk, Nat.reduceAdd, Rp.cs, at_L hgd, set_L hgd, zz29] <;> rfl) (by simp only [zn] <;> exact rfl) ?_
 refine ow_on rfl ?_
 refine ow_op (by simp only [zo, faddrD_ptr, faddrD_cptr, zm, at_L hgk, set_L hgk, Nat.reduceAdd, Rp.cs, at_L hgd, set_L hgd, zz29] <;> exact rfl) ?_
 refine ow_on rfl ?_
 refine ow_op (by simp only [zl, zm, zd, partD, List.take, List.drop, at_L hgk, set_L hgk, Nat.reduceAdd, Rp.cs, at_L hgd, set_L hgd, zz29] <;> exact rfl) ?_
 refine ow_on rfl ?_
 refine ow_op (by simp only [zo, binD, zb, Int.reduceEq, Int.reduceToNat, Int.reduceLT, at_L hgk, set_L hgk, Nat.reduceAdd, Rp.cs, at_L hgd, set_L hgd, zz29] <;> exact rfl) ?_
 refine ow_op (by simp only [zo, at_L hgk, set_L hgk, Nat.reduceAdd, Rp.cs, at_L hgd, set_L hgd, zz29] <;> exact rfl) ?_
 refine ow_nil ?_
 refine sk_n (by simp only [ze] <;> exact rfl) ?_
 skip
 refine cw_true (by simp only [opd, zv, at_L hgk, set_L hgk, Nat.reduceAdd, Rp.cs, at_L hgd, set_L hgd, zz29] <;> rfl) ?_
 refine cw_seq (cw_region ?_)
 refine ow_me rfl ?_
 refine ow_op (by simp only [zl, zm, zd, partD, List.take, List.drop, at_L hgk, set_L hgk, Nat.reduceAdd, Rp.cs, at_L hgd, set_L hgd, zz29] <;> exact rfl) ?_
 refine ow_op (by simp only [zl, zm, zd, partD, List.take, List.drop, at_L hgk, set_L hgk, Nat.reduceAdd, Rp.cs, at_L hgd, set_L hgd, zz29] <;> exact rfl) ?_
 refine ow_op (by simp only [zo, at_L hgk, set_L hgk, Nat.reduceAdd, Rp.cs, at_L hgd, set_L hgd, zz29]; exact hF _ (by omega)) ?_
 refine ow_op (by simp only [zl, zm, storeD, overlay, snapVs, snaps, zs, zc, zf, List.take, List.drop, at_L hgk, set_L hgk, Nat.reduceAdd, Rp.cs, at_L hgd, set_L hgd, zz29] <;> exact rfl) ?_
 refine ow_nil ?_
 refine sk_n (by simp only [ze] <;> exact rfl) ?_
 refine cw_ret (sk_r ?_)
 refine ⟨_, by simp only [F8, resultD, resDs, resD, zg, zd, rowsOf, partD, List.take, List.drop, zm, at_S, List.getElem?_cons_succ, List.getElem?_cons_zero] <;> exact rfl, ?_⟩
 simp [leave, LP, snapR, snapV, snaps, snap, D.freeR, D.freeV, D.free, D.free0, hm4, dkO, drO, Rp.cs]

end Go.Proofs.YtcogjcplldpkaaaGreat

namespace Go.Proofs.YtcogjcplldpkaaaGreat
set_option linter.unusedSimpArgs false
set_option linter.unusedVariables false
set_option maxRecDepth 10000
set_option maxHeartbeats 2000000

theorem do_hit {d : Nat} (hd : 10 ≤ d) {H : List AObj} {gd gk many mode : Nat} {last : ByteArray} {fx ux rx dx : D} (hd1 : H[gd]? = some (drO last mode (⟨true, ⟨#[]⟩, 6⟩ : Rp) many)) (hk1 : H[gk]? = some (dkO gd fx ux rx false dx)) (hm : many ≤ 1000) {dn : List ByteArray} {g : Option Nat} (hA : AppI 9 1 (strRows dn) H dx g) (hdn : dn.length ≤ 1000) {fl : List Fi} (hX : SlD 12 (fiRows fl) fx) (hfl : fl.length ≤ 1000000) {ur : List (List D)} (hU : SlD 3 ur ux) {o : List Ru} (hR : SlD 3 (ruRows o) rx) (hol : o.length ≤ 1000000) {vb : ByteArray} {px : D} {pr : List (List D)} (hP : SlD 2 pr px) (hV : fileV vb) (mv : Nat) (hM : ∀ {d' : Nat} (Hx : List AObj) (lo : Nat), Hx[gd]? = some (drO last mode (⟨true, ⟨#[]⟩, 6⟩ : Rp) (many + 1)) → Hx[gk]? = some (dkO gd fx ux rx false dx) → AppAt 9 1 (strRows dn) Hx dx → 4 ≤ d' → runF LP NN d' 29 [.ptr gk 0 0 0, .agg [.str vb, .int .i64 0, .int .i64 0, px, .nils], .str last] ⟨Hx, lo⟩ = some (.int .u8 mv, ⟨Hx, lo⟩, false)) {i : Nat} (hi : i < o.length) (hsel : selI o last mv = (i : Int)) (lo : Nat) : ∃ H' dx' g' lo', runF LP NN d 8 [.ptr gk 0 0 0, .nilp, .agg [.str vb, .int .i64 0, .int .i64 0, px, .nils], .int .i64 0] ⟨H, lo⟩ = some (.agg (rpS o[i].sec), ⟨H', min lo lo'⟩, true) ∧ H'[gd]? = some (drO last mode (⟨true, ⟨#[]⟩, 6⟩ : Rp) (many + 1)) ∧ H'[gk]? = some (dkO gd fx ux rx true dx') ∧ AppI 9 1 (strRows (dn ++ [o[i].sec])) H' dx' (some g') ∧ (g = some g' ∨ H.length ≤ g') ∧ H.length ≤ H'.length ∧ ∀ (k : Nat) (ob : AObj), H[k]? = some ob → k ≠ gd → k ≠ gk → g ≠ some k → H'[k]? = some ob := by
 have hgg : gd ≠ gk := by rintro rfl; rw [hd1] at hk1; simp [drO, dkO] at hk1
 have hge := hA.ne hd1 (by simp [drO])
 have hgl := hA.lt
 have w1 : (H.set gd (drO last mode (⟨true, ⟨#[]⟩, 6⟩ : Rp) (many + 1)) ++ [⟨57, 5, [[.str vb, .int .i64 0, .int .i64 0, px, .nils]], 0, 0, false⟩, ⟨38, 5, [[.bool false, .nils, .str ⟨#[]⟩, .bool false, .int .i64 0]], 0, 0, false⟩, ⟨38, 5, [[.bool true, .nils, .str ⟨#[]⟩, .bool false, .int .i64 6]], 0, 0, false⟩, ⟨38, 5, [[.bool true, .nils, .str ⟨#[]⟩, .bool false, .int .i64 6]], 0, 0, false⟩])[gd]? = some (drO last mode (⟨true, ⟨#[]⟩, 6⟩ : Rp) (many + 1)) := get_app (get_set_self hd1 _) _
 have w2 : (H.set gd (drO last mode (⟨true, ⟨#[]⟩, 6⟩ : Rp) (many + 1)) ++ [⟨57, 5, [[.str vb, .int .i64 0, .int .i64 0, px, .nils]], 0, 0, false⟩, ⟨38, 5, [[.bool false, .nils, .str ⟨#[]⟩, .bool false, .int .i64 0]], 0, 0, false⟩, ⟨38, 5, [[.bool true, .nils, .str ⟨#[]⟩, .bool false, .int .i64 6]], 0, 0, false⟩, ⟨38, 5, [[.bool true, .nils, .str ⟨#[]⟩, .bool false, .int .i64 6]], 0, 0, false⟩])[gk]? = some (dkO gd fx ux rx false dx) := get_app (get_set_ne hk1 hgg _) _
 have w3 : AppI 9 1 (strRows dn) (H.set gd (drO last mode (⟨true, ⟨#[]⟩, 6⟩ : Rp) (many + 1)) ++ [⟨57, 5, [[.str vb, .int .i64 0, .int .i64 0, px, .nils]], 0, 0, false⟩, ⟨38, 5, [[.bool false, .nils, .str ⟨#[]⟩, .bool false, .int .i64 0]], 0, 0, false⟩, ⟨38, 5, [[.bool true, .nils, .str ⟨#[]⟩, .bool false, .int .i64 6]], 0, 0, false⟩, ⟨38, 5, [[.bool true, .nils, .str ⟨#[]⟩, .bool false, .int .i64 6]], 0, 0, false⟩]) dx g := (hA.put hd1 (by simp [drO]) _).push _
 have w4 : (H.set gd (drO last mode (⟨true, ⟨#[]⟩, 6⟩ : Rp) (many + 1)) ++ [⟨57, 5, [[.str vb, .int .i64 0, .int .i64 0, px, .nils]], 0, 0, false⟩, ⟨38, 5, [[.bool false, .nils, .str ⟨#[]⟩, .bool false, .int .i64 0]], 0, 0, false⟩, ⟨38, 5, [[.bool true, .nils, .str ⟨#[]⟩, .bool false, .int .i64 6]], 0, 0, false⟩, ⟨38, 5, [[.bool true, .nils, .str ⟨#[]⟩, .bool false, .int .i64 6]], 0, 0, false⟩])[H.length + 1]? = some ⟨38, 5, [[.bool false, .nils, .str ⟨#[]⟩, .bool false, .int .i64 0]], 0, 0, false⟩ := by rw [at_S]; rfl
 obtain ⟨H2, dx', g', lo2, hrun, hk2, hA2, hg2, hlen, hkeep⟩ := failed_hit (d := d - 1) (by omega) w1 w2 w3 hdn hX hfl hU hR hol hP mv (fun lo l h4 => hM _ lo (get_app w1 l) (get_app w2 l) (w3.at.push l) h4) (⟨true, ⟨#[]⟩, 6⟩ : Rp) hi hsel gd
 have hl2 : H.length + 4 ≤ H2.length := by simpa using hlen
 have hr2 := hkeep _ _ w4 (by have := lt_of hk1; omega) (by intro h; have := hgl _ h; omega)
 have hd2 := hkeep _ _ w1 hgg hge
 have hr3 := get_set_self hr2 (⟨38, 5, [rpS o[i].sec], 0, 0, false⟩ : AObj)
 have hA3 := hA2.put hr2 (by simp) (⟨38, 5, [rpS o[i].sec], 0, 0, false⟩ : AObj)
 have hd3 := get_set_ne hd2 (show H.length + 1 ≠ gd by have := lt_of hd1; omega) (⟨38, 5, [rpS o[i].sec], 0, 0, false⟩ : AObj)
 have hk3 := get_set_ne hk2 (show H.length + 1 ≠ gk by have := lt_of hk1; omega) (⟨38, 5, [rpS o[i].sec], 0, 0, false⟩ : AObj)
 have hgk := lt_of hk1
 have hgd := lt_of hd1
 have hm1 : min H.length gd = gd := by omega
 have hm2 : min gd (H.length + 2) = gd := by omega
 have hm3 : min gd (H.length + 1) = gd := by omega
 have hm5 : min (H.length + 2) gd = gd := by omega
 have hm4 : ¬ H.length ≤ gd := by omega
 have hm6 : min (min gd lo2) (H.length + 1) = min gd lo2 := by omega
 have hm7 : ¬ H.length ≤ min gd lo2 := by omega
 refine ⟨_, dx', g', min gd lo2, ?_, hd3, hk3, hA3, by rcases hg2 with h | h; exact .inl h; right; simp at h; omega, by simp; omega, fun k ob hk hkd hkk hgn => ?_⟩
 case refine_2 =>
  have hkl := lt_of hk
  exact get_set_ne (hkeep k ob (get_app (get_set_ne hk (fun h => hkd h.symm) _) _) hkk hgn) (by omega) _
 simp only [drO, rpS] at hrun hr2 hr3 ⊢
 refine run_at (F := F8) rfl (by simp only [LP, fnOf, snapVs, snaps, zs, zm, zv, hP.snap, hP.snapV, hP.freeV, hP.free] <;> exact rfl) rfl (by simp only [LP, zf, zm, hP.snap, hP.snapV, hP.freeV, hP.free]; try rfl) (by simp only [F8, zv] <;> exact rfl) (by omega) ?_
 rintro d rfl
 have zz30 := And.intro @at_S0 (And.intro @at_S (And.intro @set_S0 (And.intro @set_S (And.intro @List.getElem?_cons_zero.{0} (And.intro @List.getElem?_cons_succ.{0} (And.intro hd1 (And.intro hk1 (And.intro @dkO.eq_1 (And.intro @drO.eq_1 (And.intro hP.isCell (And.intro hP.val (And.intro hP.cells (And.intro hm1 (And.intro hm2 (And.intro hm3 (And.intro hm5 (And.intro @beq_self_eq_true.{0} (And.intro hr2 (And.intro hr3 (hm6))))))))))))))))))))
 refine cw_seq (cw_region ?_)
 refine ow_op (by simp only [zl, zm, zc, at_L hgk, set_L hgk, Nat.reduceAdd, Rp.cs, at_L hgd, set_L hgd, zz30] <;> exact rfl) ?_
 refine ow_op (by simp only [zl, zm, at_L hgk, set_L hgk, Nat.reduceAdd, Rp.cs, at_L hgd, set_L hgd, zz30] <;> exact rfl) ?_
 refine ow_nil ?_
 refine sk_n (by simp only [ze] <;> exact rfl) ?_
 refine cw_seq (cw_seq (cw_region ?_))
 refine ow_me rfl ?_
 refine ow_op (by simp only [zl, zm, eqpD, at_L hgk, set_L hgk, Nat.reduceAdd, Rp.cs, at_L hgd, set_L hgd, zz30] <;> exact rfl) ?_
 refine ow_nil ?_
 refine sk_n (by simp only [ze] <;> exact rfl) ?_
 skip
 refine cw_false (by simp only [opd, zv, at_L hgk, set_L hgk, Nat.reduceAdd, Rp.cs, at_L hgd, set_L hgd, zz30] <;> rfl) ?_
 refine cw_skip (sk_n rfl (cw_seq (cw_seq (cw_region ?_))))
 refine ow_op (by simp only [zo, faddrD_ptr, faddrD_cptr, zm, at_L hgk, set_L hgk, Nat.reduceAdd, Rp.cs, at_L hgd, set_L hgd, zz30] <;> exact rfl) ?_
 refine ow_op (by simp only [zl, zm, zd, partD, List.take, List.drop, at_L hgk, set_L hgk, Nat.reduceAdd, Rp.cs, at_L hgd, set_L hgd, zz30] <;> exact rfl) ?_
 refine ow_nil ?_
 refine sk_n (by simp only [ze] <;> exact rfl) ?_
 refine cw_block ?_
 refine cw_cut (fun env S' => S' = ⟨H ++ [⟨57, 5, [[.str vb, .int .i64 0, .int .i64 0, px, .nils]], 0, 0, false⟩, ⟨38, 5, [[.bool false, .nils, .str ⟨#[]⟩, .bool false, .int .i64 0]], 0, 0, false⟩], H.length⟩ ∧ env = [.ptr gk 0 0 0, .nilp, .agg [.str vb, .int .i64 0, .int .i64 0, px, .nils], .int .i64 0, .ptr H.length 0 0 0, .ptr (H.length + 1) 0 0 0, .undef, .bool false, .str vb, .undef, .bool true, .undef, .undef, .undef]) ?_ ?_
 ·
  refine cw_seq (cw_region ?_)
  refine ow_op (by simp only [zo, binD, zb, Int.reduceEq, Int.reduceToNat, Int.reduceLT, at_L hgk, set_L hgk, Nat.reduceAdd, Rp.cs, at_L hgd, set_L hgd, zz30] <;> exact rfl) ?_
  refine ow_ml rfl ?_
  refine ow_nil ?_
  refine sk_n (by simp only [ze] <;> exact rfl) ?_
  refine cw_cond (by simp only [opd, zv, at_L hgk, set_L hgk, Nat.reduceAdd, Rp.cs, at_L hgd, set_L hgd, zz30] <;> exact rfl) (fun hc => ?_) (fun hc => ?_)
  ·
   refine cw_skip ?_
   refine ck_n rfl ?_
   exact ⟨rfl, by rw [hc]; rfl⟩
  ·
   refine cw_seq (cw_region ?_)
   refine ow_op (by simp only [zo, binD, zb, Int.reduceEq, Int.reduceToNat, Int.reduceLT, at_L hgk, set_L hgk, Nat.reduceAdd, Rp.cs, at_L hgd, set_L hgd, zz30] <;> exact rfl) ?_
   refine ow_ml rfl ?_
   refine ow_nil ?_
   refine sk_n (by simp only [ze] <;> exact rfl) ?_
   refine cw_cond (by simp only [opd, zv, at_L hgk, set_L hgk, Nat.reduceAdd, Rp.cs, at_L hgd, set_L hgd, zz30] <;> exact rfl) (fun hcF => ?_) (fun hcF => ?_)
   ·
    refine cw_skip ?_
    refine ck_n rfl ?_
    exact ⟨rfl, by rw [hcF]; rfl⟩
   ·
    refine cw_seq (cw_region ?_)
    refine ow_op (by simp only [zo, binD, zb, Int.reduceEq, Int.reduceToNat, Int.reduceLT, at_L hgk, set_L hgk, Nat.reduceAdd, Rp.cs, at_L hgd, set_L hgd, zz30] <;> exact rfl) ?_
    refine ow_ml rfl ?_
    refine ow_nil ?_
    refine sk_n (by simp only [ze] <;> exact rfl) ?_
    refine cw_cond (by simp only [opd, zv, at_L hgk, set_L hgk, Nat.reduceAdd, Rp.cs, at_L hgd, set_L hgd, zz30] <;> exact rfl) (fun hcFF => ?_) (fun hcFF => ?_)
    ·
     refine cw_skip ?_
     refine ck_n rfl ?_
     exact ⟨rfl, by rw [hcFF]; rfl⟩
    ·
     refine cw_seq (cw_region ?_)
     refine ow_op (by simp only [zo, binD, zb, Int.reduceEq, Int.reduceToNat, Int.reduceLT, at_L hgk, set_L hgk, Nat.reduceAdd, Rp.cs, at_L hgd, set_L hgd, zz30] <;> exact rfl) ?_
     refine ow_ml rfl ?_
     refine ow_nil ?_
     refine sk_n (by simp only [ze] <;> exact rfl) ?_
     refine cw_cond (by simp only [opd, zv, at_L hgk, set_L hgk, Nat.reduceAdd, Rp.cs, at_L hgd, set_L hgd, zz30] <;> exact rfl) (fun hcFFF => ?_) (fun hcFFF => ?_)
     ·
      refine cw_skip ?_
      refine ck_n rfl ?_
      exact ⟨rfl, by rw [hcFFF]; rfl⟩
     ·
      refine cw_seq (cw_region ?_)
      refine ow_op (by simp only [zo, binD, zb, Int.reduceEq, Int.reduceToNat, Int.reduceLT, at_L hgk, set_L hgk, Nat.reduceAdd, Rp.cs, at_L hgd, set_L hgd, zz30] <;> exact rfl) ?_
      refine ow_ml rfl ?_
      refine ow_nil ?_
      refine sk_n (by simp only [ze] <;> exact rfl) ?_
      refine cw_cond (by simp only [opd, zv, at_L hgk, set_L hgk, Nat.reduceAdd, Rp.cs, at_L hgd, set_L hgd, zz30] <;> exact rfl) (fun hcFFFF => ?_) (fun hcFFFF => ?_)
      ·
       refine cw_skip ?_
       refine ck_n rfl ?_
       exact ⟨rfl, by rw [hcFFFF]; rfl⟩
      ·
       refine cw_seq (cw_region ?_)
       refine ow_op (by simp only [zo, binD, zb, Int.reduceEq, Int.reduceToNat, Int.reduceLT, at_L hgk, set_L hgk, Nat.reduceAdd, Rp.cs, at_L hgd, set_L hgd, zz30] <;> exact rfl) ?_
       refine ow_ml rfl ?_
       refine ow_nil ?_
       refine sk_n (by simp only [ze] <;> exact rfl) ?_
       refine cw_cond (by simp only [opd, zv, at_L hgk, set_L hgk, Nat.reduceAdd, Rp.cs, at_L hgd, set_L hgd, zz30] <;> exact rfl) (fun hcFFFFF => ?_) (fun hcFFFFF => ?_)
       ·
        refine cw_skip ?_
        refine ck_n rfl ?_
        exact ⟨rfl, by rw [hcFFFFF]; rfl⟩
       ·
        refine cw_region ?_
        refine ow_op (by simp only [zo, binD, zb, Int.reduceEq, Int.reduceToNat, Int.reduceLT, at_L hgk, set_L hgk, Nat.reduceAdd, Rp.cs, at_L hgd, set_L hgd, zz30] <;> exact rfl) ?_
        refine ow_ml rfl ?_
        refine ow_nil ?_
        refine ck_n (by simp only [ze] <;> exact rfl) ?_
        have hv := hV
        unfold fileV at hv
        rw [hc, hcF, hcFF, hcFFF, hcFFFF, hcFFFFF] at hv
        simp only [Bool.false_or] at hv
        exact ⟨rfl, by rw [hv]; rfl⟩
 rintro env S' ⟨rfl, rfl⟩
 skip
 refine cw_true (by simp only [opd, zv, at_L hgk, set_L hgk, Nat.reduceAdd, Rp.cs, at_L hgd, set_L hgd, zz30] <;> rfl) ?_
 refine cw_skip (bk_n (sk_n rfl (cw_seq (cw_seq (cw_region ?_)))))
 refine ow_me rfl ?_
 refine ow_op (by simp only [zo, binD, zb, Int.reduceEq, Int.reduceToNat, Int.reduceLT, at_L hgk, set_L hgk, Nat.reduceAdd, Rp.cs, at_L hgd, set_L hgd, zz30] <;> exact rfl) ?_
 refine ow_nil ?_
 refine sk_n (by simp only [ze] <;> exact rfl) ?_
 skip
 refine cw_false (by simp only [opd, zv, at_L hgk, set_L hgk, Nat.reduceAdd, Rp.cs, at_L hgd, set_L hgd, zz30] <;> rfl) ?_
 refine cw_skip (sk_n rfl (cw_seq (cw_seq (cw_region ?_))))
 refine ow_me rfl ?_
 refine ow_op (by simp only [zo, at_L hgk, set_L hgk, Nat.reduceAdd, Rp.cs, at_L hgd, set_L hgd, zz30] <;> exact rfl) ?_
 refine ow_op (by simp only [zo, faddrD_ptr, faddrD_cptr, zm, at_L hgk, set_L hgk, Nat.reduceAdd, Rp.cs, at_L hgd, set_L hgd, zz30] <;> exact rfl) ?_
 refine ow_op (by simp only [zl, zm, zd, partD, List.take, List.drop, at_L hgk, set_L hgk, Nat.reduceAdd, Rp.cs, at_L hgd, set_L hgd, zz30] <;> exact rfl) ?_
 refine ow_op (by simp only [zo, eqnilD, at_L hgk, set_L hgk, Nat.reduceAdd, Rp.cs, at_L hgd, set_L hgd, zz30] <;> exact rfl) ?_
 refine ow_nil ?_
 refine sk_n (by simp only [ze] <;> exact rfl) ?_
 skip
 refine cw_false (by simp only [opd, zv, at_L hgk, set_L hgk, Nat.reduceAdd, Rp.cs, at_L hgd, set_L hgd, zz30] <;> rfl) ?_
 refine cw_skip (sk_n rfl (cw_seq ?_))
 refine cw_drawn (by simp only [newsVals, zw, Nat.reduceAdd] <;> exact rfl) (by simp only [zw, newsObj, St.eta] <;> exact rfl) ?_
 refine dw_me rfl rfl ?_
 refine dw_quiet (by simp only [zo, at_L hgk, set_L hgk, Nat.reduceAdd, Rp.cs, at_L hgd, set_L hgd, zz30] <;> exact rfl) rfl rfl ?_
 refine dw_quiet (by simp only [zo, faddrD_ptr, faddrD_cptr, zm, at_L hgk, set_L hgk, Nat.reduceAdd, Rp.cs, at_L hgd, set_L hgd, zz30] <;> exact rfl) rfl rfl ?_
 refine dw_op (by simp only [zl, zm, zd, partD, List.take, List.drop, at_L hgk, set_L hgk, Nat.reduceAdd, Rp.cs, at_L hgd, set_L hgd, zz30] <;> exact rfl) (by simp only [fpHere, zo, zq] <;> exact rfl) rfl ?_
 refine dw_me rfl rfl ?_
 refine dw_op (by simp only [zl, zm, zd, partD, List.take, List.drop, at_L hgk, set_L hgk, Nat.reduceAdd, Rp.cs, at_L hgd, set_L hgd, zz30] <;> exact rfl) (by simp only [fpHere, zo, zq] <;> exact rfl) rfl ?_
 refine dw_op (by simp only [zo, at_L hgk, set_L hgk, Nat.reduceAdd, Rp.cs, at_L hgd, set_L hgd, zz30]; exact fdo_run (r := (⟨true, ⟨#[]⟩, 6⟩ : Rp)) (by omega) (get_app hd1 _) hm hP _) (by simp only [fpHere, zo, zq] <;> exact rfl) (by simp only [okHere, sparesFP, List.length_append, List.length_cons, List.length_nil, set_L hgd, List.append_assoc, List.cons_append, List.nil_append, Nat.zero_add, Nat.reduceAdd, Nat.add_zero, at_S, List.getElem?_cons_succ, List.getElem?_cons_zero, Bool.and_true] <;> rfl) ?_
 refine dw_op (by simp only [zo] <;> exact rfl) rfl rfl ?_
 refine dw_op (by simp only [zl, zm, storeD, overlay, snapVs, snaps, zs, zc, zf, List.take, List.drop, at_L hgk, set_L hgk, Nat.reduceAdd, Rp.cs, at_L hgd, set_L hgd, zz30] <;> exact rfl) (by simp only [fpHere, zo, zq] <;> exact rfl) rfl ?_
 refine dw_nil ?_
 refine sk_n (by simp only [ze] <;> exact rfl) ?_
 refine cw_seq (cw_seq (cw_region ?_))
 refine ow_op (by simp only [zo, faddrD_ptr, faddrD_cptr, zm, at_L hgk, set_L hgk, Nat.reduceAdd, Rp.cs, at_L hgd, set_L hgd, zz30] <;> exact rfl) ?_
 refine ow_op (by simp only [zl, zm, zd, partD, List.take, List.drop, at_L hgk, set_L hgk, Nat.reduceAdd, Rp.cs, at_L hgd, set_L hgd, zz30] <;> exact rfl) ?_
 refine ow_ml rfl ?_
 refine ow_know 0 (b := true) (by simp only [opd, zv, at_L hgk, set_L hgk, Nat.reduceAdd, Rp.cs, at_L hgd, set_L hgd, zz30] <;> rfl) (by simp only [zn] <;> exact rfl) ?_
 refine ow_on rfl ?_
 refine ow_op (by simp only [zo, faddrD_ptr, faddrD_cptr, zm, at_L hgk, set_L hgk, Nat.reduceAdd, Rp.cs, at_L hgd, set_L hgd, zz30] <;> exact rfl) ?_
 refine ow_on rfl ?_
 refine ow_op (by simp only [zl, zm, zd, partD, List.take, List.drop, at_L hgk, set_L hgk, Nat.reduceAdd, Rp.cs, at_L hgd, set_L hgd, zz30] <;> exact rfl) ?_
 refine ow_on rfl ?_
 refine ow_op (by simp only [zo, binD, zb, Int.reduceEq, Int.reduceToNat, Int.reduceLT, at_L hgk, set_L hgk, Nat.reduceAdd, Rp.cs, at_L hgd, set_L hgd, zz30] <;> exact rfl) ?_
 refine ow_op (by simp only [zo, at_L hgk, set_L hgk, Nat.reduceAdd, Rp.cs, at_L hgd, set_L hgd, zz30] <;> exact rfl) ?_
 refine ow_nil ?_
 refine sk_n (by simp only [ze] <;> exact rfl) ?_
 skip
 refine cw_true (by simp only [opd, zv, at_L hgk, set_L hgk, Nat.reduceAdd, Rp.cs, at_L hgd, set_L hgd, zz30] <;> rfl) ?_
 refine cw_seq (cw_region ?_)
 refine ow_me rfl ?_
 refine ow_op (by simp only [zl, zm, zd, partD, List.take, List.drop, at_L hgk, set_L hgk, Nat.reduceAdd, Rp.cs, at_L hgd, set_L hgd, zz30] <;> exact rfl) ?_
 refine ow_op (by simp only [zl, zm, zd, partD, List.take, List.drop, at_L hgk, set_L hgk, Nat.reduceAdd, Rp.cs, at_L hgd, set_L hgd, zz30] <;> exact rfl) ?_
 refine ow_op (by simp only [zo, at_L hgk, set_L hgk, Nat.reduceAdd, Rp.cs, at_L hgd, set_L hgd, zz30]; exact hrun) ?_
 refine ow_op (by simp only [zl, zm, storeD, overlay, snapVs, snaps, zs, zc, zf, List.take, List.drop, at_L hgk, set_L hgk, Nat.reduceAdd, Rp.cs, at_L hgd, set_L hgd, zz30] <;> exact rfl) ?_
 refine ow_nil ?_
 refine sk_n (by simp only [ze] <;> exact rfl) ?_
 refine cw_ret (sk_r ?_)
 refine ⟨_, by simp only [F8, resultD, resDs, resD, zg, zd, rowsOf, partD, List.take, List.drop, zm, hr3] <;> exact rfl, ?_⟩
 simp [leave, LP, snapR, snapV, snaps, snap, D.freeR, D.freeV, D.free, D.free0, hm7]

end Go.Proofs.YtcogjcplldpkaaaGreat

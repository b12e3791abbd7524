/- Proved here: what the functions of package declaratives and of the law compute, in the abstract machine; no condition. -/
import Derived.Test.YtnihohodcogpeaaE9
import Derived.Test.YtnihohodcogpeaaLoZ
namespace Go.Proofs.Ytnihohodcogpeaa
set_option linter.unusedSimpArgs false
set_option linter.unusedVariables false
set_option maxRecDepth 10000

theorem mapIdx_ext {α β : Type} {f g : Nat → α → β} {l : List α} (h : ∀ (i : Nat) (hi : i < l.length), f i l[i] = g i l[i]) : l.mapIdx f = l.mapIdx g := by
  apply List.ext_getElem (by simp)
  intro i h1 h2
  simp only [List.getElem_mapIdx]
  exact h i (by simpa using h1)
/-- tokens of words that lie behind others -/
def toksO (line off : Nat) (l : List ByteArray) : List Tok := l.mapIdx fun k s => tokAt line (off + k) s
theorem toks_app (line : Nat) (a b : List ByteArray) : toksF line (a ++ b) = toksF line a ++ toksO line a.length b := by
  simp only [toksF, toksO, List.mapIdx_append]
  congr 1
  apply mapIdx_ext
  intro i h
  rw [Nat.add_comm]
def nmOK (nm : ByteArray) : Bool := !(nm.toList == wON.toList) && (modeW nm == 0) && (theFiles.any fun f => f.nm.toList == nm.toList)
def apart : List ByteArray → List ByteArray → Bool
  | _, [] => true
  | o, t :: ts => !(o.any fun x => t.toList == x.toList) && apart (o ++ [t]) ts
theorem names_tab2 : ((List.range 256).all fun f => (namesF f).all nmOK && apart [] (namesF f)) = true := by kernel_rfl
theorem names_good (f : Nat) (h : f < 256) : (∀ nm ∈ namesF f, nmOK nm = true) ∧ apart [] (namesF f) = true := by
  have := List.all_eq_true.1 names_tab2 f (by simpa using h)
  simp only [Bool.and_eq_true, List.all_eq_true] at this
  exact this
theorem modes_tab : ((List.range 5).all fun k => (k == 0) || ((modeW (modeN k) == k) && !((modeN k).toList == wON.toList))) = true := by kernel_rfl
theorem modeN_good (k : Nat) (h : k ≤ 4) (h0 : k ≠ 0) : modeW (modeN k) = k ∧ ((modeN k).toList == wON.toList) = false := by
  have := List.all_eq_true.1 modes_tab k (by simp; omega)
  simp only [Bool.or_eq_true, beq_iff_eq, Bool.and_eq_true, Bool.not_eq_true', h0, false_or] at this
  exact this
def preF (u : Uu) : List ByteArray := [wAFTER] ++ (if u.w % 2 = 1 then [wSTANDARD] else []) ++ [if u.w / 2 % 2 = 1 then wERROR else wEXCEPTION, wPROCEDURE] ++ (if u.w / 4 % 2 = 1 then [wON] else [])
def tailF (u : Uu) : List ByteArray := if modeF u.f u.m > 0 then [modeN (modeF u.f u.m)] else namesF u.f
theorem text_split (u : Uu) : textF u = preF u ++ tailF u := rfl
theorem tail_ne (u : Uu) : ∃ a l, tailF u = a :: l := by
  unfold tailF
  split
  · exact ⟨_, _, rfl⟩
  · rename_i h
    unfold modeF at h
    cases hn : namesF u.f with
    | nil => simp [hn] at h
    | cons a l => exact ⟨a, l, rfl⟩
theorem word_yes (line k : Nat) (s : ByteArray) : isWord (tokAt line k s) [s] = true := by simp [isWord, tokAt]
theorem tail_on (u : Uu) (line k : Nat) (a : ByteArray) (l : List ByteArray) (h : tailF u = a :: l) : isWord (tokAt line k a) [wON] = false := by
  have : (a.toList == wON.toList) = false := by
    unfold tailF at h
    split at h
    · simp only [List.cons.injEq] at h
      obtain ⟨rfl, _⟩ := h
      exact (modeN_good _ (mode_le _ _) (by omega)).2
    · have := (names_good u.f u.hf).1 a (by rw [h]; simp)
      simp only [nmOK, Bool.and_eq_true, Bool.not_eq_true'] at this
      exact this.1.1
  simp [isWord, tokAt, this]
/-- head leaves the tokens of the files or the mode -/
theorem head_text (u : Uu) (line : Nat) {x : D} (hx : SlD 5 (tokRows (toksF line (textF u))) x) (a : ByteArray) (l : List ByteArray) (h : tailF u = a :: l) :
    ∃ y, SlD 5 (tokRows (toksO line (preF u).length (a :: l))) y ∧ ∀ (d : Nat) (S : St), 4 ≤ d → runF LP NN d 21 [x] S = some (.tup [y, .bool true], S, false) := by
  rw [text_split, toks_app, h] at hx
  have hno : isWord (tokAt line (preF u).length a) [wON] = false := tail_on u line _ a l h
  have hk : ∀ k, isWord (tokAt line k (if u.w / 2 % 2 = 1 then wERROR else wEXCEPTION)) [wEXCEPTION, wERROR] = true := by intro k; split <;> simp [isWord, tokAt]
  have e1 : (wERROR.toList == wSTANDARD.toList) = false := by kernel_rfl
  have e2 : (wEXCEPTION.toList == wSTANDARD.toList) = false := by kernel_rfl
  have hn : ∀ k, isWord (tokAt line k (if u.w / 2 % 2 = 1 then wERROR else wEXCEPTION)) [wSTANDARD] = false := by intro k; split <;> simp [isWord, tokAt, e1, e2]
  have hto : toksO line (preF u).length (a :: l) = tokAt line (preF u).length a :: toksO line ((preF u).length + 1) l := by
    simp only [toksO, List.mapIdx_cons, Nat.add_zero]
    congr 1
    apply mapIdx_ext
    intro i h
    congr 1
    omega
  rw [hto] at hx ⊢
  unfold preF at hx hno ⊢
  by_cases h0 : u.w % 2 = 1
  · by_cases h1 : u.w / 4 % 2 = 1
    · simp only [h0, h1, if_true] at hx hno ⊢
      exact head_run11 (ta := tokAt line 0 wAFTER) (ts := tokAt line 1 wSTANDARD) (tp := tokAt line 3 wPROCEDURE) (tn := tokAt line 4 wON) hx (word_yes _ _ _) (word_yes _ _ _) (hk 2) (word_yes _ _ _) (word_yes _ _ _)
    · simp only [h0, h1, if_true, if_false] at hx hno ⊢
      exact head_run10 (ta := tokAt line 0 wAFTER) (ts := tokAt line 1 wSTANDARD) (tp := tokAt line 3 wPROCEDURE) hx (word_yes _ _ _) (word_yes _ _ _) (hk 2) (word_yes _ _ _) hno
  · by_cases h1 : u.w / 4 % 2 = 1
    · simp only [h0, h1, if_true, if_false] at hx hno ⊢
      exact head_run01 (ta := tokAt line 0 wAFTER) (tp := tokAt line 2 wPROCEDURE) (tn := tokAt line 3 wON) hx (word_yes _ _ _) (hn 1) (hk 1) (word_yes _ _ _) (word_yes _ _ _)
    · simp only [h0, h1, if_false] at hx hno ⊢
      exact head_run00 (ta := tokAt line 0 wAFTER) (tp := tokAt line 2 wPROCEDURE) hx (word_yes _ _ _) (hn 1) (hk 1) (word_yes _ _ _) hno
/-- the program's section -/
theorem us_ex (i : Nat) (u : Uu) : ∃ v : Us theFiles, v.row = useRow i u ∧ v.sec = secF i ∧ v.r :: v.rs = toksO (i + 1) (preF u).length (tailF u) := by
  obtain ⟨a, l, h⟩ := tail_ne u
  obtain ⟨y, hy, hh⟩ := head_text u (i + 1) (appY_S 5 (tokRows (toksF (i + 1) (textF u)))) a l h
  have hto : toksO (i + 1) (preF u).length (a :: l) = tokAt (i + 1) (preF u).length a :: (l.mapIdx fun k s => tokAt (i + 1) ((preF u).length + (k + 1)) s) := by
    simp only [toksO, List.mapIdx_cons, Nat.add_zero]
  rw [hto] at hy
  have hlen : l.length ≤ 4 := by
    have := names_few u.f
    unfold tailF at h
    split at h
    · simp only [List.cons.injEq] at h; obtain ⟨_, rfl⟩ := h; simp
    · rw [h] at this; simp at this; omega
  refine ⟨⟨secF i, appY 5 (tokRows (toksF (i + 1) (textF u))), _, appY_S _ _, y, _, _, hy, rfl, hh, by simp; omega, ?_, ?_⟩, rfl, rfl, by rw [h, hto]⟩
  · intro hm
    unfold tailF at h
    split at h
    · simp only [List.cons.injEq] at h; obtain ⟨_, rfl⟩ := h; rfl
    · have := (names_good u.f u.hf).1 a (by rw [h]; simp)
      simp only [nmOK, Bool.and_eq_true, beq_iff_eq] at this
      exact absurd this.1.2 hm
  · intro hm t ht
    unfold tailF at h
    split at h
    · rename_i hp
      simp only [List.cons.injEq] at h
      obtain ⟨rfl, _⟩ := h
      have h1 := (modeN_good _ (mode_le u.f u.m) (by omega)).1
      have : modeW (modeN (modeF u.f u.m)) = 0 := hm
      omega
    · have hall : ∀ s ∈ a :: l, okTok theFiles ⟨1, s, 0, 0, false⟩ := by
        intro s hs
        have := (names_good u.f u.hf).1 s (by rw [h]; exact hs)
        simp only [nmOK, Bool.and_eq_true] at this
        exact ⟨rfl, this.2⟩
      rcases List.mem_cons.1 ht with rfl | ht
      · exact ⟨rfl, (hall a (by simp)).2⟩
      · obtain ⟨k, hk, rfl⟩ := List.getElem_of_mem ht
        simp only [List.getElem_mapIdx, tokAt]
        exact ⟨rfl, (hall _ (List.mem_cons_of_mem _ (List.getElem_mem (by simpa using hk)))).2⟩
noncomputable def usOf (i : Nat) (u : Uu) : Us theFiles := (us_ex i u).choose
theorem usOf_spec (i : Nat) (u : Uu) : (usOf i u).row = useRow i u ∧ (usOf i u).sec = secF i ∧ (usOf i u).r :: (usOf i u).rs = toksO (i + 1) (preF u).length (tailF u) := (us_ex i u).choose_spec
noncomputable def ulOf (l : List Uu) : List (Us theFiles) := l.mapIdx usOf
theorem ulOf_rows (l : List Uu) : usRows (ulOf l) = useRows l := by
  apply List.ext_getElem (by simp [usRows, ulOf, useRows])
  intro i h1 h2
  simp only [usRows, ulOf, useRows, List.getElem_map, List.getElem_mapIdx]
  exact (usOf_spec i _).1
/-- the rules of the sections so far -/
def RuOK (o : List Ru) (pre : List Uu) : Prop := o.length = pre.length ∧ ∀ (j : Nat) (r : Ru) (u : Uu), o[j]? = some r → pre[j]? = some u → r.sec = secF j ∧ r.names = namesF u.f ∧ r.mode = modeF u.f u.m
theorem RuOK.any {o : List Ru} {pre : List Uu} (h : RuOK o pre) {p : Ru → Bool} {q : Uu → Bool} (hpq : ∀ (r : Ru) (u : Uu), r.names = namesF u.f → r.mode = modeF u.f u.m → p r = q u) : o.any p = pre.any q := by
  obtain ⟨h1, h2⟩ := h
  rw [Bool.eq_iff_iff, List.any_eq_true, List.any_eq_true]
  constructor
  · rintro ⟨r, hr, hp⟩
    obtain ⟨j, hj, rfl⟩ := List.getElem_of_mem hr
    have hj' : j < pre.length := by omega
    obtain ⟨_, e1, e2⟩ := h2 j _ _ (List.getElem?_eq_getElem hj) (List.getElem?_eq_getElem hj')
    exact ⟨pre[j], List.getElem_mem hj', by rw [← hpq _ _ e1 e2]; exact hp⟩
  · rintro ⟨u, hu, hp⟩
    obtain ⟨j, hj, rfl⟩ := List.getElem_of_mem hu
    have hj' : j < o.length := by omega
    obtain ⟨_, e1, e2⟩ := h2 j _ _ (List.getElem?_eq_getElem hj') (List.getElem?_eq_getElem hj)
    exact ⟨o[j], List.getElem_mem hj', by rw [hpq _ _ e1 e2]; exact hp⟩
theorem RuOK.add {o : List Ru} {pre : List Uu} (h : RuOK o pre) {r : Ru} {u : Uu} (h1 : r.sec = secF pre.length) (h2 : r.names = namesF u.f) (h3 : r.mode = modeF u.f u.m) : RuOK (o ++ [r]) (pre ++ [u]) := by
  refine ⟨by simp [h.1], fun j r' u' e1 e2 => ?_⟩
  rw [List.getElem?_append] at e1 e2
  rw [h.1] at e1
  by_cases hj : j < pre.length
  · rw [if_pos hj] at e1 e2
    exact h.2 j r' u' e1 e2
  · rw [if_neg hj] at e1 e2
    have : j = pre.length := by
      rcases Nat.lt_trichotomy j pre.length with h | h | h
      · omega
      · exact h
      · rw [List.getElem?_eq_none (by simp; omega)] at e1; simp at e1
    subst this
    simp at e1 e2
    subst e1 e2
    exact ⟨h1, h2, h3⟩
/-- the names of a section, one by one -/
theorem files_names {o : List Ru} {pre : List Uu} (h : RuOK o pre) (line : Nat) : ∀ (nl : List ByteArray) (off : Nat) (out : List ByteArray), apart out nl = true →
    filesF o (toksO line off nl) out = match nl.findIdx? (fun nm => pre.any (pD nm)) with
      | some n => .inr (tokAt line (off + n) (nl.getD n ⟨#[]⟩))
      | none => .inl (out ++ nl)
  | [], off, out, _ => by simp [toksO, filesF]
  | s :: nl, off, out, ha => by
    simp only [apart, Bool.and_eq_true, Bool.not_eq_true'] at ha
    have hto : toksO line off (s :: nl) = tokAt line off s :: toksO line (off + 1) nl := by
      simp only [toksO, List.mapIdx_cons, Nat.add_zero]
      congr 1
      apply mapIdx_ext
      intro i h
      congr 1
      omega
    have ht : (tokAt line off s).text = s := rfl
    have hany : (o.any fun r => r.names.any fun x => s.toList == x.toList) = pre.any (pD s) := h.any (fun r u e1 e2 => by rw [e1, pD, any_beq_comm])
    rw [hto, filesF, ht, ha.1, Bool.false_or, hany, List.findIdx?_cons]
    cases hp : pre.any (pD s) with
    | true => simp
    | false =>
      rw [if_neg (by simp), files_names h line nl (off + 1) (out ++ [s]) ha.2]
      simp only [Bool.false_eq_true, if_false]
      cases hf : nl.findIdx? (fun nm => pre.any (pD nm)) with
      | none => simp
      | some n => simp [Nat.add_assoc, Nat.add_comm 1 n]
theorem pre_len (u : Uu) : (textF u).length = (preF u).length + (tailF u).length := by rw [text_split, List.length_append]
/-- one section: a rule, or the fault that the law asks -/
theorem rule_law {o : List Ru} {pre : List Uu} (h : RuOK o pre) (u : Uu) :
    match twiceAt pre u with
    | some c => (ruleR o (usOf pre.length u)).e = 8 ∧ (ruleR o (usOf pre.length u)).l = ((pre.length + 1 : Nat) : Int) ∧ (ruleR o (usOf pre.length u)).k = c
    | none => (ruleR o (usOf pre.length u)).e = 0 ∧ RuOK (o ++ [(ruleR o (usOf pre.length u)).ru]) (pre ++ [u]) := by
  obtain ⟨_, hsec, hrs⟩ := usOf_spec pre.length u
  generalize usOf pre.length u = v at hsec hrs
  have hlen := pre_len u
  by_cases hm : modeF u.f u.m > 0
  · have htl : tailF u = [modeN (modeF u.f u.m)] := by rw [tailF, if_pos hm]
    rw [htl] at hrs
    simp only [toksO, List.mapIdx_cons, List.mapIdx_nil, Nat.add_zero, List.cons.injEq] at hrs
    obtain ⟨hr, hr2⟩ := hrs
    have hmw : modeW v.r.text = modeF u.f u.m := by rw [hr]; exact (modeN_good _ (mode_le _ _) (by omega)).1
    have hany : (o.any fun q => (q.mode : Int) == (modeW v.r.text : Int)) = pre.any (pB u) := h.any (fun r w e1 e2 => by
      rw [hmw, e2, pB]
      have : decide ((modeF u.f u.m : Int) > 0) = true := decide_eq_true (by omega)
      rw [this, Bool.true_and])
    have hne : modeW v.r.text ≠ 0 := by omega
    have hn0 : namesF u.f = [] := by have := mode_pos (f := u.f) (m := u.m) (by omega); exact List.length_eq_zero_iff.1 this
    unfold twiceAt
    cases hp : pre.any (pB u) with
    | true =>
      rw [if_pos rfl]
      unfold ruleR
      rw [if_pos hne, if_pos (by rw [hany, hp])]
      refine ⟨rfl, ?_, ?_⟩
      · rw [hr]; rfl
      · rw [hr, hlen, htl]; rfl
    | false =>
      rw [if_neg (by simp), hn0]
      simp only [List.findIdx?_nil]
      unfold ruleR
      rw [if_pos hne, if_neg (by rw [hany, hp]; simp)]
      exact ⟨rfl, h.add hsec hn0.symm hmw⟩
  · have htl : tailF u = namesF u.f := by rw [tailF, if_neg hm]
    obtain ⟨a, l, hal⟩ := tail_ne u
    obtain ⟨hgood, hap⟩ := names_good u.f u.hf
    have hmw : ¬ modeW v.r.text ≠ 0 := by
      rw [hal] at hrs
      simp only [toksO, List.mapIdx_cons, List.cons.injEq] at hrs
      rw [hrs.1]
      have := hgood a (by rw [← htl, hal]; simp)
      simp only [nmOK, Bool.and_eq_true, beq_iff_eq] at this
      exact fun hc => hc this.1.2
    have hpb : pre.any (pB u) = false := by
      rw [List.any_eq_false]
      intro w _
      have : decide ((modeF u.f u.m : Int) > 0) = false := decide_eq_false (by omega)
      rw [pB, this, Bool.false_and]; simp
    have hff := files_names h (pre.length + 1) (namesF u.f) (preF u).length [] hap
    rw [← htl, ← hrs] at hff
    unfold twiceAt ruleR
    rw [hpb, if_neg (by simp), if_neg hmw]
    have hm0 : modeF u.f u.m = 0 := by omega
    cases hf : (namesF u.f).findIdx? (fun nm => pre.any (pD nm)) with
    | some n =>
      rw [htl, hf] at hff
      simp only
      split
      · rename_i o' ho; rw [hff] at ho; simp at ho
      · rename_i t ht
        rw [hff] at ht
        simp only [Sum.inr.injEq] at ht
        subst ht
        refine ⟨rfl, rfl, ?_⟩
        show (((preF u).length + n + 1 : Nat) : Int) = _
        rw [hlen, htl]
        omega
    | none =>
      rw [htl, hf] at hff
      simp only
      split
      · rename_i o' ho
        rw [hff] at ho
        simp only [Sum.inl.injEq, List.nil_append] at ho
        refine ⟨rfl, h.add hsec ?_ ?_⟩
        · exact ho.symm
        · rw [hm0]
      · rename_i t ht; rw [hff] at ht; simp at ht
theorem law_none (l : List Uu) : ∀ (n i : Nat) (o : List Ru), n = l.length - i → i ≤ l.length → RuOK o (l.take i) → (∀ j, i ≤ j → j < l.length → twAt l j = none) → ∃ o', rulesF ((ulOf l).drop i) o = .inl o' ∧ RuOK o' l
  | 0, i, o, hn, hi, ho, _ => by
    have : i = l.length := by omega
    subst this
    refine ⟨o, ?_, by simpa using ho⟩
    rw [List.drop_of_length_le (by simp [ulOf])]; rfl
  | n + 1, i, o, hn, hi, ho, hall => by
    have hlt : i < l.length := by omega
    have hul : i < (ulOf l).length := by simpa [ulOf] using hlt
    have h1 := hall i (Nat.le_refl _) hlt
    simp only [twAt, List.getElem?_eq_getElem hlt, Option.bind_some, Option.map_eq_none_iff] at h1
    have hr := rule_law ho l[i]
    rw [h1] at hr
    have hil : (l.take i).length = i := by simp; omega
    rw [hil] at hr
    obtain ⟨e1, e2⟩ := hr
    have hu : (ulOf l)[i] = usOf i l[i] := by simp [ulOf]
    rw [List.drop_eq_getElem_cons hul, rulesF, hu, if_neg (by simp [e1])]
    refine law_none l n (i + 1) _ (by omega) (by omega) ?_ (fun j hj => hall j (by omega))
    rw [List.take_add_one, List.getElem?_eq_getElem hlt]
    exact e2
theorem law_some (l : List Uu) (m : Nat) (c : Int) (hm : twAt l m = some (m, c)) (hml : m < l.length) : ∀ (n i : Nat) (o : List Ru), n = m - i → i ≤ m → RuOK o (l.take i) → (∀ j, i ≤ j → j < m → twAt l j = none) → rulesF ((ulOf l).drop i) o = .inr (8, ((m + 1 : Nat) : Int), c)
  | 0, i, o, hn, hi, ho, _ => by
    have : i = m := by omega
    subst this
    have hul : i < (ulOf l).length := by simpa [ulOf] using hml
    simp only [twAt, List.getElem?_eq_getElem hml, Option.bind_some, Option.map_eq_some_iff, Prod.mk.injEq, true_and, exists_eq_right] at hm
    have hr := rule_law ho l[i]
    rw [hm] at hr
    have hil : (l.take i).length = i := by simp; omega
    rw [hil] at hr
    obtain ⟨e1, e2, e3⟩ := hr
    have hu : (ulOf l)[i] = usOf i l[i] := by simp [ulOf]
    rw [List.drop_eq_getElem_cons hul, rulesF, hu, e1, e2, e3, if_pos (by decide)]
  | n + 1, i, o, hn, hi, ho, hall => by
    have hlt : i < l.length := by omega
    have hul : i < (ulOf l).length := by simpa [ulOf] using hlt
    have h1 := hall i (Nat.le_refl _) (by omega)
    simp only [twAt, List.getElem?_eq_getElem hlt, Option.bind_some, Option.map_eq_none_iff] at h1
    have hr := rule_law ho l[i]
    rw [h1] at hr
    have hil : (l.take i).length = i := by simp; omega
    rw [hil] at hr
    obtain ⟨e1, e2⟩ := hr
    have hu : (ulOf l)[i] = usOf i l[i] := by simp [ulOf]
    rw [List.drop_eq_getElem_cons hul, rulesF, hu, if_neg (by simp [e1])]
    refine law_some l m c hm hml n (i + 1) _ (by omega) (by omega) ?_ (fun j hj => hall j (by omega))
    rw [List.take_add_one, List.getElem?_eq_getElem hlt]
    exact e2
/-- what Rules returns is what the law asks -/
theorem rules_law (l : List Uu) : match firstDup l with
    | none => ∃ o, rulesF (ulOf l) [] = .inl o ∧ RuOK o l
    | some (i, c) => rulesF (ulOf l) [] = .inr (8, ((i + 1 : Nat) : Int), c) := by
  have h0 : RuOK [] (l.take 0) := ⟨by simp, fun j r u h => by simp at h⟩
  cases hf : firstDup l with
  | none =>
    rw [firstDup, List.findSome?_eq_none_iff] at hf
    obtain ⟨o, h1, h2⟩ := law_none l l.length 0 [] (by omega) (by omega) h0 (fun j _ hj => hf j (by simpa using hj))
    exact ⟨o, by simpa using h1, h2⟩
  | some p =>
    obtain ⟨i, c⟩ := p
    rw [firstDup, List.findSome?_eq_some_iff] at hf
    obtain ⟨a, m, b, hab, hm, hno⟩ := hf
    have hlen := congrArg List.length hab
    simp at hlen
    have hma : m = a.length := by
      have := congrArg (·[a.length]?) hab
      simp at this
      rw [List.getElem?_range (by omega)] at this
      simp at this
      exact this.symm
    have haj : ∀ j, j < a.length → j ∈ a := by
      intro j hj
      have := congrArg (·[j]?) hab
      simp only [List.getElem?_append_left hj] at this
      rw [List.getElem?_range (by omega)] at this
      exact List.mem_of_getElem? this.symm
    have him : m = i := by
      have hml : m < l.length := by omega
      simp only [twAt, List.getElem?_eq_getElem hml, Option.bind_some, Option.map_eq_some_iff, Prod.mk.injEq] at hm
      obtain ⟨_, _, h, _⟩ := hm
      exact h
    subst him
    have := law_some l m c hm (by omega) m 0 [] (by omega) (by omega) h0 (fun j _ hj => hno j (haj j (by omega)))
    simpa using this

end Go.Proofs.Ytnihohodcogpeaa

/- Proved here: a region that draws its order, in the abstract machine and in the model; no condition. -/
import Derived.Test.YtabgobmeibjeeaaGreatDoorLo11
import Derived.StillTail
namespace Go.Proofs.YtabgobmeibjeeaaGreatDoor
open Go.RowKit
set_option linter.unusedVariables false
set_option linter.unusedSimpArgs false

/-- a set of operations that has with each one all that it waits for -/
def Down (ops : Array Oper) (L : Nat → Prop) : Prop := ∀ i o, ops[i]? = some o → L i → ∀ e ∈ o.after, Region.binds .any e = true → L e.on

theorem one_bit (get : Nat → Nat) : ∀ (es : List Edge) (s i : Nat), (es.foldl (fun s e => if Region.binds .any e then s ||| 2 ^ e.on ||| get e.on else s) s).testBit i = true → s.testBit i = true ∨ ∃ e ∈ es, Region.binds .any e = true ∧ (i = e.on ∨ (get e.on).testBit i = true)
  | [], s, i, h => .inl h
  | e :: es, s, i, h => by
    rw [List.foldl_cons] at h
    rcases one_bit get es _ i h with h1 | ⟨e', he', h2⟩
    · by_cases hb : Region.binds .any e = true
      · rw [if_pos hb, Nat.testBit_or, Nat.testBit_or, Bool.or_eq_true, Bool.or_eq_true] at h1
        rcases h1 with (h1 | h1) | h1
        · exact .inl h1
        · refine .inr ⟨e, by simp, hb, .inl ?_⟩
          rw [Nat.testBit_two_pow] at h1
          have : e.on = i := by simpa using h1
          exact this.symm
        · exact .inr ⟨e, by simp, hb, .inr h1⟩
      · rw [if_neg hb] at h1
        exact .inl h1
    · exact .inr ⟨e', by simp [he'], h2⟩
theorem before_aux {ops : Array Oper} {L : Nat → Prop} (hL : Down ops L) : ∀ (os : List Oper) (acc : Array Nat), ops.toList.drop acc.size = os → (∀ j i, (acc.getD j 0).testBit i = true → L j → L i) → ∀ j i, ((os.foldl (fun acc o => acc.push (o.after.foldl (fun s e => if Region.binds .any e then s ||| 2 ^ e.on ||| acc.getD e.on 0 else s) 0)) acc).getD j 0).testBit i = true → L j → L i
  | [], acc, hd, h => h
  | o :: os, acc, hd, h => by
    rw [List.foldl_cons]
    have ho : ops[acc.size]? = some o := by
      have : (ops.toList.drop acc.size)[0]? = some o := by rw [hd]; rfl
      simpa using this
    refine before_aux hL os _ ?_ ?_
    · have : (ops.toList.drop acc.size).drop 1 = os := by rw [hd]; rfl
      rw [List.drop_drop] at this
      simpa using this
    · intro j i hj hLj
      by_cases hlt : j < acc.size
      · have e : (acc.push (o.after.foldl (fun s e => if Region.binds .any e then s ||| 2 ^ e.on ||| acc.getD e.on 0 else s) 0)).getD j 0 = acc.getD j 0 := by
          simp only [Array.getD_eq_getD_getElem?]
          rw [Array.getElem?_push_lt hlt, Array.getElem?_eq_getElem hlt]
        rw [e] at hj
        exact h j i hj hLj
      · by_cases heq : j = acc.size
        · subst heq
          have e : (acc.push (o.after.foldl (fun s e => if Region.binds .any e then s ||| 2 ^ e.on ||| acc.getD e.on 0 else s) 0)).getD acc.size 0 = o.after.foldl (fun s e => if Region.binds .any e then s ||| 2 ^ e.on ||| acc.getD e.on 0 else s) 0 := by
            simp [Array.getD_eq_getD_getElem?]
          rw [e, ← Array.foldl_toList] at hj
          rcases one_bit (fun k => acc.getD k 0) _ _ _ hj with h1 | ⟨e', he', hb, h2⟩
          · simp at h1
          · have hLe := hL _ o ho hLj e' (Array.mem_toList_iff.1 he') hb
            rcases h2 with rfl | h2
            · exact hLe
            · exact h _ _ h2 hLe
        · have e : (acc.push (o.after.foldl (fun s e => if Region.binds .any e then s ||| 2 ^ e.on ||| acc.getD e.on 0 else s) 0)).getD j 0 = 0 := by
            simp only [Array.getD_eq_getD_getElem?]
            rw [Array.getElem?_eq_none (by simp; omega)]
            rfl
          rw [e] at hj
          simp at hj
theorem before_down {ops : Array Oper} {L : Nat → Prop} (hL : Down ops L) {j i : Nat} (h : ((Region.before ops).toList.getD j 0).testBit i = true) (hj : L j) : L i := by
  have := before_aux hL ops.toList #[] (by simp) (by simp) j i
  refine this ?_ hj
  unfold Region.before at h
  rw [← Array.foldl_toList] at h
  simpa using h
theorem ordered_down {ops : Array Oper} {L : Nat → Prop} (hL : Down ops L) {i j : Nat} (h : ordered (Region.before ops).toList i j = true) : (j < i → L i → L j) ∧ (i < j → L j → L i) := by
  unfold ordered at h
  refine ⟨fun hlt hi => ?_, fun hlt hj => ?_⟩
  · rw [show Nat.max i j = i from Nat.max_eq_left (Nat.le_of_lt hlt), show Nat.min i j = j from Nat.min_eq_right (Nat.le_of_lt hlt)] at h
    exact before_down hL h hi
  · rw [show Nat.max i j = j from Nat.max_eq_right (Nat.le_of_lt hlt), show Nat.min i j = i from Nat.min_eq_left (Nat.le_of_lt hlt)] at h
    exact before_down hL h hj

theorem countP_le' {p q : Nat → Bool} (h : ∀ x, q x = true → p x = true) : ∀ l : List Nat, l.countP q ≤ l.countP p
  | [] => by simp
  | a :: l => by
    have ih := countP_le' h l
    simp only [List.countP_cons]
    have := h a
    cases hq : q a <;> cases hp : p a <;> simp_all <;> omega
theorem countP_lt' {p q : Nat → Bool} (h : ∀ x, q x = true → p x = true) {i : Nat} (hp : p i = true) (hq : q i = false) : ∀ l : List Nat, i ∈ l → l.countP q < l.countP p
  | [], hi => by simp at hi
  | a :: l, hi => by
    simp only [List.countP_cons]
    rcases List.mem_cons.1 hi with rfl | hi
    · have := countP_le' h l
      simp [hp, hq]
      omega
    · have ih := countP_lt' h hp hq l hi
      have := h a
      cases hq' : q a <;> cases hp' : p a <;> simp_all <;> omega

section
variable {P : Program} {ops : Array Oper} {Q : Exit → Act → World → Prop}
/-- an invariant over the operations that have been carried out -/
theorem wp_region_inv {id : Nat} {a0 : Act} {w0 : World} (hm : P.follows .mixedOrders = true) (hB : ∀ i o, ops[i]? = some o → ∀ e ∈ o.after, Region.binds .any e = true → e.on < i) (Inv : (Nat → Prop) → Act → World → Prop)
    (h0 : Inv (fun _ => False) a0 w0.drew)
    (hstep : ∀ L i o a w, ops[i]? = some o → ¬ L i → Down ops L → (∀ e ∈ o.after, Region.binds .any e = true → L e.on) → Inv L a w → wpOp P ops Q i (fun a' w' => Inv (fun k => L k ∨ k = i) a' w') a w)
    (hend : ∀ L a w, (∀ i, i < ops.size → L i) → Inv L a w → Q .normal a w) : (Code.region id ops true).wp P Q a0 w0 := by
  refine wp_region_any hm ?_
  have key : ∀ (fuel : Nat) (listed : Array Bool) (a : Act) (w : World), listed.size = ops.size → (List.range ops.size).countP (fun i => !listed.getD i false) ≤ fuel → Down ops (fun i => listed.getD i false = true) → Inv (fun i => listed.getD i false = true) a w → wpAny P .any ops Q fuel listed a w := by
    intro fuel
    induction fuel with
    | zero =>
      intro listed a w hs hc hd h
      have hall : ∀ i, i < ops.size → listed.getD i false = true := by
        intro i hi
        have h0 : (List.range ops.size).countP (fun i => !listed.getD i false) = 0 := by omega
        rw [List.countP_eq_zero] at h0
        simpa using h0 i (List.mem_range.2 hi)
      refine ⟨?_, hend _ a w hall h⟩
      rw [List.eq_nil_iff_forall_not_mem]
      intro j hj
      obtain ⟨hu, o, ho, _⟩ := mem_ready.1 hj
      have hjl := (Array.getElem?_eq_some_iff.1 ho).1
      have := hall j hjl
      rw [getD_both hu] at this
      cases this
    | succ fuel ih =>
      intro listed a w hs hc hd h
      refine ⟨fun hnil => hend _ a w ?_ h, fun i hi => ?_⟩
      · intro i
        induction i using Nat.strongRecOn with
        | _ i ihs =>
          intro hil
          cases hli : listed.getD i false with
          | true => rfl
          | false =>
            exfalso
            have ho : ops[i]? = some ops[i] := Array.getElem?_eq_getElem hil
            have hr : i ∈ Region.ready .any ops listed := mem_ready.2 ⟨getD_in (by omega) hli, ops[i], ho, fun e he hb => ihs e.on (hB i _ ho e he hb) (Nat.lt_trans (hB i _ ho e he hb) hil)⟩
            rw [hnil] at hr
            cases hr
      · obtain ⟨hu, o, ho, hall⟩ := mem_ready.1 hi
        have hil := (Array.getElem?_eq_some_iff.1 ho).1
        have hset : (fun k => (listed.setIfInBounds i true).getD k false = true) = (fun k => listed.getD k false = true ∨ k = i) := by
          funext k
          apply propext
          by_cases hki : i = k
          · subst hki
            simp [hs, hil]
          · rw [getD_set_ne false hki]
            constructor
            · exact .inl
            · rintro (h | h)
              · exact h
              · exact absurd h.symm hki
        have hni : ¬ (listed.getD i false = true) := by rw [getD_both hu]; simp
        refine wpOp_mono ?_ (hstep _ i o a w ho hni hd hall h)
        intro a' w' hinv
        refine ih _ _ _ (by simp [hs]) ?_ ?_ (by rw [hset]; exact hinv)
        · have := countP_lt' (p := fun k => !listed.getD k false) (q := fun k => !(listed.setIfInBounds i true).getD k false) (i := i) ?_ ?_ ?_ (List.range ops.size) (List.mem_range.2 hil)
          · omega
          · intro x hx'
            simp only [Bool.not_eq_true'] at hx' ⊢
            rw [Bool.eq_false_iff] at hx' ⊢
            intro hc
            apply hx'
            have := congrFun hset x
            rw [this]
            exact .inl hc
          · simp only [Bool.not_eq_true']; exact getD_both hu
          · simp only [Bool.not_eq_false']
            have := congrFun hset i
            rw [this]
            exact .inr rfl
        · rw [hset]
          intro k ok hk hLk e he hb
          rcases hLk with hLk | rfl
          · exact .inl (hd k ok hk hLk e he hb)
          · rw [ho] at hk
            injection hk with hk
            subst hk
            exact .inl (hall e he hb)
  refine key ops.size _ a0 _ (by simp) (Nat.le_trans (List.countP_le_length) (by simp)) ?_ ?_
  · intro i o ho hL
    simp [Array.getD] at hL
  · have : (fun i => (Array.replicate ops.size false).getD i false = true) = (fun _ => False) := by
      funext i
      apply propext
      simp [Array.getD]
    rw [this]
    exact h0
end
end Go.Proofs.YtabgobmeibjeeaaGreatDoor

/- Proved here: the abstract machine's operations on slices, addresses and composites are the model's; no condition. -/
import Derived.Test.YtabgobmeibjeeaaGreatDoorLo4
import Derived.Test.YtabgobmeibjeeaaGreatDoorLo4a
import Derived.Laws.Tables
import Derived.Great.BuildSlice
namespace Go.Proofs.YtabgobmeibjeeaaGreatDoor
open Go.RowKit
set_option linter.unusedVariables false
set_option linter.unusedSimpArgs false

section
variable {P : Program} {w : World} {ρ : RMap} {H : List AObj}

inductive VO (w : World) (ρ : RMap) (H : List AObj) : Option D → Option Value → Prop
  | none : VO w ρ H none none
  | some {d v} (h : VR w ρ H d v) : VO w ρ H (some d) (some v)

theorem sliceBound_ok {d : D} {v : Value} {k y : Nat} {code : BoundsCode} (h : VR w ρ H d v) (hn : natOf d = some k) (hk : k ≤ y) : (Instr.sliceBound v y code).run P w = .ok k w := by
  cases h <;> simp [natOf] at hn
  obtain ⟨h0, rfl⟩ := hn
  rename_i n
  have h1 : 0 ≤ n ∧ n ≤ (y : Int) := ⟨h0, by omega⟩
  simp [Instr.sliceBound, asIntOf, h1]

theorem bounds_ok {isS : Bool} {n c l h : Nat} {lo hi mx : Option D} {vlo vhi vmx : Option Value} (hlo : VO w ρ H lo vlo) (hhi : VO w ρ H hi vhi) (hmx : VO w ρ H mx vmx) (hb : boundsD n lo hi = some (l, h)) (hnc : n ≤ c)
    (hm : ∀ d, mx = some d → hi.isSome = true ∧ ∃ m, natOf d = some m ∧ h ≤ m ∧ m ≤ n) :
    l ≤ h ∧ h ≤ n ∧ ∃ m, (Instr.sliceBounds isS n c vlo vhi vmx).run P w = .ok (l, h, m) w ∧ h ≤ m ∧ m ≤ c ∧ (mx = none → m = c) ∧ (∀ d, mx = some d → natOf d = some m) := by
  unfold boundsD at hb
  cases hH : natOr n hi with
  | none => simp [hH] at hb
  | some h' =>
    cases hL : natOr 0 lo with
    | none => simp [hH, hL] at hb
    | some l' =>
      simp only [hH, hL] at hb
      split at hb
      · rename_i hle
        simp only [Option.some.injEq, Prod.mk.injEq] at hb
        obtain ⟨rfl, rfl⟩ := hb
        refine ⟨hle.1, hle.2, ?_⟩
        cases hmx with
        | none =>
          refine ⟨c, ?_, by omega, Nat.le_refl _, fun _ => rfl, fun d hd => by cases hd⟩
          cases hhi with
          | none =>
            simp only [natOr, Option.some.injEq] at hH
            subst hH
            cases hlo with
            | none =>
              simp only [natOr, Option.some.injEq] at hL
              subst hL
              simp [Instr.sliceBounds]
            | some hv => simp [Instr.sliceBounds, sliceBound_ok hv hL hle.1]
          | some hv =>
            have e1 := fun code => sliceBound_ok (P := P) (code := code) hv hH (show _ ≤ c by omega)
            cases hlo with
            | none =>
              simp only [natOr, Option.some.injEq] at hL
              subst hL
              cases isS <;> simp [Instr.sliceBounds, e1]
            | some hv' => cases isS <;> simp [Instr.sliceBounds, e1, sliceBound_ok hv' hL hle.1]
        | some hv =>
          obtain ⟨hs, m, hm1, hm2, hm3⟩ := hm _ rfl
          have e0 := fun code => sliceBound_ok (P := P) (code := code) hv hm1 (show m ≤ c by omega)
          refine ⟨m, ?_, hm2, by omega, (fun h => by cases h), fun d hd => by injection hd with hd; subst hd; exact hm1⟩
          cases hhi with
          | none => simp at hs
          | some hv2 =>
            have e1 := fun code => sliceBound_ok (P := P) (code := code) hv2 hH hm2
            cases hlo with
            | none =>
              simp only [natOr, Option.some.injEq] at hL
              subst hL
              cases isS <;> simp [Instr.sliceBounds, e0, e1]
            | some hv' => cases isS <;> simp [Instr.sliceBounds, e0, e1, sliceBound_ok hv' hL hle.1]
      · simp at hb

theorem sliceStr_ok {s : ByteArray} {l h : Nat} {lo hi : Option D} {vlo vhi : Option Value} {t : TypeId} (ht : P.underlying t = some .string) (hlo : VO w ρ H lo vlo) (hhi : VO w ρ H hi vhi) (hb : boundsD s.size lo hi = some (l, h)) :
    (Instr.sliceAt t (.string s) vlo vhi none).run P w = .ok (.string (s.extract l h)) w := by
  obtain ⟨_, _, m, hr, _⟩ := bounds_ok (P := P) (isS := false) (c := s.size) hlo hhi .none hb (Nat.le_refl _) (fun d hd => by cases hd)
  simp [Instr.sliceAt, Instr.slice, run_underlying ht, hr]

theorem drop_take_get {α : Type} {l : List α} {a n i : Nat} {x : α} (h : ((l.drop a).take n)[i]? = some x) : l[a + i]? = some x ∧ i < n := by
  rw [List.getElem?_take] at h
  split at h
  · rw [List.getElem?_drop] at h
    exact ⟨h, by assumption⟩
  · cases h
theorem mem_drop_take {α : Type} {l : List α} {a n : Nat} {x : α} (h : x ∈ (l.drop a).take n) : x ∈ l := List.mem_of_mem_drop (List.mem_of_mem_take h)

theorem slice_ok {S : St} {sz : Nat} {x r : D} {v : Value} {lo hi mx : Option D} {vlo vhi vmx : Option Value} {t e : TypeId} (ht : P.underlying t = some (.slice e)) (hsz : sizeT P e = some sz) (hx : VR w ρ S.heap x v) (hlo : VO w ρ S.heap lo vlo) (hhi : VO w ρ S.heap hi vhi) (hmx : VO w ρ S.heap mx vmx)
    (hmh : mx.isSome = true → hi.isSome = true) (h : sliceD S sz x lo hi mx = some r) : ∃ v', (Instr.sliceAt t v vlo vhi vmx).run P w = .ok v' w ∧ VR w ρ S.heap r v' := by
  unfold sliceD at h
  split at h
  · -- nil
    cases hx
    cases hb : boundsD 0 lo hi with
    | none => simp [hb] at h
    | some p =>
      obtain ⟨l, hh⟩ := p
      have key : (∀ d, mx = some d → natOf d = some 0) → ∃ v', (Instr.sliceAt t (.slice none 0 0) vlo vhi vmx).run P w = .ok v' w ∧ VR w ρ S.heap .nils v' := by
        intro hm
        obtain ⟨h1, h2, m, hr, h3, h4, h5, h6⟩ := bounds_ok (P := P) (isS := true) (c := 0) hlo hhi hmx hb (Nat.le_refl _) (fun d hd => ⟨hmh (by simp [hd]), 0, hm d hd, by
          have : hh ≤ 0 := by
            unfold boundsD at hb
            split at hb <;> try (simp at hb; done)
            split at hb
            · rename_i hle; simp only [Option.some.injEq, Prod.mk.injEq] at hb; omega
            · simp at hb
          exact this, Nat.le_refl _⟩)
        have hl0 : l = 0 := by omega
        have hh0 : hh = 0 := by omega
        have hm0 : m = 0 := by omega
        subst hl0 hh0 hm0
        exact ⟨.slice none 0 0, by simp [Instr.sliceAt, Instr.slice, run_underlying ht, hr, run_sizeOf hsz], .nils⟩
      cases mx with
      | none =>
        simp only [hb, Option.some.injEq] at h
        subst h
        exact key (fun d hd => by cases hd)
      | some d =>
        simp only [hb] at h
        split at h
        · rename_i h0
          simp only [Option.some.injEq] at h
          subst h
          exact key (fun d' hd => by injection hd with hd; subst hd; exact h0)
        · simp at h
  · -- immutable
    rename_i s rows cap
    split at h
    · simp at h
    rename_i hs
    have hs : s = sz := by simpa using hs
    subst hs
    cases hx with
    | sl _ _ _ A n c hn hnc hcap hz b o f hA hc hv =>
    cases hb : boundsD rows.length lo hi with
    | none => simp [hb] at h
    | some p =>
      obtain ⟨l, hh⟩ := p
      simp only [hb] at h
      have key : ∀ cap', (∀ d, mx = some d → ∃ m, natOf d = some m ∧ hh ≤ m ∧ m ≤ rows.length) → (∀ k, cap' = some k → (mx = none ∧ ∃ k', cap = some k' ∧ k = k' - l) ∨ (∃ d m, mx = some d ∧ natOf d = some m ∧ k = m - l)) →
          ∃ v', (Instr.sliceAt t (.slice (some A) n c) vlo vhi vmx).run P w = .ok v' w ∧ VR w ρ S.heap (.sl s ((rows.drop l).take (hh - l)) cap') v' := by
        intro cap' hm hk
        subst hn
        obtain ⟨h1, h2, m, hr, h3, h4, h5, h6⟩ := bounds_ok (P := P) (isS := true) (c := c) hlo hhi hmx hb hnc (fun d hd => ⟨hmh (by simp [hd]), hm d hd⟩)
        have hlen : ((rows.drop l).take (hh - l)).length = hh - l := by simp; omega
        refine ⟨.slice (some (if m = l then A else A.add (l * s))) (hh - l) (m - l), ?_, ?_⟩
        · simp only [Instr.sliceAt, Instr.slice, run_underlying ht, Sem.run_bind, Result.andThen_ok, hr, run_sizeOf hsz, Sem.run_pure]
          split <;> rfl
        · refine .sl s _ cap' _ _ _ hlen.symm (by omega) (fun k hk' => ?_) (fun r hr' => hz r (mem_drop_take hr')) b (o + l * s) (fun i j => f (l + i) j) (fun hne => ?_) (fun i r' j d hi' hj => ?_) (fun i r' j d hi' hj => ?_)
          · rcases hk k hk' with ⟨hmn, k', hk1, rfl⟩ | ⟨d, m', hd, hm', rfl⟩
            · rw [h5 hmn, hcap k' hk1]
            · have := h6 d hd
              rw [hm'] at this
              injection this with this
              rw [this]
          · have hpos : 0 < hh - l := by
              rcases Nat.eq_zero_or_pos (hh - l) with h0 | h0
              · exact absurd (List.eq_nil_of_length_eq_zero (hlen.trans h0)) hne
              · exact h0
            rw [if_neg (by omega), hA (by rintro rfl; simp at h2; omega), add_plain]
          · obtain ⟨h7, h8⟩ := drop_take_get hi'
            have := hc (l + i) r' j d h7 hj
            rw [show o + l * s + i * s + j = o + (l + i) * s + j by rw [Nat.add_mul]; omega]
            exact this
          · obtain ⟨h7, h8⟩ := drop_take_get hi'
            exact hv (l + i) r' j d h7 hj
      cases mx with
      | none =>
        simp only [Option.some.injEq] at h
        subst h
        refine key _ (fun d hd => by cases hd) (fun k hk => .inl ⟨rfl, ?_⟩)
        cases cap with
        | none => simp at hk
        | some k' => simp at hk; exact ⟨k', rfl, hk.symm⟩
      | some d =>
        simp only at h
        split at h
        · rename_i m hm
          split at h
          · rename_i hle
            simp only [Option.some.injEq] at h
            subst h
            exact key _ (fun d' hd => by injection hd with hd; subst hd; exact ⟨m, hm, hle.1, hle.2⟩) (fun k hk => .inr ⟨d, m, rfl, hm, by injection hk with hk; exact hk.symm⟩)
          · simp at h
        · simp at h
  · -- of the heap
    rename_i g ver o n cap
    cases hx with
    | msl _ _ _ _ _ A c ob hnc hcap hg hver hk3 hcur =>
    cases hq : boundsAt S g ver sz n lo hi with
    | none => simp [hq] at h
    | some p =>
      obtain ⟨l, hh⟩ := p
      simp only [hq] at h
      obtain ⟨hvo, hsz', hb⟩ : ob.ver = ver ∧ ob.sz = sz ∧ boundsD n lo hi = some (l, hh) := by
        unfold boundsAt rowsOf at hq
        simp only [hg] at hq
        by_cases hv' : ob.ver = ver
        · simp only [hv', if_true] at hq
          split at hq
          · rename_i hz'; exact ⟨hv', hz', hq⟩
          · simp at hq
        · simp [hv'] at hq
      obtain ⟨b, hρ, hlo', hA, hcp⟩ := hcur hvo
      have key : ∀ cap', (∀ d, mx = some d → ∃ m, natOf d = some m ∧ hh ≤ m ∧ m ≤ n) → (∀ k, cap' = some k → (mx = none ∧ ∃ k', cap = some k' ∧ k = k' - l) ∨ (∃ d m, mx = some d ∧ natOf d = some m ∧ k = m - l)) → (cap' = none → mx = none ∧ cap = none) →
          ∃ v', (Instr.sliceAt t (.slice (some A) n c) vlo vhi vmx).run P w = .ok v' w ∧ VR w ρ S.heap (.msl g ver (o + l) (hh - l) cap') v' := by
        intro cap' hm hk hno
        obtain ⟨h1, h2, m, hr, h3, h4, h5, h6⟩ := bounds_ok (P := P) (isS := true) (c := c) hlo hhi hmx hb hnc (fun d hd => ⟨hmh (by simp [hd]), hm d hd⟩)
        refine ⟨.slice (some (if m = l then A else A.add (l * sz))) (hh - l) (m - l), ?_, ?_⟩
        · simp only [Instr.sliceAt, Instr.slice, run_underlying ht, Sem.run_bind, Result.andThen_ok, hr, run_sizeOf hsz, Sem.run_pure]
          split <;> rfl
        · refine .msl g ver (o + l) (hh - l) cap' _ _ ob (by omega) (fun k hk' => ?_) hg hver hk3 (fun _ => ⟨b, hρ, by omega, fun hne => ?_, fun hc' => ?_⟩)
          · rcases hk k hk' with ⟨hmn, k', hk1, rfl⟩ | ⟨d, m', hd, hm', rfl⟩
            · rw [h5 hmn, hcap k' hk1]
            · have := h6 d hd
              rw [hm'] at this
              injection this with this
              rw [this]
          · by_cases hl0 : l = 0
            · subst hl0
              have := hA (by omega)
              split
              · simpa using this
              · rw [this, add_plain]; simp
            · rw [if_neg (by omega), hA (by omega), add_plain, hsz', Nat.add_mul]
          · obtain ⟨hm0, hc0⟩ := hno hc'
            obtain ⟨cur, hcur1, hcur2⟩ := hcp hc0
            refine ⟨cur, hcur1, ?_⟩
            have := h5 hm0
            subst this
            rw [hcur2]
            congr 1
            omega
      cases mx with
      | none =>
        simp only [Option.some.injEq] at h
        subst h
        refine key _ (fun d hd => by cases hd) (fun k hk => .inl ⟨rfl, ?_⟩) (fun hc' => ⟨rfl, by cases cap <;> simp_all⟩)
        cases cap with
        | none => simp at hk
        | some k' => simp at hk; exact ⟨k', rfl, hk.symm⟩
      | some d =>
        simp only at h
        split at h
        · rename_i m hm
          split at h
          · rename_i hle
            simp only [Option.some.injEq] at h
            subst h
            exact key _ (fun d' hd => by injection hd with hd; subst hd; exact ⟨m, hm, hle.1, hle.2⟩) (fun k hk => .inr ⟨d, m, rfl, hm, by injection hk with hk; exact hk.symm⟩) (fun hc' => by cases hc')
          · simp at h
        · simp at h
  · simp at h
end
end Go.Proofs.YtabgobmeibjeeaaGreatDoor

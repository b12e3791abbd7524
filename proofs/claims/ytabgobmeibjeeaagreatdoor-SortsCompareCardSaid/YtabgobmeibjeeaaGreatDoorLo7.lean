/- Proved here: the abstract machine's composites, new variables, stores and appends are the model's; no condition. -/
import Derived.Test.YtabgobmeibjeeaaGreatDoorLo6
namespace Go.Proofs.YtabgobmeibjeeaaGreatDoor
open Go.RowKit
set_option linter.unusedVariables false
set_option linter.unusedSimpArgs false

inductive VL (w : World) (ρ : RMap) (H : List AObj) : List D → List Value → Prop
  | nil : VL w ρ H [] []
  | cons {d v ds vs} (h : VR w ρ H d v) (t : VL w ρ H ds vs) : VL w ρ H (d :: ds) (v :: vs)

section
variable {P : Program} {w : World} {ρ : RMap} {H : List AObj}

theorem VL.mono {w' : World} {ρ' : RMap} {S S' : St} (hs : Stp w ρ S w' ρ' S') {ds : List D} {vs : List Value} (h : VL w ρ S.heap ds vs) : VL w' ρ' S'.heap ds vs := by
  induction h with
  | nil => exact .nil
  | cons h _ ih => exact .cons (h.mono hs) ih
theorem VL.len {ds : List D} {vs : List Value} (h : VL w ρ H ds vs) : vs.length = ds.length := by
  induction h with
  | nil => rfl
  | cons _ _ ih => simp [ih]
theorem VL.get {ds : List D} {vs : List Value} (h : VL w ρ H ds vs) : ∀ {j : Nat} {d : D} {v : Value}, ds[j]? = some d → vs[j]? = some v → VR w ρ H d v := by
  induction h with
  | nil => intro j d v h1; simp at h1
  | cons h _ ih =>
    intro j d v h1 h2
    cases j with
    | zero => simp at h1 h2; subst h1 h2; exact h
    | succ j => simp at h1 h2; exact ih h1 h2
theorem VL.append {ds es : List D} {vs us : List Value} (h : VL w ρ H ds vs) (k : VL w ρ H es us) : VL w ρ H (ds ++ es) (vs ++ us) := by
  induction h with
  | nil => exact k
  | cons h _ ih => exact .cons h ih
theorem VL.of {ds : List D} : ∀ {vs : List Value}, vs.length = ds.length → (∀ (j : Nat) (d : D) (v : Value), ds[j]? = some d → vs[j]? = some v → VR w ρ H d v) → VL w ρ H ds vs := by
  induction ds with
  | nil => intro vs hl _; simp at hl; subst hl; exact .nil
  | cons d ds ih =>
    intro vs hl h
    cases vs with
    | nil => simp at hl
    | cons v vs => exact .cons (h 0 d v rfl rfl) (ih (by simpa using hl) fun j d v h1 h2 => h (j + 1) d v (by simpa using h1) (by simpa using h2))

/-! snapshots -/
theorem snap_ok {m : Nat} (hr : Rel w ρ H) (hm : H.length ≤ m) {d r : D} {v : Value} (h : VR w ρ H d v) (hs : snap m H d = some r) : VR w ρ H r v ∧ (d.isCell = true → r.isCell = true) := by
  unfold snap at hs
  split at hs
  · rename_i g ver lo n cap
    cases h with
    | msl _ _ _ _ _ A c ob hnc hcap hg hver hk3 hcur =>
      simp only [hg] at hs
      split at hs
      · rename_i hk
        simp only [Option.some.injEq] at hs
        subst hs
        have hk1 : ob.kind = 1 := by
          rcases hk.2 with h1 | h1
          · exact h1
          · have := lt_of_some hg; omega
        obtain ⟨b, hρ, hlo, hA, hcp⟩ := hcur hk.1
        obtain ⟨o1, ho1, cur, hc, hz, ⟨cc, hcc, hcl, hcm, hcg⟩, hl, hkk, hh⟩ := hr.cel hρ hg hk3
        rw [hg] at ho1
        injection ho1 with ho1
        subst ho1
        have hlen : ((ob.rows.drop lo).take n).length = n := by simp; omega
        refine ⟨.sl ob.sz _ _ A n c hlen.symm hnc (fun k hk' => ?_) (fun r hr' => hl r (mem_drop_take hr')) b (lo * ob.sz) (fun i j => cur.getD ((lo + i) * ob.sz + j) undef) (fun hne => hA ?_) (fun i r' j d hi hj => ?_) (fun i r' j d hi hj => ?_), fun _ => rfl⟩
        · cases cap with
          | some c' => simp only [Option.some.injEq] at hk'; subst hk'; exact hcap _ rfl
          | none =>
            simp only at hk'
            split at hk'
            · simp at hk'
            · rename_i hgr
              simp only [Option.some.injEq] at hk'
              obtain ⟨cur', hc1, hc2⟩ := hcp rfl
              rw [hc] at hc1
              injection hc1 with hc1
              injection hc1 with hc1
              subst hc1
              have h1 := hcg (by simpa using hgr)
              rw [hcc] at hc2
              have := Nat.eq_of_mul_eq_mul_right hz hc2
              omega
        · left
          intro h0
          subst h0
          simp at hne
        · obtain ⟨h1, h2⟩ := drop_take_get hi
          obtain ⟨h3, h4, v, hv1, hv2⟩ := hh _ r' j d h1 hj
          obtain ⟨h5, h6⟩ := Array.getElem?_eq_some_iff.1 hv1
          have hg1 : cur.getD ((lo + i) * ob.sz + j) undef = v := by simp [Array.getD, h5, h6]
          refine ⟨?_, ⟨lt_of_heap hc, fun hx => (hr.hid _ _ hx).2 g hρ, fun g' hg' => ?_⟩, h4 (by omega)⟩
          · rw [hg1, cell_of_row w b _ cur ob.elem (0, 0) hc, ← hv1]
            congr 1
            rw [Nat.add_mul]
          · have := hr.inj g' g b hg' hρ
            subst this
            refine ⟨ob, hg, hk1, ?_⟩
            have h7 : j < ob.sz := by rw [← hl r' (List.mem_of_getElem? h1)]; exact lt_of_some hj
            have h8 : lo + i < ob.rows.length := lt_of_some h1
            calc lo * ob.sz + i * ob.sz + j = (lo + i) * ob.sz + j := by rw [Nat.add_mul]
              _ < (lo + i) * ob.sz + ob.sz := by omega
              _ = (lo + i + 1) * ob.sz := by rw [Nat.add_mul (lo + i) 1, Nat.one_mul]
              _ ≤ ob.rows.length * ob.sz := Nat.mul_le_mul_right _ h8
        · obtain ⟨h1, h2⟩ := drop_take_get hi
          obtain ⟨h3, h4, v, hv1, hv2⟩ := hh _ r' j d h1 hj
          obtain ⟨h5, h6⟩ := Array.getElem?_eq_some_iff.1 hv1
          have hg1 : cur.getD ((lo + i) * ob.sz + j) undef = v := by simp [Array.getD, h5, h6]
          rw [hg1]
          exact hv2
      · simp at hs
  · split at hs
    · rename_i g v hmg
      cases h with
      | mref _ _ r ob hg hv hh =>
        have := lt_of_some hg
        omega
    · simp only [Option.some.injEq] at hs
      subst hs
      exact ⟨h, id⟩
  · simp only [Option.some.injEq] at hs
    subst hs
    exact ⟨h, id⟩
theorem snaps_ok {m : Nat} (hr : Rel w ρ H) (hm : H.length ≤ m) : ∀ {ds rs : List D} {vs : List Value}, VL w ρ H ds vs → snaps m H ds = some rs → VL w ρ H rs vs ∧ (ds.all D.isCell = true → rs.all D.isCell = true)
  | [], rs, _, .nil, hs => by simp only [snaps, Option.some.injEq] at hs; subst hs; exact ⟨.nil, id⟩
  | d :: ds, rs, _, .cons h t, hs => by
    unfold snaps at hs
    split at hs
    · rename_i x y hx hy
      simp only [Option.some.injEq] at hs
      subst hs
      obtain ⟨h1, h2⟩ := snap_ok hr hm h hx
      obtain ⟨h3, h4⟩ := snaps_ok hr hm t hy
      refine ⟨.cons h1 h3, fun ha => ?_⟩
      simp only [List.all_cons, Bool.and_eq_true] at ha ⊢
      exact ⟨h2 ha.1, h4 ha.2⟩
    · simp at hs
theorem snapV_ok {m : Nat} (hr : Rel w ρ H) (hm : H.length ≤ m) {d r : D} {v : Value} (h : VR w ρ H d v) (hs : snapV m H d = some r) : VR w ρ H r v := by
  unfold snapV at hs
  split at hs
  · rename_i cs
    simp only [Option.map_eq_some_iff] at hs
    obtain ⟨rs, hrs, rfl⟩ := hs
    cases h with
    | agg _ vs hl hc hh =>
      obtain ⟨h1, h2⟩ := snaps_ok hr hm (VL.of hl hh) hrs
      exact .agg rs vs h1.len (h2 hc) (fun j d v => h1.get)
  · exact (snap_ok hr hm h hs).1
theorem snapVs_ok {m : Nat} (hr : Rel w ρ H) (hm : H.length ≤ m) : ∀ {ds rs : List D} {vs : List Value}, VL w ρ H ds vs → snapVs m H ds = some rs → VL w ρ H rs vs
  | [], rs, _, .nil, hs => by simp only [snapVs, Option.some.injEq] at hs; subst hs; exact .nil
  | d :: ds, rs, _, .cons h t, hs => by
    unfold snapVs at hs
    split at hs
    · rename_i x y hx hy
      simp only [Option.some.injEq] at hs
      subst hs
      exact .cons (snapV_ok hr hm h hx) (snapVs_ok hr hm t hy)
    · simp at hs
theorem snapR_ok {m : Nat} (hr : Rel w ρ H) (hm : H.length ≤ m) {d r : D} {v : Value} (h : VR w ρ H d v) (hs : snapR m H d = some r) : VR w ρ H r v := by
  unfold snapR at hs
  split at hs
  · simp only [Option.map_eq_some_iff] at hs
    obtain ⟨rs, hrs, rfl⟩ := hs
    cases h with
    | tup _ vs hl hh =>
      have h1 := snapVs_ok hr hm (VL.of hl hh) hrs
      exact .tup rs vs h1.len (fun j d v => h1.get)
  · exact snapV_ok hr hm h hs

/-! composites -/
theorem overlay_len {cs new : List D} {o : Nat} (h : o + new.length ≤ cs.length) : (overlay cs o new).length = cs.length := by
  simp [overlay]; omega
theorem overlay_get {cs new : List D} {o : Nat} (h : o + new.length ≤ cs.length) (j : Nat) : (overlay cs o new)[j]? = if o ≤ j ∧ j < o + new.length then new[j - o]? else cs[j]? := by
  unfold overlay
  have ht : (cs.take o).length = o := by simp; omega
  by_cases h1 : j < o
  · rw [List.getElem?_append_left (by omega), if_neg (by omega), List.getElem?_take, if_pos h1]
  · rw [List.getElem?_append_right (by omega), ht]
    by_cases h2 : j < o + new.length
    · rw [List.getElem?_append_left (by omega), if_pos (by omega)]
    · rw [List.getElem?_append_right (by omega), if_neg (by omega), List.getElem?_drop]
      congr 1
      omega
theorem foldl_set (off : Nat) : ∀ (new : List Value) (k : Nat) (cs : Array Value) (q : Nat), ((new.zipIdx k).foldl (fun cs (x : Value × Nat) => cs.setIfInBounds (off + x.2) x.1) cs)[q]? = if off + k ≤ q ∧ q < off + k + new.length ∧ q < cs.size then new[q - (off + k)]? else cs[q]?
  | [], k, cs, q => by
    simp only [List.zipIdx_nil, List.foldl_nil, List.length_nil]
    rw [if_neg (by omega)]
  | v :: new, k, cs, q => by
    rw [List.zipIdx_cons, List.foldl_cons, foldl_set off new (k + 1)]
    simp only [Array.size_setIfInBounds, Array.getElem?_setIfInBounds, List.length_cons]
    by_cases h1 : off + (k + 1) ≤ q ∧ q < off + (k + 1) + new.length ∧ q < cs.size
    · rw [if_pos h1, if_pos (by omega)]
      rw [show q - (off + k) = (q - (off + (k + 1))) + 1 by omega]
      simp
    · rw [if_neg h1]
      by_cases h2 : off + k = q
      · subst h2
        by_cases h3 : off + k < cs.size
        · simp [h3]
        · simp [h3]
      · rw [if_neg h2, if_neg (by omega)]
theorem foldl_size (off : Nat) : ∀ (new : List (Value × Nat)) (cs : Array Value), (new.foldl (fun cs (x : Value × Nat) => cs.setIfInBounds (off + x.2) x.1) cs).size = cs.size
  | [], cs => rfl
  | x :: new, cs => by rw [List.foldl_cons, foldl_size off new]; simp
theorem fill_step {place : Nat → Option (Nat × Nat)} {cells : Array Value} {i o sz : Nat} {v : Value} {rest : List (Nat × Value)} (hp : place i = some (o, sz)) (hs : v.cells.size = sz) (hle : o + sz ≤ cells.size) :
    ∃ cells', Instr.fill place cells ((i, v) :: rest) = Instr.fill place cells' rest ∧ cells'.size = cells.size ∧ ∀ q : Nat, cells'[q]? = if o ≤ q ∧ q < o + sz then v.cells[q - o]? else cells[q]? := by
  refine ⟨v.cells.zipIdx.foldl (fun cs (x : Value × Nat) => cs.setIfInBounds (o + x.2) x.1) cells, ?_, ?_, fun q => ?_⟩
  · simp only [Instr.fill, hp]
    rw [if_neg (by simp; omega)]
  · rw [← Array.foldl_toList]
    exact foldl_size o _ _
  · rw [← Array.foldl_toList, Array.toList_zipIdx, foldl_set]
    have : v.cells.toList.length = sz := by simpa using hs
    by_cases h : o ≤ q ∧ q < o + sz
    · rw [if_pos (by omega), if_pos h]; simp
    · rw [if_neg (by omega), if_neg h]
theorem CR.overlay {cs : List D} {vs vs' : Array Value} {x : D} {v : Value} {o : Nat} (h : CR w ρ H cs vs) (hx : CR w ρ H x.cells v.cells) (hle : o + x.cells.length ≤ cs.length) (hs : vs'.size = vs.size)
    (hq : ∀ q : Nat, vs'[q]? = if o ≤ q ∧ q < o + x.cells.length then v.cells[q - o]? else vs[q]?) : CR w ρ H (overlay cs o x.cells) vs' := by
  refine ⟨by rw [hs, h.1, overlay_len hle], fun j d u h1 h2 => ?_⟩
  rw [overlay_get hle] at h1
  rw [hq] at h2
  split at h1
  · rename_i hin
    rw [if_pos hin] at h2
    exact hx.2 _ d u h1 h2
  · rename_i hout
    rw [if_neg hout] at h2
    exact h.2 j d u h1 h2
theorem all_overlay {p : D → Bool} {cs new : List D} {o : Nat} (h : cs.all p = true) (hn : new.all p = true) : (overlay cs o new).all p = true := by
  refine List.all_eq_true.2 fun x hx => ?_
  unfold overlay at hx
  rcases List.mem_append.1 hx with hx | hx
  · exact List.all_eq_true.1 h x (List.mem_of_mem_take hx)
  · rcases List.mem_append.1 hx with hx | hx
    · exact List.all_eq_true.1 hn x hx
    · exact List.all_eq_true.1 h x (List.mem_of_mem_drop hx)
theorem fill_ok {pl : Nat → Option (Nat × Nat)} : ∀ {ps : List (Nat × Operand)} {places : List (Nat × Nat)} {cs r : List D} {ds : List D} {vs : List Value} {cells : Array Value}, placesT pl ps = some places → fillD cs places ds = some r → VL w ρ H ds vs → vs.length = ps.length → CR w ρ H cs cells → cs.all D.isCell = true →
    ∃ cells', Instr.fill pl cells ((ps.map (·.1)).zip vs) = some cells' ∧ CR w ρ H r cells' ∧ r.all D.isCell = true
  | [], places, cs, r, ds, vs, cells, hp, hf, hv, hl, hc, ha => by
    simp only [placesT, Option.some.injEq] at hp
    subst hp
    have : vs = [] := by simpa using hl
    subst this
    cases hv
    simp only [fillD, Option.some.injEq] at hf
    subst hf
    exact ⟨cells, by simp [Instr.fill], hc, ha⟩
  | (i, xo) :: ps, places, cs, r, ds, vs, cells, hp, hf, hv, hl, hc, ha => by
    unfold placesT at hp
    split at hp
    · rename_i pq rest hpi hrest
      simp only [Option.some.injEq] at hp
      subst hp
      obtain ⟨o, sz⟩ := pq
      cases hv with
      | nil => simp at hl
      | cons hd ht =>
        rename_i d v ds vs
        unfold fillD at hf
        split at hf
        · rename_i hcond
          simp only [Bool.and_eq_true, beq_iff_eq, decide_eq_true_eq] at hcond
          obtain ⟨⟨h1, h2⟩, h3⟩ := hcond
          obtain ⟨hcr, hcell, _⟩ := hd.cells h1
          subst h2
          have hvs : v.cells.size = d.cells.length := hcr.1
          obtain ⟨cells', he, hs, hq⟩ := fill_step (rest := (ps.map (·.1)).zip vs) hpi hvs (by rw [hc.1]; exact h3)
          obtain ⟨c2, h4, h5⟩ := fill_ok hrest hf ht (by simpa using hl) (hc.overlay hcr h3 hs hq) (all_overlay ha (List.all_eq_true.2 hcell))
          exact ⟨c2, by rw [List.map_cons, List.zip_cons_cons, he]; exact h4, h5⟩
        · simp at hf
    · simp at hp
theorem cellOf_ok {v : Value} {d : D} (h : cellOf v = some d) : VR w ρ H d v ∧ d.isCell = true ∧ d.free = true := by
  unfold cellOf at h
  split at h <;> simp only [Option.some.injEq, reduceCtorEq] at h <;> subst h
  · exact ⟨.int _ _, rfl, rfl⟩
  · exact ⟨.bool _, rfl, rfl⟩
  · exact ⟨.str _, rfl, rfl⟩
  · exact ⟨.nilp, rfl, rfl⟩
  · exact ⟨.nils, rfl, rfl⟩
  · exact ⟨.nilfn, rfl, rfl⟩
  · exact ⟨.nilm, rfl, rfl⟩
  · exact ⟨.nili, rfl, rfl⟩
theorem cellsOf_ok : ∀ {vs : List Value} {ds : List D}, cellsOf vs = some ds → VL w ρ H ds vs ∧ ds.all D.isCell = true ∧ ds.all D.free = true
  | [], ds, h => by simp only [cellsOf, Option.some.injEq] at h; subst h; exact ⟨.nil, rfl, rfl⟩
  | v :: vs, ds, h => by
    unfold cellsOf at h
    split at h
    · rename_i x y hx hy
      simp only [Option.some.injEq] at h
      subst h
      obtain ⟨h1, h2, h3⟩ := cellOf_ok (w := w) (ρ := ρ) (H := H) hx
      obtain ⟨h4, h5, h6⟩ := cellsOf_ok hy
      exact ⟨.cons h1 h4, by simp [h2, h5], by simp [h3, h6]⟩
    · simp at h
theorem constOf_ok {v : Value} {d : D} (h : constOf v = some d) : VR w ρ H d v := by
  unfold constOf at h
  split at h
  · rename_i cs
    simp only [Option.map_eq_some_iff] at h
    obtain ⟨ds, hds, rfl⟩ := h
    obtain ⟨h1, h2, _⟩ := cellsOf_ok (w := w) (ρ := ρ) (H := H) hds
    have := VR.agg (w := w) (ρ := ρ) (H := H) ds cs.toList h1.len h2 (fun j d v => h1.get)
    simpa using this
  · exact (cellOf_ok h).1
theorem VL.cr {ds : List D} {vs : Array Value} (h : VL w ρ H ds vs.toList) : CR w ρ H ds vs := ⟨by simpa using h.len, fun j d v h1 h2 => h.get h1 (by simpa using h2)⟩
theorem zeroT_some {t : TypeId} {z : List D} (h : zeroT P t = some z) : ∃ i zv, P.info? t = some i ∧ i.zero = some zv ∧ CR w ρ H z zv.cells ∧ z.all D.isCell = true ∧ z.all D.free = true := by
  unfold zeroT at h
  split at h
  · rename_i i hi
    split at h
    · rename_i zv hz
      obtain ⟨h1, h2, h3⟩ := cellsOf_ok (w := w) (ρ := ρ) (H := H) h
      exact ⟨i, zv, hi, hz, h1.cr, h2, h3⟩
    · simp at h
  · simp at h
theorem build_ok {t : TypeId} {ps : Array (Nat × Operand)} {z : List D} {pl : Nat → Option (Nat × Nat)} {places : List (Nat × Nat)} {ds cs : List D} {vs : List Value} (hz : zeroT P t = some z) (hpl : placeT P t = some pl) (hp : placesT pl ps.toList = some places) (hv : VL w ρ H ds vs) (hl : vs.length = ps.toList.length)
    (h : fillD z places ds = some cs) : ∃ v, (Instr.build t ((ps.toList.map (·.1)).zip vs).toArray).run P w = .ok v w ∧ VR w ρ H (.agg cs) v := by
  obtain ⟨i, zv, hi, hzv, hcr, hall, _⟩ := zeroT_some (w := w) (ρ := ρ) (H := H) hz
  obtain ⟨cells', h1, h2, h3⟩ := fill_ok hp h hv hl hcr hall
  refine ⟨.agg cells', run_build w t _ cells' ?_, h2.agg h3⟩
  unfold Program.built
  unfold placeT at hpl
  cases hu : P.underlying t with
  | none => simp [hu] at hpl
  | some d =>
    cases d <;> simp only [hu, reduceCtorEq] at hpl
    · rename_i n e
      cases hie : P.info? e with
      | none => simp [hie] at hpl
      | some ie =>
        simp only [hie, Option.some.injEq] at hpl
        subst hpl
        simp only [hi, hzv, hie]
        exact h1
    · rename_i fs
      cases hm : fs.toList.mapM (fun f => (P.info? f.type).map fun i => (f.offset, i.size)) with
      | none => simp [hm] at hpl
      | some pls =>
        simp only [hm, Option.some.injEq] at hpl
        subst hpl
        simp only [hi, hzv, hm]
        exact h1
end
end Go.Proofs.YtabgobmeibjeeaaGreatDoor

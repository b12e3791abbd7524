/- Proved here: the abstract machine's new variables, slice literals, stores and appends are the model's; no condition. -/
import Derived.Test.YtabgobmeibjeeaaGreatDoorLo7
namespace Go.Proofs.YtabgobmeibjeeaaGreatDoor
open Go.RowKit
set_option linter.unusedVariables false
set_option linter.unusedSimpArgs false

/-- what an operation owes: its value, and the state behind it -/
def OpPost (w : World) (ρ : RMap) (S : St) (r : D) (S' : St) (wr : Bool) (v : Value) (w' : World) : Prop :=
  ∃ ρ', Rel w' ρ' S'.heap ∧ Stp w ρ S w' ρ' S' ∧ VR w' ρ' S'.heap r v ∧ (wr = false → Ext w w' ∧ ρ' = ρ ∧ S' = S)

section
variable {P : Program} {w : World} {ρ : RMap} {S : St}

theorem OpPost.pure {r : D} {v : Value} (hr : Rel w ρ S.heap) (h : VR w ρ S.heap r v) : OpPost w ρ S r S false v w := ⟨ρ, hr, Stp.refl _ _ _, h, fun _ => ⟨Ext.refl_ _, rfl, rfl⟩⟩

theorem new_post {w' : World} {cur : Array Value} {ob : AObj} (hr : Rel w ρ S.heap) (h : AddBlk w w' (.cells cur ob.elem (0, 0))) (hz : 0 < ob.sz) (hv0 : ob.ver = 0) (hk : ob.kind = 0) (hrow : ∃ row, ob.rows = [row] ∧ row.length = ob.sz ∧ row.all D.isCell = true ∧ CR w ρ S.heap row cur) :
    OpPost w ρ S (.ptr S.heap.length 0 0 0) (newAt S ob) true (.pointer (some ⟨w.heap.size, 0, none⟩)) w' := by
  obtain ⟨row, hrows, hlen, hall, hcr⟩ := hrow
  refine ⟨_, rel_new hr h hz ⟨1, by rw [hcr.1, hlen, Nat.one_mul], by rw [hrows]; simp, by simp [maxLen], by rw [hrows]; simp⟩ (by rw [hrows]; simpa using hlen) (.inl hk) (fun i r j d hi hj => ?_), stp_new hr h, ?_, by simp⟩
  · rw [hrows] at hi
    cases i with
    | succ i => simp at hi
    | zero =>
      simp at hi
      subst hi
      obtain ⟨v, h1, h2⟩ := hcr.get hj
      exact ⟨List.all_eq_true.1 hall d (List.mem_of_getElem? hj), fun h => absurd hk h, v, by simpa using h1, h2⟩
  · refine .ptr _ 0 0 0 _ ob (by simp [newAt]) (by omega) (by omega) fun _ => ⟨w.heap.size, by simp [upd], by simp⟩

theorem alloc_ok {e : TypeId} {z : List D} {n : Nat} (hr : Rel w ρ S.heap) (hz : zeroT P e = some z) (hn : sizeT P e = some n) (hl : z.length = n) :
    ∃ v w', (Instr.alloc e true (.tuple #[])).run P w = .ok v w' ∧ OpPost w ρ S (.ptr S.heap.length 0 0 0) (newAt S ⟨e, z.length, [z], 0, 0, false⟩) true v w' := by
  obtain ⟨i, zv, hi, hzv, hcr, hall, _⟩ := zeroT_some (w := w) (ρ := ρ) (H := S.heap) hz
  obtain ⟨_, _, _, _, _, h0⟩ := sizeT_some hn
  have hrun : (Instr.alloc e true (.tuple #[])).run P w = .ok (.pointer (some ⟨w.heap.size, 0, none⟩)) (w.alloc (.cells zv.cells e)) := by
    simp [Instr.alloc, zeroValue, typeInfo, hi, hzv, newVar, newRow]
  exact ⟨_, _, hrun, new_post (ob := ⟨e, z.length, [z], 0, 0, false⟩) hr (AddBlk.alloc w _) (by simp only; omega) rfl rfl ⟨z, rfl, rfl, hall, hcr⟩⟩
/-- a variable that the abstract heap has already -/
theorem alloc_fill {e : TypeId} {z : List D} {n g : Nat} (hr : Rel w ρ S.heap) (hz : zeroT P e = some z) (hn : sizeT P e = some n) (hl : z.length = n) (hg : S.heap[g]? = some ⟨e, z.length, [z], 0, 0, false⟩) (hno : ρ g = none) :
    ∃ v w' o, (Instr.alloc e true (.tuple #[])).run P w = .ok v w' ∧ AddBlk w w' o ∧ Rel w' (upd ρ g w.heap.size) S.heap ∧ VR w' (upd ρ g w.heap.size) S.heap (.ptr g 0 0 0) v := by
  obtain ⟨i, zv, hi, hzv, hcr, hall, _⟩ := zeroT_some (w := w) (ρ := ρ) (H := S.heap) hz
  obtain ⟨_, _, _, _, _, h0⟩ := sizeT_some hn
  have hrun : (Instr.alloc e true (.tuple #[])).run P w = .ok (.pointer (some ⟨w.heap.size, 0, none⟩)) (w.alloc (.cells zv.cells e)) := by
    simp [Instr.alloc, zeroValue, typeInfo, hi, hzv, newVar, newRow]
  refine ⟨_, _, _, hrun, AddBlk.alloc w _, rel_fill (ob := ⟨e, z.length, [z], 0, 0, false⟩) hr (AddBlk.alloc w _) hno hg (by simp only; omega) ⟨1, by rw [hcr.1, Nat.one_mul], by simp, by simp [maxLen], by simp⟩ (by simp) (.inl rfl) (fun i r j d hi hj => ?_), ?_⟩
  · cases i with
    | succ i => simp at hi
    | zero =>
      simp at hi
      subst hi
      obtain ⟨v, h1, h2⟩ := hcr.get hj
      exact ⟨List.all_eq_true.1 hall d (List.mem_of_getElem? hj), fun h => absurd rfl h, v, by simpa using h1, h2⟩
  · exact .ptr _ 0 0 0 _ _ hg (Nat.le_refl _) (by simp) fun _ => ⟨w.heap.size, by simp [upd], by simp⟩
theorem box_ok {e : TypeId} {x : D} {v : Value} {n : Nat} (hr : Rel w ρ S.heap) (hn : sizeT P e = some n) (hx : VR w ρ S.heap x v) (h1 : x.val = true) (h2 : x.cells.length = n) :
    ∃ v' w', (Instr.box e v).run P w = .ok v' w' ∧ OpPost w ρ S (.ptr S.heap.length 0 0 0) (newAt S ⟨e, n, [x.cells], 0, 0, false⟩) true v' w' := by
  obtain ⟨_, _, _, _, _, h0⟩ := sizeT_some hn
  obtain ⟨hcr, hcell, _⟩ := hx.cells h1
  have hrun : (Instr.box e v).run P w = .ok (.pointer (some ⟨w.heap.size, 0, none⟩)) (w.alloc (.cells v.cells e)) := by
    simp [Instr.box, newVar, newRow]
  exact ⟨_, _, hrun, new_post (ob := ⟨e, n, [x.cells], 0, 0, false⟩) hr (AddBlk.alloc w _) h0 rfl rfl ⟨x.cells, rfl, h2, List.all_eq_true.2 hcell, hcr⟩⟩

/-! rows in a block -/
/-- the rows lie one after another in the cells -/
def RowsIn (w : World) (ρ : RMap) (H : List AObj) (sz : Nat) (rows : List (List D)) (cur : Array Value) : Prop :=
  (∀ r ∈ rows, r.length = sz) ∧ ∀ i r j d, rows[i]? = some r → r[j]? = some d → d.isCell = true ∧ d.free = true ∧ ∃ v, cur[i * sz + j]? = some v ∧ VR w ρ H d v

theorem RowsIn.set {H : List AObj} {sz i : Nat} {rows : List (List D)} {cur cur' : Array Value} {x : D} {v : Value} (h : RowsIn w ρ H sz rows cur) (hx : CR w ρ H x.cells v.cells) (hl : x.cells.length = sz) (hc : ∀ d ∈ x.cells, d.isCell = true ∧ d.free = true)
    (hq : ∀ q : Nat, cur'[q]? = if i * sz ≤ q ∧ q < i * sz + sz then v.cells[q - i * sz]? else cur[q]?) : RowsIn w ρ H sz (rows.set i x.cells) cur' := by
  refine ⟨fun r hr => ?_, fun k r j d hk hj => ?_⟩
  · rcases List.mem_or_eq_of_mem_set hr with hr | rfl
    · exact h.1 r hr
    · exact hl
  · have hkl := lt_of_some hk
    rw [List.length_set] at hkl
    by_cases e : i = k
    · subst e
      rw [List.getElem?_set_self hkl] at hk
      injection hk with hk
      subst hk
      obtain ⟨u, h1, h2⟩ := hx.get hj
      have hjl := lt_of_some hj
      obtain ⟨h3, h4⟩ := hc d (List.mem_of_getElem? hj)
      refine ⟨h3, h4, u, ?_, h2⟩
      rw [hq, if_pos (by omega), show i * sz + j - i * sz = j by omega]
      exact h1
    · rw [List.getElem?_set_ne e] at hk
      obtain ⟨h1, h2, u, h3, h4⟩ := h.2 k r j d hk hj
      refine ⟨h1, h2, u, ?_, h4⟩
      have hjl : j < sz := by rw [← h.1 r (List.mem_of_getElem? hk)]; exact lt_of_some hj
      rw [hq, if_neg]
      · exact h3
      · rintro ⟨h5, h6⟩
        rcases Nat.lt_or_gt_of_ne e with hlt | hgt
        · have := Nat.mul_le_mul_right sz hlt
          rw [Nat.succ_mul] at this
          omega
        · have := Nat.mul_le_mul_right sz hgt
          rw [Nat.succ_mul] at this
          omega
theorem fillRows_ok {H : List AObj} {sz : Nat} : ∀ {is : List Nat} {rs r : List (List D)} {ds : List D} {vs : List Value} {cur : Array Value}, fillRows rs sz is ds = some r → VL w ρ H ds vs → vs.length = is.length → RowsIn w ρ H sz rs cur → cur.size = rs.length * sz →
    ∃ cur', Instr.fill (fun i => some (i * sz, sz)) cur (is.zip vs) = some cur' ∧ RowsIn w ρ H sz r cur' ∧ cur'.size = cur.size ∧ r.length = rs.length
  | [], rs, r, ds, vs, cur, hf, hv, hl, hin, hsz => by
    have : vs = [] := by simpa using hl
    subst this
    cases hv
    simp only [fillRows, Option.some.injEq] at hf
    subst hf
    exact ⟨cur, by simp [Instr.fill], hin, rfl, rfl⟩
  | i :: is, rs, r, ds, vs, cur, hf, hv, hl, hin, hsz => by
    cases hv with
    | nil => simp at hl
    | cons hd ht =>
      rename_i d v ds vs
      unfold fillRows at hf
      split at hf
      · rename_i hcond
        simp only [Bool.and_eq_true, beq_iff_eq, decide_eq_true_eq] at hcond
        obtain ⟨⟨⟨h1, hfr⟩, h2⟩, h3⟩ := hcond
        obtain ⟨hcr, hcell, _⟩ := hd.cells h1
        have hle : i * sz + sz ≤ cur.size := by
          rw [hsz, ← Nat.succ_mul]
          exact Nat.mul_le_mul_right _ h3
        obtain ⟨cells', he, hs, hq⟩ := fill_step (place := fun i => some (i * sz, sz)) (rest := is.zip vs) rfl (by rw [hcr.1, h2]) hle
        have hin2 := hin.set (i := i) hcr h2 (fun d' hd' => ⟨hcell d' hd', List.all_eq_true.1 hfr d' hd'⟩) hq
        obtain ⟨c2, h4, h5, h6, h7⟩ := fillRows_ok hf ht (by simpa using hl) hin2 (by rw [hs, hsz, List.length_set])
        exact ⟨c2, by rw [List.zip_cons_cons, he]; exact h4, h5, h6.trans hs, by rw [h7, List.length_set]⟩
      · simp at hf
theorem RowsIn.replicate {H : List AObj} {z : List D} {zv : Array Value} (h : CR w ρ H z zv) (h1 : z.all D.isCell = true) (h2 : z.all D.free = true) (n : Nat) (h0 : 0 < z.length) :
    RowsIn w ρ H z.length (List.replicate n z) ((Array.range (n * z.length)).map (zv[· % zv.size]!)) := by
  refine ⟨fun r hr => by rw [List.eq_of_mem_replicate hr], fun i r j d hi hj => ?_⟩
  have hr := List.eq_of_mem_replicate (List.mem_of_getElem? hi)
  subst hr
  have hil : i < n := by have := lt_of_some hi; simpa using this
  have hjl := lt_of_some hj
  obtain ⟨v, h3, h4⟩ := h.get hj
  refine ⟨List.all_eq_true.1 h1 d (List.mem_of_getElem? hj), List.all_eq_true.1 h2 d (List.mem_of_getElem? hj), v, ?_, h4⟩
  have hlt : i * r.length + j < n * r.length := by
    calc i * r.length + j < i * r.length + r.length := by omega
      _ = (i + 1) * r.length := by rw [Nat.succ_mul]
      _ ≤ n * r.length := Nat.mul_le_mul_right _ hil
  have hm : (i * r.length + j) % zv.size = j := by
    rw [h.1, Nat.mul_comm, Nat.mul_add_mod, Nat.mod_eq_of_lt hjl]
  obtain ⟨h5, h6⟩ := Array.getElem?_eq_some_iff.1 h3
  rw [Array.getElem?_map, Array.getElem?_range, if_pos hlt, Option.map_some, hm]
  simp [h5, h6]
/-- a slice literal -/
theorem bslice_ok {t e : TypeId} {len n kind : Nat} {z : List D} {ps : Array (Nat × Operand)} {xs ys : List D} {rs : List (List D)} {vs : List Value} {r : D} {S' : St} {wr : Bool} (hr : Rel w ρ S.heap) (hu : P.underlying t = some (.slice e)) (hz : zeroT P e = some z) (hn : sizeT P e = some n) (hl : z.length = n) (hsm : len * n ≤ 16777216)
    (hv : VL w ρ S.heap xs vs) (hvl : vs.length = ps.toList.length) (hsn : snapVs S.heap.length S.heap xs = some ys) (hf : fillRows (List.replicate len z) n (ps.toList.map (·.1)) ys = some rs)
    (h : (if kind = 2 then some (D.msl S.heap.length 0 0 len none, newAt S ⟨e, n, rs, 0, 2, false⟩, true) else some (D.sl n rs (some len), S, false)) = some (r, S', wr)) :
    ∃ v w', (Instr.buildSlice t len ((ps.toList.map (·.1)).zip vs).toArray).run P w = .ok v w' ∧ OpPost w ρ S r S' wr v w' := by
  obtain ⟨i, zv, hi, hzv, hcr, hall, hfree⟩ := zeroT_some (w := w) (ρ := ρ) (H := S.heap) hz
  obtain ⟨i', d', hi', hd', hs', h0⟩ := sizeT_some hn
  rw [hi] at hi'
  injection hi' with hi'
  subst hi'
  have hv2 := snapVs_ok hr (Nat.le_refl _) hv hsn
  subst hl
  have hcs : zv.cells.size = z.length := hcr.1
  obtain ⟨cur, hfill, hin, hcz, hrl⟩ := fillRows_ok hf hv2 (by simpa using hvl) (RowsIn.replicate hcr hall hfree len h0) (by simp)
  simp only [List.length_replicate] at hrl
  simp only [Array.size_map, Array.size_range] at hcz
  have hrun : (Instr.buildSlice t len ((ps.toList.map (·.1)).zip vs).toArray).run P w = .ok (.slice (some ⟨w.heap.size, 0, none⟩) len len) (w.alloc (.cells cur e)) := by
    by_cases hpos : len * i.size = 0
    · have hlen0 : len = 0 := by
        rcases Nat.mul_eq_zero.1 hpos with h | h
        · exact h
        · omega
      subst hlen0
      have hrs : rs = [] := List.eq_nil_of_length_eq_zero hrl
      have hA : ∀ f : Nat → Value, (Array.range (0 * z.length)).map f = #[] := fun f => by apply Array.eq_empty_of_size_eq_zero; simp
      have hA' : ∀ f : Nat → Value, (Array.range 0).map f = #[] := fun f => by apply Array.eq_empty_of_size_eq_zero; simp
      rw [hA] at hfill
      simp only [Instr.buildSlice, Sem.run_bind, run_underlying hu, Result.andThen_ok, run_sizeOf hn, Nat.zero_mul, hA', hfill]
      simp [newRow, hA', hfill]
    · refine run_buildSlice w t e len _ cur i zv hu hi hzv (by rw [hs']; omega) hpos ?_
      rw [hs']
      exact hfill
  refine ⟨_, _, hrun, ?_⟩
  have hadd := AddBlk.alloc w (.cells cur e)
  split at h
  · simp only [Option.some.injEq, Prod.mk.injEq] at h
    obtain ⟨rfl, rfl, rfl⟩ := h
    refine ⟨_, rel_new (ob := ⟨e, z.length, rs, 0, 2, false⟩) hr hadd h0 ⟨len, hcz, by simp [hrl], ?_, by simp [hrl]⟩ hin.1 (.inr (.inr rfl)) (fun i' r' j d hi2 hj => ?_), stp_new hr hadd, ?_, by simp⟩
    · simp only [maxLen]
      have : len * 1 ≤ len * z.length := Nat.mul_le_mul_left _ h0
      omega
    · obtain ⟨h1, h2, h3⟩ := hin.2 i' r' j d hi2 hj
      exact ⟨h1, fun _ => h2, h3⟩
    · refine .msl _ 0 0 len none _ len ⟨e, z.length, rs, 0, 2, false⟩ (Nat.le_refl _) (fun k hk => by cases hk) (by simp [newAt]) (Nat.le_refl _) (by simp) fun _ => ⟨w.heap.size, by simp [upd], by simp [hrl], fun _ => by simp, fun _ => ⟨cur, hadd.new, by simpa using hcz⟩⟩
  · simp only [Option.some.injEq, Prod.mk.injEq] at h
    obtain ⟨rfl, rfl, rfl⟩ := h
    have hstp := stp_foreign hr hadd
    refine ⟨ρ, rel_foreign hr hadd, hstp, ?_, fun _ => ⟨ext_add hadd, rfl, rfl⟩⟩
    refine .sl z.length rs (some len) _ len len hrl.symm (Nat.le_refl _) (fun k hk => by injection hk) hin.1 w.heap.size 0 (fun i j => cur.getD (i * z.length + j) undef) (fun _ => rfl) (fun i' r' j d hi2 hj => ?_) (fun i' r' j d hi2 hj => ?_)
    · obtain ⟨h1, h2, v, h3, h4⟩ := hin.2 i' r' j d hi2 hj
      obtain ⟨h5, h6⟩ := Array.getElem?_eq_some_iff.1 h3
      refine ⟨?_, ⟨by rw [hadd.size]; omega, fun hx => by have := (hr.hid _ _ hx).1; omega, fun g hg => by have := hr.lt hg; omega⟩, h2⟩
      rw [cell_of_row _ _ _ cur e (0, 0) hadd.new, Nat.zero_add, h3]
      simp [Array.getD, h5, h6]
    · obtain ⟨h1, h2, v, h3, h4⟩ := hin.2 i' r' j d hi2 hj
      obtain ⟨h5, h6⟩ := Array.getElem?_eq_some_iff.1 h3
      have : cur.getD (i' * z.length + j) undef = v := by simp [Array.getD, h5, h6]
      rw [this]
      exact h4.mono hstp
end
end Go.Proofs.YtabgobmeibjeeaaGreatDoor

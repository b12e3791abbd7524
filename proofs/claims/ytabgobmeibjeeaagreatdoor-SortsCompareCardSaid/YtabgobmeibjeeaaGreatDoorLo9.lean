/- Proved here: the abstract machine's stores and appends are the model's; no condition. -/
import Derived.Test.YtabgobmeibjeeaaGreatDoorLo8
namespace Go.Proofs.YtabgobmeibjeeaaGreatDoor
open Go.RowKit
set_option linter.unusedVariables false
set_option linter.unusedSimpArgs false

section
variable {P : Program} {w : World} {ρ : RMap} {S : St}

theorem splice_get {cur vs : List Value} {o : Nat} (h : o + vs.length ≤ cur.length) (q : Nat) : (cur.take o ++ vs ++ cur.drop (o + vs.length))[q]? = if o ≤ q ∧ q < o + vs.length then vs[q - o]? else cur[q]? := by
  have ht : (cur.take o).length = o := by simp; omega
  rw [List.append_assoc]
  by_cases h1 : q < o
  · rw [List.getElem?_append_left (by omega), if_neg (by omega), List.getElem?_take, if_pos h1]
  · rw [List.getElem?_append_right (by omega), ht]
    by_cases h2 : q < o + vs.length
    · rw [List.getElem?_append_left (by omega), if_pos (by omega)]
    · rw [List.getElem?_append_right (by omega), if_neg (by omega), List.getElem?_drop]
      congr 1
      omega

theorem row_apart {i k sz j o n : Nat} (hne : i ≠ k) (hj : j < sz) (ho : o + n ≤ sz) : ¬ (i * sz + o ≤ k * sz + j ∧ k * sz + j < i * sz + o + n) := by
  rintro ⟨h5, h6⟩
  rcases Nat.lt_or_gt_of_ne hne with hlt | hgt
  · have := Nat.mul_le_mul_right sz hlt
    rw [Nat.succ_mul] at this
    omega
  · have := Nat.mul_le_mul_right sz hgt
    rw [Nat.succ_mul] at this
    omega
theorem row_in {i n sz j : Nat} (hi : i < n) (hj : j < sz) : i * sz + j < n * sz := by
  have := Nat.mul_le_mul_right sz hi
  rw [Nat.succ_mul] at this
  omega

theorem store_ok {a x : D} {va vx : Value} {sz : Nat} {S' : St} {t : TypeId} (hr : Rel w ρ S.heap) (ha : VR w ρ S.heap a va) (hx : VR w ρ S.heap x vx) (hsz : sizeT P t = some sz) (h : storeD sz S a x = some S') :
    ∃ w', (Instr.storeAt t va vx).run P w = .ok () w' ∧ OpPost w ρ S .undef S' true undef w' := by
  unfold storeD at h
  split at h
  · rename_i g ver i o
    cases ha with
    | ptr _ _ _ _ ad ob hg hver hk3 hcur =>
      unfold rowsOf at h
      simp only [hg] at h
      by_cases hv : ob.ver = ver
      · subst hv
        simp only [if_true] at h
        cases hrow : ob.rows[i]? with
        | none => simp [hrow] at h
        | some row =>
          simp only [hrow] at h
          obtain ⟨b, hρ, rfl⟩ := hcur rfl
          obtain ⟨o1, ho1, cur, hc, hz, ⟨cc, hcc, hcl, hcm, hcg⟩, hl, hk, hh⟩ := hr.cel hρ hg hk3
          rw [hg] at ho1
          injection ho1 with ho1
          subst ho1
          split at h
          · rename_i y hy
            have hyv : VR w ρ S.heap y vx := by
              split at hy
              · simp only [Option.some.injEq] at hy; subst hy; exact hx
              · exact snapV_ok hr (Nat.le_refl _) hx hy
            split at h
            · rename_i hcond
              simp only [Bool.and_eq_true, beq_iff_eq, decide_eq_true_eq, Bool.or_eq_true] at hcond
              obtain ⟨⟨⟨h1, h2⟩, h3⟩, h4⟩ := hcond
              simp only [Option.some.injEq] at h
              subst h
              obtain ⟨hcr, hcell, hone⟩ := hyv.cells h1
              have hrl : row.length = ob.sz := hl row (List.mem_of_getElem? hrow)
              have hil := lt_of_some hrow
              have hvs : vx.cells.toList.length = sz := by rw [← h2, ← hcr.1]; simp
              have hend : i * ob.sz + ob.sz ≤ cur.size := by
                rw [hcc, ← Nat.succ_mul]
                exact Nat.mul_le_mul_right _ (by omega)
              have hst := run_storeCells_at P b (i * ob.sz + o) ob.elem vx.cells.toList 0 cur w hc (by rw [hvs]; omega) hone
              simp only [Nat.add_zero] at hst
              have hrun : (Instr.storeAt t (.pointer (some ⟨b, i * ob.sz + o, none⟩)) vx).run P w = .ok () (w.setRow b (cur.toList.take (i * ob.sz + o) ++ vx.cells.toList ++ cur.toList.drop (i * ob.sz + o + vx.cells.toList.length)).toArray) := by
                have hsz2 : vx.cells.size = sz := by simpa using hvs
                simp only [Instr.storeAt, Instr.sureAddr, storeVar, Sem.run_bind, Sem.run_pure, Result.andThen_ok, run_sizeOf hsz, hsz2]
                simp [hst]
              refine ⟨_, hrun, ?_⟩
              have hset := SetBlk.setRow (cs := (cur.toList.take (i * ob.sz + o) ++ vx.cells.toList ++ cur.toList.drop (i * ob.sz + o + vx.cells.toList.length)).toArray) hc
              have hget : ∀ q : Nat, (cur.toList.take (i * ob.sz + o) ++ vx.cells.toList ++ cur.toList.drop (i * ob.sz + o + vx.cells.toList.length)).toArray[q]? = if i * ob.sz + o ≤ q ∧ q < i * ob.sz + o + sz then vx.cells[q - (i * ob.sz + o)]? else cur[q]? := by
                intro q
                have := splice_get (cur := cur.toList) (vs := vx.cells.toList) (o := i * ob.sz + o) (by rw [hvs]; simp; omega) q
                rw [hvs] at this
                simpa [hvs] using this
              have hsize : (cur.toList.take (i * ob.sz + o) ++ vx.cells.toList ++ cur.toList.drop (i * ob.sz + o + vx.cells.toList.length)).toArray.size = cur.size := by
                have hvs2 : vx.cells.size = sz := by simpa using hvs
                simp only [List.size_toArray, List.length_append, List.length_take, List.length_drop, Array.length_toList]
                omega
              have hnk1 : ob.kind ≠ 1 := by
                rcases h4 with h4 | h4
                · omega
                · omega
              generalize (cur.toList.take (i * ob.sz + o) ++ vx.cells.toList ++ cur.toList.drop (i * ob.sz + o + vx.cells.toList.length)).toArray = cur' at hset hget hsize
              have hol : (overlay row o y.cells).length = ob.sz := by rw [overlay_len (by omega), hrl]
              have he : ({ ob with rows := ob.rows.set i (overlay row o y.cells) } : AObj).sz = ob.sz ∧ ({ ob with rows := ob.rows.set i (overlay row o y.cells) } : AObj).elem = ob.elem ∧ ({ ob with rows := ob.rows.set i (overlay row o y.cells) } : AObj).kind = ob.kind ∧ ob.rows.length ≤ ({ ob with rows := ob.rows.set i (overlay row o y.cells) } : AObj).rows.length ∧ ob.ver ≤ ({ ob with rows := ob.rows.set i (overlay row o y.cells) } : AObj).ver :=
                ⟨rfl, rfl, rfl, by simp, Nat.le_refl _⟩
              refine ⟨ρ, rel_set hk3 hr hρ hg hc hset hsize he (fun e => absurd e hnk1) ⟨cc, by rw [hsize, hcc], by simpa using hcl, hcm, by simpa using hcg⟩ (fun r hr' => ?_) (fun i' r j d hi' hj => ?_), stp_set hr hρ hg hc hset hsize he (fun e => absurd e hnk1), .undef _, by simp⟩
              · rcases List.mem_or_eq_of_mem_set hr' with hr' | rfl
                · exact hl r hr'
                · exact hol
              · by_cases e : i = i'
                · subst e
                  simp only [List.getElem?_set_self hil, Option.some.injEq] at hi'
                  subst hi'
                  have hjl : j < ob.sz := by rw [← hol]; exact lt_of_some hj
                  rw [overlay_get (by omega)] at hj
                  split at hj
                  · rename_i hin
                    obtain ⟨u, hu1, hu2⟩ := hcr.get hj
                    refine ⟨hcell d (List.mem_of_getElem? hj), fun hk0 => ?_, u, ?_, hu2⟩
                    · rcases h4 with h4 | h4
                      · exact absurd h4 hk0
                      · exact List.all_eq_true.1 h4.2 d (List.mem_of_getElem? hj)
                    · rw [hget, if_pos (by simp only; omega)]
                      rw [show i * ob.sz + j - (i * ob.sz + o) = j - o by omega]
                      exact hu1
                  · rename_i hout
                    obtain ⟨k1, k2, u, hu1, hu2⟩ := hh i row j d hrow hj
                    refine ⟨k1, k2, u, ?_, hu2⟩
                    rw [hget, if_neg (by simp only; omega)]
                    exact hu1
                · simp only [List.getElem?_set_ne e] at hi'
                  obtain ⟨k1, k2, u, hu1, hu2⟩ := hh i' r j d hi' hj
                  have hjl : j < ob.sz := by rw [← hl r (List.mem_of_getElem? hi')]; exact lt_of_some hj
                  refine ⟨k1, k2, u, ?_, hu2⟩
                  rw [hget, if_neg (row_apart e hjl (by omega))]
                  exact hu1
            · simp at h
          · simp at h
      · simp [hv] at h
  · simp at h

/-! append -/
def flat (m sz : Nat) (f : Nat → Nat → Value) : List Value := (List.range (m * sz)).map fun q => f (q / sz) (q % sz)
theorem flat_len (m sz : Nat) (f : Nat → Nat → Value) : (flat m sz f).length = m * sz := by simp [flat]
theorem flat_get {m sz i j : Nat} {f : Nat → Nat → Value} (hi : i < m) (hj : j < sz) : (flat m sz f)[i * sz + j]? = some (f i j) := by
  have h0 : 0 < sz := by omega
  simp only [flat, List.getElem?_map, List.getElem?_range (row_in hi hj), Option.map_some]
  rw [Nat.mul_comm, Nat.mul_add_div h0, Nat.div_eq_of_lt hj, Nat.mul_add_mod, Nat.mod_eq_of_lt hj, Nat.add_zero]
theorem flat_back {m sz q : Nat} {f : Nat → Nat → Value} {u : Value} (h0 : 0 < sz) (h : (flat m sz f)[q]? = some u) : q / sz < m ∧ q % sz < sz ∧ u = f (q / sz) (q % sz) ∧ q = q / sz * sz + q % sz := by
  have hq : q < m * sz := by rw [← flat_len m sz f]; exact lt_of_some h
  simp only [flat, List.getElem?_map, List.getElem?_range hq, Option.map_some, Option.some.injEq] at h
  refine ⟨Nat.div_lt_of_lt_mul (by rwa [Nat.mul_comm] at hq), Nat.mod_lt _ h0, h.symm, ?_⟩
  rw [Nat.mul_comm]
  exact (Nat.div_add_mod q sz).symm

/-- the rows that a slice reads, in memory -/
def SrcAt (w : World) (ρ : RMap) (H : List AObj) (sz : Nat) (rows : List (List D)) (v : Value) : Prop :=
  ∃ A c, v = .slice A rows.length c ∧ (∀ r ∈ rows, r.length = sz) ∧ (rows ≠ [] → ∃ (b o : Nat) (f : Nat → Nat → Value), A = some ⟨b, o, none⟩ ∧ ∀ i r j d, rows[i]? = some r → r[j]? = some d → w.cell? ⟨b, o + i * sz + j, none⟩ = some (f i j) ∧ VR w ρ H d (f i j) ∧ d.isCell = true ∧ d.free = true)
theorem free_cell {d : D} (h : d.free = true) : d.isCell = true := by cases d <;> simp [D.free, D.isCell] at h ⊢
theorem src_ok {sz : Nat} {x : D} {v : Value} {rows : List (List D)} (hr : Rel w ρ S.heap) (hx : VR w ρ S.heap x v) (h : readRows S sz x = some rows) : SrcAt w ρ S.heap sz rows v := by
  unfold readRows at h
  split at h
  · cases hx
    simp only [Option.some.injEq] at h
    subst h
    exact ⟨none, 0, rfl, by simp, fun h => absurd rfl h⟩
  · split at h
    · rename_i hs
      subst hs
      simp only [Option.some.injEq] at h
      subst h
      cases hx with
      | sl _ _ _ A n c hn hnc hcap hz b o f hA hc hv =>
        refine ⟨some A, c, by rw [hn], hz, fun hne => ⟨b, o, f, by rw [hA hne], fun i r j d hi hj => ?_⟩⟩
        obtain ⟨h1, h2, h3⟩ := hc i r j d hi hj
        exact ⟨h1, hv i r j d hi hj, free_cell h3, h3⟩
    · simp at h
  · rename_i g ver lo n cap
    cases hx with
    | msl _ _ _ _ _ A c ob hnc hcap hg hver hk3 hcur =>
      unfold rowsOf at h
      simp only [hg] at h
      by_cases hv : ob.ver = ver
      · simp only [hv, if_true] at h
        split at h
        · rename_i hs
          simp only [Option.some.injEq] at h
          subst h
          obtain ⟨b, hρ, hlo, hA, _⟩ := hcur hv
          obtain ⟨o1, ho1, cur, hc, hz, hcap', hl, hk, hh⟩ := hr.cel hρ hg hk3
          rw [hg] at ho1
          injection ho1 with ho1
          subst ho1
          have hlen : ((ob.rows.drop lo).take n).length = n := by simp; omega
          refine ⟨some A, c, by rw [hlen], fun r hr' => by rw [← hs.1]; exact hl r (mem_drop_take hr'), fun hne => ⟨b, lo * ob.sz, fun i j => cur.getD ((lo + i) * ob.sz + j) undef, ?_, fun i r j d hi hj => ?_⟩⟩
          · rw [hA]
            left
            intro h0
            subst h0
            simp at hne
          · obtain ⟨h1, h2⟩ := drop_take_get hi
            obtain ⟨h3, h4, u, hu1, hu2⟩ := hh _ r j d h1 hj
            obtain ⟨h5, h6⟩ := Array.getElem?_eq_some_iff.1 hu1
            have hg1 : cur.getD ((lo + i) * ob.sz + j) undef = u := by simp [Array.getD, h5, h6]
            simp only [hg1]
            refine ⟨?_, hu2, h3, h4 (by omega)⟩
            rw [cell_of_row w b _ cur ob.elem (0, 0) hc, ← hu1, ← hs.1]
            congr 1
            rw [Nat.add_mul]
        · simp at h
      · simp [hv] at h
  · simp at h
/-- a list of rows behind another in one block -/
theorem rowsIn_app {H : List AObj} {sz n : Nat} {rows new : List (List D)} {olds news : List Value} {cur : Array Value} (hn : n = rows.length)
    (h1 : ∀ r ∈ rows, r.length = sz) (h2 : ∀ r ∈ new, r.length = sz)
    (ho : ∀ i r j d, rows[i]? = some r → r[j]? = some d → d.isCell = true ∧ d.free = true ∧ ∃ v, olds[i * sz + j]? = some v ∧ VR w ρ H d v) (hol : olds.length = n * sz)
    (hw : ∀ i r j d, new[i]? = some r → r[j]? = some d → d.isCell = true ∧ d.free = true ∧ ∃ v, news[i * sz + j]? = some v ∧ VR w ρ H d v)
    (hc : ∀ (q : Nat) (u : Value), (olds ++ news)[q]? = some u → cur[q]? = some u) : RowsIn w ρ H sz (rows ++ new) cur := by
  refine ⟨fun r hr => ?_, fun i r j d hi hj => ?_⟩
  · rcases List.mem_append.1 hr with h | h
    · exact h1 r h
    · exact h2 r h
  · by_cases hlt : i < rows.length
    · rw [List.getElem?_append_left hlt] at hi
      obtain ⟨k1, k2, v, k3, k4⟩ := ho i r j d hi hj
      refine ⟨k1, k2, v, hc _ _ ?_, k4⟩
      rw [List.getElem?_append_left (lt_of_some k3)]
      exact k3
    · rw [List.getElem?_append_right (by omega)] at hi
      obtain ⟨k1, k2, v, k3, k4⟩ := hw _ r j d hi hj
      refine ⟨k1, k2, v, hc _ _ ?_, k4⟩
      have e : i * sz + j = n * sz + ((i - rows.length) * sz + j) := by
        rw [hn, ← Nat.add_assoc, ← Nat.add_mul]
        congr 2
        omega
      rw [e, List.getElem?_append_right (by omega), hol, Nat.add_sub_cancel_left]
      exact k3

theorem appNone {t ty e : TypeId} {i : TypeInfo} (ht : P.underlying t = some (.slice e)) (hi : P.info? e = some i) {A B : Option Addr} {n c c' : Nat} (hnc : n ≤ c) :
    (Builtin.append_ #[t, t] ty #[.slice A n c, .slice B 0 c']).run P w = .ok (.slice A n c) w := by
  cases A with
  | none => cases B <;> simp [Builtin.append_, run_underlying ht, sizeOf, typeInfo, hi, Builtin.lenOf, Builtin.firstCells, hnc, loadCells, loadCellsFrom]
  | some a => cases B <;> simp [Builtin.append_, run_underlying ht, sizeOf, typeInfo, hi, Builtin.lenOf, Builtin.firstCells, hnc, loadCells, loadCellsFrom, storeCells]

/-- append, whatever the cells come from -/
theorem append_core {t u ty e : TypeId} {i : TypeInfo} {n kind : Nat} {z : List D} {s r : D} {zv vs vx : Value} {S' : St} {wr : Bool} {new : List (List D)} (hr : Rel w ρ S.heap) (hi : P.info? e = some i) (hn : sizeT P e = some n) (hzc : CR w ρ S.heap z zv.cells) (hzl : z.length = n) (hb : 0 < i.bytes) (hk : kind = 1 ∨ kind = 2)
    (hs : VR w ρ S.heap s vs)
    (hrl : ∀ r ∈ new, r.length = n) (hnone : new = [] → ∀ (A : Option Addr) (m c : Nat), m ≤ c → (Builtin.append_ #[t, u] ty #[.slice A m c, vx]).run P w = .ok (.slice A m c) w)
    (hsrc2 : new ≠ [] → ∃ (news : List Value), news.length = new.length * n ∧ (∀ u ∈ news, u.oneCell' = true) ∧
      (∀ i r j d, new[i]? = some r → r[j]? = some d → d.isCell = true ∧ d.free = true ∧ ∃ v, news[i * n + j]? = some v ∧ VR w ρ S.heap d v) ∧
      (0 < new.length → ((new.length : Nat) : Int) ≤ 9223372036854775807 → new.length * i.bytes ≤ 281474976710656 → (Builtin.append_ #[t, u] ty #[.slice none 0 0, vx]).run P w = .ok (.slice (some ⟨w.heap.size, 0, none⟩) new.length (grownCap w new.length 0 e)) (w.drew.alloc (.cells (news.toArray ++ Builtin.zeroCells zv.cells (grownCap w new.length 0 e - new.length)) e))) ∧
      (∀ (b : Addr) (sLen sCap : Nat) (olds : List Value), olds.length = sLen * i.size → (∀ j v, olds[j]? = some v → w.cell? (b.add j) = some v) → sCap < sLen + new.length → ((sLen + new.length : Nat) : Int) ≤ 9223372036854775807 → Builtin.nextslicecap (sLen + new.length) sCap * i.bytes ≤ 281474976710656 →
        (Builtin.append_ #[t, u] ty #[.slice (some b) sLen sCap, vx]).run P w = .ok (.slice (some ⟨w.heap.size, 0, none⟩) (sLen + new.length) (grownCap w (sLen + new.length) sCap e)) (w.drew.alloc (.cells (olds.toArray ++ news.toArray ++ Builtin.zeroCells zv.cells (grownCap w (sLen + new.length) sCap e - (sLen + new.length))) e))) ∧
      (∀ (g sLen sCap : Nat) (cur : Array Value), w.heap[g]? = some (.cells cur e (0, 0)) → sLen + new.length ≤ sCap → sLen * i.size + news.length ≤ cur.size →
        (Builtin.append_ #[t, u] ty #[.slice (some ⟨g, 0, none⟩) sLen sCap, vx]).run P w = .ok (.slice (some ⟨g, 0, none⟩) (sLen + new.length) sCap) (w.setRow g (cur.toList.take (sLen * i.size) ++ news ++ cur.toList.drop (sLen * i.size + news.length)).toArray)))
    (h : appendRows e n i.bytes kind s new S = some (r, S', wr)) :
    ∃ v w', (Builtin.append_ #[t, u] ty #[vs, vx]).run P w = .ok v w' ∧ OpPost w ρ S r S' wr v w' := by
  obtain ⟨i2, d2, hi2, hd2, hsz, h0⟩ := sizeT_some hn
  rw [hi] at hi2
  injection hi2 with hi2
  subst hi2
  have hzs : zv.cells.size = n := by rw [hzc.1, hzl]
  unfold appendRows at h
  have hm63 : ∀ m : Nat, m * i.bytes ≤ 140737488355328 → m ≤ 9223372036854775807 ∧ m ≤ maxLen := by
    intro m hm
    have : m * 1 ≤ m * i.bytes := Nat.mul_le_mul_left _ hb
    simp only [maxLen]
    omega
  split at h
  · -- onto nil
    cases hs
    split at h
    · rename_i he
      simp only [Option.some.injEq, Prod.mk.injEq] at h
      obtain ⟨rfl, rfl, rfl⟩ := h
      have he : new = [] := by simpa using he
      subst he
      exact ⟨_, w, hnone rfl none 0 0 (Nat.le_refl _), OpPost.pure hr .nils⟩
    · rename_i he
      have he : new ≠ [] := by simpa using he
      split at h
      · rename_i hby
        simp only [Option.some.injEq, Prod.mk.injEq] at h
        obtain ⟨rfl, rfl, rfl⟩ := h
        obtain ⟨news, hnl, hn1, hnr, hNil, hGrow, hRoom⟩ := hsrc2 he
        have hpos : 0 < new.length := List.length_pos_iff.2 he
        obtain ⟨k1, k2⟩ := hm63 _ hby
        have hrun := hNil hpos (by omega) (by omega)
        have hadd := AddBlk.drewAlloc w (.cells (news.toArray ++ Builtin.zeroCells zv.cells (grownCap w new.length 0 e - new.length)) e)
        have hge := grownCap_ge w new.length 0 e
        have hcm := grownCap_le_maxLen w new.length 0 e k2
        have hin : RowsIn w ρ S.heap n new (news.toArray ++ Builtin.zeroCells zv.cells (grownCap w new.length 0 e - new.length)) :=
          ⟨hrl, fun i' r' j d hi' hj => by
            obtain ⟨q1, q2, v, q3, q4⟩ := hnr i' r' j d hi' hj
            refine ⟨q1, q2, v, ?_, q4⟩
            rw [Array.getElem?_append_left (by have := lt_of_some q3; simpa using this)]
            simpa using q3⟩
        have hcs : (news.toArray ++ Builtin.zeroCells zv.cells (grownCap w new.length 0 e - new.length)).size = grownCap w new.length 0 e * n := by
          simp only [Array.size_append, List.size_toArray, size_zeroCells, hzs, hnl, ← Nat.add_mul]
          congr 1
          omega
        refine ⟨_, _, hrun, _, rel_new (ob := ⟨e, n, new, 0, kind, true⟩) hr hadd h0 ⟨_, hcs, hge, hcm, by simp⟩ hrl (.inr hk) (fun i' r' j d hi' hj => ?_), stp_new hr hadd, ?_, by simp⟩
        · obtain ⟨q1, q2, q3⟩ := hin.2 i' r' j d hi' hj
          exact ⟨q1, fun _ => q2, q3⟩
        · refine .msl _ 0 0 _ none _ _ ⟨e, n, new, 0, kind, true⟩ hge (fun k hk => by cases hk) (by simp [newAt]) (Nat.le_refl _) (by rcases hk with rfl | rfl <;> simp) fun _ => ⟨w.heap.size, by simp [upd], by simp, fun _ => by simp, fun _ => ⟨_, hadd.new, by simpa using hcs⟩⟩
      · simp at h
  · -- onto an immutable slice
    rename_i s' rows cap
    cases hs with
    | sl _ _ _ A' n' c' hn' hnc' hcap' hz' b' o' f' hA' hc' hv' =>
    split at h
    · rename_i he
      simp only [Option.some.injEq, Prod.mk.injEq] at h
      obtain ⟨rfl, rfl, rfl⟩ := h
      have he : new = [] := by simpa using he
      subst he
      exact ⟨_, w, hnone rfl _ _ _ hnc', OpPost.pure hr (.sl _ _ _ A' n' c' hn' hnc' hcap' hz' b' o' f' hA' hc' hv')⟩
    · rename_i he
      have he : new ≠ [] := by simpa using he
      split at h
      · rename_i hcond
        obtain ⟨rfl, hcp, hby⟩ := hcond
        simp only [Option.some.injEq, Prod.mk.injEq] at h
        obtain ⟨rfl, rfl, rfl⟩ := h
        obtain ⟨news, hnl, hn1, hnr, hNil, hGrow, hRoom⟩ := hsrc2 he
        have hpos : 0 < new.length := List.length_pos_iff.2 he
        obtain ⟨k1, k2⟩ := hm63 _ hby
        have hcc := hcap' _ hcp
        subst hcc hn'
        have holds : ∀ (q : Nat) (u : Value), (flat rows.length s' f')[q]? = some u → w.cell? (A'.add q) = some u := by
          intro q u hq
          obtain ⟨h1, h2, h3, h4⟩ := flat_back h0 hq
          have hr1 := hz' _ (List.getElem_mem h1)
          have := (hc' _ _ _ _ (List.getElem?_eq_getElem h1) (List.getElem?_eq_getElem (show q % s' < (rows[q / s']).length by rw [hr1]; exact h2))).1
          rw [hA' (by rintro rfl; simp at h1), add_plain, h3]
          rw [Nat.add_assoc, ← h4] at this
          exact this
        have hrun := hGrow A' rows.length rows.length (flat rows.length s' f') (by rw [flat_len, hsz]) holds (by omega) (by omega) (growslice_fits (by omega) hby)
        have hadd := AddBlk.drewAlloc w (.cells ((flat rows.length s' f').toArray ++ news.toArray ++ Builtin.zeroCells zv.cells (grownCap w (rows.length + new.length) rows.length e - (rows.length + new.length))) e)
        have hge := grownCap_ge w (rows.length + new.length) rows.length e
        have hcm := grownCap_le_maxLen w (rows.length + new.length) rows.length e k2
        have hin : RowsIn w ρ S.heap s' (rows ++ new) ((flat rows.length s' f').toArray ++ news.toArray ++ Builtin.zeroCells zv.cells (grownCap w (rows.length + new.length) rows.length e - (rows.length + new.length))) := by
          refine rowsIn_app (olds := flat rows.length s' f') (news := news) rfl hz' hrl (fun i' r' j d hi' hj => ?_) (flat_len _ _ _) hnr (fun q u hq => ?_)
          · have hjl : j < s' := by rw [← hz' r' (List.mem_of_getElem? hi')]; exact lt_of_some hj
            have hfr := (hc' i' r' j d hi' hj).2.2
            exact ⟨free_cell hfr, hfr, _, flat_get (lt_of_some hi') hjl, hv' i' r' j d hi' hj⟩
          · have hql := lt_of_some hq
            rw [Array.getElem?_append_left (by simpa using hql)]
            simpa using hq
        have hcs : ((flat rows.length s' f').toArray ++ news.toArray ++ Builtin.zeroCells zv.cells (grownCap w (rows.length + new.length) rows.length e - (rows.length + new.length))).size = grownCap w (rows.length + new.length) rows.length e * s' := by
          simp only [Array.size_append, List.size_toArray, size_zeroCells, hzs, hnl, flat_len, ← Nat.add_mul]
          congr 1
          omega
        refine ⟨_, _, hrun, _, rel_new (ob := ⟨e, s', rows ++ new, 0, kind, true⟩) hr hadd h0 ⟨_, hcs, by simpa using hge, hcm, by simp⟩ hin.1 (.inr hk) (fun i' r' j d hi' hj => ?_), stp_new hr hadd, ?_, by simp⟩
        · obtain ⟨q1, q2, q3⟩ := hin.2 i' r' j d hi' hj
          exact ⟨q1, fun _ => q2, q3⟩
        · refine .msl _ 0 0 _ none _ _ ⟨e, s', rows ++ new, 0, kind, true⟩ hge (fun k hk => by cases hk) (by simp [newAt]) (Nat.le_refl _) (by rcases hk with rfl | rfl <;> simp) fun _ => ⟨w.heap.size, by simp [upd], by simp, fun _ => by simp, fun _ => ⟨_, hadd.new, by simpa using hcs⟩⟩
      · simp at h
  · -- onto rows of the heap
    rename_i g ver lo n' cap
    cases hs with
    | msl _ _ _ _ _ A' c' ob hnc' hcap' hg hver hk3 hcur =>
    unfold rowsOf at h
    simp only [hg] at h
    by_cases hv : ob.ver = ver
    · subst hv
      simp only [if_true] at h
      split at h
      · rename_i hcond
        obtain ⟨hsz', rfl, rfl, rfl, rfl, hkk, hby⟩ := hcond
        simp only [Option.some.injEq, Prod.mk.injEq] at h
        obtain ⟨rfl, rfl, rfl⟩ := h
        obtain ⟨b0, hρ, hlo, hA', hcp⟩ := hcur rfl
        have hA0 := hA' (.inr rfl)
        simp only [Nat.zero_mul] at hA0
        subst hA0
        obtain ⟨o1, ho1, cur, hc, hz, ⟨cc, hcc, hcl, hcm, hcg⟩, hl, hkk', hh⟩ := hr.cel hρ hg hk3
        rw [hg] at ho1
        injection ho1 with ho1
        subst ho1
        obtain ⟨cur1, hc1, hc2⟩ := hcp rfl
        rw [hc] at hc1
        injection hc1 with hc1
        injection hc1 with hc1
        subst hc1
        have hcc' : c' = cc := by
          rw [hcc, Nat.zero_add] at hc2
          exact (Nat.eq_of_mul_eq_mul_right hz hc2).symm
        subst hcc'
        obtain ⟨k1, k2⟩ := hm63 _ hby
        have hold : ∀ i r j d, ob.rows[i]? = some r → r[j]? = some d → d.isCell = true ∧ d.free = true ∧ ∃ v, (cur.toList.take (ob.rows.length * n))[i * n + j]? = some v ∧ VR w ρ S.heap d v := by
          intro i' r' j d hi' hj
          obtain ⟨q1, q2, v, q3, q4⟩ := hh i' r' j d hi' hj
          have hjl : j < ob.sz := by rw [← hl r' (List.mem_of_getElem? hi')]; exact lt_of_some hj
          refine ⟨q1, q2 (by omega), v, ?_, q4⟩
          rw [← hsz', List.getElem?_take, if_pos (row_in (lt_of_some hi') hjl)]
          simpa using q3
        have htl : (cur.toList.take (ob.rows.length * n)).length = ob.rows.length * n := by
          rw [List.length_take, Array.length_toList, hcc, hsz']
          exact Nat.min_eq_left (Nat.mul_le_mul_right _ hcl)
        have hprefix : ∀ q, q < ob.rows.length * n → (cur.toList.take (ob.rows.length * n))[q]? = cur[q]? := fun q hq => by
          rw [List.getElem?_take, if_pos hq]; simp
        have hl2 : ∀ r ∈ ob.rows, r.length = n := fun r hr' => by rw [← hsz']; exact hl r hr'
        by_cases he : new = []
        · subst he
          have hset : SetBlk w w b0 (.cells cur ob.elem (0, 0)) := ⟨rfl, rfl, rfl, rfl, hc, fun _ _ => rfl⟩
          have hest : ({ ob with rows := ob.rows ++ [], ver := ob.ver + 1, grow := true } : AObj).sz = ob.sz ∧ ({ ob with rows := ob.rows ++ [], ver := ob.ver + 1, grow := true } : AObj).elem = ob.elem ∧ ({ ob with rows := ob.rows ++ [], ver := ob.ver + 1, grow := true } : AObj).kind = ob.kind ∧ ob.rows.length ≤ ({ ob with rows := ob.rows ++ [], ver := ob.ver + 1, grow := true } : AObj).rows.length ∧ ob.ver ≤ ({ ob with rows := ob.rows ++ [], ver := ob.ver + 1, grow := true } : AObj).ver := ⟨rfl, rfl, rfl, by simp, by simp⟩
          refine ⟨_, w, hnone rfl _ _ _ hnc', ρ, rel_set hk3 hr hρ hg hc hset rfl hest (fun _ _ _ => rfl) ⟨c', hcc, by simpa using hcl, hcm, by simp⟩ (by simpa using hl) (by simpa using hh), stp_set hr hρ hg hc hset rfl hest (fun _ _ _ => rfl), ?_, by simp⟩
          refine .msl g _ 0 _ none _ _ { ob with rows := ob.rows ++ [], ver := ob.ver + 1, grow := true } (by simpa using hnc') (fun k hk => by cases hk) (by simp [setAt, lt_of_some hg]) (Nat.le_refl _) hk3 fun _ => ⟨b0, hρ, by simp, fun _ => by simp, fun _ => ⟨cur, hc, hc2⟩⟩
        · obtain ⟨news, hnl, hn1, hnr, hNil, hGrow, hRoom⟩ := hsrc2 he
          have hpos : 0 < new.length := List.length_pos_iff.2 he
          by_cases hroom : ob.rows.length + new.length ≤ c'
          · have hfit : ob.rows.length * n + news.length ≤ cur.size := by rw [hnl, hcc, hsz', ← Nat.add_mul]; exact Nat.mul_le_mul_right _ hroom
            have hrun := hRoom b0 ob.rows.length c' cur hc hroom (by rw [hsz]; exact hfit)
            rw [hsz] at hrun
            have hset := SetBlk.setRow (cs := (cur.toList.take (ob.rows.length * n) ++ news ++ cur.toList.drop (ob.rows.length * n + news.length)).toArray) hc
            have hget : ∀ q : Nat, (cur.toList.take (ob.rows.length * n) ++ news ++ cur.toList.drop (ob.rows.length * n + news.length)).toArray[q]? = if ob.rows.length * n ≤ q ∧ q < ob.rows.length * n + news.length then news[q - ob.rows.length * n]? else cur[q]? := by
              intro q
              have := splice_get (cur := cur.toList) (vs := news) (o := ob.rows.length * n) (by simpa using hfit) q
              simpa using this
            have hsize : (cur.toList.take (ob.rows.length * n) ++ news ++ cur.toList.drop (ob.rows.length * n + news.length)).toArray.size = cur.size := by
              simp only [List.size_toArray, List.length_append, List.length_take, List.length_drop, Array.length_toList]
              omega
            generalize (cur.toList.take (ob.rows.length * n) ++ news ++ cur.toList.drop (ob.rows.length * n + news.length)).toArray = cur' at hset hget hsize hrun
            have hin : RowsIn w ρ S.heap n (ob.rows ++ new) cur' := by
              refine rowsIn_app rfl hl2 hrl hold htl hnr (fun q u hq => ?_)
              by_cases hq1 : q < ob.rows.length * n
              · rw [List.getElem?_append_left (by omega), hprefix q hq1] at hq
                rw [hget, if_neg (by omega)]
                exact hq
              · rw [List.getElem?_append_right (by omega), htl] at hq
                rw [hget, if_pos ⟨by omega, by have := lt_of_some hq; omega⟩]
                exact hq
            have hest : ({ ob with rows := ob.rows ++ new, ver := ob.ver + 1, grow := true } : AObj).sz = ob.sz ∧ ({ ob with rows := ob.rows ++ new, ver := ob.ver + 1, grow := true } : AObj).elem = ob.elem ∧ ({ ob with rows := ob.rows ++ new, ver := ob.ver + 1, grow := true } : AObj).kind = ob.kind ∧ ob.rows.length ≤ ({ ob with rows := ob.rows ++ new, ver := ob.ver + 1, grow := true } : AObj).rows.length ∧ ob.ver ≤ ({ ob with rows := ob.rows ++ new, ver := ob.ver + 1, grow := true } : AObj).ver := ⟨rfl, rfl, rfl, by simp, by simp⟩
            have himm : ob.kind = 1 → ∀ q, q < ob.rows.length * ob.sz → cur'[q]? = cur[q]? := fun _ q hq => by rw [hget, if_neg (by rw [hsz'] at hq; omega)]
            refine ⟨_, _, hrun, ρ, rel_set hk3 hr hρ hg hc hset hsize hest himm ⟨c', by rw [hsize]; exact hcc, by simpa using hroom, hcm, by simp⟩ (by simpa [hsz'] using hin.1) (fun i' r' j d hi' hj => ?_), stp_set hr hρ hg hc hset hsize hest himm, ?_, by simp⟩
            · obtain ⟨q1, q2, q3⟩ := hin.2 i' r' j d hi' hj
              exact ⟨q1, fun _ => q2, by simpa [hsz'] using q3⟩
            · refine .msl g _ 0 _ none _ _ { ob with rows := ob.rows ++ new, ver := ob.ver + 1, grow := true } hroom (fun k hk => by cases hk) (by simp [setAt, lt_of_some hg]) (Nat.le_refl _) hk3 fun _ => ⟨b0, hρ, by simp, fun _ => by simp, fun _ => ⟨cur', hset.new, by rw [hsize]; exact hc2⟩⟩
          · have holds : ∀ (q : Nat) (u : Value), (cur.toList.take (ob.rows.length * n))[q]? = some u → w.cell? ((⟨b0, 0, none⟩ : Addr).add q) = some u := by
              intro q u hq
              have hql := lt_of_some hq
              rw [htl] at hql
              rw [hprefix q hql] at hq
              rw [add_plain, Nat.zero_add, cell_of_row w b0 q cur ob.elem (0, 0) hc]
              exact hq
            have hrun := hGrow ⟨b0, 0, none⟩ ob.rows.length c' (cur.toList.take (ob.rows.length * n)) (by rw [htl, hsz]) holds (by omega) (by omega) (growslice_fits (by omega) hby)
            have hadd := AddBlk.drewAlloc w (.cells ((cur.toList.take (ob.rows.length * n)).toArray ++ news.toArray ++ Builtin.zeroCells zv.cells (grownCap w (ob.rows.length + new.length) c' ob.elem - (ob.rows.length + new.length))) ob.elem)
            have hge := grownCap_ge w (ob.rows.length + new.length) c' ob.elem
            have hcm' := grownCap_le_maxLen w (ob.rows.length + new.length) c' ob.elem k2
            have hcs : ((cur.toList.take (ob.rows.length * n)).toArray ++ news.toArray ++ Builtin.zeroCells zv.cells (grownCap w (ob.rows.length + new.length) c' ob.elem - (ob.rows.length + new.length))).size = grownCap w (ob.rows.length + new.length) c' ob.elem * n := by
              simp only [Array.size_append, List.size_toArray, size_zeroCells, hzs, hnl, htl, ← Nat.add_mul]
              congr 1
              omega
            have hin : RowsIn w ρ S.heap n (ob.rows ++ new) ((cur.toList.take (ob.rows.length * n)).toArray ++ news.toArray ++ Builtin.zeroCells zv.cells (grownCap w (ob.rows.length + new.length) c' ob.elem - (ob.rows.length + new.length))) := by
              refine rowsIn_app rfl hl2 hrl hold htl hnr (fun q u hq => ?_)
              have hql := lt_of_some hq
              rw [Array.getElem?_append_left (by simpa using hql)]
              simpa using hq
            generalize ((cur.toList.take (ob.rows.length * n)).toArray ++ news.toArray ++ Builtin.zeroCells zv.cells (grownCap w (ob.rows.length + new.length) c' ob.elem - (ob.rows.length + new.length))) = cur' at hadd hin hcs hrun
            refine ⟨_, _, hrun, _, rel_move (o' := { ob with rows := ob.rows ++ new, ver := ob.ver + 1, grow := true }) hr hρ hg hadd (by simp) rfl (by simpa [hsz'] using h0) hkk' ⟨_, by rw [hcs, ← hsz'], by simpa using hge, hcm', by simp⟩ (by simpa [hsz'] using hin.1) (fun i' r' j d hi' hj => ?_), stp_move (o' := { ob with rows := ob.rows ++ new, ver := ob.ver + 1, grow := true }) hr hρ hg hadd (by simp) rfl, ?_, by simp⟩
            · obtain ⟨q1, q2, q3⟩ := hin.2 i' r' j d hi' hj
              exact ⟨q1, fun _ => q2, by simpa [hsz'] using q3⟩
            · refine .msl g _ 0 _ none _ _ { ob with rows := ob.rows ++ new, ver := ob.ver + 1, grow := true } hge (fun k hk => by cases hk) (by simp [setAt, lt_of_some hg]) (Nat.le_refl _) hk3 fun _ => ⟨w.heap.size, by simp [upd], by simp, fun _ => by simp, fun _ => ⟨cur', hadd.new, by rw [hcs, hsz']; simp⟩⟩
      · simp at h
    · simp [hv] at h
  · simp at h

theorem append_ok {t ty e : TypeId} {i : TypeInfo} {n kind : Nat} {z : List D} {s x r : D} {vs vx : Value} {S' : St} {wr : Bool} (hr : Rel w ρ S.heap) (ht : P.underlying t = some (.slice e)) (hi : P.info? e = some i) (hn : sizeT P e = some n) (hz : zeroT P e = some z) (hzl : z.length = n) (hb : 0 < i.bytes) (hk : kind = 1 ∨ kind = 2)
    (hs : VR w ρ S.heap s vs) (hx : VR w ρ S.heap x vx) (h : appendD e n i.bytes kind s x S = some (r, S', wr)) :
    ∃ v w', (Builtin.append_ #[t, t] ty #[vs, vx]).run P w = .ok v w' ∧ OpPost w ρ S r S' wr v w' := by
  obtain ⟨i1, zv, hi1, hzv, hzc, _, _⟩ := zeroT_some (w := w) (ρ := ρ) (H := S.heap) hz
  rw [hi] at hi1
  injection hi1 with hi1
  subst hi1
  obtain ⟨i2, d2, hi2, hd2, hsz, h0⟩ := sizeT_some hn
  rw [hi] at hi2
  injection hi2 with hi2
  subst hi2
  unfold appendD at h
  cases hnew : readRows S n x with
  | none => simp [hnew] at h
  | some new =>
    simp only [hnew] at h
    obtain ⟨A, c, rfl, hrl, hsrc⟩ := src_ok hr hx hnew
    refine append_core hr hi hn hzc hzl hb hk hs hrl ?_ ?_ h
    · rintro rfl A' m c' hm
      exact appNone ht hi hm
    · intro hne
      obtain ⟨b, o, f, rfl, hf⟩ := hsrc hne
      have hat : ∀ (q : Nat) (u : Value), (flat new.length n f)[q]? = some u → ∃ (r : List D) (d : D), new[q / n]? = some r ∧ r[q % n]? = some d ∧ u = f (q / n) (q % n) ∧ q = q / n * n + q % n := by
        intro q u hq
        obtain ⟨h1, h2, h3, h4⟩ := flat_back h0 hq
        have hr1 := hrl _ (List.getElem_mem h1)
        exact ⟨new[q / n], (new[q / n])[q % n]'(by rw [hr1]; exact h2), List.getElem?_eq_getElem h1, List.getElem?_eq_getElem _, h3, h4⟩
      have hnl : (flat new.length n f).length = new.length * n := flat_len _ _ _
      have hnc : ∀ j u, (flat new.length n f)[j]? = some u → w.cell? ((⟨b, o, none⟩ : Addr).add j) = some u := fun j u hj => by
        obtain ⟨r, d, h1, h2, h3, h4⟩ := hat j u hj
        rw [add_plain, h3]
        have := (hf _ r _ d h1 h2).1
        rw [Nat.add_assoc, ← h4] at this
        exact this
      have hn1 : ∀ u ∈ flat new.length n f, u.oneCell' = true := fun u hu => by
        obtain ⟨q, hq, rfl⟩ := List.mem_iff_getElem.1 hu
        obtain ⟨r, d, h1, h2, h3, h4⟩ := hat q _ (List.getElem?_eq_getElem hq)
        rw [h3]
        exact ((hf _ r _ d h1 h2).2.1.oneCell (hf _ r _ d h1 h2).2.2.1).1
      refine ⟨flat new.length n f, hnl, hn1, fun i r j d hi' hj => ?_, fun hpos k1 k2 => ?_, fun bb sLen sCap olds hlo holds hg k1 k2 => ?_, fun g sLen sCap cur hg hroom hfit => ?_⟩
      · obtain ⟨h1, h2, h3, h4⟩ := hf i r j d hi' hj
        have hjl : j < n := by rw [← hrl r (List.mem_of_getElem? hi')]; exact lt_of_some hj
        exact ⟨h3, h4, _, flat_get (lt_of_some hi') hjl, h2⟩
      · exact run_append_nil (P := P) w t ty e i zv ht hi hzv ⟨b, o, none⟩ new.length c _ (by rw [hsz]; exact hnl) hnc hpos k1 k2
      · exact run_append_grow (P := P) w t ty e i zv ht hi hzv bb sLen sCap olds hlo holds ⟨b, o, none⟩ new.length c _ (by rw [hsz]; exact hnl) hnc hg k1 k2
      · exact run_append_room (P := P) w t ty e i ht hi g sLen sCap cur hg ⟨b, o, none⟩ new.length c _ (by rw [hsz]; exact hnl) hnc hn1 hroom hfit
end
end Go.Proofs.YtabgobmeibjeeaaGreatDoor

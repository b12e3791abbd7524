/- Proved here: what a new block, a written block and a block laid anew do to the relation of the abstract heap and the world; no condition. -/
import Derived.Test.YtabgobmeibjeeaaGreatDoorLo3
namespace Go.Proofs.YtabgobmeibjeeaaGreatDoor
open Go.RowKit
set_option linter.unusedVariables false

structure AddBlk (w w' : World) (o : Obj) : Prop where
  os : w'.os = w.os
  tape : w'.tape = w.tape
  output : w'.output = w.output
  size : w'.heap.size = w.heap.size + 1
  new : w'.heap[w.heap.size]? = some o
  old : ∀ k, k < w.heap.size → w'.heap[k]? = w.heap[k]?
structure SetBlk (w w' : World) (b : Nat) (o : Obj) : Prop where
  os : w'.os = w.os
  tape : w'.tape = w.tape
  output : w'.output = w.output
  size : w'.heap.size = w.heap.size
  new : w'.heap[b]? = some o
  old : ∀ k, k ≠ b → w'.heap[k]? = w.heap[k]?
theorem AddBlk.alloc (w : World) (o : Obj) : AddBlk w (w.alloc o) o := ⟨rfl, rfl, rfl, by simp, heap_alloc_new w o, fun k h => heap_alloc_old w o h⟩
theorem AddBlk.drewAlloc (w : World) (o : Obj) : AddBlk w (w.drew.alloc o) o := ⟨rfl, rfl, rfl, by simp, heap_alloc_new w.drew o, fun k h => heap_alloc_old w.drew o h⟩
theorem SetBlk.setRow {w : World} {b : Nat} {cur cs : Array Value} {t : TypeId} (h : w.heap[b]? = some (.cells cur t (0, 0))) : SetBlk w (w.setRow b cs) b (.cells cs t (0, 0)) :=
  ⟨rfl, rfl, rfl, by simp [World.setRow], setRow_heap w b cur cs t (0, 0) h, fun k hk => setRow_other w b k cs hk⟩

theorem cell_block {w w' : World} {b : Nat} (h : w'.heap[b]? = w.heap[b]?) (q : Nat) : w'.cell? ⟨b, q, none⟩ = w.cell? ⟨b, q, none⟩ := by
  simp [World.cell?, h]
theorem lt_of_heap {w : World} {b : Nat} {o : Obj} (h : w.heap[b]? = some o) : b < w.heap.size := (Array.getElem?_eq_some_iff.1 h).1
theorem Rel.lt {w : World} {ρ : RMap} {H : List AObj} (h : Rel w ρ H) {g b : Nat} (hb : ρ g = some b) : b < w.heap.size := by
  obtain ⟨o, _, hk⟩ := h.obj g b hb
  by_cases e : o.kind = 3
  · by_cases e0 : o.elem = 0
    · obtain ⟨es, clock, hc, _⟩ := (hk.2 e).1 e0
      exact lt_of_heap hc
    · obtain ⟨s, pos, hc, _⟩ := (hk.2 e).2 e0
      exact lt_of_heap hc
  · obtain ⟨cur, hc, _⟩ := hk.1 e
    exact lt_of_heap hc
/-- the cells of an object that is no map -/
theorem Rel.cel {w : World} {ρ : RMap} {H : List AObj} (h : Rel w ρ H) {g b : Nat} {ob : AObj} (hb : ρ g = some b) (hg : H[g]? = some ob) (hk : ob.kind ≠ 3) : ∃ o, H[g]? = some o ∧ ObjOK w ρ H o b := by
  obtain ⟨o, ho, hok⟩ := h.obj g b hb
  rw [hg] at ho
  injection ho with ho
  subst ho
  exact ⟨ob, hg, hok.1 hk⟩
theorem Rel.map {w : World} {ρ : RMap} {H : List AObj} (h : Rel w ρ H) {g b : Nat} {ob : AObj} (hb : ρ g = some b) (hg : H[g]? = some ob) (hk : ob.kind = 3) (he : ob.elem = 0) : MapOK w ρ H ob b := by
  obtain ⟨o, ho, hok⟩ := h.obj g b hb
  rw [hg] at ho
  injection ho with ho
  subst ho
  exact (hok.2 hk).1 he
theorem Rel.iter {w : World} {ρ : RMap} {H : List AObj} (h : Rel w ρ H) {g b : Nat} {ob : AObj} (hb : ρ g = some b) (hg : H[g]? = some ob) (hk : ob.kind = 3) (he : ob.elem ≠ 0) : IterOK w ob b := by
  obtain ⟨o, ho, hok⟩ := h.obj g b hb
  rw [hg] at ho
  injection ho with ho
  subst ho
  exact (hok.2 hk).2 he
theorem Rel.in {w : World} {ρ : RMap} {H : List AObj} (h : Rel w ρ H) {g b : Nat} (hb : ρ g = some b) : g < H.length := by
  obtain ⟨o, ho, _⟩ := h.obj g b hb
  exact lt_of_some ho

/-- the object of a block that stays -/
theorem ObjOK.fwd {w w' : World} {ρ ρ' : RMap} {H H' : List AObj} (hs : Fwd w ρ H w' ρ' H') {o : AObj} {b : Nat} (h : ObjOK w ρ H o b) (hb : w'.heap[b]? = w.heap[b]?) : ObjOK w' ρ' H' o b := by
  obtain ⟨cur, hc, hz, hcap, hl, hk, hh⟩ := h
  refine ⟨cur, hb.trans hc, hz, hcap, hl, hk, fun i r j d hi hj => ?_⟩
  obtain ⟨h1, h2, v, hv, hvr⟩ := hh i r j d hi hj
  exact ⟨h1, h2, v, hv, hvr.fwd hs⟩

theorem MapOK.fwd {w w' : World} {ρ ρ' : RMap} {H H' : List AObj} (hs : Fwd w ρ H w' ρ' H') {o : AObj} {b : Nat} (h : MapOK w ρ H o b) (hb : w'.heap[b]? = w.heap[b]?) : MapOK w' ρ' H' o b := by
  obtain ⟨es, clock, hc, hz, hl, hh⟩ := h
  refine ⟨es, clock, hb.trans hc, hz, hl, fun i r hi => ?_⟩
  obtain ⟨e, k, v, h1, h2, h3, h4, h5, h6⟩ := hh i r hi
  exact ⟨e, k, v, h1, h2, h3, h4, h5.fwd hs, h6.fwd hs⟩
theorem AnyOK.fwd {w w' : World} {ρ ρ' : RMap} {H H' : List AObj} (hs : Fwd w ρ H w' ρ' H') {o : AObj} {b : Nat} (h : AnyOK w ρ H o b) (hb : w'.heap[b]? = w.heap[b]?) : AnyOK w' ρ' H' o b :=
  ⟨fun hk => (h.1 hk).fwd hs hb, fun hk => ⟨fun he => ((h.2 hk).1 he).fwd hs hb, fun he => by
    obtain ⟨s, pos, h1, h2⟩ := (h.2 hk).2 he
    exact ⟨s, pos, hb.trans h1, h2⟩⟩⟩
theorem ObjOK.mono {w w' : World} {ρ ρ' : RMap} {S S' : St} (hs : Stp w ρ S w' ρ' S') {o : AObj} {b : Nat} (h : ObjOK w ρ S.heap o b) (hb : w'.heap[b]? = w.heap[b]?) : ObjOK w' ρ' S'.heap o b := h.fwd hs.fwd hb
theorem MapOK.mono {w w' : World} {ρ ρ' : RMap} {S S' : St} (hs : Stp w ρ S w' ρ' S') {o : AObj} {b : Nat} (h : MapOK w ρ S.heap o b) (hb : w'.heap[b]? = w.heap[b]?) : MapOK w' ρ' S'.heap o b := h.fwd hs.fwd hb
theorem AnyOK.mono {w w' : World} {ρ ρ' : RMap} {S S' : St} (hs : Stp w ρ S w' ρ' S') {o : AObj} {b : Nat} (h : AnyOK w ρ S.heap o b) (hb : w'.heap[b]? = w.heap[b]?) : AnyOK w' ρ' S'.heap o b := h.fwd hs.fwd hb

def upd (ρ : RMap) (g b : Nat) : RMap := ⟨fun k => if k = g then some b else ρ k, ρ.X⟩

section
variable {w w' : World} {ρ : RMap} {S : St}

/-- a block that no object lies in -/
theorem stp_foreign {o : Obj} (hr : Rel w ρ S.heap) (h : AddBlk w w' o) : Stp w ρ S w' ρ S := by
  refine ⟨rfl, h.os, h.tape, h.output, by have := h.size; omega, Nat.le_refl _, fun b hb hg => ⟨h.old b hb, hg⟩, fun b q hi => ⟨cell_block (h.old b hi.1) q, by have := h.size; have := hi.1; exact ⟨by omega, hi.2.1, hi.2.2⟩⟩, fun g b o' ho hg hb => h.old b (hr.lt hb), fun g o' ho => ⟨o', ho, ⟨Nat.le_refl _, rfl⟩, fun _ => rfl, fun _ => ⟨rfl, rfl, rfl, Nat.le_refl _, fun b cur hb hc => ⟨cur, (h.old b (hr.lt hb)).trans hc, rfl⟩⟩⟩⟩
theorem rel_foreign {o : Obj} (hr : Rel w ρ S.heap) (h : AddBlk w w' o) : Rel w' ρ S.heap :=
  ⟨hr.inj, fun g b hb => by
    obtain ⟨o', ho, hk⟩ := hr.obj g b hb
    exact ⟨o', ho, hk.mono (stp_foreign hr h) (h.old b (hr.lt hb))⟩, hr.hids (stp_foreign hr h)⟩
theorem ext_add {o : Obj} (h : AddBlk w w' o) : Ext w w' := ⟨h.os, h.tape, h.output, by have := h.size; omega, h.old⟩

/-- a new object -/
theorem stp_new {o : Obj} {ob : AObj} (hr : Rel w ρ S.heap) (h : AddBlk w w' o) : Stp w ρ S w' (upd ρ S.heap.length w.heap.size) (newAt S ob) := by
  have hne : ∀ g b, ρ g = some b → g ≠ S.heap.length := fun g b hb e => by have := hr.in hb; omega
  refine ⟨rfl, h.os, h.tape, h.output, by have := h.size; omega, Nat.le_refl _, fun b hb hg => ⟨h.old b hb, fun g => ?_⟩, fun b q hi => ⟨cell_block (h.old b hi.1) q, by have := h.size; have := hi.1; omega, hi.2.1, fun g hg => ?_⟩, fun g b o' ho hg hb => h.old b (hr.lt hb), fun g o' ho => ?_⟩
  · simp only [upd]
    split
    · intro e; injection e with e; omega
    · exact hg g
  · simp only [upd] at hg
    split at hg
    · injection hg with hg; have := hi.1; omega
    · obtain ⟨o', ho, hk⟩ := hi.2.2 g hg
      exact ⟨o', by simp only [newAt]; rw [List.getElem?_append_left (lt_of_some ho)]; exact ho, hk⟩
  · have hlt := lt_of_some ho
    refine ⟨o', by simp only [newAt]; rw [List.getElem?_append_left hlt]; exact ho, ⟨Nat.le_refl _, rfl⟩, fun _ => rfl, fun _ => ⟨by simp only [upd]; rw [if_neg (by omega)], rfl, rfl, Nat.le_refl _, fun b cur hb hc => ⟨cur, (h.old b (hr.lt hb)).trans hc, rfl⟩⟩⟩
theorem rel_new {cur : Array Value} {ob : AObj} (hr : Rel w ρ S.heap) (h : AddBlk w w' (.cells cur ob.elem (0, 0))) (hz : 0 < ob.sz) (hcap : ∃ c, cur.size = c * ob.sz ∧ ob.rows.length ≤ c ∧ c ≤ maxLen ∧ (ob.grow = false → c = ob.rows.length))
    (hl : ∀ r ∈ ob.rows, r.length = ob.sz) (hk : ob.kind = 0 ∨ ob.kind = 1 ∨ ob.kind = 2)
    (hh : ∀ i r j d, ob.rows[i]? = some r → r[j]? = some d → d.isCell = true ∧ (ob.kind ≠ 0 → d.free = true) ∧ ∃ v, cur[i * ob.sz + j]? = some v ∧ VR w ρ S.heap d v) :
    Rel w' (upd ρ S.heap.length w.heap.size) (newAt S ob).heap := by
  have hs := stp_new (ob := ob) hr h
  refine ⟨fun g g' b hg hg' => ?_, fun g b hb => ?_, hr.hids hs⟩
  · simp only [upd] at hg hg'
    split at hg <;> split at hg'
    · omega
    · injection hg with hg; have := hr.lt hg'; omega
    · injection hg' with hg'; have := hr.lt hg; omega
    · exact hr.inj g g' b hg hg'
  · simp only [upd] at hb
    split at hb
    · rename_i hgn
      injection hb with hb
      subst hb hgn
      refine ⟨ob, by simp [newAt], fun _ => ⟨cur, h.new, hz, hcap, hl, hk, fun i r j d hi hj => ?_⟩, fun e => by omega⟩
      obtain ⟨h1, h2, v, hv, hvr⟩ := hh i r j d hi hj
      exact ⟨h1, h2, v, hv, hvr.mono hs⟩
    · obtain ⟨o', ho, hk'⟩ := hr.obj g b hb
      exact ⟨o', by simp only [newAt]; rw [List.getElem?_append_left (lt_of_some ho)]; exact ho, hk'.mono hs (h.old b (hr.lt hb))⟩

/-- an object is written in its block -/
theorem stp_set {g b : Nat} {cur cur' : Array Value} {o o' : AObj} (hr : Rel w ρ S.heap) (hb : ρ g = some b) (ho : S.heap[g]? = some o) (hc : w.heap[b]? = some (.cells cur o.elem (0, 0))) (h : SetBlk w w' b (.cells cur' o.elem (0, 0)))
    (hsz : cur'.size = cur.size) (he : o'.sz = o.sz ∧ o'.elem = o.elem ∧ o'.kind = o.kind ∧ o.rows.length ≤ o'.rows.length ∧ o.ver ≤ o'.ver) (himm : o.kind = 1 → ∀ q, q < o.rows.length * o.sz → cur'[q]? = cur[q]?) :
    Stp w ρ S w' ρ ⟨S.heap.set g o', min S.low g⟩ := by
  have hglt := lt_of_some ho
  refine ⟨rfl, h.os, h.tape, h.output, by have := h.size; omega, Nat.min_le_left _ _, fun b' hb' hg => ⟨h.old b' (fun e => hg g (e ▸ hb)), hg⟩, fun b' q hi => ?_, fun g' b' o'' ho' hg hb' => h.old b' (fun e => ?_), fun g' o'' ho' => ?_⟩
  · by_cases e : b' = b
    · subst e
      obtain ⟨o1, ho1, hk1, hq1⟩ := hi.2.2 g hb
      rw [ho] at ho1
      injection ho1 with ho1
      subst ho1
      refine ⟨?_, by rw [h.size]; exact hi.1, hi.2.1, fun g' hg' => ?_⟩
      · simp only [World.cell?, h.new, hc]
        simpa using himm hk1 q hq1
      · have := hr.inj g' g b' hg' hb
        subst this
        refine ⟨o', by simp [hglt], by rw [he.2.2.1]; exact hk1, ?_⟩
        rw [he.1]
        exact Nat.lt_of_lt_of_le hq1 (Nat.mul_le_mul_right _ he.2.2.2.1)
    · refine ⟨cell_block (h.old b' e) q, by rw [h.size]; exact hi.1, hi.2.1, fun g' hg' => ?_⟩
      have hne : g ≠ g' := fun e' => e (by subst e'; rw [hb] at hg'; injection hg' with hg'; exact hg'.symm)
      obtain ⟨o1, ho1, hk1⟩ := hi.2.2 g' hg'
      exact ⟨o1, by simp only; rw [List.getElem?_set_ne hne]; exact ho1, hk1⟩
  · subst e
    have := hr.inj g' g b' hb' hb
    subst this
    have : g' < min S.low g' := hg
    exact absurd (Nat.min_le_right S.low g') (by omega)
  · by_cases e : g = g'
    · subst e
      rw [ho] at ho'
      injection ho' with ho'
      subst ho'
      refine ⟨o', by simp [hglt], ⟨he.2.2.2.2, he.2.2.1⟩, fun hg => ?_, fun hv => ⟨rfl, he.1, he.2.1, he.2.2.2.1, fun b' cu hb' hcu => ?_⟩⟩
      · exact absurd (Nat.min_le_right S.low g) (by have : g < min S.low g := hg; omega)
      · rw [hb] at hb'
        injection hb' with hb'
        subst hb'
        rw [hc] at hcu
        injection hcu with hcu
        injection hcu with hcu
        subst hcu
        exact ⟨cur', h.new, hsz⟩
    · refine ⟨o'', by simp only; rw [List.getElem?_set_ne e]; exact ho', ⟨Nat.le_refl _, rfl⟩, fun _ => rfl, fun _ => ⟨rfl, rfl, rfl, Nat.le_refl _, fun b' cu hb' hcu => ⟨cu, ?_, rfl⟩⟩⟩
      rw [h.old b' (fun e' => e (by subst e'; exact hr.inj g g' b' hb hb'))]
      exact hcu
theorem rel_set {g b : Nat} {cur cur' : Array Value} {o o' : AObj} (hk3 : o.kind ≠ 3) (hr : Rel w ρ S.heap) (hb : ρ g = some b) (ho : S.heap[g]? = some o) (hc : w.heap[b]? = some (.cells cur o.elem (0, 0))) (h : SetBlk w w' b (.cells cur' o.elem (0, 0)))
    (hsz : cur'.size = cur.size) (he : o'.sz = o.sz ∧ o'.elem = o.elem ∧ o'.kind = o.kind ∧ o.rows.length ≤ o'.rows.length ∧ o.ver ≤ o'.ver) (himm : o.kind = 1 → ∀ q, q < o.rows.length * o.sz → cur'[q]? = cur[q]?)
    (hcap : ∃ c, cur'.size = c * o'.sz ∧ o'.rows.length ≤ c ∧ c ≤ maxLen ∧ (o'.grow = false → c = o'.rows.length)) (hl : ∀ r ∈ o'.rows, r.length = o'.sz)
    (hh : ∀ i r j d, o'.rows[i]? = some r → r[j]? = some d → d.isCell = true ∧ (o'.kind ≠ 0 → d.free = true) ∧ ∃ v, cur'[i * o'.sz + j]? = some v ∧ VR w ρ S.heap d v) :
    Rel w' ρ (S.heap.set g o') := by
  have hs := stp_set hr hb ho hc h hsz he himm
  have hglt := lt_of_some ho
  refine ⟨hr.inj, fun g' b' hb' => ?_, hr.hids hs⟩
  by_cases e : g = g'
  · subst e
    rw [hb] at hb'
    injection hb' with hb'
    subst hb'
    obtain ⟨o1, ho1, cu, hcu, hz, _, _, hk, _⟩ := hr.cel hb ho hk3
    rw [ho] at ho1
    injection ho1 with ho1
    subst ho1
    refine ⟨o', by simp [hglt], fun _ => ⟨cur', by rw [he.2.1]; exact h.new, by rw [he.1]; exact hz, hcap, hl, by rw [he.2.2.1]; exact hk, fun i r j d hi hj => ?_⟩, fun e => absurd (he.2.2.1.symm.trans e) hk3⟩
    obtain ⟨h1, h2, v, hv, hvr⟩ := hh i r j d hi hj
    exact ⟨h1, h2, v, hv, hvr.mono hs⟩
  · obtain ⟨o1, ho1, hk⟩ := hr.obj g' b' hb'
    refine ⟨o1, by rw [List.getElem?_set_ne e]; exact ho1, hk.mono hs (h.old b' (fun e' => e (by subst e'; exact hr.inj g g' b' hb hb')))⟩

/-- an object is laid anew in a new block -/
theorem stp_move {g b : Nat} {ob : Obj} {o o' : AObj} (hr : Rel w ρ S.heap) (hb : ρ g = some b) (ho : S.heap[g]? = some o) (h : AddBlk w w' ob) (hv : o.ver < o'.ver) (hkk : o'.kind = o.kind) :
    Stp w ρ S w' (upd ρ g w.heap.size) ⟨S.heap.set g o', min S.low g⟩ := by
  have hglt := lt_of_some ho
  refine ⟨rfl, h.os, h.tape, h.output, by have := h.size; omega, Nat.min_le_left _ _, fun b' hb' hg => ⟨h.old b' hb', fun g' => ?_⟩, fun b' q hi => ⟨cell_block (h.old b' hi.1) q, by have := h.size; have := hi.1; omega, hi.2.1, fun g' hg' => ?_⟩, fun g' b' o'' ho' hg hb' => h.old b' (hr.lt hb'), fun g' o'' ho' => ?_⟩
  · simp only [upd]
    split
    · intro e; injection e with e; omega
    · exact hg g'
  · simp only [upd] at hg'
    split at hg'
    · injection hg' with hg'; have := hi.1; omega
    · rename_i hne
      obtain ⟨o1, ho1, hk⟩ := hi.2.2 g' hg'
      exact ⟨o1, by simp only; rw [List.getElem?_set_ne (Ne.symm hne)]; exact ho1, hk⟩
  · by_cases e : g = g'
    · subst e
      rw [ho] at ho'
      injection ho' with ho'
      subst ho'
      refine ⟨o', by simp [hglt], ⟨by omega, hkk⟩, fun hg => ?_, fun hv' => by omega⟩
      exact absurd (Nat.min_le_right S.low g) (by have : g < min S.low g := hg; omega)
    · refine ⟨o'', by simp only; rw [List.getElem?_set_ne e]; exact ho', ⟨Nat.le_refl _, rfl⟩, fun _ => rfl, fun _ => ⟨by simp only [upd]; rw [if_neg (Ne.symm e)], rfl, rfl, Nat.le_refl _, fun b' cu hb' hcu => ⟨cu, (h.old b' (hr.lt hb')).trans hcu, rfl⟩⟩⟩
theorem rel_move {g b : Nat} {cur' : Array Value} {o o' : AObj} (hr : Rel w ρ S.heap) (hb : ρ g = some b) (ho : S.heap[g]? = some o) (h : AddBlk w w' (.cells cur' o'.elem (0, 0))) (hv : o.ver < o'.ver) (hkk : o'.kind = o.kind) (hz : 0 < o'.sz) (hk : o'.kind = 0 ∨ o'.kind = 1 ∨ o'.kind = 2)
    (hcap : ∃ c, cur'.size = c * o'.sz ∧ o'.rows.length ≤ c ∧ c ≤ maxLen ∧ (o'.grow = false → c = o'.rows.length)) (hl : ∀ r ∈ o'.rows, r.length = o'.sz)
    (hh : ∀ i r j d, o'.rows[i]? = some r → r[j]? = some d → d.isCell = true ∧ (o'.kind ≠ 0 → d.free = true) ∧ ∃ v, cur'[i * o'.sz + j]? = some v ∧ VR w ρ S.heap d v) :
    Rel w' (upd ρ g w.heap.size) (S.heap.set g o') := by
  have hs := stp_move (o' := o') hr hb ho h hv hkk
  have hglt := lt_of_some ho
  refine ⟨fun g1 g2 b' hg hg' => ?_, fun g' b' hb' => ?_, hr.hids hs⟩
  · simp only [upd] at hg hg'
    split at hg <;> split at hg'
    · omega
    · injection hg with hg; have := hr.lt hg'; omega
    · injection hg' with hg'; have := hr.lt hg; omega
    · exact hr.inj g1 g2 b' hg hg'
  · simp only [upd] at hb'
    split at hb'
    · rename_i hgn
      injection hb' with hb'
      subst hb' hgn
      refine ⟨o', by simp [hglt], fun _ => ⟨cur', h.new, hz, hcap, hl, hk, fun i r j d hi hj => ?_⟩, fun e => by omega⟩
      obtain ⟨h1, h2, v, hv', hvr⟩ := hh i r j d hi hj
      exact ⟨h1, h2, v, hv', hvr.mono hs⟩
    · rename_i hne
      obtain ⟨o1, ho1, hk1⟩ := hr.obj g' b' hb'
      exact ⟨o1, by rw [List.getElem?_set_ne (Ne.symm hne)]; exact ho1, hk1.mono hs (h.old b' (hr.lt hb'))⟩

/-- a map is written -/
theorem stp_map {g b : Nat} {mo mo' : Obj} {o o' : AObj} (hr : Rel w ρ S.heap) (hb : ρ g = some b) (ho : S.heap[g]? = some o) (hk : o.kind = 3) (hc : w.heap[b]? = some mo) (hnc : ∀ c e f, mo ≠ .cells c e f) (h : SetBlk w w' b mo') (he : o'.sz = o.sz ∧ o'.elem = o.elem ∧ o'.kind = o.kind ∧ o.rows.length ≤ o'.rows.length ∧ o'.ver = o.ver) :
    Stp w ρ S w' ρ ⟨S.heap.set g o', min S.low g⟩ := by
  have hglt := lt_of_some ho
  refine ⟨rfl, h.os, h.tape, h.output, by have := h.size; omega, Nat.min_le_left _ _, fun b' hb' hg => ⟨h.old b' (fun e => hg g (e ▸ hb)), hg⟩, fun b' q hi => ?_, fun g' b' o'' ho' hg hb' => h.old b' (fun e => ?_), fun g' o'' ho' => ?_⟩
  · by_cases e : b' = b
    · subst e
      obtain ⟨o1, ho1, hk1, hq1⟩ := hi.2.2 g hb
      rw [ho] at ho1
      injection ho1 with ho1
      subst ho1
      omega
    · refine ⟨cell_block (h.old b' e) q, by rw [h.size]; exact hi.1, hi.2.1, fun g' hg' => ?_⟩
      have hne : g ≠ g' := fun e' => e (by subst e'; rw [hb] at hg'; injection hg' with hg'; exact hg'.symm)
      obtain ⟨o1, ho1, hk1⟩ := hi.2.2 g' hg'
      exact ⟨o1, by simp only; rw [List.getElem?_set_ne hne]; exact ho1, hk1⟩
  · subst e
    have := hr.inj g' g b' hb' hb
    subst this
    have : g' < min S.low g' := hg
    exact absurd (Nat.min_le_right S.low g') (by omega)
  · by_cases e : g = g'
    · subst e
      rw [ho] at ho'
      injection ho' with ho'
      subst ho'
      refine ⟨o', by simp [hglt], ⟨by omega, he.2.2.1⟩, fun hg => ?_, fun hv => ⟨rfl, he.1, he.2.1, he.2.2.2.1, fun b' cu hb' hcu => ?_⟩⟩
      · exact absurd (Nat.min_le_right S.low g) (by have : g < min S.low g := hg; omega)
      · rw [hb] at hb'
        injection hb' with hb'
        subst hb'
        rw [hc] at hcu
        injection hcu with hcu
        exact absurd hcu (hnc _ _ _)
    · refine ⟨o'', by simp only; rw [List.getElem?_set_ne e]; exact ho', ⟨Nat.le_refl _, rfl⟩, fun _ => rfl, fun _ => ⟨rfl, rfl, rfl, Nat.le_refl _, fun b' cu hb' hcu => ⟨cu, ?_, rfl⟩⟩⟩
      rw [h.old b' (fun e' => e (by subst e'; exact hr.inj g g' b' hb hb'))]
      exact hcu
theorem rel_map {g b clock' : Nat} {mo : Obj} {es' : Array MapEntry} {o o' : AObj} (hr : Rel w ρ S.heap) (hb : ρ g = some b) (ho : S.heap[g]? = some o) (hk : o.kind = 3) (he0 : o.elem = 0) (hc : w.heap[b]? = some mo) (hnc : ∀ c e f, mo ≠ .cells c e f) (h : SetBlk w w' b (.map es' clock')) (he : o'.sz = o.sz ∧ o'.elem = o.elem ∧ o'.kind = o.kind ∧ o.rows.length ≤ o'.rows.length ∧ o'.ver = o.ver)
    (hs : es'.size = o'.rows.length) (hl : ∀ r ∈ o'.rows, r.length = 2) (hh : ∀ (i : Nat) (r : List D), o'.rows[i]? = some r → ∃ (e : MapEntry) (k v : D), es'[i]? = some e ∧ r = [k, v] ∧ (k.free = true ∧ k.isCell = true) ∧ (v.freeV = true ∧ v.val = true) ∧ VR w ρ S.heap k e.key ∧ VR w ρ S.heap v e.val) :
    Rel w' ρ (S.heap.set g o') := by
  have hst := stp_map hr hb ho hk hc hnc h he
  have hglt := lt_of_some ho
  refine ⟨hr.inj, fun g' b' hb' => ?_, hr.hids hst⟩
  by_cases e : g = g'
  · subst e
    rw [hb] at hb'
    injection hb' with hb'
    subst hb'
    refine ⟨o', by simp [hglt], fun h3 => absurd (he.2.2.1.trans hk) h3, fun _ => ⟨fun _ => ⟨es', clock', h.new, hs, hl, fun i r hi => ?_⟩, fun hne => absurd (he.2.1.trans he0) hne⟩⟩
    obtain ⟨e, k, v, h1, h2, h3, h4, h5, h6⟩ := hh i r hi
    exact ⟨e, k, v, h1, h2, h3, h4, h5.mono hst, h6.mono hst⟩
  · obtain ⟨o1, ho1, hk1⟩ := hr.obj g' b' hb'
    refine ⟨o1, by rw [List.getElem?_set_ne e]; exact ho1, hk1.mono hst (h.old b' (fun e' => e (by subst e'; exact hr.inj g g' b' hb hb')))⟩
theorem rel_newmap {clock : Nat} {ob : AObj} (hr : Rel w ρ S.heap) (h : AddBlk w w' (.map #[] clock)) (hk : ob.kind = 3) (he0 : ob.elem = 0) (hrows : ob.rows = []) : Rel w' (upd ρ S.heap.length w.heap.size) (newAt S ob).heap := by
  have hs := stp_new (ob := ob) hr h
  refine ⟨fun g g' b hg hg' => ?_, fun g b hb => ?_, hr.hids hs⟩
  · simp only [upd] at hg hg'
    split at hg <;> split at hg'
    · omega
    · injection hg with hg; have := hr.lt hg'; omega
    · injection hg' with hg'; have := hr.lt hg; omega
    · exact hr.inj g g' b hg hg'
  · simp only [upd] at hb
    split at hb
    · rename_i hgn
      injection hb with hb
      subst hb hgn
      exact ⟨ob, by simp [newAt], fun e => absurd hk e, fun _ => ⟨fun _ => ⟨#[], clock, h.new, by simp [hrows], by simp [hrows], fun i r hi => by simp [hrows] at hi⟩, fun hne => absurd he0 hne⟩⟩
    · obtain ⟨o', ho, hk'⟩ := hr.obj g b hb
      exact ⟨o', by simp only [newAt]; rw [List.getElem?_append_left (lt_of_some ho)]; exact ho, hk'.mono hs (h.old b (hr.lt hb))⟩

/-- what goes over a string is new -/
theorem rel_newiter {s : ByteArray} {pos : Nat} {ob : AObj} (hr : Rel w ρ S.heap) (h : AddBlk w w' (.stringIter s pos)) (hk : ob.kind = 3) (he0 : ob.elem ≠ 0) (hrows : ob.rows = [[.str s, .int .i64 pos]]) : Rel w' (upd ρ S.heap.length w.heap.size) (newAt S ob).heap := by
  have hs := stp_new (ob := ob) hr h
  refine ⟨fun g g' b hg hg' => ?_, fun g b hb => ?_, hr.hids hs⟩
  · simp only [upd] at hg hg'
    split at hg <;> split at hg'
    · omega
    · injection hg with hg; have := hr.lt hg'; omega
    · injection hg' with hg'; have := hr.lt hg; omega
    · exact hr.inj g g' b hg hg'
  · simp only [upd] at hb
    split at hb
    · rename_i hgn
      injection hb with hb
      subst hb hgn
      exact ⟨ob, by simp [newAt], fun e => absurd hk e, fun _ => ⟨fun h0 => absurd h0 he0, fun _ => ⟨s, pos, h.new, hrows⟩⟩⟩
    · obtain ⟨o', ho, hk'⟩ := hr.obj g b hb
      exact ⟨o', by simp only [newAt]; rw [List.getElem?_append_left (lt_of_some ho)]; exact ho, hk'.mono hs (h.old b (hr.lt hb))⟩
theorem rel_iter {g b pos' : Nat} {s : ByteArray} {mo : Obj} {o o' : AObj} (hr : Rel w ρ S.heap) (hb : ρ g = some b) (ho : S.heap[g]? = some o) (hk : o.kind = 3) (he0 : o.elem ≠ 0) (hc : w.heap[b]? = some mo) (hnc : ∀ c e f, mo ≠ .cells c e f) (h : SetBlk w w' b (.stringIter s pos')) (he : o'.sz = o.sz ∧ o'.elem = o.elem ∧ o'.kind = o.kind ∧ o.rows.length ≤ o'.rows.length ∧ o'.ver = o.ver)
    (hrows : o'.rows = [[.str s, .int .i64 pos']]) : Rel w' ρ (S.heap.set g o') := by
  have hst := stp_map hr hb ho hk hc hnc h he
  have hglt := lt_of_some ho
  refine ⟨hr.inj, fun g' b' hb' => ?_, hr.hids hst⟩
  by_cases e : g = g'
  · subst e
    rw [hb] at hb'
    injection hb' with hb'
    subst hb'
    exact ⟨o', by simp [hglt], fun h3 => absurd (he.2.2.1.trans hk) h3, fun _ => ⟨fun h0 => absurd (he.2.1.symm.trans h0) he0, fun _ => ⟨s, pos', h.new, hrows⟩⟩⟩
  · obtain ⟨o1, ho1, hk1⟩ := hr.obj g' b' hb'
    refine ⟨o1, by rw [List.getElem?_set_ne e]; exact ho1, hk1.mono hst (h.old b' (fun e' => e (by subst e'; exact hr.inj g g' b' hb hb')))⟩

/-! an object is looked at no more: its block may be marked -/
def updN (ρ : RMap) (g : Nat) : RMap := ⟨fun k => if k = g then none else ρ k, ρ.X⟩
theorem stp_drop {g b : Nat} {cur : Array Value} {e : TypeId} {fz : Nat × Nat} {o o' : AObj} (hr : Rel w ρ S.heap) (hb : ρ g = some b) (ho : S.heap[g]? = some o) (hc : w.heap[b]? = some (.cells cur o.elem (0, 0))) (h : SetBlk w w' b (.cells cur e fz)) (hv : o.ver < o'.ver) (hkk : o'.kind = o.kind) :
    Stp w ρ S w' (updN ρ g) ⟨S.heap.set g o', min S.low g⟩ := by
  have hglt := lt_of_some ho
  refine ⟨rfl, h.os, h.tape, h.output, by have := h.size; omega, Nat.min_le_left _ _, fun b' hb' hg => ⟨h.old b' (fun e => hg g (e ▸ hb)), fun g' => ?_⟩, fun b' q hi => ?_, fun g' b' o'' ho' hg hb' => h.old b' (fun e => ?_), fun g' o'' ho' => ?_⟩
  · simp only [updN]
    split
    · simp
    · exact hg g'
  · refine ⟨?_, by rw [h.size]; exact hi.1, hi.2.1, fun g' hg' => ?_⟩
    · by_cases e : b' = b
      · subst e
        simp only [World.cell?, h.new, hc]
      · exact cell_block (h.old b' e) q
    · simp only [updN] at hg'
      split at hg'
      · simp at hg'
      · rename_i hne
        obtain ⟨o1, ho1, hk⟩ := hi.2.2 g' hg'
        exact ⟨o1, by simp only; rw [List.getElem?_set_ne (Ne.symm hne)]; exact ho1, hk⟩
  · subst e
    have := hr.inj g' g b' hb' hb
    subst this
    have : g' < min S.low g' := hg
    exact absurd (Nat.min_le_right S.low g') (by omega)
  · by_cases e : g = g'
    · subst e
      rw [ho] at ho'
      injection ho' with ho'
      subst ho'
      refine ⟨o', by simp [hglt], ⟨by omega, hkk⟩, fun hg => ?_, fun hv' => by omega⟩
      exact absurd (Nat.min_le_right S.low g) (by have : g < min S.low g := hg; omega)
    · refine ⟨o'', by simp only; rw [List.getElem?_set_ne e]; exact ho', ⟨Nat.le_refl _, rfl⟩, fun _ => rfl, fun _ => ⟨by simp only [updN]; rw [if_neg (Ne.symm e)], rfl, rfl, Nat.le_refl _, fun b' cu hb' hcu => ⟨cu, ?_, rfl⟩⟩⟩
      rw [h.old b' (fun e' => e (by subst e'; exact hr.inj g g' b' hb hb'))]
      exact hcu
theorem rel_drop {g b : Nat} {cur : Array Value} {e : TypeId} {fz : Nat × Nat} {o o' : AObj} (hr : Rel w ρ S.heap) (hb : ρ g = some b) (ho : S.heap[g]? = some o) (hc : w.heap[b]? = some (.cells cur o.elem (0, 0))) (h : SetBlk w w' b (.cells cur e fz)) (hv : o.ver < o'.ver) (hkk : o'.kind = o.kind) :
    Rel w' (updN ρ g) (S.heap.set g o') := by
  have hs := stp_drop (o' := o') hr hb ho hc h hv hkk
  refine ⟨fun g1 g2 b' hg hg' => ?_, fun g' b' hb' => ?_, hr.hids hs⟩
  · simp only [updN] at hg hg'
    split at hg <;> split at hg'
    · simp at hg
    · simp at hg
    · simp at hg'
    · exact hr.inj g1 g2 b' hg hg'
  · simp only [updN] at hb'
    split at hb'
    · simp at hb'
    · rename_i hne
      obtain ⟨o1, ho1, hk1⟩ := hr.obj g' b' hb'
      exact ⟨o1, by rw [List.getElem?_set_ne (Ne.symm hne)]; exact ho1, hk1.mono hs (h.old b' (fun e' => hne (by subst e'; exact hr.inj g' g b' hb' hb)))⟩

/-! an object that is there already comes to lie in a new block -/
theorem fwd_fill {o : Obj} {g : Nat} (hr : Rel w ρ S.heap) (h : AddBlk w w' o) (hn : ρ g = none) : Fwd w ρ S.heap w' (upd ρ g w.heap.size) S.heap := by
  have hne : ∀ g' b, ρ g' = some b → g' ≠ g := fun g' b hb e => by subst e; rw [hn] at hb; cases hb
  refine ⟨rfl, fun b hb hg => ⟨h.old b hb, fun g' => ?_⟩, fun b q hi => ⟨cell_block (h.old b hi.1) q, by have := h.size; have := hi.1; omega, hi.2.1, fun g' hg => ?_⟩, fun g' o' ho => ?_⟩
  · simp only [upd]
    split
    · intro e; injection e with e; omega
    · exact hg g'
  · simp only [upd] at hg
    split at hg
    · injection hg with hg; have := hi.1; omega
    · exact hi.2.2 g' hg
  · refine ⟨o', ho, ⟨Nat.le_refl _, rfl⟩, fun _ => ⟨fun b hb => by simp only [upd]; rw [if_neg (hne g' b hb)]; exact hb, rfl, rfl, Nat.le_refl _, fun b cur hb hc => ⟨cur, (h.old b (hr.lt hb)).trans hc, rfl⟩⟩⟩
theorem rel_fill {cur : Array Value} {ob : AObj} {g : Nat} (hr : Rel w ρ S.heap) (h : AddBlk w w' (.cells cur ob.elem (0, 0))) (hn : ρ g = none) (hg : S.heap[g]? = some ob) (hz : 0 < ob.sz) (hcap : ∃ c, cur.size = c * ob.sz ∧ ob.rows.length ≤ c ∧ c ≤ maxLen ∧ (ob.grow = false → c = ob.rows.length))
    (hl : ∀ r ∈ ob.rows, r.length = ob.sz) (hk : ob.kind = 0 ∨ ob.kind = 1 ∨ ob.kind = 2)
    (hh : ∀ i r j d, ob.rows[i]? = some r → r[j]? = some d → d.isCell = true ∧ (ob.kind ≠ 0 → d.free = true) ∧ ∃ v, cur[i * ob.sz + j]? = some v ∧ VR w ρ S.heap d v) :
    Rel w' (upd ρ g w.heap.size) S.heap := by
  have hs := fwd_fill hr h hn
  refine ⟨fun g1 g2 b hg1 hg2 => ?_, fun g' b hb => ?_, fun b q hx => ?_⟩
  · simp only [upd] at hg1 hg2
    split at hg1 <;> split at hg2
    · omega
    · injection hg1 with hg1; have := hr.lt hg2; omega
    · injection hg2 with hg2; have := hr.lt hg1; omega
    · exact hr.inj g1 g2 b hg1 hg2
  · simp only [upd] at hb
    split at hb
    · rename_i hgn
      injection hb with hb
      subst hb hgn
      refine ⟨ob, hg, fun _ => ⟨cur, h.new, hz, hcap, hl, hk, fun i r j d hi hj => ?_⟩, fun e => by omega⟩
      obtain ⟨h1, h2, v, hv, hvr⟩ := hh i r j d hi hj
      exact ⟨h1, h2, v, hv, hvr.fwd hs⟩
    · obtain ⟨o', ho, hk'⟩ := hr.obj g' b hb
      exact ⟨o', ho, hk'.fwd hs (h.old b (hr.lt hb))⟩
  · obtain ⟨h1, h2⟩ := hr.hid b q hx
    exact ⟨by have := h.size; omega, (hs.out b h1 h2).2⟩
theorem stp_fill {w0 : World} {ρ0 : RMap} {S0 : St} {o : Obj} {g : Nat} (hs : Stp w0 ρ0 S0 w ρ S) (hr : Rel w ρ S.heap) (h : AddBlk w w' o) (hn : ρ g = none) (hg : S0.heap.length ≤ g) : Stp w0 ρ0 S0 w' (upd ρ g w.heap.size) S := by
  have hf := fwd_fill hr h hn
  refine ⟨hs.hid, h.os.trans hs.os, h.tape.trans hs.tape, h.output.trans hs.output, by have := h.size; have := hs.size; omega, hs.low, fun b hb hg' => ?_, fun b q hi => ?_, fun g' b o' ho hg' hb => ?_, fun g' o' ho => ?_⟩
  · obtain ⟨h1, h2⟩ := hs.out b hb hg'
    obtain ⟨k1, k2⟩ := hf.out b (Nat.lt_of_lt_of_le hb hs.size) h2
    exact ⟨k1.trans h1, k2⟩
  · obtain ⟨h1, h2⟩ := hs.imm b q hi
    obtain ⟨k1, k2⟩ := hf.imm b q h2
    exact ⟨k1.trans h1, k2⟩
  · obtain ⟨o2, ho2, _, he, hv⟩ := hs.obj g' o' ho
    have he := he hg'
    subst he
    exact (h.old b (hr.lt ((hv rfl).1.trans hb))).trans (hs.keep g' b o2 ho hg' hb)
  · have hlt := lt_of_some ho
    obtain ⟨o2, ho2, h1, h2, h3⟩ := hs.obj g' o' ho
    refine ⟨o2, ho2, h1, h2, fun hv => ?_⟩
    obtain ⟨a1, a2, a3, a4, a5⟩ := h3 hv
    refine ⟨by simp only [upd]; rw [if_neg (by omega)]; exact a1, a2, a3, a4, fun b cur hb hc => ?_⟩
    obtain ⟨cur', h4, h5⟩ := a5 b cur hb hc
    exact ⟨cur', (h.old b (lt_of_heap h4)).trans h4, h5⟩
/-- objects that lie in no block yet -/
theorem stp_news (hr : Rel w ρ S.heap) (l : List AObj) : Stp w ρ S w ρ ⟨S.heap ++ l, S.low⟩ := by
  have hne : ∀ g o, S.heap[g]? = some o → (S.heap ++ l)[g]? = some o := fun g o ho => by rw [List.getElem?_append_left (lt_of_some ho)]; exact ho
  refine ⟨rfl, rfl, rfl, rfl, Nat.le_refl _, Nat.le_refl _, fun b _ h => ⟨rfl, h⟩, fun b q h => ⟨rfl, h.1, h.2.1, fun g hg => ?_⟩, fun _ _ _ _ _ _ => rfl, fun g o ho => ⟨o, hne g o ho, ⟨Nat.le_refl _, rfl⟩, fun _ => rfl, fun _ => ⟨rfl, rfl, rfl, Nat.le_refl _, fun b cur _ h => ⟨cur, h, rfl⟩⟩⟩⟩
  obtain ⟨o, ho, hk⟩ := h.2.2 g hg
  exact ⟨o, hne g o ho, hk⟩
theorem rel_news (hr : Rel w ρ S.heap) (l : List AObj) : Rel w ρ (S.heap ++ l) :=
  ⟨hr.inj, fun g b hb => by
    obtain ⟨o, ho, hk⟩ := hr.obj g b hb
    exact ⟨o, by rw [List.getElem?_append_left (lt_of_some ho)]; exact ho, hk.mono (stp_news hr l) rfl⟩, hr.hid⟩
end
end Go.Proofs.YtabgobmeibjeeaaGreatDoor

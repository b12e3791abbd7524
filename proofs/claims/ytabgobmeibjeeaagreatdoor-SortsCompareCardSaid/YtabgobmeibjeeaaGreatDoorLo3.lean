/- Proved here: how the abstract machine's values and heap lie in a world, and that this stays as worlds go on; no condition. -/
import Derived.Test.YtabgobmeibjeeaaGreatDoorLo2
import Derived.Test.YtabgobmeibjeeaaGreatDoorMem
namespace Go.Proofs.YtabgobmeibjeeaaGreatDoor
open Go.RowKit
set_option linter.unusedVariables false

/-- where the objects of the abstract heap lie, and which cells are hidden: they belong to objects of a caller -/
structure RMap where
  f : Nat → Option Nat
  X : Nat → Nat → Prop
instance : CoeFun RMap (fun _ => Nat → Option Nat) := ⟨RMap.f⟩

/-- a cell that is never written again -/
def Imm (w : World) (ρ : RMap) (H : List AObj) (b q : Nat) : Prop :=
  b < w.heap.size ∧ ¬ ρ.X b q ∧ ∀ g, ρ g = some b → ∃ o, H[g]? = some o ∧ o.kind = 1 ∧ q < o.rows.length * o.sz

inductive VR (w : World) (ρ : RMap) (H : List AObj) : D → Value → Prop
  | undef (v) : VR w ρ H .undef v
  | skip : VR w ρ H .skip Go.undef
  | nili : VR w ρ H .nili .nilIface
  | ifc (t : TypeId) (d : D) (v : Value) (hf : d.freeV = true) (hv : d.val = true) (h : VR w ρ H d v) : VR w ρ H (.ifc t d) (.iface t v)
  | ifr (t : TypeId) (d : D) (v : Value) (hv : d.val = true) (h : VR w ρ H d v) : VR w ρ H (.ifr t d) (.iface t v)
  | iter (g v r : Nat) (ob : AObj) (hg : H[g]? = some ob) (hv : v ≤ ob.ver) (h : ob.ver = v → ρ g = some r) : VR w ρ H (.iter g v) (.pointer (some ⟨r, 0, none⟩))
  | int (k n) : VR w ρ H (.int k n) (.int k n)
  | bool (b) : VR w ρ H (.bool b) (.bool b)
  | str (s) : VR w ρ H (.str s) (.string s)
  | agg (cs : List D) (vs : List Value) (hl : vs.length = cs.length) (hc : cs.all D.isCell = true) (h : ∀ (j : Nat) (d : D) (v : Value), cs[j]? = some d → vs[j]? = some v → VR w ρ H d v) : VR w ρ H (.agg cs) (.agg vs.toArray)
  | tup (cs : List D) (vs : List Value) (hl : vs.length = cs.length) (h : ∀ (j : Nat) (d : D) (v : Value), cs[j]? = some d → vs[j]? = some v → VR w ρ H d v) : VR w ρ H (.tup cs) (.tuple vs.toArray)
  | nilp : VR w ρ H .nilp (.pointer none)
  | ptr (g v i o : Nat) (a : Addr) (ob : AObj) (hg : H[g]? = some ob) (hv : v ≤ ob.ver) (hk3 : ob.kind ≠ 3) (h : ob.ver = v → ∃ b, ρ g = some b ∧ a = ⟨b, i * ob.sz + o, none⟩) : VR w ρ H (.ptr g v i o) (.pointer (some a))
  | cptr (row : List D) (o b q : Nat) (f : Nat → Value) (hc : ∀ j d, row[j]? = some d → o ≤ j → w.cell? ⟨b, q + (j - o), none⟩ = some (f j) ∧ Imm w ρ H b (q + (j - o)) ∧ d.free = true)
      (h : ∀ j d, row[j]? = some d → o ≤ j → VR w ρ H d (f j)) : VR w ρ H (.cptr row o) (.pointer (some ⟨b, q, none⟩))
  | nils : VR w ρ H .nils (.slice none 0 0)
  | sl (sz : Nat) (rows : List (List D)) (cap : Option Nat) (A : Addr) (n c : Nat) (hn : n = rows.length) (hnc : n ≤ c) (hcap : ∀ k, cap = some k → c = k) (hz : ∀ r ∈ rows, r.length = sz)
      (b o : Nat) (f : Nat → Nat → Value) (hA : rows ≠ [] → A = ⟨b, o, none⟩)
      (hc : ∀ i r j d, rows[i]? = some r → r[j]? = some d → w.cell? ⟨b, o + i * sz + j, none⟩ = some (f i j) ∧ Imm w ρ H b (o + i * sz + j) ∧ d.free = true)
      (h : ∀ i r j d, rows[i]? = some r → r[j]? = some d → VR w ρ H d (f i j)) : VR w ρ H (.sl sz rows cap) (.slice (some A) n c)
  | msl (g v lo n : Nat) (cap : Option Nat) (A : Addr) (c : Nat) (ob : AObj) (hnc : n ≤ c) (hcap : ∀ k, cap = some k → c = k) (hg : H[g]? = some ob) (hv : v ≤ ob.ver) (hk3 : ob.kind ≠ 3)
      (h : ob.ver = v → ∃ b, ρ g = some b ∧ lo + n ≤ ob.rows.length ∧ (n ≠ 0 ∨ lo = 0 → A = ⟨b, lo * ob.sz, none⟩) ∧ (cap = none → ∃ cur, w.heap[b]? = some (.cells cur ob.elem (0, 0)) ∧ cur.size = (lo + c) * ob.sz)) : VR w ρ H (.msl g v lo n cap) (.slice (some A) n c)
  | fn (f : FuncId) (cs : List D) (vs : List Value) (hl : vs.length = cs.length) (h : ∀ (j : Nat) (d : D) (v : Value), cs[j]? = some d → vs[j]? = some v → VR w ρ H d v) : VR w ρ H (.fn f cs) (.func (.func f) #[] vs.toArray)
  | nilfn : VR w ρ H .nilfn .nilFunc
  | mref (g v r : Nat) (ob : AObj) (hg : H[g]? = some ob) (hv : v ≤ ob.ver) (h : ob.ver = v → ρ g = some r) : VR w ρ H (.mref g v) (.map (some r))
  | nilm : VR w ρ H .nilm (.map none)
  | mp (rows : List (List D)) (b clock : Nat) (es : Array MapEntry) (f : Nat → Nat → Value) (hb : w.heap[b]? = some (.map es clock)) (hx : ¬ ρ.X b 0) (hf : ∀ g, ρ g ≠ some b) (hl : es.size = rows.length) (hz : ∀ r ∈ rows, r.length = 2)
      (he : ∀ i, i < rows.length → ∃ e, es[i]? = some e ∧ e.key = f i 0 ∧ e.val = f i 1) (hc : ∀ (i : Nat) (r : List D) (j : Nat) (d : D), rows[i]? = some r → r[j]? = some d → d.freeV = true ∧ d.val = true) (h : ∀ (i : Nat) (r : List D) (j : Nat) (d : D), rows[i]? = some r → r[j]? = some d → VR w ρ H d (f i j)) : VR w ρ H (.mp rows) (.map (some b))

/-- an object of the abstract heap lies in block b -/
def ObjOK (w : World) (ρ : RMap) (H : List AObj) (o : AObj) (b : Nat) : Prop :=
  ∃ cur, w.heap[b]? = some (.cells cur o.elem (0, 0)) ∧ 0 < o.sz ∧ (∃ c, cur.size = c * o.sz ∧ o.rows.length ≤ c ∧ c ≤ maxLen ∧ (o.grow = false → c = o.rows.length)) ∧
    (∀ r ∈ o.rows, r.length = o.sz) ∧ (o.kind = 0 ∨ o.kind = 1 ∨ o.kind = 2) ∧
    ∀ i r j d, o.rows[i]? = some r → r[j]? = some d → d.isCell = true ∧ (o.kind ≠ 0 → d.free = true) ∧ ∃ v, cur[i * o.sz + j]? = some v ∧ VR w ρ H d v

/-- a map of the abstract heap lies in block b -/
def MapOK (w : World) (ρ : RMap) (H : List AObj) (o : AObj) (b : Nat) : Prop :=
  ∃ (es : Array MapEntry) (clock : Nat), w.heap[b]? = some (.map es clock) ∧ es.size = o.rows.length ∧ (∀ r ∈ o.rows, r.length = 2) ∧
    ∀ (i : Nat) (r : List D), o.rows[i]? = some r → ∃ (e : MapEntry) (k v : D), es[i]? = some e ∧ r = [k, v] ∧ (k.free = true ∧ k.isCell = true) ∧ (v.freeV = true ∧ v.val = true) ∧ VR w ρ H k e.key ∧ VR w ρ H v e.val
/-- what goes over the letters of a string lies in block b -/
def IterOK (w : World) (o : AObj) (b : Nat) : Prop := ∃ (s : ByteArray) (pos : Nat), w.heap[b]? = some (.stringIter s pos) ∧ o.rows = [[.str s, .int .i64 pos]]
/-- an object that is no row of cells: a map, or what goes over a string -/
def NonOK (w : World) (ρ : RMap) (H : List AObj) (o : AObj) (b : Nat) : Prop := (o.elem = 0 → MapOK w ρ H o b) ∧ (o.elem ≠ 0 → IterOK w o b)
def AnyOK (w : World) (ρ : RMap) (H : List AObj) (o : AObj) (b : Nat) : Prop := (o.kind ≠ 3 → ObjOK w ρ H o b) ∧ (o.kind = 3 → NonOK w ρ H o b)

structure Rel (w : World) (ρ : RMap) (H : List AObj) : Prop where
  inj : ∀ g g' b, ρ g = some b → ρ g' = some b → g = g'
  obj : ∀ g b, ρ g = some b → ∃ o, H[g]? = some o ∧ AnyOK w ρ H o b
  hid : ∀ b q, ρ.X b q → b < w.heap.size ∧ ∀ g, ρ g ≠ some b

/-- one state behind another -/
structure Stp (w : World) (ρ : RMap) (S : St) (w' : World) (ρ' : RMap) (S' : St) : Prop where
  hid : ρ'.X = ρ.X
  os : w'.os = w.os
  tape : w'.tape = w.tape
  output : w'.output = w.output
  size : w.heap.size ≤ w'.heap.size
  low : S'.low ≤ S.low
  out : ∀ b, b < w.heap.size → (∀ g, ρ g ≠ some b) → w'.heap[b]? = w.heap[b]? ∧ ∀ g, ρ' g ≠ some b
  imm : ∀ b q, Imm w ρ S.heap b q → w'.cell? ⟨b, q, none⟩ = w.cell? ⟨b, q, none⟩ ∧ Imm w' ρ' S'.heap b q
  keep : ∀ g b o, S.heap[g]? = some o → g < S'.low → ρ g = some b → w'.heap[b]? = w.heap[b]?
  obj : ∀ g o, S.heap[g]? = some o → ∃ o', S'.heap[g]? = some o' ∧ (o.ver ≤ o'.ver ∧ o'.kind = o.kind) ∧ (g < S'.low → o' = o) ∧
    (o'.ver = o.ver → ρ' g = ρ g ∧ o'.sz = o.sz ∧ o'.elem = o.elem ∧ o.rows.length ≤ o'.rows.length ∧ ∀ b cur, ρ g = some b → w.heap[b]? = some (.cells cur o.elem (0, 0)) → ∃ cur', w'.heap[b]? = some (.cells cur' o.elem (0, 0)) ∧ cur'.size = cur.size)

theorem Stp.refl (w : World) (ρ : RMap) (S : St) : Stp w ρ S w ρ S :=
  ⟨rfl, rfl, rfl, rfl, Nat.le_refl _, Nat.le_refl _, fun b _ h => ⟨rfl, h⟩, fun b q h => ⟨rfl, h⟩, fun _ _ _ _ _ _ => rfl, fun g o h => ⟨o, h, ⟨Nat.le_refl _, rfl⟩, fun _ => rfl, fun _ => ⟨rfl, rfl, rfl, Nat.le_refl _, fun b cur _ h => ⟨cur, h, rfl⟩⟩⟩⟩

theorem Stp.trans {w1 w2 w3 : World} {ρ1 ρ2 ρ3 : RMap} {S1 S2 S3 : St} (h : Stp w1 ρ1 S1 w2 ρ2 S2) (k : Stp w2 ρ2 S2 w3 ρ3 S3) : Stp w1 ρ1 S1 w3 ρ3 S3 := by
  refine ⟨k.hid.trans h.hid, k.os.trans h.os, k.tape.trans h.tape, k.output.trans h.output, Nat.le_trans h.size k.size, Nat.le_trans k.low h.low, ?_, ?_, ?_, ?_⟩
  · intro b hb hg
    obtain ⟨h1, h2⟩ := h.out b hb hg
    obtain ⟨k1, k2⟩ := k.out b (Nat.lt_of_lt_of_le hb h.size) h2
    exact ⟨k1.trans h1, k2⟩
  · intro b q hi
    obtain ⟨h1, h2⟩ := h.imm b q hi
    obtain ⟨k1, k2⟩ := k.imm b q h2
    exact ⟨k1.trans h1, k2⟩
  · intro g b o ho hg hr
    have hg2 := Nat.lt_of_lt_of_le hg k.low
    have h1 := h.keep g b o ho hg2 hr
    obtain ⟨o', ho', _, he, hv⟩ := h.obj g o ho
    have he := he hg2
    subst he
    exact (k.keep g b o' ho' hg (by rw [(hv rfl).1]; exact hr)).trans h1
  · intro g o ho
    obtain ⟨o2, ho2, hv2, he2, hs2⟩ := h.obj g o ho
    obtain ⟨o3, ho3, hv3, he3, hs3⟩ := k.obj g o2 ho2
    refine ⟨o3, ho3, ⟨Nat.le_trans hv2.1 hv3.1, hv3.2.trans hv2.2⟩, fun hg => (he3 hg).trans (he2 (Nat.lt_of_lt_of_le hg k.low)), fun hv => ?_⟩
    have e2 : o2.ver = o.ver := by omega
    have e3 : o3.ver = o2.ver := by omega
    obtain ⟨a1, a2, a3, a4, a5⟩ := hs2 e2
    obtain ⟨b1, b2, b3, b4, b5⟩ := hs3 e3
    refine ⟨b1.trans a1, b2.trans a2, b3.trans a3, Nat.le_trans a4 b4, fun b cur hr hb => ?_⟩
    obtain ⟨cur2, hc2, hz2⟩ := a5 b cur hr hb
    obtain ⟨cur3, hc3, hz3⟩ := b5 b cur2 (a1.trans hr) (by rw [a3]; exact hc2)
    exact ⟨cur3, by rw [← a3]; exact hc3, hz3.trans hz2⟩

/-- what values need of a world that lies behind another: an object may come to lie in a block -/
structure Fwd (w : World) (ρ : RMap) (H : List AObj) (w' : World) (ρ' : RMap) (H' : List AObj) : Prop where
  hid : ρ'.X = ρ.X
  out : ∀ b, b < w.heap.size → (∀ g, ρ g ≠ some b) → w'.heap[b]? = w.heap[b]? ∧ ∀ g, ρ' g ≠ some b
  imm : ∀ b q, Imm w ρ H b q → w'.cell? ⟨b, q, none⟩ = w.cell? ⟨b, q, none⟩ ∧ Imm w' ρ' H' b q
  obj : ∀ g o, H[g]? = some o → ∃ o', H'[g]? = some o' ∧ (o.ver ≤ o'.ver ∧ o'.kind = o.kind) ∧
    (o'.ver = o.ver → (∀ b, ρ g = some b → ρ' g = some b) ∧ o'.sz = o.sz ∧ o'.elem = o.elem ∧ o.rows.length ≤ o'.rows.length ∧ ∀ b cur, ρ g = some b → w.heap[b]? = some (.cells cur o.elem (0, 0)) → ∃ cur', w'.heap[b]? = some (.cells cur' o.elem (0, 0)) ∧ cur'.size = cur.size)
theorem Stp.fwd {w w' : World} {ρ ρ' : RMap} {S S' : St} (h : Stp w ρ S w' ρ' S') : Fwd w ρ S.heap w' ρ' S'.heap :=
  ⟨h.hid, h.out, h.imm, fun g o ho => by
    obtain ⟨o', h1, h2, _, h4⟩ := h.obj g o ho
    refine ⟨o', h1, h2, fun hv => ?_⟩
    obtain ⟨a1, a2⟩ := h4 hv
    exact ⟨fun b hb => a1.trans hb, a2⟩⟩

theorem VR.fwd {w w' : World} {ρ ρ' : RMap} {H H' : List AObj} (hs : Fwd w ρ H w' ρ' H') {d : D} {v : Value} (h : VR w ρ H d v) : VR w' ρ' H' d v := by
  induction h with
  | undef v => exact .undef v
  | skip => exact .skip
  | nili => exact .nili
  | ifc t d v hf hv _ ih => exact .ifc t d v hf hv ih
  | ifr t d v hv _ ih => exact .ifr t d v hv ih
  | iter g v r ob hg hv h =>
    obtain ⟨ob', hg', hle, hs'⟩ := hs.obj g ob hg
    refine .iter g v r ob' hg' (by omega) fun e => ?_
    exact (hs' (by omega)).1 _ (h (by omega))
  | int k n => exact .int k n
  | bool b => exact .bool b
  | str s => exact .str s
  | agg cs vs hl hc _ ih => exact .agg cs vs hl hc ih
  | tup cs vs hl _ ih => exact .tup cs vs hl ih
  | nilp => exact .nilp
  | ptr g v i o a ob hg hv hk3 h =>
    obtain ⟨ob', hg', hle, hs'⟩ := hs.obj g ob hg
    refine .ptr g v i o a ob' hg' (by omega) (by rw [hle.2]; exact hk3) fun e => ?_
    have e1 : ob.ver = v := by omega
    obtain ⟨b, hb, ha⟩ := h e1
    obtain ⟨a1, a2, _⟩ := hs' (by omega)
    exact ⟨b, a1 b hb, by rw [a2]; exact ha⟩
  | cptr row o b q f hc _ ih =>
    refine .cptr row o b q f (fun j d hj ho => ?_) ih
    obtain ⟨h1, h2, h3⟩ := hc j d hj ho
    obtain ⟨k1, k2⟩ := hs.imm _ _ h2
    exact ⟨k1.trans h1, k2, h3⟩
  | nils => exact .nils
  | sl sz rows cap A n c hn hnc hcap hz b o f hA hc _ ih =>
    refine .sl sz rows cap A n c hn hnc hcap hz b o f hA (fun i r j d hi hj => ?_) ih
    obtain ⟨h1, h2, h3⟩ := hc i r j d hi hj
    obtain ⟨k1, k2⟩ := hs.imm _ _ h2
    exact ⟨k1.trans h1, k2, h3⟩
  | msl g v lo n cap A c ob hnc hcap hg hv hk3 h =>
    obtain ⟨ob', hg', hle, hs'⟩ := hs.obj g ob hg
    refine .msl g v lo n cap A c ob' hnc hcap hg' (by omega) (by rw [hle.2]; exact hk3) fun e => ?_
    obtain ⟨b, hb, hlo, hA, hc⟩ := h (by omega)
    obtain ⟨a1, a2, a3, a4, a5⟩ := hs' (by omega)
    refine ⟨b, a1 b hb, by omega, by rw [a2]; exact hA, fun hn => ?_⟩
    obtain ⟨cur, h1, h2⟩ := hc hn
    obtain ⟨cur', h3, h4⟩ := a5 b cur hb h1
    exact ⟨cur', by rw [a3]; exact h3, by rw [h4, h2, a2]⟩
  | fn f cs vs hl _ ih => exact .fn f cs vs hl ih
  | nilfn => exact .nilfn
  | mref g v r ob hg hv h =>
    obtain ⟨ob', hg', hle, hs'⟩ := hs.obj g ob hg
    refine .mref g v r ob' hg' (by omega) fun e => ?_
    exact (hs' (by omega)).1 _ (h (by omega))
  | nilm => exact .nilm
  | mp rows b clock es f hb hx hf hl hz he hc _ ih =>
    obtain ⟨h1, h2⟩ := hs.out b (Array.getElem?_eq_some_iff.1 hb).1 hf
    exact .mp rows b clock es f (h1.trans hb) (by rw [hs.hid]; exact hx) h2 hl hz he hc ih

theorem VR.mono {w w' : World} {ρ ρ' : RMap} {S S' : St} (hs : Stp w ρ S w' ρ' S') {d : D} {v : Value} (h : VR w ρ S.heap d v) : VR w' ρ' S'.heap d v := h.fwd hs.fwd

theorem free_V {d : D} (h : d.free = true) : d.freeV = true := by
  cases d <;> first | exact h | (simp [D.free] at h; done)
/-- a value without references stays where the cells that are never written stay -/
theorem VR.freeV_mono {w w' : World} {ρ ρ' : RMap} {H H' : List AObj} (hi : ∀ b q, Imm w ρ H b q → w'.cell? ⟨b, q, none⟩ = w.cell? ⟨b, q, none⟩ ∧ Imm w' ρ' H' b q) (ho : ∀ b es c, w.heap[b]? = some (.map es c) → (∀ g, ρ g ≠ some b) → ¬ ρ.X b 0 → w'.heap[b]? = w.heap[b]? ∧ (∀ g, ρ' g ≠ some b) ∧ ¬ ρ'.X b 0) {d : D} {v : Value} (h : VR w ρ H d v) (hf : d.freeV = true) : VR w' ρ' H' d v := by
  induction h with
  | undef v => simp [D.freeV, D.free] at hf
  | skip => simp [D.freeV, D.free] at hf
  | nili => exact .nili
  | ifc t d v hfd hv _ ih => exact .ifc t d v hfd hv (ih hfd)
  | ifr t d v hv _ ih => simp [D.freeV, D.free] at hf
  | iter g v r ob hg hv h => simp [D.freeV, D.free] at hf
  | int k n => exact .int k n
  | bool b => exact .bool b
  | str s => exact .str s
  | agg cs vs hl hc _ ih =>
    refine .agg cs vs hl hc fun j d v h1 h2 => ih j d v h1 h2 (free_V ?_)
    simp only [D.freeV, List.all_eq_true] at hf
    exact hf d (List.mem_of_getElem? h1)
  | tup cs vs hl _ ih => simp [D.freeV, D.free] at hf
  | nilp => exact .nilp
  | ptr g v i o a ob hg hv hk3 h => simp [D.freeV, D.free] at hf
  | cptr row o b q f hc _ ih =>
    refine .cptr row o b q f (fun j d hj ho' => ?_) (fun j d hj ho' => ih j d hj ho' (free_V (hc j d hj ho').2.2))
    obtain ⟨h1, h2, h3⟩ := hc j d hj ho'
    obtain ⟨k1, k2⟩ := hi _ _ h2
    exact ⟨k1.trans h1, k2, h3⟩
  | nils => exact .nils
  | sl sz rows cap A n c hn hnc hcap hz b o f hA hc _ ih =>
    refine .sl sz rows cap A n c hn hnc hcap hz b o f hA (fun i r j d hi' hj => ?_) (fun i r j d hi' hj => ih i r j d hi' hj (free_V (hc i r j d hi' hj).2.2))
    obtain ⟨h1, h2, h3⟩ := hc i r j d hi' hj
    obtain ⟨k1, k2⟩ := hi _ _ h2
    exact ⟨k1.trans h1, k2, h3⟩
  | msl g v lo n cap A c ob hnc hcap hg hv hk3 h => simp [D.freeV, D.free] at hf
  | fn f cs vs hl _ ih =>
    cases cs with
    | nil => exact .fn f [] vs hl (fun j d v h => by simp at h)
    | cons c cs => simp [D.freeV, D.free] at hf
  | nilfn => exact .nilfn
  | mref g v r ob hg hv h => simp [D.freeV, D.free] at hf
  | nilm => exact .nilm
  | mp rows b clock es f hb hx hf' hl hz he hc _ ih =>
    obtain ⟨h1, h2, h3⟩ := ho b es clock hb hf' hx
    exact .mp rows b clock es f (h1.trans hb) h3 h2 hl hz he hc (fun i r j d hi' hj => ih i r j d hi' hj (hc i r j d hi' hj).1)
theorem VR.free_mono {w w' : World} {ρ ρ' : RMap} {H H' : List AObj} (hi : ∀ b q, Imm w ρ H b q → w'.cell? ⟨b, q, none⟩ = w.cell? ⟨b, q, none⟩ ∧ Imm w' ρ' H' b q) (ho : ∀ b es c, w.heap[b]? = some (.map es c) → (∀ g, ρ g ≠ some b) → ¬ ρ.X b 0 → w'.heap[b]? = w.heap[b]? ∧ (∀ g, ρ' g ≠ some b) ∧ ¬ ρ'.X b 0) {d : D} {v : Value} (h : VR w ρ H d v) (hf : d.free = true) : VR w' ρ' H' d v := h.freeV_mono hi ho (free_V hf)
theorem Rel.hids {w w' : World} {ρ ρ' : RMap} {S S' : St} (hr : Rel w ρ S.heap) (hs : Stp w ρ S w' ρ' S') : ∀ b q, ρ'.X b q → b < w'.heap.size ∧ ∀ g, ρ' g ≠ some b := by
  intro b q hx
  rw [hs.hid] at hx
  obtain ⟨h1, h2⟩ := hr.hid b q hx
  exact ⟨Nat.lt_of_lt_of_le h1 hs.size, (hs.out b h1 h2).2⟩
end Go.Proofs.YtabgobmeibjeeaaGreatDoor

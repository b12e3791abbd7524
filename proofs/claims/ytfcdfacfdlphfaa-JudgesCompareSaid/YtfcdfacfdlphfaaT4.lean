/- Proved here: how the six growing lists of a result lie apart while they grow; no condition. -/
import Derived.Test.YtfcdfacfdlphfaaT3
import Derived.Deep.RegionHeld3
import Derived.Deep.RegionLaw
import Derived.Deep.AppendLies
namespace Go.Proofs.Ytfcdfacfdlphfaa
open Go.ChangeShapes Go.WideShapes Go.ChangeAt Go.RowKit
set_option linter.unusedVariables false

theorem info40 : (Try.prog.info? 40).map (fun i => (i.zero, i.size, i.bytes)) = some (some (.agg #[.int .i64 0, .int .u64 0]), 2, 16) := by kernel_rfl
theorem info5 : (Try.prog.info? 5).map (fun i => (i.zero, i.size, i.bytes)) = some (some (.int .u8 0), 1, 1) := by kernel_rfl
theorem info9 : (Try.prog.info? 9).map (fun i => (i.zero, i.size, i.bytes)) = some (some (.string ⟨#[]⟩), 1, 16) := by kernel_rfl
theorem info42 : (Try.prog.info? 42).map (fun i => (i.zero, i.size, i.bytes)) = some (some (.agg #[.string ⟨#[]⟩, .string ⟨#[]⟩, .string ⟨#[]⟩, .int .i64 0]), 4, 56) := by kernel_rfl
theorem info44 : (Try.prog.info? 44).map (fun i => (i.zero, i.size, i.bytes)) = some (some (.agg #[.string ⟨#[]⟩, .string ⟨#[]⟩, .string ⟨#[]⟩]), 3, 48) := by kernel_rfl

section
variable {w w' : World} {base : Nat} {e1 e2 s1 s2 n1 n2 : Nat} {v1 v2 : Value} {xs1 xs2 : List Value}
theorem own_ne (h1 : w.ownsRow base e1 s1 v1 n1 xs1) (h2 : w.ownsRow base e2 s2 v2 n2 xs2) (hne : e1 ≠ e2) : v1.ownBlock = none ∨ v1.ownBlock ≠ v2.ownBlock := by
  rcases h1.2 with ⟨rfl, _⟩ | ⟨g, cap, cur, rfl, _, hg, _⟩
  · exact .inl rfl
  · right
    rcases h2.2 with ⟨rfl, _⟩ | ⟨g', cap', cur', rfl, _, hg', _⟩
    · simp [Value.ownBlock]
    · simp only [Value.ownBlock, ne_eq, Option.some.injEq]
      rintro rfl
      rw [hg] at hg'
      injection hg' with h
      injection h with _ h
      exact hne h
theorem own_blk {g : Nat} {t : TypeId} {cs : Array Value} (h1 : w.ownsRow base e1 s1 v1 n1 xs1) (hb : Blk w g t cs) (hne : e1 ≠ t) : v1.ownBlock ≠ some g := by
  rcases h1.2 with ⟨rfl, _⟩ | ⟨g', cap, cur, rfl, _, hg, _⟩
  · simp [Value.ownBlock]
  · simp only [Value.ownBlock, ne_eq, Option.some.injEq]
    rintro rfl
    unfold Blk at hb
    rw [hg] at hb
    injection hb with h
    injection h with _ h
    exact hne h
theorem own_setCell (h1 : w.ownsRow base e1 s1 v1 n1 xs1) {p : Addr} (hp : v1.ownBlock ≠ some p.block) (u : Value) : (w.setCell p u).ownsRow base e1 s1 v1 n1 xs1 := by
  refine ⟨h1.1, ?_⟩
  rcases h1.2 with h | ⟨g', cap, cur, rfl, hb, hg, hr⟩
  · exact .inl h
  · refine .inr ⟨g', cap, cur, rfl, hb, ?_, hr⟩
    rw [Below.heap_setCell _ _ _ _ (by simpa [Value.ownBlock] using hp)]
    exact hg
end
theorem Blk.set_ {w : World} {g : Nat} {t : TypeId} {cs : Array Value} (h : Blk w g t cs) (i : Nat) (u : Value) : Blk (w.setCell ⟨g, i, none⟩ u) g t (cs.setIfInBounds i u) := by
  unfold Blk at h ⊢
  simp [World.setCell, Array.getElem?_modify, h]
theorem Blk.grown {w w' : World} {g : Nat} {t : TypeId} {cs : Array Value} {row : Option Nat} (h : Blk w g t cs) (hb : w.grownBy w' row) (hg : row ≠ some g) : Blk w' g t cs := (hb.block g h.lt (Ne.symm hg)).trans h
theorem Blk.frozen {w : World} {g : Nat} {t : TypeId} {cs : Array Value} (h : Blk w g t cs) (i : Nat) : w.frozen? ⟨g, i, none⟩ = false := by
  unfold Blk at h
  simp [World.frozen?, h]

/-- what result(l) has behind k rounds -/
def ch (z : Int) : ByteArray := strOfNums [97 + z % 26]

structure Six (w : World) (base g g0 : Nat) (l1 l2 l3 l4 l5 l6 : List Int) (v1 v2 v3 v4 v5 v6 : Value) : Prop where
  blk : Blk w g 31 #[.int .u8 0, .int .i64 0, v1, v2, v3, .int .i64 3, v4, v5, v6]
  res : Blk w g0 31 #[.int .u8 0, .int .i64 0, .slice none 0 0, .slice none 0 0, .slice none 0 0, .int .i64 0, .slice none 0 0, .slice none 0 0, .slice none 0 0]
  o1 : w.ownsRow base 40 2 v1 l1.length (l1.flatMap fun z => [.int .i64 z, .int .u64 0])
  o2 : w.ownsRow base 5 1 v2 l2.length (l2.map fun z => .int .u8 z)
  o3 : w.ownsRow base 9 1 v3 l3.length (l3.map fun z => .string (ch z))
  o4 : w.ownsRow base 42 4 v4 l4.length (l4.flatMap fun z => [.string ⟨#[]⟩, .string (ch z), .string ⟨#[]⟩, .int .i64 0])
  o5 : w.ownsRow base 44 3 v5 l5.length (l5.flatMap fun z => [.string ⟨#[]⟩, .string ⟨#[]⟩, .string (ch z)])
  o6 : w.ownsRow base 9 1 v6 l6.length (l6.map fun z => .string (ch z))
  ap : v3.ownBlock = none ∨ v3.ownBlock ≠ v6.ownBlock
  ap' : v6.ownBlock = none ∨ v6.ownBlock ≠ v3.ownBlock
  ne : g ≠ g0

section
variable {w w1 : World} {base g g0 : Nat} {l1 l2 l3 l4 l5 l6 : List Int} {v1 v2 v3 v4 v5 v6 : Value}
theorem Six.alloc (h : Six w base g g0 l1 l2 l3 l4 l5 l6 v1 v2 v3 v4 v5 v6) (o : Obj) : Six (w.alloc o) base g g0 l1 l2 l3 l4 l5 l6 v1 v2 v3 v4 v5 v6 :=
  ⟨h.blk.alloc o, h.res.alloc o, h.o1.alloc o, h.o2.alloc o, h.o3.alloc o, h.o4.alloc o, h.o5.alloc o, h.o6.alloc o, h.ap, h.ap', h.ne⟩
theorem Six.drewN (h : Six w base g g0 l1 l2 l3 l4 l5 l6 v1 v2 v3 v4 v5 v6) (n : Nat) : Six (w.drewN n) base g g0 l1 l2 l3 l4 l5 l6 v1 v2 v3 v4 v5 v6 := ⟨h.blk, h.res, h.o1, h.o2, h.o3, h.o4, h.o5, h.o6, h.ap, h.ap', h.ne⟩
theorem Six.drew (h : Six w base g g0 l1 l2 l3 l4 l5 l6 v1 v2 v3 v4 v5 v6) : Six w.drew base g g0 l1 l2 l3 l4 l5 l6 v1 v2 v3 v4 v5 v6 := ⟨h.blk, h.res, h.o1, h.o2, h.o3, h.o4, h.o5, h.o6, h.ap, h.ap', h.ne⟩
theorem ne_new {v v' : Value} {gg : Nat} {w : World} {e s n base : Nat} {xs : List Value} (h : w.ownsRow base e s v n xs) (ha : v.ownBlock = none ∨ v.ownBlock ≠ v'.ownBlock) (hat : v'.ownBlock = some gg ∨ gg = w.heap.size) : v.ownBlock = none ∨ v.ownBlock ≠ some gg := by
  rcases hat with hat | rfl
  · rwa [hat] at ha
  · right
    intro h1
    have := (h.lt _ h1).2
    omega
theorem new_ne {v : Value} {gg n cap : Nat} (h : v.ownBlock = none ∨ v.ownBlock ≠ some gg) : (Value.slice (some ⟨gg, 0, none⟩) n cap).ownBlock = none ∨ (Value.slice (some ⟨gg, 0, none⟩) n cap).ownBlock ≠ v.ownBlock := by
  right
  rcases h with h | h
  · rw [h]; simp [Value.ownBlock]
  · exact Ne.symm h
theorem Six.add1 {gg cap : Nat} {z : Int} (h : Six w base g g0 l1 l2 l3 l4 l5 l6 v1 v2 v3 v4 v5 v6) (hown : w1.ownsRow base 40 2 (.slice (some ⟨gg, 0, none⟩) (l1.length + 1) cap) (l1.length + 1) ((l1.flatMap fun z => [.int .i64 z, .int .u64 0]) ++ [.int .i64 z, .int .u64 0])) (hgrow : w.grownBy w1 v1.ownBlock) (hat : v1.ownBlock = some gg ∨ gg = w.heap.size) :
    Six (w1.setCell ⟨g, 2, none⟩ (.slice (some ⟨gg, 0, none⟩) (l1.length + 1) cap)) base g g0 (l1 ++ [z]) l2 l3 l4 l5 l6 (.slice (some ⟨gg, 0, none⟩) (l1.length + 1) cap) v2 v3 v4 v5 v6 := by
  have hb := h.blk.grown hgrow (own_blk h.o1 h.blk (by decide))
  have hr := h.res.grown hgrow (own_blk h.o1 h.res (by decide))
  have hn := own_blk hown hb (by decide)
  have k2 := h.o2.kept hgrow (own_ne h.o2 h.o1 (by decide))
  have k3 := h.o3.kept hgrow (own_ne h.o3 h.o1 (by decide))
  have k4 := h.o4.kept hgrow (own_ne h.o4 h.o1 (by decide))
  have k5 := h.o5.kept hgrow (own_ne h.o5 h.o1 (by decide))
  have k6 := h.o6.kept hgrow (own_ne h.o6 h.o1 (by decide))
  exact ⟨by simpa using hb.set_ 2 _, (Below.heap_setCell _ _ _ _ (Ne.symm h.ne)).trans hr, by simpa using own_setCell hown hn _, own_setCell k2 (own_blk k2 hb (by decide)) _, own_setCell k3 (own_blk k3 hb (by decide)) _, own_setCell k4 (own_blk k4 hb (by decide)) _, own_setCell k5 (own_blk k5 hb (by decide)) _, own_setCell k6 (own_blk k6 hb (by decide)) _, h.ap, h.ap', h.ne⟩
theorem Six.add2 {gg cap : Nat} {z : Int} (h : Six w base g g0 l1 l2 l3 l4 l5 l6 v1 v2 v3 v4 v5 v6) (hown : w1.ownsRow base 5 1 (.slice (some ⟨gg, 0, none⟩) (l2.length + 1) cap) (l2.length + 1) ((l2.map fun z => .int .u8 z) ++ [.int .u8 z])) (hgrow : w.grownBy w1 v2.ownBlock) (hat : v2.ownBlock = some gg ∨ gg = w.heap.size) :
    Six (w1.setCell ⟨g, 3, none⟩ (.slice (some ⟨gg, 0, none⟩) (l2.length + 1) cap)) base g g0 l1 (l2 ++ [z]) l3 l4 l5 l6 v1 (.slice (some ⟨gg, 0, none⟩) (l2.length + 1) cap) v3 v4 v5 v6 := by
  have hb := h.blk.grown hgrow (own_blk h.o2 h.blk (by decide))
  have hr := h.res.grown hgrow (own_blk h.o2 h.res (by decide))
  have hn := own_blk hown hb (by decide)
  have k1 := h.o1.kept hgrow (own_ne h.o1 h.o2 (by decide))
  have k3 := h.o3.kept hgrow (own_ne h.o3 h.o2 (by decide))
  have k4 := h.o4.kept hgrow (own_ne h.o4 h.o2 (by decide))
  have k5 := h.o5.kept hgrow (own_ne h.o5 h.o2 (by decide))
  have k6 := h.o6.kept hgrow (own_ne h.o6 h.o2 (by decide))
  exact ⟨by simpa using hb.set_ 3 _, (Below.heap_setCell _ _ _ _ (Ne.symm h.ne)).trans hr, own_setCell k1 (own_blk k1 hb (by decide)) _, by simpa using own_setCell hown hn _, own_setCell k3 (own_blk k3 hb (by decide)) _, own_setCell k4 (own_blk k4 hb (by decide)) _, own_setCell k5 (own_blk k5 hb (by decide)) _, own_setCell k6 (own_blk k6 hb (by decide)) _, h.ap, h.ap', h.ne⟩
theorem Six.add3 {gg cap : Nat} {z : Int} (h : Six w base g g0 l1 l2 l3 l4 l5 l6 v1 v2 v3 v4 v5 v6) (hown : w1.ownsRow base 9 1 (.slice (some ⟨gg, 0, none⟩) (l3.length + 1) cap) (l3.length + 1) ((l3.map fun z => .string (ch z)) ++ [.string (ch z)])) (hgrow : w.grownBy w1 v3.ownBlock) (hat : v3.ownBlock = some gg ∨ gg = w.heap.size) :
    Six (w1.setCell ⟨g, 4, none⟩ (.slice (some ⟨gg, 0, none⟩) (l3.length + 1) cap)) base g g0 l1 l2 (l3 ++ [z]) l4 l5 l6 v1 v2 (.slice (some ⟨gg, 0, none⟩) (l3.length + 1) cap) v4 v5 v6 := by
  have hb := h.blk.grown hgrow (own_blk h.o3 h.blk (by decide))
  have hr := h.res.grown hgrow (own_blk h.o3 h.res (by decide))
  have hn := own_blk hown hb (by decide)
  have k1 := h.o1.kept hgrow (own_ne h.o1 h.o3 (by decide))
  have k2 := h.o2.kept hgrow (own_ne h.o2 h.o3 (by decide))
  have k4 := h.o4.kept hgrow (own_ne h.o4 h.o3 (by decide))
  have k5 := h.o5.kept hgrow (own_ne h.o5 h.o3 (by decide))
  have k6 := h.o6.kept hgrow h.ap'
  exact ⟨by simpa using hb.set_ 4 _, (Below.heap_setCell _ _ _ _ (Ne.symm h.ne)).trans hr, own_setCell k1 (own_blk k1 hb (by decide)) _, own_setCell k2 (own_blk k2 hb (by decide)) _, by simpa using own_setCell hown hn _, own_setCell k4 (own_blk k4 hb (by decide)) _, own_setCell k5 (own_blk k5 hb (by decide)) _, own_setCell k6 (own_blk k6 hb (by decide)) _, new_ne (ne_new h.o6 h.ap' hat), ne_new h.o6 h.ap' hat, h.ne⟩
theorem Six.add4 {gg cap : Nat} {z : Int} (h : Six w base g g0 l1 l2 l3 l4 l5 l6 v1 v2 v3 v4 v5 v6) (hown : w1.ownsRow base 42 4 (.slice (some ⟨gg, 0, none⟩) (l4.length + 1) cap) (l4.length + 1) ((l4.flatMap fun z => [.string ⟨#[]⟩, .string (ch z), .string ⟨#[]⟩, .int .i64 0]) ++ [.string ⟨#[]⟩, .string (ch z), .string ⟨#[]⟩, .int .i64 0])) (hgrow : w.grownBy w1 v4.ownBlock) (hat : v4.ownBlock = some gg ∨ gg = w.heap.size) :
    Six (w1.setCell ⟨g, 6, none⟩ (.slice (some ⟨gg, 0, none⟩) (l4.length + 1) cap)) base g g0 l1 l2 l3 (l4 ++ [z]) l5 l6 v1 v2 v3 (.slice (some ⟨gg, 0, none⟩) (l4.length + 1) cap) v5 v6 := by
  have hb := h.blk.grown hgrow (own_blk h.o4 h.blk (by decide))
  have hr := h.res.grown hgrow (own_blk h.o4 h.res (by decide))
  have hn := own_blk hown hb (by decide)
  have k1 := h.o1.kept hgrow (own_ne h.o1 h.o4 (by decide))
  have k2 := h.o2.kept hgrow (own_ne h.o2 h.o4 (by decide))
  have k3 := h.o3.kept hgrow (own_ne h.o3 h.o4 (by decide))
  have k5 := h.o5.kept hgrow (own_ne h.o5 h.o4 (by decide))
  have k6 := h.o6.kept hgrow (own_ne h.o6 h.o4 (by decide))
  exact ⟨by simpa using hb.set_ 6 _, (Below.heap_setCell _ _ _ _ (Ne.symm h.ne)).trans hr, own_setCell k1 (own_blk k1 hb (by decide)) _, own_setCell k2 (own_blk k2 hb (by decide)) _, own_setCell k3 (own_blk k3 hb (by decide)) _, by simpa using own_setCell hown hn _, own_setCell k5 (own_blk k5 hb (by decide)) _, own_setCell k6 (own_blk k6 hb (by decide)) _, h.ap, h.ap', h.ne⟩
theorem Six.add5 {gg cap : Nat} {z : Int} (h : Six w base g g0 l1 l2 l3 l4 l5 l6 v1 v2 v3 v4 v5 v6) (hown : w1.ownsRow base 44 3 (.slice (some ⟨gg, 0, none⟩) (l5.length + 1) cap) (l5.length + 1) ((l5.flatMap fun z => [.string ⟨#[]⟩, .string ⟨#[]⟩, .string (ch z)]) ++ [.string ⟨#[]⟩, .string ⟨#[]⟩, .string (ch z)])) (hgrow : w.grownBy w1 v5.ownBlock) (hat : v5.ownBlock = some gg ∨ gg = w.heap.size) :
    Six (w1.setCell ⟨g, 7, none⟩ (.slice (some ⟨gg, 0, none⟩) (l5.length + 1) cap)) base g g0 l1 l2 l3 l4 (l5 ++ [z]) l6 v1 v2 v3 v4 (.slice (some ⟨gg, 0, none⟩) (l5.length + 1) cap) v6 := by
  have hb := h.blk.grown hgrow (own_blk h.o5 h.blk (by decide))
  have hr := h.res.grown hgrow (own_blk h.o5 h.res (by decide))
  have hn := own_blk hown hb (by decide)
  have k1 := h.o1.kept hgrow (own_ne h.o1 h.o5 (by decide))
  have k2 := h.o2.kept hgrow (own_ne h.o2 h.o5 (by decide))
  have k3 := h.o3.kept hgrow (own_ne h.o3 h.o5 (by decide))
  have k4 := h.o4.kept hgrow (own_ne h.o4 h.o5 (by decide))
  have k6 := h.o6.kept hgrow (own_ne h.o6 h.o5 (by decide))
  exact ⟨by simpa using hb.set_ 7 _, (Below.heap_setCell _ _ _ _ (Ne.symm h.ne)).trans hr, own_setCell k1 (own_blk k1 hb (by decide)) _, own_setCell k2 (own_blk k2 hb (by decide)) _, own_setCell k3 (own_blk k3 hb (by decide)) _, own_setCell k4 (own_blk k4 hb (by decide)) _, by simpa using own_setCell hown hn _, own_setCell k6 (own_blk k6 hb (by decide)) _, h.ap, h.ap', h.ne⟩
theorem Six.add6 {gg cap : Nat} {z : Int} (h : Six w base g g0 l1 l2 l3 l4 l5 l6 v1 v2 v3 v4 v5 v6) (hown : w1.ownsRow base 9 1 (.slice (some ⟨gg, 0, none⟩) (l6.length + 1) cap) (l6.length + 1) ((l6.map fun z => .string (ch z)) ++ [.string (ch z)])) (hgrow : w.grownBy w1 v6.ownBlock) (hat : v6.ownBlock = some gg ∨ gg = w.heap.size) :
    Six (w1.setCell ⟨g, 8, none⟩ (.slice (some ⟨gg, 0, none⟩) (l6.length + 1) cap)) base g g0 l1 l2 l3 l4 l5 (l6 ++ [z]) v1 v2 v3 v4 v5 (.slice (some ⟨gg, 0, none⟩) (l6.length + 1) cap) := by
  have hb := h.blk.grown hgrow (own_blk h.o6 h.blk (by decide))
  have hr := h.res.grown hgrow (own_blk h.o6 h.res (by decide))
  have hn := own_blk hown hb (by decide)
  have k1 := h.o1.kept hgrow (own_ne h.o1 h.o6 (by decide))
  have k2 := h.o2.kept hgrow (own_ne h.o2 h.o6 (by decide))
  have k3 := h.o3.kept hgrow h.ap
  have k4 := h.o4.kept hgrow (own_ne h.o4 h.o6 (by decide))
  have k5 := h.o5.kept hgrow (own_ne h.o5 h.o6 (by decide))
  exact ⟨by simpa using hb.set_ 8 _, (Below.heap_setCell _ _ _ _ (Ne.symm h.ne)).trans hr, own_setCell k1 (own_blk k1 hb (by decide)) _, own_setCell k2 (own_blk k2 hb (by decide)) _, own_setCell k3 (own_blk k3 hb (by decide)) _, own_setCell k4 (own_blk k4 hb (by decide)) _, own_setCell k5 (own_blk k5 hb (by decide)) _, by simpa using own_setCell hown hn _, ne_new h.o3 h.ap hat, new_ne (ne_new h.o3 h.ap hat), h.ne⟩
end
/-- what is left of it when the result has been handed over -/
structure SixL (w : World) (base : Nat) (l : List Int) (v1 v2 v3 v4 v5 v6 : Value) : Prop where
  o1 : w.ownsRow base 40 2 v1 l.length (l.flatMap fun z => [.int .i64 z, .int .u64 0])
  o2 : w.ownsRow base 5 1 v2 l.length (l.map fun z => .int .u8 z)
  o3 : w.ownsRow base 9 1 v3 l.length (l.map fun z => .string (ch z))
  o4 : w.ownsRow base 42 4 v4 l.length (l.flatMap fun z => [.string ⟨#[]⟩, .string (ch z), .string ⟨#[]⟩, .int .i64 0])
  o5 : w.ownsRow base 44 3 v5 l.length (l.flatMap fun z => [.string ⟨#[]⟩, .string ⟨#[]⟩, .string (ch z)])
  o6 : w.ownsRow base 9 1 v6 l.length (l.map fun z => .string (ch z))
  ap : v3.ownBlock = none ∨ v3.ownBlock ≠ v6.ownBlock
  ap' : v6.ownBlock = none ∨ v6.ownBlock ≠ v3.ownBlock
end Go.Proofs.Ytfcdfacfdlphfaa

/- Proved here: pointers compared, strings gone over, bytes that become strings, and the library's functions that the model carries out itself are as in the abstract machine; no condition. -/
import Derived.Test.YtabgobmeibjeeaaGreatDoorLo9c
import Derived.Lib.UnsafeStr
import Derived.Lib.Builder
import Derived.Lib.Bytealg
import Derived.Lib.AppendStr
namespace Go.Proofs.YtabgobmeibjeeaaGreatDoor
open Go.RowKit
set_option linter.unusedVariables false
set_option linter.unusedSimpArgs false

section
variable {P : Program} {w : World} {ρ : RMap} {S : St}

/-! pointers -/
theorem ptrT_iff {t e : TypeId} : ptrT P t = some e ↔ P.underlying t = some (.pointer e) := by
  unfold ptrT
  split
  · rename_i e' h; simp [h]
  · rename_i h; constructor
    · intro h'; simp at h'
    · intro h'; exact absurd h' (h e)
theorem unsT_iff {t : TypeId} : unsT P t = true ↔ P.underlying t = some .unsafePointer := by
  unfold unsT
  split
  · rename_i h; simp [h]
  · rename_i h; constructor
    · intro h'; simp at h'
    · intro h'; exact absurd h' h
theorem eqp_ok {d1 d2 : D} {v1 v2 : Value} {t e : TypeId} {n : Nat} {b : Bool} {op : BinOp} {x y : Operand} (ho : op = .eql ∨ op = .neq) (ht : ptrT P t = some e) (hn : sizeT P e = some n) (h1 : VR w ρ S.heap d1 v1) (h2 : VR w ρ S.heap d2 v2) (h : eqpD S d1 d2 = some b) :
    ∃ v, (do eqGuard op t x y v1 v2; binOp op t v1 v2).run P w = .ok v w ∧ VR w ρ S.heap (.bool (b != decide (op = .neq))) v := by
  have hu := ptrT_iff.1 ht
  have key : (∀ d : Nat, (Op.equalIn (d + 1) t v1 v2).run P w = .ok b w) → (eqGuard op t x y v1 v2).run P w = .ok () w → (op = .eql → binOp op t v1 v2 = (do pure (.bool (← Op.equal t v1 v2)))) → (op = .neq → binOp op t v1 v2 = (do pure (.bool (!(← Op.equal t v1 v2))))) →
      ∃ v, (do eqGuard op t x y v1 v2; binOp op t v1 v2).run P w = .ok v w ∧ VR w ρ S.heap (.bool (b != decide (op = .neq))) v := by
    intro he hg hb1 hb2
    have hq : (Op.equal t v1 v2).run P w = .ok b w := he 9999
    rcases ho with rfl | rfl
    · exact ⟨.bool b, by rw [run_ok_bind hg, hb1 rfl, run_ok_bind hq]; rfl, by cases b <;> exact .bool _⟩
    · exact ⟨.bool !b, by rw [run_ok_bind hg, hb2 rfl, run_ok_bind hq]; rfl, by cases b <;> exact .bool _⟩
  unfold eqpD at h
  split at h
  · simp only [Option.some.injEq] at h
    subst h
    cases h1; cases h2
    exact key (fun d => by unfold Op.equalIn; rw [run_ok_bind (run_underlying hu w)]; rfl) (by rcases ho with rfl | rfl <;> rfl) (by rintro rfl; rfl) (by rintro rfl; rfl)
  · simp only [Option.some.injEq] at h
    subst h
    cases h1; cases h2
    exact key (fun d => by unfold Op.equalIn; rw [run_ok_bind (run_underlying hu w)]; rfl) (by rcases ho with rfl | rfl <;> rfl) (by rintro rfl; rfl) (by rintro rfl; rfl)
  · simp only [Option.some.injEq] at h
    subst h
    cases h1; cases h2
    exact key (fun d => by unfold Op.equalIn; rw [run_ok_bind (run_underlying hu w)]; rfl) (by rcases ho with rfl | rfl <;> rfl) (by rintro rfl; rfl) (by rintro rfl; rfl)
  · simp only [Option.some.injEq] at h
    subst h
    cases h1; cases h2
    exact key (fun d => by unfold Op.equalIn; rw [run_ok_bind (run_underlying hu w)]; rfl) (by rcases ho with rfl | rfl <;> rfl) (by rintro rfl; rfl) (by rintro rfl; rfl)
  · simp only [Option.some.injEq] at h
    subst h
    cases h1; cases h2
    exact key (fun d => by unfold Op.equalIn; rw [run_ok_bind (run_underlying hu w)]; rfl) (by rcases ho with rfl | rfl <;> rfl) (by rintro rfl; rfl) (by rintro rfl; rfl)
  · rename_i g v i o g' v' i' o'
    split at h
    · rename_i ob ob' hob hob'
      split at h
      · rename_i hgg
        subst hgg
        simp only [Option.some.injEq] at h
        cases h1 with | ptr _ _ _ _ a1 ob1 hg1 hv1 hk1 hc1 =>
        cases h2 with | ptr _ _ _ _ a2 ob2 hg2 hv2 hk2 hc2 =>
        unfold rowsOf at hob hob'
        simp only [hg1] at hob hob'
        rw [hg1] at hg2
        injection hg2 with hg2
        subst hg2
        split at hob
        · rename_i e1
          split at hob'
          · rename_i e2
            simp only [Option.some.injEq] at hob hob'
            subst hob
            obtain ⟨b1, r1, rfl⟩ := hc1 e1
            obtain ⟨b2, r2, rfl⟩ := hc2 e2
            rw [r1] at r2
            injection r2 with r2
            subst r2
            obtain ⟨i2, d2, hi2, hd2, hsz, h0⟩ := sizeT_some hn
            refine key (fun d => ?_) (by rcases ho with rfl | rfl <;> rfl) (by rintro rfl; rfl) (by rintro rfl; rfl)
            unfold Op.equalIn
            rw [run_ok_bind (run_underlying hu w)]
            simp only
            rw [run_ok_bind (run_sizeOf hn)]
            have hn0 : n ≠ 0 := by omega
            simp only [hn0, ne_eq, not_false_eq_true, if_true]
            unfold sameAddr
            simp only [beq_self_eq_true, if_true]
            have : ((⟨b1, i * ob1.sz + o, none⟩ : Addr) == ⟨b1, i' * ob1.sz + o', none⟩) = b := by
              rw [← h]
              by_cases hq : i * ob1.sz + o = i' * ob1.sz + o'
              · simp [hq]
              · simp [hq]
            rw [this]
            rfl
          · simp at hob'
        · simp at hob
      · simp at h
    · simp at h
  · simp at h
theorem shape_of {b : Nat} {cur : Array Value} {e : TypeId} {f : Nat × Nat} (h : w.heap[b]? = some (.cells cur e f)) : w.shape? b = some (e, cur.size) := by simp [World.shape?, h]
/-- a pointer to a whole variable -/
theorem whole_ptr {t : TypeId} {n : Nat} {x r : D} {v : Value} (hr : Rel w ρ S.heap) (hx : VR w ρ S.heap x v) (h : wholeD S t n x = some r) :
    VR w ρ S.heap r v ∧ (v = .pointer none ∨ ∃ b, v = .pointer (some ⟨b, 0, none⟩) ∧ w.shape? b = some (t, n)) := by
  unfold wholeD at h
  split at h
  · simp only [Option.some.injEq] at h
    subst h
    cases hx
    exact ⟨.nilp, .inl rfl⟩
  · rename_i g ver
    split at h
    · rename_i ob hob
      split at h
      · rename_i hk
        obtain ⟨hk0, rfl, rfl, hk1, hk2⟩ := hk
        simp only [Option.some.injEq] at h
        subst h
        refine ⟨hx, .inr ?_⟩
        cases hx with | ptr _ _ _ _ a ob1 hg hv hk3 hc =>
        unfold rowsOf at hob
        simp only [hg] at hob
        split at hob
        · rename_i e1
          simp only [Option.some.injEq] at hob
          subst hob
          obtain ⟨b, hb, rfl⟩ := hc e1
          obtain ⟨o1, ho1, cur, hcur, hz, ⟨c, hcc, hcl, _, hcg⟩, hl, hkk, hh⟩ := hr.cel hb hg hk3
          rw [hg] at ho1
          injection ho1 with ho1
          subst ho1
          refine ⟨b, by simp, ?_⟩
          rw [shape_of hcur, hcc, hcg hk2, hk1, Nat.one_mul]
        · simp at hob
      · simp at h
    · simp at h
  · simp at h
theorem cellsOf_size {t : TypeId} {n : Nat} (h : sizeT P t = some n) : P.cellsOf t = n := by
  obtain ⟨i, d, hi, hd, hsz, h0⟩ := sizeT_some h
  simp [Program.cellsOf, hi, hsz]
theorem toU_ok {s d t : TypeId} {n : Nat} {x r : D} {v : Value} (hr : Rel w ρ S.heap) (hs : ptrT P s = some t) (hd : unsT P d = true) (hn : sizeT P t = some n) (hx : VR w ρ S.heap x v) (h : wholeD S t n x = some r) :
    (convert s d v).run P w = .ok v w ∧ VR w ρ S.heap r v := by
  obtain ⟨h1, h2⟩ := whole_ptr hr hx h
  refine ⟨?_, h1⟩
  obtain ⟨i, td, hi, htd, hsz, h0⟩ := sizeT_some hn
  rcases h2 with rfl | ⟨b, rfl, hsh⟩
  · simp [convert, run_underlying (ptrT_iff.1 hs), run_underlying (unsT_iff.1 hd), Conv.unsafePointer]
  · exact Lib.run_to_unsafe w ⟨b, 0, none⟩ (ptrT_iff.1 hs) (unsT_iff.1 hd) hi (by omega) hsh (by simpa using h0)
theorem liesAt_whole {t : TypeId} {n : Nat} (hc : P.cellsOf t = n) (h0 : 0 < n) : liesAt P P.depth t (n / P.cellsOf t) 0 t 1 = true := by
  have hd : P.depth = (2 * (P.types.size + Made.depth) + 1) + 1 := rfl
  rw [hd]
  simp only [liesAt, Bool.or_eq_true]
  left
  rw [hd]
  have h1 : n / n = 1 := Nat.div_self h0
  have hn0 : n ≠ 0 := by omega
  simp [rowAt, hc, h1, sameLayout, hn0]
theorem ofU_ok {s d t : TypeId} {n : Nat} {x r : D} {v : Value} (hr : Rel w ρ S.heap) (hs : unsT P s = true) (hd : ptrT P d = some t) (hn : sizeT P t = some n) (hx : VR w ρ S.heap x v) (h : wholeD S t n x = some r) :
    (convert s d v).run P w = .ok v w ∧ VR w ρ S.heap r v := by
  obtain ⟨h1, h2⟩ := whole_ptr hr hx h
  refine ⟨?_, h1⟩
  obtain ⟨i, td, hi, htd, hsz, h0⟩ := sizeT_some hn
  rcases h2 with rfl | ⟨b, rfl, hsh⟩
  · simp [convert, run_underlying (unsT_iff.1 hs), run_underlying (ptrT_iff.1 hd), Conv.unsafePointer]
  · exact Lib.run_from_unsafe w ⟨b, 0, none⟩ (unsT_iff.1 hs) (ptrT_iff.1 hd) hi hsh (liesAt_whole (cellsOf_size hn) h0)

/-! bytes that become strings -/
theorem sdata_ok {ts : Array TypeId} {ty : TypeId} {x r : D} {v : Value} (hr : Rel w ρ S.heap) (hx : VR w ρ S.heap x v) (h : sdataD S x = some r) : ∃ u, (Builtin.unsafeSliceData_ ts ty #[v]).run P w = .ok u w ∧ VR w ρ S.heap r u := by
  unfold sdataD at h
  split at h
  · simp only [Option.some.injEq] at h
    subst h
    cases hx
    exact ⟨_, Lib.run_unsafeSliceData_nil w ts ty 0 0, .nilp⟩
  · rename_i g ver m
    split at h
    · rename_i ob hob
      split at h
      · simp only [Option.some.injEq] at h
        subst h
        cases hx with | msl _ _ _ _ _ A c ob1 hnc hcap hg hv hk3 hc =>
        refine ⟨_, Lib.run_unsafeSliceData_row w ts ty A _ c (by omega), .ptr g ver 0 0 A ob1 hg hv hk3 fun e => ?_⟩
        obtain ⟨b, hb, _, hA, _⟩ := hc e
        exact ⟨b, hb, by rw [hA (.inr rfl)]; simp⟩
      · simp at h
    · simp at h
  · simp at h
theorem freeze_set {b n : Nat} {cur : Array Value} {e : TypeId} (h : w.heap[b]? = some (.cells cur e (0, 0))) (o : Nat) (hn : n ≠ 0) : SetBlk w (w.freeze ⟨b, o, none⟩ n) b (.cells cur e (o, o + n)) := by
  have hlt := lt_of_heap h
  refine ⟨by simp [World.freeze, hn], by simp [World.freeze, hn], by simp [World.freeze, hn], by simp [World.freeze, hn], ?_, fun k hk => ?_⟩
  · simp [World.freeze, hn, Array.getElem?_modify, h]
  · simp [World.freeze, hn, Array.getElem?_modify, Ne.symm hk]
theorem bytesOfS_at : ∀ {rows : List (List D)} {l : List UInt8}, bytesOfS rows = some l → rows.length = l.length ∧ ∀ (j : Nat) (x : UInt8), l[j]? = some x → rows[j]? = some [D.int .u8 (x.toNat : Int)]
  | [], l, h => by
    simp only [bytesOfS, Option.some.injEq] at h
    subst h
    exact ⟨rfl, fun j x h => by simp at h⟩
  | r :: rows, l, h => by
    unfold bytesOfS at h
    split at h
    · simp at *
    · rename_i n l' heq
      simp only [List.cons.injEq] at heq
      obtain ⟨rfl, rfl⟩ := heq
      split at h
      · rename_i hb
        simp only [Option.map_eq_some_iff] at h
        obtain ⟨l2, hl2, rfl⟩ := h
        obtain ⟨h1, h2⟩ := bytesOfS_at hl2
        refine ⟨by simp [h1], fun j x hj => ?_⟩
        cases j with
        | zero =>
          simp at hj
          subst hj
          have : (UInt8.ofNat n.toNat).toNat = n.toNat := by simp; omega
          simp [this]
          omega
        | succ j => simpa using h2 j x (by simpa using hj)
      · simp at h
    · simp at h
theorem ustr_ok {pt it ty e : TypeId} {p r : D} {n : Int} {v : Value} {S' : St} {wr : Bool} (hr : Rel w ρ S.heap) (hp : ptrT P pt = some e) (hc : sizeT P e = some 1) (hx : VR w ρ S.heap p v) (h : ustrD S e p n = some (r, S', wr)) :
    ∃ u w', (Builtin.unsafeString_ #[pt, it] ty #[v, .int .i64 n]).run P w = .ok u w' ∧ OpPost w ρ S r S' wr u w' := by
  unfold ustrD at h
  split at h
  · split at h
    · rename_i hn
      subst hn
      simp only [Option.some.injEq, Prod.mk.injEq] at h
      obtain ⟨rfl, rfl, rfl⟩ := h
      cases hx
      exact ⟨_, w, Lib.run_unsafeString_none w pt it ty none, OpPost.pure hr (.str _)⟩
    · simp at h
  · rename_i g ver
    split at h
    · rename_i ob hob
      split at h
      · rename_i hcond
        obtain ⟨hkind, hsz, he, hn⟩ := hcond
        split at h
        · rename_i l hl
          simp only [Option.some.injEq, Prod.mk.injEq] at h
          obtain ⟨rfl, rfl, rfl⟩ := h
          cases hx with | ptr _ _ _ _ a ob1 hg hv hk3 hcp =>
          unfold rowsOf at hob
          simp only [hg] at hob
          split at hob
          · rename_i e1
            simp only [Option.some.injEq] at hob
            subst hob
            subst e1
            obtain ⟨b, hb, rfl⟩ := hcp rfl
            obtain ⟨o1, ho1, cur, hcur, hz, ⟨c, hcc, hcl, hcm, hcg⟩, hrl, hkk, hh⟩ := hr.cel hb hg hk3
            rw [hg] at ho1
            injection ho1 with ho1
            subst ho1
            obtain ⟨hlen, hat⟩ := bytesOfS_at hl
            subst hn he
            by_cases hne : l = []
            · subst hne
              have h0 : ob1.rows.length = 0 := by simpa using hlen
              rw [h0]
              refine ⟨_, w, Lib.run_unsafeString_none w pt it ty _, updN ρ g, ?_, ?_, .str _, by simp⟩
              · exact rel_drop (o' := { ob1 with ver := ob1.ver + 1 }) hr hb hg hcur (⟨rfl, rfl, rfl, rfl, hcur, fun _ _ => rfl⟩ : SetBlk w w b (.cells cur ob1.elem (0, 0))) (by simp) rfl
              · exact stp_drop (o' := { ob1 with ver := ob1.ver + 1 }) hr hb hg hcur (⟨rfl, rfl, rfl, rfl, hcur, fun _ _ => rfl⟩ : SetBlk w w b (.cells cur ob1.elem (0, 0))) (by simp) rfl
            · have hl0 : l.length ≠ 0 := by simpa using hne
              have hset := freeze_set hcur 0 hl0
              have hrun := Lib.run_unsafeString_row (P := P) w pt it ty ob1.elem (ptrT_iff.1 hp) (cellsOf_size hc) b cur.size (shape_of hcur) l hne (by rw [hcc, hsz]; omega) (by unfold maxLen at hcm; omega) (fun j x hj => by
                have hrow := hat j x hj
                obtain ⟨_, _, v, hv1, hv2⟩ := hh j _ 0 _ hrow rfl
                cases hv2
                rw [add_plain, Nat.zero_add]
                simp only [World.cell?, hcur]
                simpa [hsz] using hv1)
              rw [hlen]
              simp only [Nat.zero_mul, Nat.zero_add] at hrun ⊢
              refine ⟨_, _, hrun, updN ρ g, ?_, ?_, .str _, by simp⟩
              · exact rel_drop (o' := { ob1 with ver := ob1.ver + 1 }) hr hb hg hcur hset (by simp) rfl
              · exact stp_drop (o' := { ob1 with ver := ob1.ver + 1 }) hr hb hg hcur hset (by simp) rfl
          · simp at hob
        · simp at h
      · simp at h
    · simp at h
  · simp at h
theorem strsh_ok {s e : TypeId} {x r : D} {v : Value} {S' : St} {wr : Bool} (hr : Rel w ρ S.heap) (hs : P.underlying s = some (.slice e)) (he : P.underlying e = some (.int .u8)) (hx : VR w ρ S.heap x v) (h : strshD S x = some (r, S', wr)) :
    ∃ u w', (convert s s v).run P w = .ok u w' ∧ OpPost w ρ S r S' wr u w' := by
  unfold strshD at h
  split at h
  · rename_i g ver n
    split at h
    · rename_i ob hob
      split at h
      · rename_i hcond
        obtain ⟨hk2, hsz, rfl, hgr⟩ := hcond
        simp only [Option.some.injEq, Prod.mk.injEq] at h
        obtain ⟨rfl, rfl, rfl⟩ := h
        cases hx with | msl _ _ _ _ _ A c ob1 hnc hcap hg hv hk3 hc =>
        unfold rowsOf at hob
        simp only [hg] at hob
        split at hob
        · rename_i e1
          simp only [Option.some.injEq] at hob
          subst hob
          subst e1
          obtain ⟨b, hb, hlo, hA, hcp⟩ := hc rfl
          obtain ⟨o1, ho1, cur, hcur, hz, ⟨cc, hcc, hcl, hcm, hcg⟩, hrl, hkk, hh⟩ := hr.cel hb hg hk3
          rw [hg] at ho1
          injection ho1 with ho1
          subst ho1
          obtain ⟨cur1, hc1, hc2⟩ := hcp rfl
          rw [hcur] at hc1
          injection hc1 with hc1
          injection hc1 with hc1
          subst hc1
          have hce : c = ob1.rows.length := by
            have h1 := hcg hgr
            rw [hcc, h1, hsz] at hc2
            omega
          have hA0 := hA (.inr rfl)
          simp only [Nat.zero_mul] at hA0
          subst hA0
          have hset := freeze_set hcur cur.size (show (1 : Nat) ≠ 0 by decide)
          have hrun : (convert s s (.slice (some ⟨b, 0, none⟩) ob1.rows.length c)).run P w = .ok (.slice (some ⟨b, 0, none⟩) ob1.rows.length c) (w.freeze ⟨b, cur.size, none⟩ 1) := by
            simp [convert, run_underlying hs, run_underlying he, markStringish, shape_of hcur]
          refine ⟨_, _, hrun, updN ρ g, rel_drop (o' := { ob1 with ver := ob1.ver + 1 }) hr hb hg hcur hset (by simp) rfl, stp_drop (o' := { ob1 with ver := ob1.ver + 1 }) hr hb hg hcur hset (by simp) rfl, ?_, by simp⟩
          have hst := stp_drop (o' := { ob1 with ver := ob1.ver + 1 }) hr hb hg hcur hset (by simp) rfl
          refine .sl 1 ob1.rows (some ob1.rows.length) ⟨b, 0, none⟩ ob1.rows.length c rfl hnc (fun k hk => by simp at hk; omega) (fun r hr' => by rw [hrl r hr', hsz]) b 0 (fun i j => (cur[i * 1 + j]?).getD .nilFunc) (fun _ => rfl) (fun i r j d hi hj => ?_) (fun i r j d hi hj => ?_)
          · obtain ⟨q1, q2, u, q3, q4⟩ := hh i r j d hi hj
            rw [hsz] at q3
            refine ⟨?_, ⟨by rw [hset.size]; exact lt_of_heap hcur, ?_, ?_⟩, q2 (by omega)⟩
            · simp only [World.cell?, hset.new, Nat.zero_add, q3, Option.isSome_none, Bool.false_eq_true, if_false, Option.getD_some]
            · intro hX
              exact (hr.hid b _ hX).2 g hb
            · intro g' hg'
              simp only [updN] at hg'
              split at hg'
              · simp at hg'
              · rename_i hne
                exact absurd (hr.inj g' g b hg' hb) hne
          · obtain ⟨q1, q2, u, q3, q4⟩ := hh i r j d hi hj
            rw [hsz] at q3
            rw [q3]
            exact q4.mono hst
        · simp at hob
      · simp at h
    · simp at h
  · simp at h

/-! strings gone over -/
theorem rngs_ok {t : TypeId} {s : ByteArray} (hr : Rel w ρ S.heap) (ht : P.underlying t = some .string) : ∃ v w', (Instr.range t (.string s)).run P w = .ok v w' ∧ OpPost w ρ S (.iter S.heap.length 0) (newAt S ⟨1, 2, [[.str s, .int .i64 0]], 0, 3, false⟩) true v w' := by
  have hadd := AddBlk.alloc w (.stringIter s 0)
  refine ⟨.pointer (some ⟨w.heap.size, 0, none⟩), w.alloc (.stringIter s 0), ?_, _, rel_newiter (ob := ⟨1, 2, [[.str s, .int .i64 0]], 0, 3, false⟩) hr hadd rfl (show (1 : Nat) ≠ 0 by decide) rfl, stp_new hr hadd, ?_, by simp⟩
  · unfold Instr.range
    rw [run_ok_bind (run_underlying ht w)]
    rfl
  · exact .iter _ 0 _ ⟨1, 2, [[.str s, .int .i64 0]], 0, 3, false⟩ (by simp [newAt]) (Nat.le_refl _) (fun _ => by simp [upd])
theorem run_getIter {b pos : Nat} {s : ByteArray} (h : w.heap[b]? = some (.stringIter s pos)) : (getObj b).run P w = .ok (.stringIter s pos) w := by
  simp [getObj, Sem.run, h]
theorem run_setIter {b pos : Nat} {s : ByteArray} {o : Obj} (h : w.heap[b]? = some (.stringIter s pos)) : (setObj b o).run P w = .ok () { w with heap := w.heap.setIfInBounds b o } := by
  simp [setObj, Sem.run, h]
theorem nexts_ok {ty : TypeId} {g ver : Nat} {r : D} {v : Value} {S' : St} {wr : Bool} (hr : Rel w ρ S.heap) (hx : VR w ρ S.heap (.iter g ver) v) (h : nextsD S g ver = some (r, S', wr)) :
    ∃ u w', (Instr.next v true ty).run P w = .ok u w' ∧ OpPost w ρ S r S' wr u w' := by
  unfold nextsD at h
  split at h
  · rename_i ob hob
    split at h
    · rename_i hk
      split at h
      · rename_i s pos hrows
        cases hx with | iter _ _ b ob1 hg hv hc =>
        unfold rowsOf at hob
        simp only [hg] at hob
        split at hob
        · rename_i e1
          simp only [Option.some.injEq] at hob
          subst hob
          subst e1
          have hb := hc rfl
          obtain ⟨s1, p1, h1, h2⟩ := hr.iter hb hg hk.1 (by rw [hk.2]; decide)
          rw [hrows] at h2
          simp only [List.cons.injEq, D.str.injEq, D.int.injEq, and_true, true_and] at h2
          obtain ⟨rfl, rfl⟩ := h2
          rw [Int.toNat_natCast] at h
          have hnc : ∀ c e f, Obj.stringIter s p1 ≠ .cells c e f := fun _ _ _ e => by cases e
          have hblt := lt_of_heap h1
          split at h
          · rename_i hlt
            simp only [Option.some.injEq, Prod.mk.injEq] at h
            obtain ⟨rfl, rfl, rfl⟩ := h
            have hset := SetBlk.setObj (w := w) (o := .stringIter s (p1 + (Utf8.decode s p1).2)) hblt
            refine ⟨.tuple #[.bool true, goInt p1, .int .i32 (Utf8.decode s p1).1], _, ?_, ρ, rel_iter hr hb hg hk.1 (by rw [hk.2]; decide) h1 hnc hset ⟨rfl, rfl, rfl, by simp [hrows], rfl⟩ rfl, stp_map hr hb hg hk.1 h1 hnc hset ⟨rfl, rfl, rfl, by simp [hrows], rfl⟩, ?_, by simp⟩
            · unfold Instr.next
              simp only
              rw [run_ok_bind (run_getIter h1)]
              simp only [hlt, if_true]
              rw [run_ok_bind (run_setIter h1)]
              rfl
            · have hv : VL w ρ S.heap [D.bool true, .int .i64 p1, .int .i32 (Utf8.decode s p1).1] [.bool true, goInt p1, .int .i32 (Utf8.decode s p1).1] := .cons (.bool _) (.cons (.int _ _) (.cons (.int _ _) .nil))
              have hst := stp_map hr hb hg hk.1 h1 hnc hset (o' := { ob1 with rows := [[.str s, .int .i64 (p1 + (Utf8.decode s p1).2 : Nat)]] }) ⟨rfl, rfl, rfl, by simp [hrows], rfl⟩
              exact .tup _ [.bool true, goInt p1, .int .i32 (Utf8.decode s p1).1] rfl (fun j d v e1 e2 => (hv.get e1 e2).mono hst)
          · rename_i hlt
            simp only [Option.some.injEq, Prod.mk.injEq] at h
            obtain ⟨rfl, rfl, rfl⟩ := h
            refine ⟨.tuple #[.bool false], w, ?_, OpPost.pure hr (.tup [.bool false] [.bool false] rfl (fun j d v => VL.get (.cons (.bool _) .nil)))⟩
            unfold Instr.next
            simp only
            rw [run_ok_bind (run_getIter h1)]
            simp only [hlt, if_false]
            rfl
        · simp at hob
      · simp at h
    · simp at h
  · simp at h

/-! functions that the model carries out itself -/
theorem ext_none : Extern.allNextRows.lookup "" = none := by kernel_rfl
theorem ext_idx : Extern.allNextRows.lookup "internal/bytealg.IndexByteString" = none ∧ Extern.allGenericRows.lookup "internal/bytealg.IndexByteString" = none ∧ Extern.allTypedRows.lookup "internal/bytealg.IndexByteString" = none ∧ Extern.allRows.lookup "internal/bytealg.IndexByteString" = some Extern.BytealgIndexByte.indexByte := ⟨by kernel_rfl, by kernel_rfl, by kernel_rfl, by kernel_rfl⟩
theorem ext_cnt : Extern.allNextRows.lookup "internal/bytealg.CountString" = none ∧ Extern.allGenericRows.lookup "internal/bytealg.CountString" = none ∧ Extern.allTypedRows.lookup "internal/bytealg.CountString" = none ∧ Extern.allRows.lookup "internal/bytealg.CountString" = some Extern.BytealgCount.count := ⟨by kernel_rfl, by kernel_rfl, by kernel_rfl, by kernel_rfl⟩
theorem ext_esc : Extern.allNextRows.lookup "internal/abi.NoEscape" = none ∧ Extern.allGenericRows.lookup "internal/abi.NoEscape" = none ∧ Extern.allTypedRows.lookup "internal/abi.NoEscape" = none ∧ Extern.allRows.lookup "internal/abi.NoEscape" = some Extern.AbiNoEscape.same := ⟨by kernel_rfl, by kernel_rfl, by kernel_rfl, by kernel_rfl⟩
theorem run_ext {f : FuncId} {fn : Func} {name : String} {g : Array Value → Sem Value} {vs : Array Value} {v : Value} {w' : World} (hf : P.funcs[f]? = some fn) (hb : fn.body.isNone = true) (hn : fn.name = name) (ho : fn.origin = "") (hne : (name == "runtime.NumGoroutine") = false)
    (hx : Extern.allNextRows.lookup name = none ∧ Extern.allGenericRows.lookup name = none ∧ Extern.allTypedRows.lookup name = none ∧ Extern.allRows.lookup name = some g) (h : (g vs).run P w = .ok v w') : (callFunc f vs).run P w = .ok (.value v) w' := by
  obtain ⟨h1, h2, h3, h4⟩ := hx
  have hp : Sem.run P program w = .ok P w := rfl
  have hfn : Extern.findNext fn = none := by simp [Extern.findNext, hn, ho, h1, ext_none]
  have hfd : Extern.find fn = some g := by simp [Extern.find, hn, h2, h3, h4]
  unfold callFunc
  rw [run_ok_bind hp]
  simp only [hf]
  rw [if_neg (by rw [hn, hne]; simp), if_pos hb]
  rw [run_ok_bind (a := ()) (w' := w) rfl]
  simp only [hfn, hfd]
  rw [run_ok_bind h]
  rfl
theorem idxb_run {s : ByteArray} {c : Int} : (Extern.BytealgIndexByte.indexByte #[.string s, .int .u8 c]).run P w = .ok (.int .i64 (match (List.range s.size).find? (fun i => s[i]! == UInt8.ofNat c.toNat) with | some i => (i : Int) | none => -1)) w := by
  have hdef : Extern.BytealgIndexByte.indexByte #[.string s, .int .u8 c] = (do
      let b ← Extern.Bytes.bytesOf (.string s)
      let c ← Extern.Bytes.asByte (.int .u8 c)
      match (List.range b.size).find? fun i => b[i]! == c with
      | some i => pure (goInt i)
      | none => pure (goInt (-1))) := rfl
  rw [hdef, run_ok_bind (a := s) (w' := w) rfl, run_ok_bind (a := UInt8.ofNat c.toNat) (w' := w) rfl]
  cases (List.range s.size).find? (fun i => s[i]! == UInt8.ofNat c.toNat) <;> rfl
theorem cntb_run {s : ByteArray} {c : Int} : (Extern.BytealgCount.count #[.string s, .int .u8 c]).run P w = .ok (.int .i64 (s.foldl (fun n x => if x == UInt8.ofNat c.toNat then n + 1 else n) (0 : Nat))) w := by
  have hdef : Extern.BytealgCount.count #[.string s, .int .u8 c] = (do
      let b ← Extern.Bytes.bytesOf (.string s)
      let c ← Extern.Bytes.asByte (.int .u8 c)
      pure (goInt (b.foldl (fun n x => if x == c then n + 1 else n) (0 : Nat)))) := rfl
  rw [hdef, run_ok_bind (a := s) (w' := w) rfl, run_ok_bind (a := UInt8.ofNat c.toNat) (w' := w) rfl]
  rfl

/-! bytes of a string, appended -/
theorem appNoneS {t u ty e : TypeId} {i : TypeInfo} (ht : P.underlying t = some (.slice e)) (hu : P.underlying u = some .string) (hi : P.info? e = some i) {A : Option Addr} {n c : Nat} (hnc : n ≤ c) {s : ByteArray} (hs : s.size = 0) :
    (Builtin.append_ #[t, u] ty #[.slice A n c, .string s]).run P w = .ok (.slice A n c) w := by
  cases A with
  | none => simp [Builtin.append_, run_underlying ht, run_underlying hu, sizeOf, typeInfo, hi, Builtin.lenOf, Builtin.firstCells, hnc, hs]
  | some a => simp [Builtin.append_, run_underlying ht, run_underlying hu, sizeOf, typeInfo, hi, Builtin.lenOf, Builtin.firstCells, hnc, hs, storeCells]
theorem appstr_ok {t u ty e : TypeId} {i : TypeInfo} {kind : Nat} {z : List D} {s r : D} {vs : Value} {str : ByteArray} {S' : St} {wr : Bool} (hr : Rel w ρ S.heap) (ht : P.underlying t = some (.slice e)) (hu : P.underlying u = some .string) (hi : P.info? e = some i) (hn : sizeT P e = some 1) (hz : zeroT P e = some z) (hzl : z.length = 1) (hb : 0 < i.bytes) (hk : kind = 1 ∨ kind = 2)
    (hs : VR w ρ S.heap s vs) (h : appendRows e 1 i.bytes kind s (byteRows str) S = some (r, S', wr)) :
    ∃ v w', (Builtin.append_ #[t, u] ty #[vs, .string str]).run P w = .ok v w' ∧ OpPost w ρ S r S' wr v w' := by
  obtain ⟨i1, zv, hi1, hzv, hzc, _, _⟩ := zeroT_some (w := w) (ρ := ρ) (H := S.heap) hz
  rw [hi] at hi1
  injection hi1 with hi1
  subst hi1
  obtain ⟨i2, d2, hi2, hd2, hsz, h0⟩ := sizeT_some hn
  rw [hi] at hi2
  injection hi2 with hi2
  subst hi2
  have hlen : (byteRows str).length = str.size := by simp [byteRows]
  refine append_core hr hi hn hzc hzl hb hk hs (fun r hr' => by
    simp only [byteRows, List.mem_map] at hr'
    obtain ⟨b, _, rfl⟩ := hr'
    rfl) ?_ ?_ h
  · intro hne A m c hm
    exact appNoneS ht hu hi hm (by rw [← hlen, hne]; rfl)
  · intro hne
    refine ⟨Lib.strCells str, by rw [Lib.strCells_length, hlen, Nat.mul_one], Lib.strCells_oneCell str, fun i r j d hi' hj => ?_, fun hpos k1 k2 => ?_, fun bb sLen sCap olds hlo holds hg k1 k2 => ?_, fun g sLen sCap cur hg hroom hfit => ?_⟩
    · simp only [byteRows, List.getElem?_map, Option.map_eq_some_iff] at hi'
      obtain ⟨b, hb', rfl⟩ := hi'
      have hj0 : j = 0 := by have := lt_of_some hj; simp at this; exact this
      subst hj0
      simp at hj
      subst hj
      refine ⟨rfl, rfl, .int .u8 b.toNat, ?_, .int _ _⟩
      simp [Lib.strCells, hb']
    · rw [hlen] at hpos k1 k2 ⊢
      have := run_append_nil_string (P := P) w t u ty e i zv ht hu hi hzv str hpos k1 k2
      have e : Array.map (fun b : UInt8 => Value.int .u8 (b.toNat : Int)) str.data = (Lib.strCells str).toArray := by apply Array.ext'; simp [Lib.strCells]
      rw [this, e]
    · rw [hlen] at hg k1 k2 ⊢
      exact Lib.run_append_grow_string (P := P) w t u ty e i zv ht hu hi hzv bb sLen sCap olds hlo holds str hg k1 k2
    · rw [hlen] at hroom ⊢
      rw [Lib.strCells_length, hsz, Nat.mul_one] at hfit ⊢
      exact Lib.run_append_room_string (P := P) w t u ty e i ht hu hi hsz g sLen sCap cur hg str hroom hfit
end
end Go.Proofs.YtabgobmeibjeeaaGreatDoor

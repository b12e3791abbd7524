/- Proved here: the abstract machine's maps, made slices, bytes and strings, and comparisons with nil are the model's; no condition. -/
import Derived.Test.YtabgobmeibjeeaaGreatDoorLo9
import Derived.Laws.BytesString
import Derived.Laws.MakeOwn
namespace Go.Proofs.YtabgobmeibjeeaaGreatDoor
open Go.RowKit
set_option linter.unusedVariables false
set_option linter.unusedSimpArgs false

section
variable {P : Program} {w : World} {ρ : RMap} {S : St}

/-! comparisons with nil -/
/-- what is nil, by the family of its type -/
def nilV : Nat → Value
  | 0 => .slice none 0 0
  | 1 => .pointer none
  | 2 => .nilFunc
  | 3 => .map none
  | _ => .nilIface
def someV : Nat → Value → Prop
  | 0, v => ∃ a n c, v = .slice (some a) n c
  | 1, v => ∃ a, v = .pointer (some a)
  | 2, v => ∃ f a b, v = .func f a b
  | 3, v => ∃ r, v = .map (some r)
  | _, v => ∃ t x, v = .iface t x
theorem nil_true {H : List AObj} {d : D} {v : Value} {fam : Nat} (h : VR w ρ H d v) (hn : isNil fam d = some true) : v = nilV fam ∧ fam ≤ 4 := by
  unfold isNil at hn
  split at hn
  all_goals first
    | (simp at hn; done)
    | (cases h; exact ⟨rfl, by omega⟩)
theorem nil_false {H : List AObj} {d : D} {v : Value} {fam : Nat} (h : VR w ρ H d v) (hn : isNil fam d = some false) : someV fam v ∧ fam ≤ 4 := by
  unfold isNil at hn
  split at hn
  all_goals first
    | (simp at hn; done)
    | (cases h <;> exact ⟨⟨_, _, _, rfl⟩, by omega⟩)
    | (cases h <;> exact ⟨⟨_, rfl⟩, by omega⟩)
    | (cases h <;> exact ⟨⟨_, _, rfl⟩, by omega⟩)
theorem nilT_desc {t : TypeId} {fam : Nat} (ht : nilT P t = some fam) : (fam = 0 ∧ ∃ e, P.underlying t = some (.slice e)) ∨ (fam = 1 ∧ ∃ e, P.underlying t = some (.pointer e)) ∨ (fam = 2 ∧ ∃ a b c, P.underlying t = some (.func a b c)) ∨ (fam = 3 ∧ ∃ a b, P.underlying t = some (.map a b)) ∨ (fam = 4 ∧ ∃ m, P.underlying t = some (.interface m)) := by
  unfold nilT at ht
  split at ht <;> simp only [Option.some.injEq, reduceCtorEq] at ht
  · rename_i e hu; exact .inl ⟨ht.symm, _, hu⟩
  · rename_i e hu; exact .inr (.inl ⟨ht.symm, _, hu⟩)
  · rename_i a b c hu; exact .inr (.inr (.inl ⟨ht.symm, _, _, _, hu⟩))
  · rename_i a b hu; exact .inr (.inr (.inr (.inl ⟨ht.symm, _, _, hu⟩)))
  · rename_i m hu; exact .inr (.inr (.inr (.inr ⟨ht.symm, _, hu⟩)))
theorem eqnil_ok {H : List AObj} {d1 d2 : D} {v1 v2 : Value} {t : TypeId} {b : Bool} {fam : Nat} {op : BinOp} {x y : Operand} (ho : op = .eql ∨ op = .neq) (ht : nilT P t = some fam) (hf1 : fam ≠ 1) (hcon : fam = 4 → isConst x = true ∨ isConst y = true) (h1 : VR w ρ H d1 v1) (h2 : VR w ρ H d2 v2) (h : eqnilD fam d1 d2 = some b) :
    ∃ v, (do eqGuard op t x y v1 v2; binOp op t v1 v2).run P w = .ok v w ∧ VR w ρ H (.bool (b != decide (op = .neq))) v := by
  have key : (∀ d : Nat, (Op.equalIn (d + 1) t v1 v2).run P w = .ok b w) → (eqGuard op t x y v1 v2).run P w = .ok () w → (op = .eql → binOp op t v1 v2 = (do pure (.bool (← Op.equal t v1 v2)))) → (op = .neq → binOp op t v1 v2 = (do pure (.bool (!(← Op.equal t v1 v2))))) →
      ∃ v, (do eqGuard op t x y v1 v2; binOp op t v1 v2).run P w = .ok v w ∧ VR w ρ H (.bool (b != decide (op = .neq))) v := by
    intro he hg hb1 hb2
    have hq : (Op.equal t v1 v2).run P w = .ok b w := he 9999
    rcases ho with rfl | rfl
    · exact ⟨.bool b, by rw [run_ok_bind hg, hb1 rfl, run_ok_bind hq]; rfl, by cases b <;> exact .bool _⟩
    · exact ⟨.bool !b, by rw [run_ok_bind hg, hb2 rfl, run_ok_bind hq]; rfl, by cases b <;> exact .bool _⟩
  have hcon' : fam = 4 → (eqGuard op t x y .nilIface .nilIface).run P w = .ok () w := by
    intro hf
    rcases hcon hf with hc | hc
    · cases x <;> simp [isConst] at hc
      rcases ho with rfl | rfl <;> simp [eqGuard]
    · cases y <;> simp [isConst] at hc
      rcases ho with rfl | rfl <;> simp [eqGuard]
  have fin : ∀ {u1 u2 : Value}, v1 = u1 → v2 = u2 → (∀ d : Nat, (Op.equalIn (d + 1) t u1 u2).run P w = .ok b w) → (eqGuard op t x y u1 u2).run P w = .ok () w → (op = .eql → binOp op t u1 u2 = (do pure (.bool (← Op.equal t u1 u2)))) → (op = .neq → binOp op t u1 u2 = (do pure (.bool (!(← Op.equal t u1 u2))))) →
      ∃ v, (do eqGuard op t x y v1 v2; binOp op t v1 v2).run P w = .ok v w ∧ VR w ρ H (.bool (b != decide (op = .neq))) v := by
    rintro u1 u2 rfl rfl; exact key
  have hall := nilT_desc ht
  unfold eqnilD at h
  split at h
  · rename_i b' hn1 hn2
    simp only [Option.some.injEq] at h
    subst h
    obtain ⟨e1, _⟩ := nil_true h1 hn1
    cases b' with
    | true =>
      obtain ⟨e2, _⟩ := nil_true h2 hn2
      rcases hall with ⟨rfl, e, hu⟩ | ⟨rfl, e, hu⟩ | ⟨rfl, a, b, c, hu⟩ | ⟨rfl, a, b, hu⟩ | ⟨rfl, m, hu⟩
      · exact fin e1 e2 (fun d => by unfold Op.equalIn; rw [run_ok_bind (run_underlying hu w)]; rfl) (by rcases ho with rfl | rfl <;> rfl) (by rintro rfl; rfl) (by rintro rfl; rfl)
      · exact absurd rfl hf1
      · exact fin e1 e2 (fun d => by unfold Op.equalIn; rw [run_ok_bind (run_underlying hu w)]; rfl) (by rcases ho with rfl | rfl <;> rfl) (by rintro rfl; rfl) (by rintro rfl; rfl)
      · exact fin e1 e2 (fun d => by unfold Op.equalIn; rw [run_ok_bind (run_underlying hu w)]; rfl) (by rcases ho with rfl | rfl <;> rfl) (by rintro rfl; rfl) (by rintro rfl; rfl)
      · have hc := hcon' rfl
        exact fin e1 e2 (fun d => by unfold Op.equalIn; rw [run_ok_bind (run_underlying hu w)]; rfl) hc (by rintro rfl; rfl) (by rintro rfl; rfl)
    | false =>
      obtain ⟨e2, _⟩ := nil_false h2 hn2
      rcases hall with ⟨rfl, e, hu⟩ | ⟨rfl, e, hu⟩ | ⟨rfl, a, b, c, hu⟩ | ⟨rfl, a, b, hu⟩ | ⟨rfl, m, hu⟩
      · obtain ⟨p, q, r, e2⟩ := e2
        exact fin e1 e2 (fun d => by unfold Op.equalIn; rw [run_ok_bind (run_underlying hu w)]; rfl) (by rcases ho with rfl | rfl <;> rfl) (by rintro rfl; rfl) (by rintro rfl; rfl)
      · exact absurd rfl hf1
      · obtain ⟨p, q, r, e2⟩ := e2
        exact fin e1 e2 (fun d => by unfold Op.equalIn; rw [run_ok_bind (run_underlying hu w)]; rfl) (by rcases ho with rfl | rfl <;> rfl) (by rintro rfl; rfl) (by rintro rfl; rfl)
      · obtain ⟨p, e2⟩ := e2
        exact fin e1 e2 (fun d => by unfold Op.equalIn; rw [run_ok_bind (run_underlying hu w)]; rfl) (by rcases ho with rfl | rfl <;> rfl) (by rintro rfl; rfl) (by rintro rfl; rfl)
      · obtain ⟨p, q, e2⟩ := e2
        exact fin e1 e2 (fun d => by unfold Op.equalIn; rw [run_ok_bind (run_underlying hu w)]; rfl) (by rcases ho with rfl | rfl <;> rfl) (by rintro rfl; rfl) (by rintro rfl; rfl)
  · rename_i hn1 hn2
    simp only [Option.some.injEq] at h
    subst h
    obtain ⟨e1, _⟩ := nil_false h1 hn1
    obtain ⟨e2, _⟩ := nil_true h2 hn2
    rcases hall with ⟨rfl, e, hu⟩ | ⟨rfl, e, hu⟩ | ⟨rfl, a, b, c, hu⟩ | ⟨rfl, a, b, hu⟩ | ⟨rfl, m, hu⟩
    · obtain ⟨p, q, r, e1⟩ := e1
      exact fin e1 e2 (fun d => by unfold Op.equalIn; rw [run_ok_bind (run_underlying hu w)]; rfl) (by rcases ho with rfl | rfl <;> rfl) (by rintro rfl; rfl) (by rintro rfl; rfl)
    · exact absurd rfl hf1
    · obtain ⟨p, q, r, e1⟩ := e1
      exact fin e1 e2 (fun d => by unfold Op.equalIn; rw [run_ok_bind (run_underlying hu w)]; rfl) (by rcases ho with rfl | rfl <;> rfl) (by rintro rfl; rfl) (by rintro rfl; rfl)
    · obtain ⟨p, e1⟩ := e1
      exact fin e1 e2 (fun d => by unfold Op.equalIn; rw [run_ok_bind (run_underlying hu w)]; rfl) (by rcases ho with rfl | rfl <;> rfl) (by rintro rfl; rfl) (by rintro rfl; rfl)
    · obtain ⟨p, q, e1⟩ := e1
      exact fin e1 e2 (fun d => by unfold Op.equalIn; rw [run_ok_bind (run_underlying hu w)]; rfl) (by rcases ho with rfl | rfl <;> rfl) (by rintro rfl; rfl) (by rintro rfl; rfl)
  · simp at h

/-! made slices -/
theorem mkslice_ok {t e : TypeId} {i : TypeInfo} {n kind : Nat} {z : List D} {kl kc : IntKind} {l c : Int} {r : D} {S' : St} {wr : Bool} (hr : Rel w ρ S.heap) (ht : P.underlying t = some (.slice e)) (hi : P.info? e = some i) (hn : sizeT P e = some n) (hz : zeroT P e = some z) (hzl : z.length = n) (hb : 0 < i.bytes) (hk : kind = 1 ∨ kind = 2)
    (h : (if 0 ≤ l ∧ l ≤ c ∧ c.toNat * i.bytes ≤ 140737488355328 then some (D.msl S.heap.length 0 0 l.toNat none, newAt S ⟨e, n, List.replicate l.toNat z, 0, kind, decide (l ≠ c)⟩, true) else none) = some (r, S', wr)) :
    ∃ v w', (Instr.makeSlice t (.int kl l) (.int kc c)).run P w = .ok v w' ∧ OpPost w ρ S r S' wr v w' := by
  obtain ⟨i1, zv, hi1, hzv, hzc, hall, hfree⟩ := zeroT_some (w := w) (ρ := ρ) (H := S.heap) hz
  rw [hi] at hi1
  injection hi1 with hi1
  subst hi1
  obtain ⟨i2, d2, hi2, hd2, hsz, h0⟩ := sizeT_some hn
  rw [hi] at hi2
  injection hi2 with hi2
  subst hi2
  split at h
  · rename_i hc
    obtain ⟨hl0, hlc, hby⟩ := hc
    simp only [Option.some.injEq, Prod.mk.injEq] at h
    obtain ⟨rfl, rfl, rfl⟩ := h
    have h1 : c.toNat * 1 ≤ c.toNat * i.bytes := Nat.mul_le_mul_left _ hb
    have hb48 : (i.bytes : Int) * c ≤ 281474976710656 := by
      have h2 : ((c.toNat * i.bytes : Nat) : Int) ≤ 140737488355328 := Int.ofNat_le.2 hby
      rw [Int.natCast_mul, Int.toNat_of_nonneg (by omega), Int.mul_comm] at h2
      omega
    have hrun := run_make (P := P) w t e i zv ht hi hzv kl kc l c hl0 hlc hb48 (by omega)
    have hadd := AddBlk.alloc w (.cells (madeCells zv.cells (c.toNat * i.size)) e)
    rw [hsz] at hrun hadd
    subst hzl
    have hcs : (madeCells zv.cells (c.toNat * z.length)).size = c.toNat * z.length := size_madeCells _ _
    have hin := RowsIn.replicate hzc hall hfree c.toNat h0
    have hrep : ∀ (j : Nat) (r : List D), (List.replicate l.toNat z)[j]? = some r → (List.replicate c.toNat z)[j]? = some r := by
      intro j r hj
      have hjl := lt_of_some hj
      rw [List.length_replicate] at hjl
      have : r = z := List.eq_of_mem_replicate (List.mem_of_getElem? hj)
      subst this
      rw [List.getElem?_replicate, if_pos (by omega)]
    refine ⟨_, _, hrun, _, rel_new (ob := ⟨e, z.length, List.replicate l.toNat z, 0, kind, decide (l ≠ c)⟩) hr hadd h0 ⟨c.toNat, hcs, by simp; omega, by simp only [maxLen]; omega, fun hg => ?_⟩ (fun r hr' => by rw [List.eq_of_mem_replicate hr']) (.inr hk) (fun i' r' j d hi' hj => ?_), stp_new hr hadd, ?_, by simp⟩
    · have : l = c := by simpa using hg
      simp [this]
    · obtain ⟨q1, q2, q3⟩ := hin.2 i' r' j d (hrep _ _ hi') hj
      exact ⟨q1, fun _ => q2, q3⟩
    · refine .msl _ 0 0 _ none _ _ ⟨e, z.length, List.replicate l.toNat z, 0, kind, decide (l ≠ c)⟩ (by omega) (fun k hk => by cases hk) (by simp [newAt]) (Nat.le_refl _) (by rcases hk with rfl | rfl <;> simp) fun _ => ⟨w.heap.size, by simp [upd], by simp, fun _ => by simp, fun _ => ⟨_, hadd.new, by simpa using hcs⟩⟩
  · simp at h

/-! bytes and strings -/
theorem foldl_push (ns : List Int) : ∀ r : ByteArray, ns.foldl (fun r n => r.push (UInt8.ofNat n.toNat)) r = ⟨r.data ++ (ns.map fun n => UInt8.ofNat n.toNat).toArray⟩ := by
  induction ns with
  | nil => intro r; simp
  | cons n ns ih =>
    intro r
    rw [List.foldl_cons, ih]
    simp [ByteArray.push]
theorem bytesOf_rows : ∀ {rows : List (List D)} {b : List UInt8}, bytesOf rows = some b → ∃ ns : List Int, rows = ns.map (fun n => [D.int .u8 n]) ∧ b = ns.map fun n => UInt8.ofNat n.toNat
  | [], b, h => by simp only [bytesOf, Option.some.injEq] at h; subst h; exact ⟨[], rfl, rfl⟩
  | r :: rows, b, h => by
    unfold bytesOf at h
    split at h
    · simp at *
    · rename_i n l heq
      simp only [List.cons.injEq] at heq
      obtain ⟨rfl, rfl⟩ := heq
      simp only [Option.map_eq_some_iff] at h
      obtain ⟨b', hb', rfl⟩ := h
      obtain ⟨ns, h1, h2⟩ := bytesOf_rows hb'
      exact ⟨n :: ns, by rw [h1]; rfl, by rw [h2]; rfl⟩
    · simp at h
theorem bstr_ok {x : D} {v : Value} {rows : List (List D)} {b : List UInt8} {s d e : TypeId} (hr : Rel w ρ S.heap) (hs : P.underlying s = some (.slice e)) (he : P.underlying e = some (.int .u8)) (hd : P.underlying d = some .string) (hx : VR w ρ S.heap x v) (hrows : readRows S 1 x = some rows) (hb : bytesOf rows = some b) :
    (convert s d v).run P w = .ok (.string ⟨b.toArray⟩) w := by
  obtain ⟨A, c, rfl, hl, hsrc⟩ := src_ok hr hx hrows
  obtain ⟨ns, rfl, rfl⟩ := bytesOf_rows hb
  rw [run_convert_bytes_string w s d e A _ c hs he hd]
  by_cases hne : ns = []
  · subst hne
    cases A with
    | none => simp [Conv.bytesToString]; rfl
    | some a =>
      exact run_bytesToString (P := P) w a 0 c [] (by simp [loadCells, loadCellsFrom])
  · obtain ⟨bb, o, f, rfl, hf⟩ := hsrc (by simpa using hne)
    have hcell : ∀ j v, (ns.map (Value.int .u8))[j]? = some v → w.cell? ((⟨bb, o, none⟩ : Addr).add j) = some v := by
      intro j v hj
      simp only [List.getElem?_map, Option.map_eq_some_iff] at hj
      obtain ⟨n, hn, rfl⟩ := hj
      have hrow : (ns.map fun n => [D.int .u8 n])[j]? = some [D.int .u8 n] := by simp [hn]
      obtain ⟨h1, h2, _⟩ := hf j _ 0 (.int .u8 n) hrow rfl
      rw [Nat.mul_one, Nat.add_zero] at h1
      generalize f j 0 = u at h1 h2
      cases h2
      rw [add_plain]
      exact h1
    have hload := run_loadCells_list (P := P) w ⟨bb, o, none⟩ (ns.map (Value.int .u8)) hcell
    rw [List.length_map] at hload
    have := run_bytesToString (P := P) w ⟨bb, o, none⟩ ns.length c ns hload
    rw [List.length_map, this, foldl_push]
    simp [ByteArray.empty, ByteArray.emptyWithCapacity]
    rfl
theorem strb_ok {s : ByteArray} {ss d e : TypeId} (hr : Rel w ρ S.heap) (hs : P.underlying ss = some .string) (hd : P.underlying d = some (.slice e)) (he : P.underlying e = some (.int .u8)) :
    ∃ v w', (convert ss d (.string s)).run P w = .ok v w' ∧ OpPost w ρ S (.sl 1 (byteRows s) none) S false v w' := by
  obtain ⟨cap, hcap, hge⟩ : ∃ cap, cap = (Question.appendCap s.size 0 e).cut (w.tape w.drawn (.appendCap s.size 0 e)) ∧ s.size ≤ cap := ⟨_, rfl, by simp [Question.cut]⟩
  let cs : Array Value := (s.data.map fun b => (.int .u8 b.toNat : Value)) ++ Array.replicate (cap - s.size) (.int .u8 0)
  have hrun : (convert ss d (.string s)).run P w = .ok (.slice (some ⟨w.heap.size, 0, none⟩) s.size cap) ((w.drew.alloc (.cells cs e)).freeze ⟨w.heap.size, cs.size, none⟩ 1) := by
    have h0 : (convert ss d (.string s)).run P w = (Conv.stringToBytes e s).run P w := by
      simp [convert, run_underlying hs, run_underlying hd, run_underlying he]
    have h1 : (choose (.appendCap s.size 0 e)).run P w = .ok cap w.drew := by rw [hcap]; rfl
    have h2 : (newRow e cs).run P w.drew = .ok ⟨w.heap.size, 0, none⟩ (w.drew.alloc (.cells cs e)) := rfl
    have h3 : (markStringish ⟨w.heap.size, 0, none⟩).run P (w.drew.alloc (.cells cs e)) = .ok () ((w.drew.alloc (.cells cs e)).freeze ⟨w.heap.size, cs.size, none⟩ 1) := by
      have hsh : (w.drew.alloc (.cells cs e)).shape? w.heap.size = some (e, cs.size) := by
        unfold World.shape?
        rw [show (w.drew.alloc (.cells cs e)).heap[w.heap.size]? = some (.cells cs e) from heap_alloc_new w.drew _]
      unfold markStringish
      rw [run_ok_bind (run_shape P _ _), hsh]
      rfl
    rw [h0]
    unfold Conv.stringToBytes
    rw [run_ok_bind h1]
    show (do let a ← newRow e cs; markStringish a; pure (.slice (some a) s.size cap) : Sem Value).run P w.drew = _
    rw [run_ok_bind h2, run_ok_bind h3]
    rfl
  have hadd : AddBlk w ((w.drew.alloc (.cells cs e)).freeze ⟨w.heap.size, cs.size, none⟩ 1) (.cells cs e (cs.size, cs.size + 1)) := by
    have h1 := AddBlk.drewAlloc w (.cells cs e)
    refine ⟨rfl, rfl, rfl, ?_, ?_, fun k hk => ?_⟩
    · simp [World.freeze]
    · have hne : ¬ ((1 : Nat) = 0) := by omega
      unfold World.freeze
      rw [if_neg hne]
      show (Array.modify _ _ _)[w.heap.size]? = _
      rw [Array.getElem?_modify, h1.new, if_pos rfl]
      rfl
    · have hne : ¬ ((1 : Nat) = 0) := by omega
      unfold World.freeze
      rw [if_neg hne]
      show (Array.modify _ _ _)[k]? = _
      rw [Array.getElem?_modify, if_neg (show ¬ w.heap.size = k by omega)]
      exact h1.old k hk
  refine ⟨_, _, hrun, ρ, rel_foreign hr hadd, stp_foreign hr hadd, ?_, fun _ => ⟨ext_add hadd, rfl, rfl⟩⟩
  have hlen : (byteRows s).length = s.size := by unfold byteRows; rw [List.length_map, Array.length_toList]; rfl
  refine .sl 1 (byteRows s) none _ s.size cap hlen.symm hge (fun k hk => by cases hk) (fun r hr' => ?_) w.heap.size 0 (fun i j => cs.getD i undef) (fun _ => rfl) (fun i r j d hi hj => ?_) (fun i r j d hi hj => ?_)
  · unfold byteRows at hr'
    obtain ⟨b, _, rfl⟩ := List.mem_map.1 hr'
    rfl
  · simp only [byteRows, List.getElem?_map, Option.map_eq_some_iff] at hi
    obtain ⟨b, hb, rfl⟩ := hi
    cases j with
    | succ j => simp at hj
    | zero =>
      simp at hj
      subst hj
      have hil : i < s.data.size := by have := lt_of_some hb; simpa using this
      have hci : cs[i]? = some (.int .u8 b.toNat) := by
        simp only [cs]
        rw [Array.getElem?_append_left (by simpa using hil)]
        simp at hb
        simp [hb]
      refine ⟨?_, ⟨by rw [hadd.size]; omega, fun hx => by have := (hr.hid _ _ hx).1; omega, fun g hg => by have := hr.lt hg; omega⟩, rfl⟩
      rw [cell_of_row _ _ _ cs e _ hadd.new, Nat.zero_add, Nat.mul_one, Nat.add_zero, hci]
      obtain ⟨h5, h6⟩ := Array.getElem?_eq_some_iff.1 hci
      simp [Array.getD, h5, h6]
  · simp only [byteRows, List.getElem?_map, Option.map_eq_some_iff] at hi
    obtain ⟨b, hb, rfl⟩ := hi
    cases j with
    | succ j => simp at hj
    | zero =>
      simp at hj
      subst hj
      have hil : i < s.data.size := by have := lt_of_some hb; simpa using this
      have hci : cs[i]? = some (.int .u8 b.toNat) := by
        simp only [cs]
        rw [Array.getElem?_append_left (by simpa using hil)]
        simp at hb
        simp [hb]
      obtain ⟨h5, h6⟩ := Array.getElem?_eq_some_iff.1 hci
      have : cs.getD i undef = .int .u8 b.toNat := by simp [Array.getD, h5, h6]
      rw [this]
      exact .int _ _

/-! maps -/
theorem keyT_some {t : TypeId} {kf : Nat} (h : keyT P t = some kf) : ∃ kd, P.underlying t = some kd ∧ ((kf = 0 ∧ ∃ q, kd = .int q) ∨ (kf = 1 ∧ kd = .string) ∨ (kf = 2 ∧ kd = .bool)) := by
  unfold keyT at h
  split at h <;> simp only [Option.some.injEq, reduceCtorEq] at h <;> subst h
  · rename_i q hu; exact ⟨_, hu, .inl ⟨rfl, q, rfl⟩⟩
  · rename_i hu; exact ⟨_, hu, .inr (.inl ⟨rfl, rfl⟩)⟩
  · rename_i hu; exact ⟨_, hu, .inr (.inr ⟨rfl, rfl⟩)⟩
theorem same_now {H : List AObj} {k a : D} {vk va : Value} {b : Bool} {kd : TypeDesc} {kf : Nat} (hkd : (kf = 0 ∧ ∃ q, kd = .int q) ∨ (kf = 1 ∧ kd = .string) ∨ (kf = 2 ∧ kd = .bool)) (hkey : isKey kf k = true) (hk : VR w ρ H k vk) (ha : VR w ρ H a va) (h : eqCell k a = some b) : Instr.sameNow kd vk va = some b := by
  rcases hkd with ⟨rfl, q, rfl⟩ | ⟨rfl, rfl⟩ | ⟨rfl, rfl⟩
  · cases k <;> simp only [isKey, reduceCtorEq, Bool.false_eq_true] at hkey
    cases a <;> simp only [eqCell, reduceCtorEq] at h
    cases hk; cases ha
    simpa [Instr.sameNow] using h
  · cases k <;> simp only [isKey, reduceCtorEq, Bool.false_eq_true] at hkey
    cases a <;> simp only [eqCell, reduceCtorEq] at h
    cases hk; cases ha
    simpa [Instr.sameNow] using h
  · cases k <;> simp only [isKey, reduceCtorEq, Bool.false_eq_true] at hkey
    cases a <;> simp only [eqCell, reduceCtorEq] at h
    cases hk; cases ha
    simpa [Instr.sameNow] using h
theorem find_now {H : List AObj} {k : D} {vk : Value} {kd : TypeDesc} {kf : Nat} (hkd : (kf = 0 ∧ ∃ q, kd = .int q) ∨ (kf = 1 ∧ kd = .string) ∨ (kf = 2 ∧ kd = .bool)) (hkey : isKey kf k = true) (hk : VR w ρ H k vk) : ∀ {rows : List (List D)} {es : List MapEntry} {i : Nat} {x : Option (Nat × D)}, es.length = rows.length → (∀ (j : Nat) (r : List D), rows[j]? = some r → ∃ (e : MapEntry) (a v : D), es[j]? = some e ∧ r = [a, v] ∧ VR w ρ H a e.key ∧ VR w ρ H v e.val) → findD k rows i = some x →
    (x = none ∧ Instr.findNow kd vk es i = some none) ∨ ∃ (j : Nat) (v : D) (e : MapEntry) (a : D), x = some (i + j, v) ∧ rows[j]? = some [a, v] ∧ es[j]? = some e ∧ VR w ρ H v e.val ∧ VR w ρ H a e.key ∧ eqCell k a = some true ∧ Instr.findNow kd vk es i = some (some (i + j, e.val))
  | [], es, i, x, hl, hh, h => by
    have : es = [] := by simpa using hl
    subst this
    simp only [findD, Option.some.injEq] at h
    subst h
    exact .inl ⟨rfl, rfl⟩
  | r :: rows, es, i, x, hl, hh, h => by
    cases es with
    | nil => simp at hl
    | cons e es =>
      obtain ⟨e', a, v, h1, h2, h3, h4⟩ := hh 0 r rfl
      simp at h1
      subst h1 h2
      simp only [findD] at h
      cases hb : eqCell k a with
      | none => simp [hb] at h
      | some bb =>
        have hsn := same_now hkd hkey hk h3 hb
        cases bb with
        | true =>
          simp only [hb, Option.some.injEq] at h
          subst h
          exact .inr ⟨0, v, e, a, rfl, rfl, rfl, h4, h3, hb, by simp [Instr.findNow, hsn]⟩
        | false =>
          simp only [hb] at h
          rcases find_now hkd hkey hk (es := es) (by simpa using hl) (fun j r hj => by simpa using hh (j + 1) r (by simpa using hj)) h with ⟨rfl, hf⟩ | ⟨j, v2, e2, a2, hx, hr, he, q1, q2, q3, hf⟩
          · exact .inl ⟨rfl, by simp [Instr.findNow, hsn, hf]⟩
          · refine .inr ⟨j + 1, v2, e2, a2, by rw [hx]; congr 2; omega, by simpa using hr, by simpa using he, q1, q2, q3, ?_⟩
            simp only [Instr.findNow, hsn, hf]
            congr 3
            omega
theorem run_checkKey {t : TypeId} {kd : TypeDesc} {kf : Nat} {b : Bool} {v : Value} (hu : P.underlying t = some kd) (hkd : (kf = 0 ∧ ∃ q, kd = .int q) ∨ (kf = 1 ∧ kd = .string) ∨ (kf = 2 ∧ kd = .bool)) : (Instr.checkKey b 10000 t v).run P w = .ok () w := by
  have : ∀ n : Nat, (Instr.checkKey b (n + 1) t v).run P w = .ok () w := by
    intro n
    unfold Instr.checkKey
    rw [run_ok_bind (run_underlying hu w)]
    rcases hkd with ⟨_, q, rfl⟩ | ⟨_, rfl⟩ | ⟨_, rfl⟩ <;> rfl
  exact this 9999
theorem run_findKey {t : TypeId} {kd : TypeDesc} {v : Value} {es : List MapEntry} {x : Option (Nat × Value)} (hu : P.underlying t = some kd) (h : Instr.findNow kd v es 0 = some x) : (Instr.findKey t v es).run P w = .ok x w := by
  unfold Instr.findKey
  rw [run_ok_bind (run_underlying hu w), h]
  rfl
theorem run_getObj {b : Nat} {es : Array MapEntry} {clock : Nat} (h : w.heap[b]? = some (.map es clock)) : (getObj b).run P w = .ok (.map es clock) w := by
  simp [getObj, Sem.run, h]
/-- the entries of a map that is read -/
theorem map_rows {m : D} {vm : Value} {rows : List (List D)} (hr : Rel w ρ S.heap) (hm : VR w ρ S.heap m vm) (h : mapRows S m = some rows) :
    ∃ es : Array MapEntry, (vm = .map none ∧ es = #[] ∨ ∃ b clock, vm = .map (some b) ∧ w.heap[b]? = some (.map es clock)) ∧ es.size = rows.length ∧ (∀ (j : Nat) (r : List D), rows[j]? = some r → ∃ (e : MapEntry) (a v : D), es[j]? = some e ∧ r = [a, v] ∧ VR w ρ S.heap a e.key ∧ VR w ρ S.heap v e.val) := by
  unfold mapRows at h
  split at h
  · cases hm
    simp only [Option.some.injEq] at h
    subst h
    exact ⟨#[], .inl ⟨rfl, rfl⟩, rfl, fun j r hj => by simp at hj⟩
  · simp only [Option.some.injEq] at h
    subst h
    cases hm with
    | mp _ b clock es f hb hx hf hl hz he hc hh =>
      refine ⟨es, .inr ⟨b, clock, rfl, hb⟩, hl, fun j r hj => ?_⟩
      obtain ⟨e, h1, h2, h3⟩ := he j (lt_of_some hj)
      have hrl := hz r (List.mem_of_getElem? hj)
      match r, hrl with
      | [a, v], _ => exact ⟨e, a, v, h1, rfl, by rw [h2]; exact hh j _ 0 a hj rfl, by rw [h3]; exact hh j _ 1 v hj rfl⟩
  · rename_i g v
    cases hm with
    | mref _ _ r ob hg hv hh =>
      unfold rowsOf at h
      simp only [hg] at h
      by_cases hvv : ob.ver = v
      · simp only [hvv, if_true] at h
        split at h
        · rename_i hk
          simp only [Option.some.injEq] at h
          subst h
          obtain ⟨es, clock, hc, hs, hl, hall⟩ := hr.map (hh hvv) hg hk.1 hk.2
          refine ⟨es, .inr ⟨r, clock, rfl, hc⟩, hs, fun j r' hj => ?_⟩
          obtain ⟨e, k, v, h1, h2, _, _, h5, h6⟩ := hall j r' hj
          exact ⟨e, k, v, h1, h2, h5, h6⟩
        · simp at h
      · simp [hvv] at h
  · simp at h
theorem mapget_ok {t kt e : TypeId} {kf : Nat} {z m k r : D} {vm vk : Value} {ok : Bool} (hr : Rel w ρ S.heap) (ht : P.underlying t = some (.map kt e)) (hkt : keyT P kt = some kf) (hz : zero1T P e = some z) (hm : VR w ρ S.heap m vm) (hk : VR w ρ S.heap k vk)
    (h : mapgetD S kf z ok m k = some r) : ∃ v, (Instr.lookup t vm vk ok).run P w = .ok v w ∧ VR w ρ S.heap r v := by
  obtain ⟨kd, hu, hkd⟩ := keyT_some hkt
  unfold mapgetD at h
  split at h
  · rename_i rows hrows
    obtain ⟨es, hes, hsz, hall⟩ := map_rows hr hm hrows
    split at h
    · rename_i hkey
      obtain ⟨zv, hzrun, hzcell⟩ : ∃ zv, (zeroValue e).run P w = .ok zv w ∧ VR w ρ S.heap z zv := by
        unfold zero1T at hz
        split at hz
        · rename_i i hi
          split at hz
          · rename_i zv hzv
            exact ⟨zv, by simp [zeroValue, typeInfo, hi, hzv], constOf_ok hz⟩
          · simp at hz
        · simp at hz
      have hsome : ∀ j v, Instr.findNow kd vk es.toList 0 = some (some (j, v)) → (Instr.lookup t vm vk ok).run P w = .ok (if ok then .tuple #[v, .bool true] else v) w := by
        intro j v hx
        unfold Instr.lookup
        rw [run_ok_bind (run_underlying ht w)]
        rcases hes with ⟨rfl, rfl⟩ | ⟨b, clock, rfl, hb⟩
        · simp only
          rw [run_ok_bind (a := (#[] : Array MapEntry)) (w' := w) rfl, run_ok_bind (run_checkKey hu hkd), run_ok_bind (run_findKey hu hx)]
          rfl
        · simp only
          rw [run_ok_bind (run_getObj hb)]
          simp only
          rw [run_ok_bind (a := es) (w' := w) rfl, run_ok_bind (run_checkKey hu hkd), run_ok_bind (run_findKey hu hx)]
          rfl
      have hnone : Instr.findNow kd vk es.toList 0 = some none → (Instr.lookup t vm vk ok).run P w = .ok (if ok then .tuple #[zv, .bool false] else zv) w := by
        intro hx
        unfold Instr.lookup
        rw [run_ok_bind (run_underlying ht w)]
        rcases hes with ⟨rfl, rfl⟩ | ⟨b, clock, rfl, hb⟩
        · simp only
          rw [run_ok_bind (a := (#[] : Array MapEntry)) (w' := w) rfl, run_ok_bind (run_checkKey hu hkd), run_ok_bind (run_findKey hu hx)]
          simp only
          rw [run_ok_bind hzrun]
          rfl
        · simp only
          rw [run_ok_bind (run_getObj hb)]
          simp only
          rw [run_ok_bind (a := es) (w' := w) rfl, run_ok_bind (run_checkKey hu hkd), run_ok_bind (run_findKey hu hx)]
          simp only
          rw [run_ok_bind hzrun]
          rfl
      have htup : ∀ (x : D) (v : Value) (b : Bool), VR w ρ S.heap x v → VR w ρ S.heap (.tup [x, .bool b]) (.tuple #[v, .bool b]) := by
        intro x v b hx
        have hv : VL w ρ S.heap [x, .bool b] [v, .bool b] := .cons hx (.cons (.bool _) .nil)
        exact .tup [x, .bool b] [v, .bool b] rfl (fun j d v => hv.get)
      cases hf : findD k rows 0 with
      | none => simp [hf] at h
      | some x =>
        rcases find_now hkd hkey hk (es := es.toList) (by simpa using hsz) (fun j r hj => by obtain ⟨e, a, v, h1, h2⟩ := hall j r hj; exact ⟨e, a, v, by simpa using h1, h2⟩) hf with ⟨rfl, hfn⟩ | ⟨j, v, e2, a, rfl, hrow, he, q1, q2, q3, hfn⟩
        · simp only [hf, Option.some.injEq] at h
          subst h
          refine ⟨_, hnone hfn, ?_⟩
          cases ok
          · exact hzcell
          · exact htup _ _ _ hzcell
        · simp only [hf, Option.some.injEq] at h
          subst h
          refine ⟨_, hsome _ _ hfn, ?_⟩
          cases ok
          · exact q1
          · exact htup _ _ _ q1
    · simp at h
  · simp at h
theorem mkmap_ok {t : TypeId} (hr : Rel w ρ S.heap) : ∃ v w', (Instr.makeMap t none).run P w = .ok v w' ∧ OpPost w ρ S (.mref S.heap.length 0) (newAt S ⟨0, 2, [], 0, 3, false⟩) true v w' := by
  have hadd := AddBlk.alloc w (.map #[] 0)
  refine ⟨.map (some w.heap.size), w.alloc (.map #[] 0), rfl, _, rel_newmap (ob := ⟨0, 2, [], 0, 3, false⟩) hr hadd rfl rfl rfl, stp_new hr hadd, ?_, by simp⟩
  exact .mref _ 0 _ ⟨0, 2, [], 0, 3, false⟩ (by simp [newAt]) (Nat.le_refl _) (fun _ => by simp [upd])
theorem ba1 (a b : ByteArray) (h : (a == b) = true) : a = b := by
  obtain ⟨x⟩ := a
  obtain ⟨y⟩ := b
  have : (x == y) = true := h
  simp at this
  rw [this]
theorem ba2 (a : ByteArray) : (a == a) = true := by
  obtain ⟨x⟩ := a
  show (x == x) = true
  simp
theorem sameBits_key {H : List AObj} {k a : D} {vk va : Value} {kf n : Nat} (hkey : isKey kf k = true) (hk : VR w ρ H k vk) (ha : VR w ρ H a va) (h : eqCell k a = some true) : Instr.sameBits (n + 1) va vk = true := by
  have hcases : (∃ q x, k = .int q x) ∨ (∃ s, k = .str s) ∨ ∃ b, k = .bool b := by
    cases k <;> first | exact .inl ⟨_, _, rfl⟩ | exact .inr (.inl ⟨_, rfl⟩) | exact .inr (.inr ⟨_, rfl⟩) | (unfold isKey at hkey; split at hkey <;> simp at *)
  rcases hcases with ⟨q, x, rfl⟩ | ⟨s, rfl⟩ | ⟨b, rfl⟩
  · cases a <;> simp only [eqCell, reduceCtorEq] at h
    cases hk; cases ha
    split at h
    · rename_i e; subst e; simp only [Option.some.injEq, beq_iff_eq] at h; subst h; simp [Instr.sameBits]
    · simp at h
  · cases a <;> simp only [eqCell, reduceCtorEq] at h
    cases hk; cases ha
    simp only [Option.some.injEq] at h
    have := ba1 _ _ h
    subst this
    simp only [Instr.sameBits]
    exact ba2 _
  · cases a <;> simp only [eqCell, reduceCtorEq] at h
    cases hk; cases ha
    simp only [Option.some.injEq, beq_iff_eq] at h; subst h; simp [Instr.sameBits]
theorem run_setObj {b : Nat} {es : Array MapEntry} {clock : Nat} {o : Obj} (h : w.heap[b]? = some (.map es clock)) : (setObj b o).run P w = .ok () { w with heap := w.heap.setIfInBounds b o } := by
  simp [setObj, Sem.run, h]
theorem SetBlk.setObj {b : Nat} {o : Obj} (hb : b < w.heap.size) : SetBlk w { w with heap := w.heap.setIfInBounds b o } b o :=
  ⟨rfl, rfl, rfl, by simp, by simp [hb], fun k hk => by simp [Array.getElem?_setIfInBounds, Ne.symm hk]⟩
theorem mapset_ok {t kt e : TypeId} {kf : Nat} {m k v : D} {vm vk vv : Value} {S' : St} (hr : Rel w ρ S.heap) (ht : P.underlying t = some (.map kt e)) (hkt : keyT P kt = some kf) (hm : VR w ρ S.heap m vm) (hk : VR w ρ S.heap k vk) (hv : VR w ρ S.heap v vv) (h : mapsetD S kf m k v = some S') :
    ∃ w', (Instr.mapUpdate t vm vk vv).run P w = .ok () w' ∧ OpPost w ρ S .undef S' true undef w' := by
  obtain ⟨kd, hu, hkd⟩ := keyT_some hkt
  unfold mapsetD at h
  split at h
  · rename_i g ver
    cases hm with
    | mref _ _ r ob hg hver hh =>
      unfold rowsOf at h
      simp only [hg] at h
      by_cases hvv : ob.ver = ver
      · subst hvv
        simp only [if_true] at h
        split at h
        · rename_i hkk
          obtain ⟨hk3, he0, hkey⟩ := hkk
          split at h
          · rename_i v' hsn
            have hv' := snapV_ok hr (Nat.le_refl _) hv hsn
            split at h
            · rename_i hfc
              simp only [Bool.and_eq_true] at hfc
              have hρ := hh rfl
              obtain ⟨es, clock, hc, hs, hl, hall⟩ := hr.map hρ hg hk3 he0
              have hkfree : k.free = true ∧ k.isCell = true := by
                unfold isKey at hkey
                split at hkey <;> simp_all [D.free, D.isCell]
              have hblt := lt_of_heap hc
              have hnc : ∀ c e f, Obj.map es clock ≠ .cells c e f := fun _ _ _ e => by cases e
              cases hf : findD k ob.rows 0 with
              | none => simp [hf] at h
              | some x =>
                rcases find_now hkd hkey hk (es := es.toList) (by simpa using hs) (fun j r hj => by obtain ⟨e, a, v, h1, h2, _, _, h5, h6⟩ := hall j r hj; exact ⟨e, a, v, by simpa using h1, h2, h5, h6⟩) hf with ⟨rfl, hfn⟩ | ⟨j, v0, e2, a, rfl, hrow, he, q1, q2, q3, hfn⟩
                · simp only [hf, Option.some.injEq] at h
                  subst h
                  refine ⟨{ w with heap := w.heap.setIfInBounds r (.map (es.push ⟨vk, vv, clock⟩) (clock + 1)) }, ?_, ρ, ?_, stp_map hr hρ hg hk3 hc hnc (SetBlk.setObj hblt) ⟨rfl, rfl, rfl, by simp, rfl⟩, .undef _, by simp⟩
                  · unfold Instr.mapUpdate
                    rw [run_ok_bind (run_underlying ht w)]
                    simp only
                    rw [run_ok_bind (run_getObj hc)]
                    simp only
                    rw [run_ok_bind (run_checkKey hu hkd), run_ok_bind (run_findKey hu hfn)]
                    exact run_setObj hc
                  · refine rel_map hr hρ hg hk3 he0 hc hnc (SetBlk.setObj hblt) ⟨rfl, rfl, rfl, by simp, rfl⟩ (by simp [hs]) ?_ ?_
                    · intro r' hr'
                      simp only [List.mem_append, List.mem_singleton] at hr'
                      rcases hr' with hr' | rfl
                      · exact hl r' hr'
                      · rfl
                    · intro i r' hi
                      simp only at hi
                      by_cases hil : i < ob.rows.length
                      · rw [List.getElem?_append_left hil] at hi
                        obtain ⟨e3, k3, v3, z1, z2⟩ := hall i r' hi
                        exact ⟨e3, k3, v3, by rw [Array.getElem?_push_lt (by omega)]; rw [Array.getElem?_eq_getElem (by omega)] at z1; exact z1, z2⟩
                      · rw [List.getElem?_append_right (by omega)] at hi
                        have hi0 : i - ob.rows.length = 0 := by have := lt_of_some hi; simp at this; omega
                        rw [hi0] at hi
                        simp at hi
                        subst hi
                        have hie : i = es.size := by omega
                        subst hie
                        exact ⟨⟨vk, vv, clock⟩, k, v', by simp, rfl, hkfree, hfc, hk, hv'⟩
                · simp only [hf, Option.some.injEq, Nat.zero_add] at h
                  subst h
                  have he' : es[j]? = some e2 := by simpa using he
                  have hjl := (Array.getElem?_eq_some_iff.1 he').1
                  have hkts : (Instr.keyThatStays (((es[0 + j]?).map (·.key)).getD vk) vk).run P w = .ok vk w := by
                    rw [Nat.zero_add, he']
                    unfold Instr.keyThatStays
                    simp only [Option.map_some, Option.getD_some]
                    rw [if_pos (sameBits_key (n := 9999) hkey hk q2 q3)]
                    rfl
                  refine ⟨{ w with heap := w.heap.setIfInBounds r (.map (es.modify j fun e => { e with key := vk, val := vv }) clock) }, ?_, ρ, ?_, stp_map hr hρ hg hk3 hc hnc (SetBlk.setObj hblt) ⟨rfl, rfl, rfl, by simp, rfl⟩, .undef _, by simp⟩
                  · unfold Instr.mapUpdate
                    rw [run_ok_bind (run_underlying ht w)]
                    simp only
                    rw [run_ok_bind (run_getObj hc)]
                    simp only
                    rw [run_ok_bind (run_checkKey hu hkd), run_ok_bind (run_findKey hu hfn)]
                    simp only
                    rw [run_ok_bind hkts]
                    rw [Nat.zero_add]
                    exact run_setObj hc
                  · refine rel_map hr hρ hg hk3 he0 hc hnc (SetBlk.setObj hblt) ⟨rfl, rfl, rfl, by simp, rfl⟩ (by simp [hs]) ?_ ?_
                    · intro r' hr'
                      rcases List.mem_or_eq_of_mem_set hr' with hr' | rfl
                      · exact hl r' hr'
                      · rfl
                    · intro i r' hi
                      simp only at hi
                      by_cases hij : j = i
                      · subst hij
                        rw [List.getElem?_set_self (by omega)] at hi
                        simp only [Option.some.injEq] at hi
                        subst hi
                        exact ⟨{ e2 with key := vk, val := vv }, k, v', by simp [Array.getElem?_modify, he'], rfl, hkfree, hfc, hk, hv'⟩
                      · rw [List.getElem?_set_ne hij] at hi
                        obtain ⟨e3, k3, v3, z1, z2⟩ := hall i r' hi
                        exact ⟨e3, k3, v3, by rw [Array.getElem?_modify, if_neg hij]; exact z1, z2⟩
            · simp at h
          · simp at h
        · simp at h
      · simp [hvv] at h
  · simp at h
end
end Go.Proofs.YtabgobmeibjeeaaGreatDoor

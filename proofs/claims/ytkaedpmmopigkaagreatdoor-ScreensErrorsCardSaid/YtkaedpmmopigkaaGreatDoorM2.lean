/- Proved here: parts of the proof, joined (Lo9b, Lo9c, Lo9d, Lo9e, Lo10, Lo11, Lo12, Lo13, Lo14): an abstract machine, its soundness, what functions of the program compute in it; no condition. -/
import Derived.Laws.BytesString
import Derived.Laws.MakeOwn
import Derived.Lib.UnsafeStr
import Derived.Lib.Builder
import Derived.Lib.Bytealg
import Derived.Lib.AppendStr
import Derived.Lib.AppendZeros
import Derived.Lib.MakeNoZero
import Derived.Laws.CopyRow
import Derived.Laws.IdiomCopy
import Derived.Lib.BufferWrite
import Derived.StillTail
import Derived.Test.YtkaedpmmopigkaaGreatDoorM1
namespace Go.Proofs.YtkaedpmmopigkaaGreatDoor
open Go.RowKit
set_option linter.unusedVariables false
set_option linter.unusedSimpArgs false

section
variable {P : Program} {w : World} {ρ : Su} {S : St}

/-! comparisons with nil -/
def nilV : Nat→Value
 | 0=>.slice none 0 0
 | 1=>.pointer none
 | 2=>.nilFunc
 | 3=>.map none
 | _=>.nilIface
def someV : Nat→Value→Prop
 | 0,v=>∃ a n c,v = .slice (some a) n c
 | 1,v=>∃ a,v = .pointer (some a)
 | 2,v=>∃ f a b,v = .func f a b
 | 3,v=>∃ r,v = .map (some r)
 | _,v=>∃ t x,v = .iface t x
theorem nil_true {H : List Sk} {d : D} {v : Value} {fam : Nat} (h : VR w ρ H d v) (hn : isNil fam d = some true) : v = nilV fam∧fam ≤ 4:=by
 unfold isNil at hn
 split at hn
 all_goals first
  | (simp at hn; done)
  | (cases h; exact ⟨rfl,by omega⟩)
theorem nil_false {H : List Sk} {d : D} {v : Value} {fam : Nat} (h : VR w ρ H d v) (hn : isNil fam d = some false) : someV fam v∧fam ≤ 4:=by
 unfold isNil at hn
 split at hn
 all_goals first
  | (simp at hn; done)
  | (cases h<;>exact ⟨⟨_,_,_,rfl⟩,by omega⟩)
  | (cases h<;>exact ⟨⟨_,rfl⟩,by omega⟩)
  | (cases h<;>exact ⟨⟨_,_,rfl⟩,by omega⟩)
theorem nilT_desc {t : TypeId} {fam : Nat} (ht : nilT P t = some fam) : (fam = 0∧∃ e,P.underlying t = some (.slice e)) ∨ (fam = 1∧∃ e,P.underlying t = some (.pointer e)) ∨ (fam = 2∧∃ a b c,P.underlying t = some (.func a b c)) ∨ (fam = 3∧∃ a b,P.underlying t = some (.map a b)) ∨ (fam = 4∧∃ m,P.underlying t = some (.interface m)):=by
 unfold nilT at ht
 split at ht<;>simp only [Oi,reduceCtorEq] at ht
 ·
  rename_i e hu; exact .inl ⟨ht.symm,_,hu⟩
 ·
  rename_i e hu; exact .inr (.inl ⟨ht.symm,_,hu⟩)
 ·
  rename_i a b c hu; exact .inr (.inr (.inl ⟨ht.symm,_,_,_,hu⟩))
 ·
  rename_i a b hu; exact .inr (.inr (.inr (.inl ⟨ht.symm,_,_,hu⟩)))
 ·
  rename_i m hu; exact .inr (.inr (.inr (.inr ⟨ht.symm,_,hu⟩)))
theorem eqnil_ok {H : List Sk} {d1 d2 : D} {v1 v2 : Value} {t : TypeId} {b : Bool} {fam : Nat} {op : BinOp} {x y : Operand} (ho : op = .eql ∨ op = .neq) (ht : nilT P t = some fam) (hf1 : fam ≠ 1) (hcon : fam = 4 → isConst x = true ∨ isConst y = true) (h1 : VR w ρ H d1 v1) (h2 : VR w ρ H d2 v2) (h : Oh fam d1 d2 = some b) :
    ∃ v,(do eqGuard op t x y v1 v2; binOp op t v1 v2).run P w = .ok v w∧VR w ρ H (.bool (b != decide (op = .neq))) v:=by
  have key : (∀ d : Nat,(Op.equalIn (d + 1) t v1 v2).run P w = .ok b w)→(eqGuard op t x y v1 v2).run P w = .ok () w→(op = .eql→binOp op t v1 v2 = (do pure (.bool (← Op.equal t v1 v2))))→(op = .neq→binOp op t v1 v2 = (do pure (.bool (!(← Op.equal t v1 v2))))) →
      ∃ v,(do eqGuard op t x y v1 v2; binOp op t v1 v2).run P w = .ok v w∧VR w ρ H (.bool (b != decide (op = .neq))) v:=by
    intro he hg hb1 hb2
    have hq : (Op.equal t v1 v2).run P w = .ok b w:=he 9999
    rcases ho with rfl | rfl
    · exact ⟨.bool b,by rw [Ac hg,hb1 rfl,Ac hq]; rfl,by cases b<;>exact .bool _⟩
    · exact ⟨.bool !b,by rw [Ac hg,hb2 rfl,Ac hq]; rfl,by cases b<;>exact .bool _⟩
  have hcon' : fam = 4→(eqGuard op t x y .nilIface .nilIface).run P w = .ok () w:=by
    intro hf
    rcases hcon hf with hc | hc
    · cases x <;> simp [isConst] at hc
      rcases ho with rfl | rfl<;>simp [eqGuard]
    · cases y <;> simp [isConst] at hc
      rcases ho with rfl | rfl<;>simp [eqGuard]
  have fin : ∀ {u1 u2 : Value},v1 = u1→v2 = u2→(∀ d : Nat,(Op.equalIn (d + 1) t u1 u2).run P w = .ok b w)→(eqGuard op t x y u1 u2).run P w = .ok () w→(op = .eql→binOp op t u1 u2 = (do pure (.bool (← Op.equal t u1 u2))))→(op = .neq→binOp op t u1 u2 = (do pure (.bool (!(← Op.equal t u1 u2))))) →
      ∃ v,(do eqGuard op t x y v1 v2; binOp op t v1 v2).run P w = .ok v w∧VR w ρ H (.bool (b != decide (op = .neq))) v:=by
    rintro u1 u2 rfl rfl; exact key
  have hall:=nilT_desc ht
  unfold Oh at h
  split at h
  · rename_i b' hn1 hn2
    simp only [Oi] at h
    subst h
    obtain ⟨e1,_⟩:=nil_true h1 hn1
    cases b' with
    | true =>
      obtain ⟨e2,_⟩:=nil_true h2 hn2
      rcases hall with ⟨rfl,e,hu⟩ | ⟨rfl,e,hu⟩ | ⟨rfl,a,b,c,hu⟩ | ⟨rfl,a,b,hu⟩ | ⟨rfl,m,hu⟩
      · exact fin e1 e2 (fun d=>by unfold Op.equalIn; rw [Ac (run_underlying hu w)]; rfl) (by rcases ho with rfl | rfl<;>rfl) (by rintro rfl; rfl) (by rintro rfl; rfl)
      · exact absurd rfl hf1
      · exact fin e1 e2 (fun d=>by unfold Op.equalIn; rw [Ac (run_underlying hu w)]; rfl) (by rcases ho with rfl | rfl<;>rfl) (by rintro rfl; rfl) (by rintro rfl; rfl)
      · exact fin e1 e2 (fun d=>by unfold Op.equalIn; rw [Ac (run_underlying hu w)]; rfl) (by rcases ho with rfl | rfl<;>rfl) (by rintro rfl; rfl) (by rintro rfl; rfl)
      · have hc := hcon' rfl
        exact fin e1 e2 (fun d=>by unfold Op.equalIn; rw [Ac (run_underlying hu w)]; rfl) hc (by rintro rfl; rfl) (by rintro rfl; rfl)
    | false =>
      obtain ⟨e2,_⟩:=nil_false h2 hn2
      rcases hall with ⟨rfl,e,hu⟩ | ⟨rfl,e,hu⟩ | ⟨rfl,a,b,c,hu⟩ | ⟨rfl,a,b,hu⟩ | ⟨rfl,m,hu⟩
      · obtain ⟨p, q, r, e2⟩ := e2
        exact fin e1 e2 (fun d=>by unfold Op.equalIn; rw [Ac (run_underlying hu w)]; rfl) (by rcases ho with rfl | rfl<;>rfl) (by rintro rfl; rfl) (by rintro rfl; rfl)
      · exact absurd rfl hf1
      · obtain ⟨p, q, r, e2⟩ := e2
        exact fin e1 e2 (fun d=>by unfold Op.equalIn; rw [Ac (run_underlying hu w)]; rfl) (by rcases ho with rfl | rfl<;>rfl) (by rintro rfl; rfl) (by rintro rfl; rfl)
      · obtain ⟨p, e2⟩ := e2
        exact fin e1 e2 (fun d=>by unfold Op.equalIn; rw [Ac (run_underlying hu w)]; rfl) (by rcases ho with rfl | rfl<;>rfl) (by rintro rfl; rfl) (by rintro rfl; rfl)
      · obtain ⟨p, q, e2⟩ := e2
        exact fin e1 e2 (fun d=>by unfold Op.equalIn; rw [Ac (run_underlying hu w)]; rfl) (by rcases ho with rfl | rfl<;>rfl) (by rintro rfl; rfl) (by rintro rfl; rfl)
  · rename_i hn1 hn2
    simp only [Oi] at h
    subst h
    obtain ⟨e1,_⟩:=nil_false h1 hn1
    obtain ⟨e2,_⟩:=nil_true h2 hn2
    rcases hall with ⟨rfl,e,hu⟩ | ⟨rfl,e,hu⟩ | ⟨rfl,a,b,c,hu⟩ | ⟨rfl,a,b,hu⟩ | ⟨rfl,m,hu⟩
    · obtain ⟨p, q, r, e1⟩ := e1
      exact fin e1 e2 (fun d=>by unfold Op.equalIn; rw [Ac (run_underlying hu w)]; rfl) (by rcases ho with rfl | rfl<;>rfl) (by rintro rfl; rfl) (by rintro rfl; rfl)
    · exact absurd rfl hf1
    · obtain ⟨p, q, r, e1⟩ := e1
      exact fin e1 e2 (fun d=>by unfold Op.equalIn; rw [Ac (run_underlying hu w)]; rfl) (by rcases ho with rfl | rfl<;>rfl) (by rintro rfl; rfl) (by rintro rfl; rfl)
    · obtain ⟨p, e1⟩ := e1
      exact fin e1 e2 (fun d=>by unfold Op.equalIn; rw [Ac (run_underlying hu w)]; rfl) (by rcases ho with rfl | rfl<;>rfl) (by rintro rfl; rfl) (by rintro rfl; rfl)
    · obtain ⟨p, q, e1⟩ := e1
      exact fin e1 e2 (fun d=>by unfold Op.equalIn; rw [Ac (run_underlying hu w)]; rfl) (by rcases ho with rfl | rfl<;>rfl) (by rintro rfl; rfl) (by rintro rfl; rfl)
  · simp at h

/-! made slices -/
theorem mkslice_ok {t e : TypeId} {i : TypeInfo} {n kind : Nat} {z : List D} {kl kc : IntKind} {l c : Int} {r : D} {S' : St} {wr : Bool} (hr : Rel w ρ S.heap) (ht : P.underlying t = some (.slice e)) (hi : P.info? e = some i) (hn : Ct P e = some n) (hz : Gu P e = some z) (hzl : z.length = n) (hb : 0 < i.bytes) (hk : kind = 0 ∨ kind = 1 ∨ kind = 2)
    (h : (if 0 ≤ l∧l ≤ c∧c.toNat * i.bytes ≤ 140737488355328 then some (D.msl S.heap.length 0 0 l.toNat none,newAt S ⟨e,n,List.replicate l.toNat z,0,kind,decide (l ≠ c)⟩,true) else none) = some (r,S',wr)) :
    ∃ v w',(Instr.makeSlice t (.int kl l) (.int kc c)).run P w = .ok v w'∧Ta w ρ S r S' wr v w':=by
  obtain ⟨i1,zv,hi1,hzv,hzc,hall,hfree⟩:=Fj (w:=w) (ρ:=ρ) (H:=S.heap) hz
  rw [hi] at hi1
  injection hi1 with hi1
  subst hi1
  obtain ⟨i2,d2,hi2,hd2,hsz,h0⟩:=Cy hn
  rw [hi] at hi2
  injection hi2 with hi2
  subst hi2
  split at h
  · rename_i hc
    obtain ⟨hl0,hlc,hby⟩:=hc
    simp only [Oi,Pi_] at h
    obtain ⟨rfl,rfl,rfl⟩:=h
    have h1 : c.toNat * 1 ≤ c.toNat * i.bytes:=Nat.mul_le_mul_left _ hb
    have hb48 : (i.bytes : Int) * c ≤ 281474976710656:=by
      have h2 : ((c.toNat * i.bytes : Nat) : Int) ≤ 140737488355328:=Int.ofNat_le.2 hby
      rw [Int.natCast_mul,Int.toNat_of_nonneg (by omega),Int.mul_comm] at h2
      omega
    have hrun:=run_make (P:=P) w t e i zv ht hi hzv kl kc l c hl0 hlc hb48 (by omega)
    have hadd:=Te.alloc w (.cells (madeCells zv.cells (c.toNat * i.size)) e)
    rw [hsz] at hrun hadd
    subst hzl
    have hcs : (madeCells zv.cells (c.toNat * z.length)).size = c.toNat * z.length:=size_madeCells _ _
    have hin:=RowsIn.replicate (kk:=True) hzc hall hfree c.toNat h0
    have hrep : ∀ (j : Nat) (r : List D),(List.replicate l.toNat z)[j]? = some r→(List.replicate c.toNat z)[j]? = some r:=by
      intro j r hj
      have hjl:=lt_of_some hj
      rw [List.length_replicate] at hjl
      have : r = z:=List.eq_of_mem_replicate (Lm hj)
      subst this
      rw [List.getElem?_replicate,if_pos (by omega)]
    refine ⟨_,_,hrun,_,Ir (ob:=⟨e,z.length,List.replicate l.toNat z,0,kind,decide (l ≠ c)⟩) hr hadd h0 ⟨c.toNat,hcs,by simp; omega,by simp only [maxLen]; omega,fun hg=>?_⟩ (fun r hr'=>by rw [List.eq_of_mem_replicate hr']) hk (fun i' r' j d hi' hj=>?_),F6 hr hadd,?_,by simp⟩
    · have : l = c := by simpa using hg
      simp [this]
    · obtain ⟨q1, q2, q3⟩ := hin.2 i' r' j d (hrep _ _ hi') hj
      exact ⟨q1,fun _=>q2 trivial,q3⟩
    · refine .msl _ 0 0 _ none _ _ ⟨e,z.length,List.replicate l.toNat z,0,kind,decide (l ≠ c)⟩ (by omega) (fun k hk=>by cases hk) (by simp [newAt]) (Nat.le_refl _) (by rcases hk with rfl | rfl | rfl<;>simp) fun _=>⟨w.heap.size,by simp [upd],by simp,fun _=>by simp,fun _=>⟨_,hadd.new,by simpa using hcs⟩⟩
  · simp at h

/-! bytes and strings -/
theorem foldl_push (ns : List Int) : ∀ r : ByteArray,ns.foldl (fun r n=>r.push (UInt8.ofNat n.toNat)) r = ⟨r.data ++ (ns.map fun n=>UInt8.ofNat n.toNat).toArray⟩:=by
 induction ns with
 | nil=>intro r; simp
 | cons n ns ih =>
  intro r
  rw [List.foldl_cons,ih]
  simp [ByteArray.push]
theorem Pt : ∀ {rows : List (List D)} {b : List UInt8},bytesOf rows = some b→∃ ns : List Int,rows = ns.map (fun n=>[D.int .u8 n])∧b = ns.map fun n=>UInt8.ofNat n.toNat
  | [],b,h=>by simp only [bytesOf,Oi] at h; subst h; exact ⟨[],rfl,rfl⟩
  | r :: rows, b, h => by
    unfold bytesOf at h
    split at h
    · simp at *
    · rename_i n l heq
      simp only [List.cons.injEq] at heq
      obtain ⟨rfl,rfl⟩:=heq
      simp only [Om] at h
      obtain ⟨b',hb',rfl⟩:=h
      obtain ⟨ns,h1,h2⟩:=Pt hb'
      exact ⟨n :: ns,by rw [h1]; rfl,by rw [h2]; rfl⟩
    · simp at h
theorem bstr_ok {x : D} {v : Value} {rows : List (List D)} {b : List UInt8} {s d e : TypeId} (hr : Rel w ρ S.heap) (hs : P.underlying s = some (.slice e)) (he : P.underlying e = some (.int .u8)) (hd : P.underlying d = some .string) (hx : VR w ρ S.heap x v) (hrows : Dh S 1 x = some rows) (hb : bytesOf rows = some b) :
    (convert s d v).run P w = .ok (.string ⟨b.toArray⟩) w:=by
  obtain ⟨A,c,rfl,hl,hsrc⟩:=src_ok (kk:=True) hr hx hrows
  obtain ⟨ns,rfl,rfl⟩:=Pt hb
  rw [run_convert_bytes_string w s d e A _ c hs he hd]
  by_cases hne : ns = []
  · subst hne
    cases A with
    | none=>simp [Conv.bytesToString]; rfl
    | some a =>
      exact run_bytesToString (P:=P) w a 0 c [] (by simp [loadCells,loadCellsFrom])
  · obtain ⟨bb, o, f, rfl, hf⟩ := hsrc (by simpa using hne)
    have hcell : ∀ j v,(ns.map (Value.int .u8))[j]? = some v→w.cell? ((⟨bb,o,none⟩ : Addr).add j) = some v:=by
      intro j v hj
      simp only [Lp_,Om] at hj
      obtain ⟨n,hn,rfl⟩:=hj
      have hrow : (ns.map fun n=>[D.int .u8 n])[j]? = some [D.int .u8 n]:=by simp [hn]
      obtain ⟨h1,h2,_⟩:=hf j _ 0 (.int .u8 n) hrow rfl
      rw [Nat.mul_one,Nat.add_zero] at h1
      generalize f j 0 = u at h1 h2
      cases h2
      rw [add_plain]
      exact h1
    have hload:=run_loadCells_list (P:=P) w ⟨bb,o,none⟩ (ns.map (Value.int .u8)) hcell
    rw [List.length_map] at hload
    have:=run_bytesToString (P:=P) w ⟨bb,o,none⟩ ns.length c ns hload
    rw [List.length_map,this,foldl_push]
    simp [ByteArray.empty,ByteArray.emptyWithCapacity]
    rfl
theorem strb_ok {s : ByteArray} {ss d e : TypeId} (hr : Rel w ρ S.heap) (hs : P.underlying ss = some .string) (hd : P.underlying d = some (.slice e)) (he : P.underlying e = some (.int .u8)) :
    ∃ v w',(convert ss d (.string s)).run P w = .ok v w'∧Ta w ρ S (.sl 1 (Be s) none) S false v w':=by
  obtain ⟨cap,hcap,hge⟩ : ∃ cap,cap = (Question.appendCap s.size 0 e).cut (w.tape w.drawn (.appendCap s.size 0 e))∧s.size ≤ cap:=⟨_,rfl,by simp [Question.cut]⟩
  let cs : Array Value:=(s.data.map fun b=>(.int .u8 b.toNat : Value)) ++ Array.replicate (cap - s.size) (.int .u8 0)
  have hrun : (convert ss d (.string s)).run P w = .ok (.slice (some ⟨w.heap.size,0,none⟩) s.size cap) ((w.drew.alloc (.cells cs e)).freeze ⟨w.heap.size,cs.size,none⟩ 1):=by
    have h0 : (convert ss d (.string s)).run P w = (Conv.stringToBytes e s).run P w:=by
      simp [convert,run_underlying hs,run_underlying hd,run_underlying he]
    have h1 : (choose (.appendCap s.size 0 e)).run P w = .ok cap w.drew:=by rw [hcap]; rfl
    have h2 : (newRow e cs).run P w.drew = .ok ⟨w.heap.size,0,none⟩ (w.drew.alloc (.cells cs e)):=rfl
    have h3 : (markStringish ⟨w.heap.size,0,none⟩).run P (w.drew.alloc (.cells cs e)) = .ok () ((w.drew.alloc (.cells cs e)).freeze ⟨w.heap.size,cs.size,none⟩ 1):=by
      have hsh : (w.drew.alloc (.cells cs e)).shape? w.heap.size = some (e,cs.size):=by
        unfold World.shape?
        rw [show (w.drew.alloc (.cells cs e)).heap[w.heap.size]? = some (.cells cs e) from heap_alloc_new w.drew _]
      unfold markStringish
      rw [Ac (run_shape P _ _),hsh]
      rfl
    rw [h0]
    unfold Conv.stringToBytes
    rw [Ac h1]
    show (do let a ← newRow e cs; markStringish a; pure (.slice (some a) s.size cap) : Sem Value).run P w.drew = _
    rw [Ac h2,Ac h3]
    rfl
  have hadd : Te w ((w.drew.alloc (.cells cs e)).freeze ⟨w.heap.size,cs.size,none⟩ 1) (.cells cs e (cs.size,cs.size + 1)):=by
    have h1:=Te.drewAlloc w (.cells cs e)
    refine ⟨rfl,rfl,rfl,?_,?_,fun k hk=>?_⟩
    · simp [World.freeze]
    · have hne : ¬ ((1 : Nat) = 0) := by omega
      unfold World.freeze
      rw [if_neg hne]
      show (Array.modify _ _ _)[w.heap.size]? = _
      rw [Array.getElem?_modify,h1.new,if_pos rfl]
      rfl
    · have hne : ¬ ((1 : Nat) = 0) := by omega
      unfold World.freeze
      rw [if_neg hne]
      show (Array.modify _ _ _)[k]? = _
      rw [Array.getElem?_modify,if_neg (show ¬ w.heap.size = k by omega)]
      exact h1.old k hk
  refine ⟨_,_,hrun,ρ,Ll hr hadd,Gw hr hadd,?_,fun _=>⟨ext_add hadd,rfl,rfl⟩⟩
  have hlen : (Be s).length = s.size:=by unfold Be; rw [List.length_map,Array.length_toList]; rfl
  refine .sl 1 (Be s) none _ s.size cap hlen.symm hge (fun k hk=>by cases hk) (fun r hr'=>?_) w.heap.size 0 (fun i j=>cs.getD i undef) (fun _=>rfl) (fun i r j d hi hj=>?_) (fun i r j d hi hj=>?_)
  · unfold Be at hr'
    obtain ⟨b,_,rfl⟩:=List.mem_map.1 hr'
    rfl
  · simp only [Be, Lp_, Om] at hi
    obtain ⟨b,hb,rfl⟩:=hi
    cases j with
    | succ j=>simp at hj
    | zero =>
      simp at hj
      subst hj
      have hil : i < s.data.size:=by have:=lt_of_some hb; simpa using this
      have hci : cs[i]? = some (.int .u8 b.toNat):=by
        simp only [cs]
        rw [Array.getElem?_append_left (by simpa using hil)]
        simp at hb
        simp [hb]
      refine ⟨?_,⟨by rw [hadd.size]; omega,fun hx=>by have:=(hr.hid _ _ hx).1; omega,fun g hg=>by have:=hr.lt hg; omega⟩,rfl⟩
      rw [cell_of_row _ _ _ cs e _ hadd.new,Nat.zero_add,Nat.mul_one,Nat.add_zero,hci]
      obtain ⟨h5,h6⟩:=Array.getElem?_eq_some_iff.1 hci
      simp [Array.getD,h5,h6]
  · simp only [Be, Lp_, Om] at hi
    obtain ⟨b,hb,rfl⟩:=hi
    cases j with
    | succ j=>simp at hj
    | zero =>
      simp at hj
      subst hj
      have hil : i < s.data.size:=by have:=lt_of_some hb; simpa using this
      have hci : cs[i]? = some (.int .u8 b.toNat):=by
        simp only [cs]
        rw [Array.getElem?_append_left (by simpa using hil)]
        simp at hb
        simp [hb]
      obtain ⟨h5,h6⟩:=Array.getElem?_eq_some_iff.1 hci
      have : cs.getD i undef = .int .u8 b.toNat:=by simp [Array.getD,h5,h6]
      rw [this]
      exact .int _ _

/-! maps -/
theorem keyT_some {t : TypeId} {kf : Nat} (h : keyT P t = some kf) : ∃ kd,P.underlying t = some kd∧((kf = 0∧∃ q,kd = .int q) ∨ (kf = 1∧kd = .string) ∨ (kf = 2∧kd = .bool)):=by
 unfold keyT at h
 split at h<;>simp only [Oi,reduceCtorEq] at h<;>subst h
 ·
  rename_i q hu; exact ⟨_,hu,.inl ⟨rfl,q,rfl⟩⟩
 ·
  rename_i hu; exact ⟨_,hu,.inr (.inl ⟨rfl,rfl⟩)⟩
 ·
  rename_i hu; exact ⟨_,hu,.inr (.inr ⟨rfl,rfl⟩)⟩
theorem same_now {H : List Sk} {k a : D} {vk va : Value} {b : Bool} {kd : TypeDesc} {kf : Nat} (hkd : (kf = 0∧∃ q,kd = .int q) ∨ (kf = 1∧kd = .string) ∨ (kf = 2∧kd = .bool)) (hkey : isKey kf k = true) (hk : VR w ρ H k vk) (ha : VR w ρ H a va) (h : Fs k a = some b) : Instr.sameNow kd vk va = some b:=by
 rcases hkd with ⟨rfl,q,rfl⟩ | ⟨rfl,rfl⟩ | ⟨rfl,rfl⟩
 ·
  cases k<;>simp only [isKey,reduceCtorEq,Bool.false_eq_true] at hkey
  cases a<;>simp only [Fs,reduceCtorEq] at h
  cases hk; cases ha
  simpa [Instr.sameNow] using h
 ·
  cases k<;>simp only [isKey,reduceCtorEq,Bool.false_eq_true] at hkey
  cases a<;>simp only [Fs,reduceCtorEq] at h
  cases hk; cases ha
  simpa [Instr.sameNow] using h
 ·
  cases k<;>simp only [isKey,reduceCtorEq,Bool.false_eq_true] at hkey
  cases a<;>simp only [Fs,reduceCtorEq] at h
  cases hk; cases ha
  simpa [Instr.sameNow] using h
theorem find_now {H : List Sk} {k : D} {vk : Value} {kd : TypeDesc} {kf : Nat} (hkd : (kf = 0 ∧ ∃ q, kd = .int q) ∨ (kf = 1 ∧ kd = .string) ∨ (kf = 2 ∧ kd = .bool)) (hkey : isKey kf k = true) (hk : VR w ρ H k vk) : ∀ {rows : List (List D)} {es : List MapEntry} {i : Nat} {x : Option (Nat × D)}, es.length = rows.length → (∀ (j : Nat) (r : List D), rows[j]? = some r → ∃ (e : MapEntry) (a v : D), es[j]? = some e ∧ r = [a, v] ∧ VR w ρ H a e.key ∧ VR w ρ H v e.val) → J6 k rows i = some x →
    (x = none∧Instr.findNow kd vk es i = some none) ∨ ∃ (j : Nat) (v : D) (e : MapEntry) (a : D),x = some (i + j,v)∧rows[j]? = some [a,v]∧es[j]? = some e∧VR w ρ H v e.val∧VR w ρ H a e.key∧Fs k a = some true∧Instr.findNow kd vk es i = some (some (i + j,e.val))
  | [], es, i, x, hl, hh, h => by
    have : es = []:=by simpa using hl
    subst this
    simp only [J6,Oi] at h
    subst h
    exact .inl ⟨rfl,rfl⟩
  | r :: rows, es, i, x, hl, hh, h => by
    cases es with
    | nil=>simp at hl
    | cons e es =>
      obtain ⟨e',a,v,h1,h2,h3,h4⟩:=hh 0 r rfl
      simp at h1
      subst h1 h2
      simp only [J6] at h
      cases hb : Fs k a with
      | none=>simp [hb] at h
      | some bb =>
        have hsn:=same_now hkd hkey hk h3 hb
        cases bb with
        | true =>
          simp only [hb,Oi] at h
          subst h
          exact .inr ⟨0,v,e,a,rfl,rfl,rfl,h4,h3,hb,by simp [Instr.findNow,hsn]⟩
        | false =>
          simp only [hb] at h
          rcases find_now hkd hkey hk (es:=es) (by simpa using hl) (fun j r hj=>by simpa using hh (j + 1) r (by simpa using hj)) h with ⟨rfl,hf⟩ | ⟨j,v2,e2,a2,hx,hr,he,q1,q2,q3,hf⟩
          · exact .inl ⟨rfl,by simp [Instr.findNow,hsn,hf]⟩
          · refine .inr ⟨j + 1, v2, e2, a2, by rw [hx]; congr 2; omega, by simpa using hr, by simpa using he, q1, q2, q3, ?_⟩
            simp only [Instr.findNow,hsn,hf]
            congr 3
            omega
theorem run_checkKey {t : TypeId} {kd : TypeDesc} {kf : Nat} {b : Bool} {v : Value} (hu : P.underlying t = some kd) (hkd : (kf = 0∧∃ q,kd = .int q) ∨ (kf = 1∧kd = .string) ∨ (kf = 2∧kd = .bool)) : (Instr.checkKey b 10000 t v).run P w = .ok () w:=by
 have : ∀ n : Nat,(Instr.checkKey b (n + 1) t v).run P w = .ok () w:=by
  intro n
  unfold Instr.checkKey
  rw [Ac (run_underlying hu w)]
  rcases hkd with ⟨_,q,rfl⟩ | ⟨_,rfl⟩ | ⟨_,rfl⟩<;>rfl
 exact this 9999
theorem run_findKey {t : TypeId} {kd : TypeDesc} {v : Value} {es : List MapEntry} {x : Option (Nat × Value)} (hu : P.underlying t = some kd) (h : Instr.findNow kd v es 0 = some x) : (Instr.findKey t v es).run P w = .ok x w:=by
 unfold Instr.findKey
 rw [Ac (run_underlying hu w),h]
 rfl
theorem Gd {b : Nat} {es : Array MapEntry} {clock : Nat} (h : w.heap[b]? = some (.map es clock)) : (getObj b).run P w = .ok (.map es clock) w:=by
 simp [getObj,Sem.run,h]
theorem map_rows {m : D} {vm : Value} {rows : List (List D)} (hr : Rel w ρ S.heap) (hm : VR w ρ S.heap m vm) (h : M7 S m = some rows) :
    ∃ es : Array MapEntry,(vm = .map none∧es = #[] ∨ ∃ b clock,vm = .map (some b)∧w.heap[b]? = some (.map es clock))∧es.size = rows.length∧(∀ (j : Nat) (r : List D),rows[j]? = some r→∃ (e : MapEntry) (a v : D),es[j]? = some e∧r = [a,v]∧VR w ρ S.heap a e.key∧VR w ρ S.heap v e.val):=by
  unfold M7 at h
  split at h
  · cases hm
    simp only [Oi] at h
    subst h
    exact ⟨#[],.inl ⟨rfl,rfl⟩,rfl,fun j r hj=>by simp at hj⟩
  · simp only [Oi] at h
    subst h
    cases hm with
    | mp _ b clock es f hb hx hf hl hz he hc hh =>
      refine ⟨es,.inr ⟨b,clock,rfl,hb⟩,hl,fun j r hj=>?_⟩
      obtain ⟨e,h1,h2,h3⟩:=he j (lt_of_some hj)
      have hrl:=hz r (Lm hj)
      match r,hrl with
      | [a,v],_=>exact ⟨e,a,v,h1,rfl,by rw [h2]; exact hh j _ 0 a hj rfl,by rw [h3]; exact hh j _ 1 v hj rfl⟩
  · rename_i g v
    cases hm with
    | mref _ _ r ob hg hv hh =>
      unfold rowsOf at h
      simp only [hg] at h
      by_cases hvv : ob.ver = v
      · simp only [hvv, if_true] at h
        split at h
        · rename_i hk
          simp only [Oi] at h
          subst h
          obtain ⟨es,clock,hc,hs,hl,hall⟩:=hr.map (hh hvv) hg hk.1 hk.2
          refine ⟨es,.inr ⟨r,clock,rfl,hc⟩,hs,fun j r' hj=>?_⟩
          obtain ⟨e,k,v,h1,h2,_,_,h5,h6⟩:=hall j r' hj
          exact ⟨e,k,v,h1,h2,h5,h6⟩
        · simp at h
      · simp [hvv] at h
  · simp at h
theorem mapget_ok {t kt e : TypeId} {kf : Nat} {z m k r : D} {vm vk : Value} {ok : Bool} (hr : Rel w ρ S.heap) (ht : P.underlying t = some (.map kt e)) (hkt : keyT P kt = some kf) (hz : Lb P e = some z) (hm : VR w ρ S.heap m vm) (hk : VR w ρ S.heap k vk)
    (h : Kq S kf z ok m k = some r) : ∃ v,(Instr.lookup t vm vk ok).run P w = .ok v w∧VR w ρ S.heap r v:=by
  obtain ⟨kd,hu,hkd⟩:=keyT_some hkt
  unfold Kq at h
  split at h
  · rename_i rows hrows
    obtain ⟨es,hes,hsz,hall⟩:=map_rows hr hm hrows
    split at h
    · rename_i hkey
      obtain ⟨zv,hzrun,hzcell⟩ : ∃ zv,(zeroValue e).run P w = .ok zv w∧VR w ρ S.heap z zv:=by
        unfold Lb at hz
        split at hz
        · rename_i i hi
          split at hz
          · rename_i zv hzv
            exact ⟨zv,by simp [zeroValue,typeInfo,hi,hzv],K5 hz⟩
          · simp at hz
        · simp at hz
      have hsome : ∀ j v,Instr.findNow kd vk es.toList 0 = some (some (j,v))→(Instr.lookup t vm vk ok).run P w = .ok (if ok then .tuple #[v,.bool true] else v) w:=by
        intro j v hx
        unfold Instr.lookup
        rw [Ac (run_underlying ht w)]
        rcases hes with ⟨rfl,rfl⟩ | ⟨b,clock,rfl,hb⟩
        · simp only
          rw [Ac (a:=(#[] : Array MapEntry)) (w':=w) rfl,Ac (run_checkKey hu hkd),Ac (run_findKey hu hx)]
          rfl
        · simp only
          rw [Ac (Gd hb)]
          simp only
          rw [Ac (a:=es) (w':=w) rfl,Ac (run_checkKey hu hkd),Ac (run_findKey hu hx)]
          rfl
      have hnone : Instr.findNow kd vk es.toList 0 = some none→(Instr.lookup t vm vk ok).run P w = .ok (if ok then .tuple #[zv,.bool false] else zv) w:=by
        intro hx
        unfold Instr.lookup
        rw [Ac (run_underlying ht w)]
        rcases hes with ⟨rfl,rfl⟩ | ⟨b,clock,rfl,hb⟩
        · simp only
          rw [Ac (a:=(#[] : Array MapEntry)) (w':=w) rfl,Ac (run_checkKey hu hkd),Ac (run_findKey hu hx)]
          simp only
          rw [Ac hzrun]
          rfl
        · simp only
          rw [Ac (Gd hb)]
          simp only
          rw [Ac (a:=es) (w':=w) rfl,Ac (run_checkKey hu hkd),Ac (run_findKey hu hx)]
          simp only
          rw [Ac hzrun]
          rfl
      have htup : ∀ (x : D) (v : Value) (b : Bool),VR w ρ S.heap x v→VR w ρ S.heap (.tup [x,.bool b]) (.tuple #[v,.bool b]):=by
        intro x v b hx
        have hv : VL w ρ S.heap [x,.bool b] [v,.bool b]:=.cons hx (.cons (.bool _) .nil)
        exact .tup [x,.bool b] [v,.bool b] rfl (fun j d v=>hv.get)
      cases hf : J6 k rows 0 with
      | none=>simp [hf] at h
      | some x =>
        rcases find_now hkd hkey hk (es:=es.toList) (by simpa using hsz) (fun j r hj=>by obtain ⟨e,a,v,h1,h2⟩:=hall j r hj; exact ⟨e,a,v,by simpa using h1,h2⟩) hf with ⟨rfl,hfn⟩ | ⟨j,v,e2,a,rfl,hrow,he,q1,q2,q3,hfn⟩
        · simp only [hf, Oi] at h
          subst h
          refine ⟨_,hnone hfn,?_⟩
          cases ok
          · exact hzcell
          · exact htup _ _ _ hzcell
        · simp only [hf, Oi] at h
          subst h
          refine ⟨_,hsome _ _ hfn,?_⟩
          cases ok
          · exact q1
          · exact htup _ _ _ q1
    · simp at h
  · simp at h
theorem mkmap_ok {t : TypeId} (hr : Rel w ρ S.heap) : ∃ v w',(Instr.makeMap t none).run P w = .ok v w'∧Ta w ρ S (.mref S.heap.length 0) (newAt S ⟨0,2,[],0,3,false⟩) true v w':=by
 have hadd:=Te.alloc w (.map #[] 0)
 refine ⟨.map (some w.heap.size),w.alloc (.map #[] 0),rfl,_,rel_newmap (ob:=⟨0,2,[],0,3,false⟩) hr hadd rfl rfl rfl,F6 hr hadd,?_,by simp⟩
 exact .mref _ 0 _ ⟨0,2,[],0,3,false⟩ (by simp [newAt]) (Nat.le_refl _) (fun _=>by simp [upd])
theorem ba1 (a b : ByteArray) (h : (a == b) = true) : a = b:=by
 obtain ⟨x⟩:=a
 obtain ⟨y⟩:=b
 have : (x == y) = true:=h
 simp at this
 rw [this]
theorem ba2 (a : ByteArray) : (a == a) = true:=by
 obtain ⟨x⟩:=a
 show (x == x) = true
 simp
theorem Oz {H : List Sk} {k a : D} {vk va : Value} {kf n : Nat} (hkey : isKey kf k = true) (hk : VR w ρ H k vk) (ha : VR w ρ H a va) (h : Fs k a = some true) : Instr.sameBits (n + 1) va vk = true:=by
 have hcases : (∃ q x,k = .int q x) ∨ (∃ s,k = .str s) ∨ ∃ b,k = .bool b:=by
  cases k<;>first | exact .inl ⟨_,_,rfl⟩ | exact .inr (.inl ⟨_,rfl⟩) | exact .inr (.inr ⟨_,rfl⟩) | (unfold isKey at hkey; split at hkey<;>simp at *)
 rcases hcases with ⟨q,x,rfl⟩ | ⟨s,rfl⟩ | ⟨b,rfl⟩
 ·
  cases a<;>simp only [Fs,reduceCtorEq] at h
  cases hk; cases ha
  split at h
  ·
   rename_i e; subst e; simp only [Oi,beq_iff_eq] at h; subst h; simp [Instr.sameBits]
  ·
   simp at h
 ·
  cases a<;>simp only [Fs,reduceCtorEq] at h
  cases hk; cases ha
  simp only [Oi] at h
  have:=ba1 _ _ h
  subst this
  simp only [Instr.sameBits]
  exact ba2 _
 ·
  cases a<;>simp only [Fs,reduceCtorEq] at h
  cases hk; cases ha
  simp only [Oi,beq_iff_eq] at h; subst h; simp [Instr.sameBits]
theorem Ki {b : Nat} {es : Array MapEntry} {clock : Nat} {o : Obj} (h : w.heap[b]? = some (.map es clock)) : (setObj b o).run P w = .ok () { w with heap:=w.heap.setIfInBounds b o }:=by
 simp [setObj,Sem.run,h]
theorem Tf.setObj {b : Nat} {o : Obj} (hb : b < w.heap.size) : Tf w { w with heap:=w.heap.setIfInBounds b o } b o :=
 ⟨rfl,rfl,rfl,by simp,by simp [hb],fun k hk=>by simp [Array.getElem?_setIfInBounds,Ne.symm hk]⟩
theorem mapset_ok {t kt e : TypeId} {kf : Nat} {m k v : D} {vm vk vv : Value} {S' : St} (hr : Rel w ρ S.heap) (ht : P.underlying t = some (.map kt e)) (hkt : keyT P kt = some kf) (hm : VR w ρ S.heap m vm) (hk : VR w ρ S.heap k vk) (hv : VR w ρ S.heap v vv) (h : Ko S kf m k v = some S') :
    ∃ w',(Instr.mapUpdate t vm vk vv).run P w = .ok () w'∧Ta w ρ S .undef S' true undef w':=by
  obtain ⟨kd,hu,hkd⟩:=keyT_some hkt
  unfold Ko at h
  split at h
  · rename_i g ver
    cases hm with
    | mref _ _ r ob hg hver hh =>
      unfold rowsOf at h
      simp only [hg] at h
      by_cases hvv : ob.ver = ver
      · subst hvv
        simp only [if_true] at h
        split at h
        · rename_i hkk
          obtain ⟨hk3,he0,hkey⟩:=hkk
          split at h
          · rename_i v' hsn
            have hv':=Lf hr (Nat.le_refl _) hv hsn
            split at h
            · rename_i hfc
              simp only [Bool.and_eq_true] at hfc
              have hρ:=hh rfl
              obtain ⟨es,clock,hc,hs,hl,hall⟩:=hr.map hρ hg hk3 he0
              have hkfree : k.Sy = true∧k.val = true:=by
                unfold isKey at hkey
                split at hkey<;>simp_all [D.Sy,D.val,D.free,D.Td,D.Tc]
              have hblt:=lt_of_heap hc
              have hnc : ∀ c e f,Obj.map es clock ≠ .cells c e f:=fun _ _ _ e=>by cases e
              cases hf : J6 k ob.rows 0 with
              | none=>simp [hf] at h
              | some x =>
                rcases find_now hkd hkey hk (es:=es.toList) (by simpa using hs) (fun j r hj=>by obtain ⟨e,a,v,h1,h2,_,_,h5,h6⟩:=hall j r hj; exact ⟨e,a,v,by simpa using h1,h2,h5,h6⟩) hf with ⟨rfl,hfn⟩ | ⟨j,v0,e2,a,rfl,hrow,he,q1,q2,q3,hfn⟩
                · simp only [hf, Oi] at h
                  subst h
                  refine ⟨{ w with heap:=w.heap.setIfInBounds r (.map (es.push ⟨vk,vv,clock⟩) (clock + 1)) },?_,ρ,?_,Jb hr hρ hg hk3 hc hnc (Tf.setObj hblt) ⟨rfl,rfl,rfl,by simp,rfl⟩,.undef _,by simp⟩
                  · unfold Instr.mapUpdate
                    rw [Ac (run_underlying ht w)]
                    simp only
                    rw [Ac (Gd hc)]
                    simp only
                    rw [Ac (run_checkKey hu hkd),Ac (run_findKey hu hfn)]
                    exact Ki hc
                  · refine Sg hr hρ hg hk3 he0 hc hnc (Tf.setObj hblt) ⟨rfl, rfl, rfl, by simp, rfl⟩ (by simp [hs]) ?_ ?_
                    · intro r' hr'
                      simp only [List.mem_append,List.mem_singleton] at hr'
                      rcases hr' with hr' | rfl
                      · exact hl r' hr'
                      · rfl
                    · intro i r' hi
                      simp only at hi
                      by_cases hil : i < ob.rows.length
                      · rw [La_ hil] at hi
                        obtain ⟨e3,k3,v3,z1,z2⟩:=hall i r' hi
                        exact ⟨e3,k3,v3,by rw [Array.getElem?_push_lt (by omega)]; rw [Array.getElem?_eq_getElem (by omega)] at z1; exact z1,z2⟩
                      · rw [Lr_ (by omega)] at hi
                        have hi0 : i - ob.rows.length = 0:=by have:=lt_of_some hi; simp at this; omega
                        rw [hi0] at hi
                        simp at hi
                        subst hi
                        have hie : i = es.size:=by omega
                        subst hie
                        exact ⟨⟨vk,vv,clock⟩,k,v',by simp,rfl,hkfree,hfc,hk,hv'⟩
                · simp only [hf, Oi, Nat.zero_add] at h
                  subst h
                  have he' : es[j]? = some e2:=by simpa using he
                  have hjl:=(Array.getElem?_eq_some_iff.1 he').1
                  have hkts : (Instr.keyThatStays (((es[0 + j]?).map (·.key)).getD vk) vk).run P w = .ok vk w:=by
                    rw [Nat.zero_add,he']
                    unfold Instr.keyThatStays
                    simp only [Option.map_some,Option.getD_some]
                    rw [if_pos (Oz (n:=9999) hkey hk q2 q3)]
                    rfl
                  refine ⟨{ w with heap:=w.heap.setIfInBounds r (.map (es.modify j fun e=>{ e with key:=vk,val:=vv }) clock) },?_,ρ,?_,Jb hr hρ hg hk3 hc hnc (Tf.setObj hblt) ⟨rfl,rfl,rfl,by simp,rfl⟩,.undef _,by simp⟩
                  · unfold Instr.mapUpdate
                    rw [Ac (run_underlying ht w)]
                    simp only
                    rw [Ac (Gd hc)]
                    simp only
                    rw [Ac (run_checkKey hu hkd),Ac (run_findKey hu hfn)]
                    simp only
                    rw [Ac hkts]
                    rw [Nat.zero_add]
                    exact Ki hc
                  · refine Sg hr hρ hg hk3 he0 hc hnc (Tf.setObj hblt) ⟨rfl, rfl, rfl, by simp, rfl⟩ (by simp [hs]) ?_ ?_
                    · intro r' hr'
                      rcases List.mem_or_eq_of_mem_set hr' with hr' | rfl
                      · exact hl r' hr'
                      · rfl
                    · intro i r' hi
                      simp only at hi
                      by_cases hij : j = i
                      · subst hij
                        rw [List.getElem?_set_self (by omega)] at hi
                        simp only [Oi] at hi
                        subst hi
                        exact ⟨{ e2 with key:=vk,val:=vv },k,v',by simp [Array.getElem?_modify,he'],rfl,hkfree,hfc,hk,hv'⟩
                      · rw [Ln_ hij] at hi
                        obtain ⟨e3,k3,v3,z1,z2⟩:=hall i r' hi
                        exact ⟨e3,k3,v3,by rw [Array.getElem?_modify,if_neg hij]; exact z1,z2⟩
            · simp at h
          · simp at h
        · simp at h
      · simp [hvv] at h
  · simp at h
end
end Go.Proofs.YtkaedpmmopigkaaGreatDoor
namespace Go.Proofs.YtkaedpmmopigkaaGreatDoor
open Go.RowKit
set_option linter.unusedVariables false
set_option linter.unusedSimpArgs false
section
variable {P : Program} {w : World} {ρ : Su} {H : List Sk}
theorem R3 : ∀ {fs gs : List Nat} {a b : List D} {r : Bool}, Cu (fs ++ gs) a b = some r → ∃ x y, Cu fs (a.take fs.length) (b.take fs.length) = some x ∧ Cu gs (a.drop fs.length) (b.drop fs.length) = some y ∧ r = (x && y)
  | [],gs,a,b,r,h=>⟨true,r,by simp [Cu],by simpa using h,by simp⟩
  | f :: fs, gs, a :: l, b :: m, r, h => by
    simp only [List.cons_append,Cu] at h
    split at h
    · rename_i hk
      split at h
      · rename_i x y h1 h2
        obtain ⟨x',y',e1,e2,e3⟩:=R3 h2
        refine ⟨x && x',y',?_,by simpa using e2,?_⟩
        · simp only [List.length_cons,List.take_succ_cons,Cu,hk,if_true,h1,e1]
        · simp only [Oi] at h
          subst h e3
          cases x<;>cases x'<;>rfl
      · simp at h
    · simp at h
  | f :: fs,gs,[],b,r,h=>by simp [Cu] at h
  | f :: fs,gs,a :: l,[],r,h=>by simp [Cu] at h
theorem Mm : ∀ {fs : List Nat} {a b : List D} {r : Bool},Cu fs a b = some r→a.length = fs.length∧b.length = fs.length
 | [],[],[],r,h=>⟨rfl,rfl⟩
 | f :: fs, a :: l, b :: m, r, h => by
  simp only [Cu] at h
  split at h
  ·
   split at h
   ·
    rename_i h2
    have:=Mm h2
    simp [this]
   ·
    simp at h
  ·
   simp at h
 | [],[],_ :: _,r,h=>by simp [Cu] at h
 | [],_ :: _,_,r,h=>by simp [Cu] at h
 | f :: fs,[],b,r,h=>by simp [Cu] at h
 | f :: fs,a :: l,[],r,h=>by simp [Cu] at h
theorem eqCells_one {f : Nat} {a b : D} {r : Bool} (h : Cu [f] [a] [b] = some r) : isKey f a = true∧isKey f b = true∧Fs a b = some r:=by
 simp only [Cu] at h
 split at h
 ·
  rename_i hk
  simp only [Bool.and_eq_true] at hk
  split at h
  ·
   rename_i x y h1 h2
   simp only [Oi] at h h2
   subst h2
   refine ⟨hk.1,hk.2,?_⟩
   rw [h1,← h]; simp
  ·
   simp at h
 ·
  simp at h
theorem aggT_of {t : TypeId} {td : TypeDesc} (hu : P.underlying t = some td) (h : (match td with | .struct _ | .array _ _=>true | _=>false) = false) : Fh P t = false:=by
 unfold Fh
 rw [hu]
 cases td<;>simp_all
theorem Qo : ∀ (d : Nat) (t : TypeId) (Tm : List Nat), Ed P d t = some Tm → ∀ (k : Nat) (a b : D) (va vb : Value) (r : Bool), VR w ρ H a va → VR w ρ H b vb → a.val = true → b.val = true → Cu Tm a.cells b.cells = some r → (Fh P t = true → (∃ cs, a = .agg cs) ∧ ∃ cs, b = .agg cs) → (Fh P t = false → (∀ cs, a ≠ .agg cs) ∧ ∀ cs, b ≠ .agg cs) →
    (Op.equalIn (d + k) t va vb).run P w = .ok r w
  | 0,t,Tm,h=>by simp [Ed] at h
  | d + 1, t, Tm, h => by
    intro k a b va vb r h1 h2 ha hb he hag hna
    rw [show d + 1 + k = (d + k) + 1 by omega]
    simp only [Ed] at h
    have prim : ∀ f : Nat,Tm = [f]→(∀ cs,a ≠ .agg cs)→(∀ cs,b ≠ .agg cs)→isKey f a = true∧isKey f b = true∧Fs a b = some r:=by
      rintro f rfl n1 n2
      have e1 : a.cells = [a]:=by cases a<;>first | rfl | exact absurd rfl (n1 _)
      have e2 : b.cells = [b]:=by cases b<;>first | rfl | exact absurd rfl (n2 _)
      rw [e1,e2] at he
      exact eqCells_one he
    split at h
    · rename_i kk hu
      simp only [Oi] at h
      obtain ⟨n1,n2⟩:=hna (aggT_of hu rfl)
      obtain ⟨p1,p2,p3⟩:=prim 0 h.symm n1 n2
      cases a<;>simp [isKey] at p1
      cases b<;>simp [isKey] at p2
      cases h1; cases h2
      simp only [Fs] at p3
      split at p3
      · rename_i hk
        simp only [Oi] at p3
        subst p3
        simp [Op.equalIn,run_underlying hu,hk]
      · simp at p3
    · rename_i hu
      simp only [Oi] at h
      obtain ⟨n1,n2⟩:=hna (aggT_of hu rfl)
      obtain ⟨p1,p2,p3⟩:=prim 1 h.symm n1 n2
      cases a<;>simp [isKey] at p1
      cases b<;>simp [isKey] at p2
      cases h1; cases h2
      simp only [Fs,Oi] at p3
      subst p3
      simp [Op.equalIn,run_underlying hu]
    · rename_i hu
      simp only [Oi] at h
      obtain ⟨n1,n2⟩:=hna (aggT_of hu rfl)
      obtain ⟨p1,p2,p3⟩:=prim 2 h.symm n1 n2
      cases a<;>simp [isKey] at p1
      cases b<;>simp [isKey] at p2
      cases h1; cases h2
      simp only [Fs,Oi] at p3
      subst p3
      simp [Op.equalIn,run_underlying hu]
    · rename_i fs hu
      split at h
      · simp at h
      · rename_i hst
        simp only [Bool.or_eq_true,not_or,Bool.not_eq_true] at hst
        have hagg : Fh P t = true:=by unfold Fh; rw [hu]
        obtain ⟨⟨xs,rfl⟩,⟨bs,rfl⟩⟩:=hag hagg
        cases h1 with | agg _ va hl1 hc1 hh1 =>
        cases h2 with | agg _ vb hl2 hc2 hh2 =>
        simp only [D.cells] at he
        have ih:=Qo d
        have key : ∀ (fl : List Field) (o : Nat) (fm : List Nat) (r : Bool),o ≤ xs.length→o ≤ bs.length→eqFields P (Ed P d) fl o = some fm→Cu fm (xs.drop o) (bs.drop o) = some r →
            (forIn fl (none, PUnit.unit) (fun (f : Field) (_ : Option Bool × PUnit) => (if f.name ≠ "_" then (do
              let x ← part f.type va.toArray f.offset
              let y ← part f.type vb.toArray f.offset
              let q ← Op.equalIn (d + k) f.type x y
              if (!q) = true then pure (ForInStep.done (some false,PUnit.unit)) else pure (ForInStep.yield (none,PUnit.unit))) else pure (ForInStep.yield (none,PUnit.unit)) : Sem (ForInStep (Option Bool × PUnit))))).run P w = .ok (if r then (none,PUnit.unit) else (some false,PUnit.unit)) w:=by
          intro fl
          induction fl with
          | nil =>
            intro o fm r ho1 ho2 hf hc
            simp only [eqFields,Oi] at hf
            subst hf
            have : r = true:=by
              cases e1 : xs.drop o<;>cases e2 : bs.drop o<;>simp [e1,e2,Cu] at hc
              exact hc
            subst this
            simp
          | cons f fl ihl =>
            intro o fm r ho1 ho2 hf hc
            simp only [eqFields] at hf
            split at hf
            · simp at hf
            · rename_i hno
              simp only [not_or,ne_eq,Decidable.not_not] at hno
              obtain ⟨hname,hoff⟩:=hno
              split at hf
              · rename_i fa m hfa hsz
                split at hf
                · rename_i hlen
                  simp only [Om] at hf
                  obtain ⟨fm',hf',rfl⟩:=hf
                  obtain ⟨x,y,e1,e2,rfl⟩:=R3 hc
                  rw [List.drop_drop] at e2
                  rw [List.drop_drop] at e2
                  rw [hlen] at e1 e2
                  obtain ⟨l1,l2⟩:=Mm e1
                  obtain ⟨l3,l4⟩:=Mm hc
                  have q1 : o + m ≤ xs.length:=by simp only [List.length_drop,Ll_] at l3; omega
                  have q2 : o + m ≤ bs.length:=by simp only [List.length_drop,Ll_] at l4; omega
                  have mk : ∀ (cs : List D),o + m ≤ cs.length→cs.all D.Tc = true→(Fh P f.type = false→m = 1)→∃ p,Ay cs o m (Fh P f.type) = some p∧p.cells = (cs.drop o).take m∧p.val = true∧(Fh P f.type = true→∃ c,p = .agg c)∧(Fh P f.type = false→∀ c,p ≠ .agg c):=by
                    intro cs hle hcell h1
                    cases hg : Fh P f.type with
                    | true =>
                      refine ⟨.agg ((cs.drop o).take m),by simp [Ay,hle],rfl,?_,fun _=>⟨_,rfl⟩,fun h=>by simp at h⟩
                      simp only [D.val,List.all_eq_true] at hcell ⊢
                      intro c hc'
                      exact hcell c (List.mem_of_mem_drop (List.mem_of_mem_take hc'))
                    | false =>
                      have:=h1 hg
                      subst this
                      have hlt : o < cs.length:=by omega
                      have hcl : cs[o].Tc = true:=by
                        simp only [List.all_eq_true] at hcell
                        exact hcell _ (List.getElem_mem hlt)
                      refine ⟨cs[o],by simp [Ay,hlt],?_,?_,fun h=>by simp at h,fun _ c hc'=>by rw [hc'] at hcl; simp [D.Tc] at hcl⟩
                      · rw [List.drop_eq_getElem_cons hlt]
                        cases e : cs[o]<;>first | rfl | (rw [e] at hcl; simp [D.Tc] at hcl)
                      · cases e : cs[o]<;>first | rfl | (rw [e] at hcl; simp [D.Tc] at hcl)
                  have hone : Fh P f.type = false→m = 1:=by
                    intro hg
                    cases d with
                    | zero=>simp [Ed] at hfa
                    | succ d' =>
                      simp only [Ed] at hfa
                      split at hfa
                      · simp only [Oi] at hfa; subst hfa; exact hlen.symm
                      · simp only [Oi] at hfa; subst hfa; exact hlen.symm
                      · simp only [Oi] at hfa; subst hfa; exact hlen.symm
                      · rename_i hu'; unfold Fh at hg; rw [hu'] at hg; simp at hg
                      · simp at hfa
                  obtain ⟨pa,a1,a2,a3,a4,a5⟩:=mk xs q1 hc1 hone
                  obtain ⟨pb,b1,b2,b3,b4,b5⟩:=mk bs q2 hc2 hone
                  obtain ⟨xa,x1,x2⟩:=Lt (P:=P) hl1 hc1 hh1 a1 hsz rfl
                  obtain ⟨xb,y1,y2⟩:=Lt (P:=P) hl2 hc2 hh2 b1 hsz rfl
                  rw [← a2,← b2] at e1
                  have hq:=ih f.type fa hfa k pa pb xa xb x x2 y2 a3 b3 e1 (fun hg=>⟨a4 hg,b4 hg⟩) (fun hg=>⟨a5 hg,b5 hg⟩)
                  simp only [List.forIn_cons,Sem.run_bind,hname,ne_eq,not_false_eq_true,if_true,hoff,x1,y1,Result.andThen_ok,hq]
                  cases x with
                  | false=>simp
                  | true =>
                    simp only [Bool.not_true,Bool.false_eq_true,if_false,Sem.run_pure,Result.andThen_ok,Bool.true_and]
                    exact ihl (o + m) fm' y q1 q2 hf' e2
                · simp at hf
              · simp at hf
        have hk:=key fs.toList 0 Tm r (Nat.zero_le _) (Nat.zero_le _) h (by simpa using he)
        rw [Array.forIn_toList] at hk
        simp only [Op.equalIn,Sem.run_bind,run_underlying hu,Result.andThen_ok]
        have hp : Sem.run P program w = .ok P w:=rfl
        rw [hp,Result.andThen_ok,hst.1,if_neg (by simp),Sem.run_bind]
        refine Eq.trans (congrArg (fun z=>Result.andThen z _) hk) ?_
        cases r<;>rfl
    · simp at h
theorem eqs_ok {op : BinOp} {t : TypeId} {x y : Operand} {Tm : List Nat} {neg : Bool} {as' bs : List D} {va vb : Value} {r : Bool} (ho : op = .eql ∨ op = .neq) (hn : neg = decide (op = .neq)) (hg : Fh P t = true) (hf : Ed P 9 t = some Tm) (h1 : VR w ρ H (.agg as') va) (h2 : VR w ρ H (.agg bs) vb) (he : Cu Tm as' bs = some r) :
  ∃ v,(do eqGuard op t x y va vb; binOp op t va vb).run P w = .ok v w∧VR w ρ H (.bool (r != neg)) v:=by
 have hv1 : (D.agg as').val = true:=by cases h1 with | agg _ _ _ hc _=>exact hc
 have hv2 : (D.agg bs).val = true:=by cases h2 with | agg _ _ _ hc _=>exact hc
 have key:=Qo 9 t Tm hf 9991 _ _ _ _ r h1 h2 hv1 hv2 he (fun _=>⟨⟨_,rfl⟩,⟨_,rfl⟩⟩) (fun h=>by rw [hg] at h; simp at h)
 have hgt : P.eqGuardType P.depth t = false:=by
  simp only [Ed] at hf
  unfold Fh at hg
  split at hf
  ·
   rename_i hu; rw [hu] at hg; simp at hg
  ·
   rename_i hu; rw [hu] at hg; simp at hg
  ·
   rename_i hu; rw [hu] at hg; simp at hg
  ·
   split at hf
   ·
    simp at hf
   ·
    rename_i h; simp only [Bool.or_eq_true,not_or,Bool.not_eq_true] at h; exact h.2
  ·
   simp at hf
 cases h1 with | agg _ va hl1 hc1 hh1 =>
 cases h2 with | agg _ vb hl2 hc2 hh2 =>
 have hg2 : (eqGuard op t x y (.agg va.toArray) (.agg vb.toArray)).run P w = .ok () w:=by
  have hp : Sem.run P program w = .ok P w:=rfl
  rcases ho with rfl | rfl<;>simp [eqGuard,hp,hgt]
 rcases ho with rfl | rfl
 ·
  subst hn
  refine ⟨.bool r,?_,by cases r<;>exact .bool _⟩
  rw [Sem.run_bind,hg2]
  simp [binOp,Op.equal,Op.maxDepth,key]
 ·
  subst hn
  refine ⟨.bool !r,?_,by cases r<;>exact .bool _⟩
  rw [Sem.run_bind,hg2]
  simp [binOp,Op.equal,Op.maxDepth,key]
end
end Go.Proofs.YtkaedpmmopigkaaGreatDoor
namespace Go.Proofs.YtkaedpmmopigkaaGreatDoor
open Go.RowKit
set_option linter.unusedVariables false
set_option linter.unusedSimpArgs false

section
variable {P : Program} {w : World} {ρ : Su} {S : St}

/-! pointers -/
theorem ptrT_iff {t e : TypeId} : ptrT P t = some e ↔ P.underlying t = some (.pointer e):=by
 unfold ptrT
 split
 ·
  rename_i e' h; simp [h]
 ·
  rename_i h; constructor
  ·
   intro h'; simp at h'
  ·
   intro h'; exact absurd h' (h e)
theorem unsT_iff {t : TypeId} : unsT P t = true ↔ P.underlying t = some .unsafePointer:=by
 unfold unsT
 split
 ·
  rename_i h; simp [h]
 ·
  rename_i h; constructor
  ·
   intro h'; simp at h'
  ·
   intro h'; exact absurd h' h
theorem eqp_ok {d1 d2 : D} {v1 v2 : Value} {t e : TypeId} {n : Nat} {b : Bool} {op : BinOp} {x y : Operand} (ho : op = .eql ∨ op = .neq) (ht : ptrT P t = some e) (hn : Ct P e = some n) (h1 : VR w ρ S.heap d1 v1) (h2 : VR w ρ S.heap d2 v2) (h : eqpD S d1 d2 = some b) :
    ∃ v,(do eqGuard op t x y v1 v2; binOp op t v1 v2).run P w = .ok v w∧VR w ρ S.heap (.bool (b != decide (op = .neq))) v:=by
  have hu:=ptrT_iff.1 ht
  have key : (∀ d : Nat,(Op.equalIn (d + 1) t v1 v2).run P w = .ok b w)→(eqGuard op t x y v1 v2).run P w = .ok () w→(op = .eql→binOp op t v1 v2 = (do pure (.bool (← Op.equal t v1 v2))))→(op = .neq→binOp op t v1 v2 = (do pure (.bool (!(← Op.equal t v1 v2))))) →
      ∃ v,(do eqGuard op t x y v1 v2; binOp op t v1 v2).run P w = .ok v w∧VR w ρ S.heap (.bool (b != decide (op = .neq))) v:=by
    intro he hg hb1 hb2
    have hq : (Op.equal t v1 v2).run P w = .ok b w:=he 9999
    rcases ho with rfl | rfl
    · exact ⟨.bool b,by rw [Ac hg,hb1 rfl,Ac hq]; rfl,by cases b<;>exact .bool _⟩
    · exact ⟨.bool !b,by rw [Ac hg,hb2 rfl,Ac hq]; rfl,by cases b<;>exact .bool _⟩
  unfold eqpD at h
  split at h
  · simp only [Oi] at h
    subst h
    cases h1; cases h2
    exact key (fun d=>by unfold Op.equalIn; rw [Ac (run_underlying hu w)]; rfl) (by rcases ho with rfl | rfl<;>rfl) (by rintro rfl; rfl) (by rintro rfl; rfl)
  · simp only [Oi] at h
    subst h
    cases h1; cases h2
    exact key (fun d=>by unfold Op.equalIn; rw [Ac (run_underlying hu w)]; rfl) (by rcases ho with rfl | rfl<;>rfl) (by rintro rfl; rfl) (by rintro rfl; rfl)
  · simp only [Oi] at h
    subst h
    cases h1; cases h2
    exact key (fun d=>by unfold Op.equalIn; rw [Ac (run_underlying hu w)]; rfl) (by rcases ho with rfl | rfl<;>rfl) (by rintro rfl; rfl) (by rintro rfl; rfl)
  · simp only [Oi] at h
    subst h
    cases h1; cases h2
    exact key (fun d=>by unfold Op.equalIn; rw [Ac (run_underlying hu w)]; rfl) (by rcases ho with rfl | rfl<;>rfl) (by rintro rfl; rfl) (by rintro rfl; rfl)
  · simp only [Oi] at h
    subst h
    cases h1; cases h2
    exact key (fun d=>by unfold Op.equalIn; rw [Ac (run_underlying hu w)]; rfl) (by rcases ho with rfl | rfl<;>rfl) (by rintro rfl; rfl) (by rintro rfl; rfl)
  · rename_i g v i o g' v' i' o'
    split at h
    · rename_i ob ob' hob hob'
      split at h
      · rename_i hgg
        subst hgg
        simp only [Oi] at h
        cases h1 with | ptr _ _ _ _ a1 ob1 hg1 hv1 hk1 hc1 =>
        cases h2 with | ptr _ _ _ _ a2 ob2 hg2 hv2 hk2 hc2 =>
        unfold rowsOf at hob hob'
        simp only [hg1] at hob hob'
        rw [hg1] at hg2
        injection hg2 with hg2
        subst hg2
        split at hob
        · rename_i e1
          split at hob'
          · rename_i e2
            simp only [Oi] at hob hob'
            subst hob
            obtain ⟨b1,r1,rfl⟩:=hc1 e1
            obtain ⟨b2,r2,rfl⟩:=hc2 e2
            rw [r1] at r2
            injection r2 with r2
            subst r2
            obtain ⟨i2,d2,hi2,hd2,hsz,h0⟩:=Cy hn
            refine key (fun d=>?_) (by rcases ho with rfl | rfl<;>rfl) (by rintro rfl; rfl) (by rintro rfl; rfl)
            unfold Op.equalIn
            rw [Ac (run_underlying hu w)]
            simp only
            rw [Ac (run_sizeOf hn)]
            have hn0 : n ≠ 0:=by omega
            simp only [hn0,ne_eq,not_false_eq_true,if_true]
            unfold sameAddr
            simp only [beq_self_eq_true,if_true]
            have : ((⟨b1,i * ob1.sz + o,none⟩ : Addr) == ⟨b1,i' * ob1.sz + o',none⟩) = b:=by
              rw [← h]
              by_cases hq : i * ob1.sz + o = i' * ob1.sz + o'
              · simp [hq]
              · simp [hq]
            rw [this]
            rfl
          · simp at hob'
        · simp at hob
      · simp at h
    · simp at h
  · simp at h
theorem shape_of {b : Nat} {cur : Array Value} {e : TypeId} {f : Nat × Nat} (h : w.heap[b]? = some (.cells cur e f)) : w.shape? b = some (e,cur.size):=by simp [World.shape?,h]
theorem whole_ptr {t : TypeId} {n : Nat} {x r : D} {v : Value} (hr : Rel w ρ S.heap) (hx : VR w ρ S.heap x v) (h : Ld S t n x = some r) :
  VR w ρ S.heap r v∧(v = .pointer none ∨ ∃ b,v = .pointer (some ⟨b,0,none⟩)∧w.shape? b = some (t,n)):=by
 unfold Ld at h
 split at h
 ·
  simp only [Oi] at h
  subst h
  cases hx
  exact ⟨.nilp,.inl rfl⟩
 ·
  rename_i g ver
  split at h
  ·
   rename_i ob hob
   split at h
   ·
    rename_i hk
    obtain ⟨hk0,rfl,rfl,hk1,hk2⟩:=hk
    simp only [Oi] at h
    subst h
    refine ⟨hx,.inr ?_⟩
    cases hx with | ptr _ _ _ _ a ob1 hg hv hk3 hc =>
    unfold rowsOf at hob
    simp only [hg] at hob
    split at hob
    ·
     rename_i e1
     simp only [Oi] at hob
     subst hob
     obtain ⟨b,hb,rfl⟩:=hc e1
     obtain ⟨o1,ho1,cur,hcur,hz,⟨c,hcc,hcl,_,hcg⟩,hl,hkk,hh⟩:=hr.cel hb hg hk3
     rw [hg] at ho1
     injection ho1 with ho1
     subst ho1
     refine ⟨b,by simp,?_⟩
     rw [shape_of hcur,hcc,hcg hk2,hk1,Nat.one_mul]
    ·
     simp at hob
   ·
    simp at h
  ·
   simp at h
 ·
  simp at h
theorem cellsOf_size {t : TypeId} {n : Nat} (h : Ct P t = some n) : P.cellsOf t = n:=by
 obtain ⟨i,d,hi,hd,hsz,h0⟩:=Cy h
 simp [Program.cellsOf,hi,hsz]
theorem toU_ok {s d t : TypeId} {n : Nat} {x r : D} {v : Value} (hr : Rel w ρ S.heap) (hs : ptrT P s = some t) (hd : unsT P d = true) (hn : Ct P t = some n) (hx : VR w ρ S.heap x v) (h : Ld S t n x = some r) :
  (convert s d v).run P w = .ok v w∧VR w ρ S.heap r v:=by
 obtain ⟨h1,h2⟩:=whole_ptr hr hx h
 refine ⟨?_,h1⟩
 obtain ⟨i,td,hi,htd,hsz,h0⟩:=Cy hn
 rcases h2 with rfl | ⟨b,rfl,hsh⟩
 ·
  simp [convert,run_underlying (ptrT_iff.1 hs),run_underlying (unsT_iff.1 hd),Conv.unsafePointer]
 ·
  exact Lib.run_to_unsafe w ⟨b,0,none⟩ (ptrT_iff.1 hs) (unsT_iff.1 hd) hi (by omega) hsh (by simpa using h0)
theorem liesAt_whole {t : TypeId} {n : Nat} (hc : P.cellsOf t = n) (h0 : 0 < n) : liesAt P P.depth t (n / P.cellsOf t) 0 t 1 = true:=by
 have hd : P.depth = (2 * (P.types.size + Made.depth) + 1) + 1:=rfl
 rw [hd]
 simp only [liesAt,Bool.or_eq_true]
 left
 rw [hd]
 have h1 : n / n = 1:=Nat.div_self h0
 have hn0 : n ≠ 0:=by omega
 simp [rowAt,hc,h1,sameLayout,hn0]
theorem ofU_ok {s d t : TypeId} {n : Nat} {x r : D} {v : Value} (hr : Rel w ρ S.heap) (hs : unsT P s = true) (hd : ptrT P d = some t) (hn : Ct P t = some n) (hx : VR w ρ S.heap x v) (h : Ld S t n x = some r) :
  (convert s d v).run P w = .ok v w∧VR w ρ S.heap r v:=by
 obtain ⟨h1,h2⟩:=whole_ptr hr hx h
 refine ⟨?_,h1⟩
 obtain ⟨i,td,hi,htd,hsz,h0⟩:=Cy hn
 rcases h2 with rfl | ⟨b,rfl,hsh⟩
 ·
  simp [convert,run_underlying (unsT_iff.1 hs),run_underlying (ptrT_iff.1 hd),Conv.unsafePointer]
 ·
  exact Lib.run_from_unsafe w ⟨b,0,none⟩ (unsT_iff.1 hs) (ptrT_iff.1 hd) hi hsh (liesAt_whole (cellsOf_size hn) h0)

/-! bytes that become strings -/
theorem sdata_ok {ts : Array TypeId} {ty : TypeId} {x r : D} {v : Value} (hr : Rel w ρ S.heap) (hx : VR w ρ S.heap x v) (h : sdataD S x = some r) : ∃ u, (Builtin.unsafeSliceData_ ts ty #[v]).run P w = .ok u w ∧ VR w ρ S.heap r u := by
  unfold sdataD at h
  split at h
  · simp only [Oi] at h
    subst h
    cases hx
    exact ⟨_,Lib.run_unsafeSliceData_nil w ts ty 0 0,.nilp⟩
  · rename_i g ver m
    split at h
    · rename_i ob hob
      split at h
      · simp only [Oi] at h
        subst h
        cases hx with | msl _ _ _ _ _ A c ob1 hnc hcap hg hv hk3 hc =>
        refine ⟨_,Lib.run_unsafeSliceData_row w ts ty A _ c (by omega),.ptr g ver 0 0 A ob1 hg hv hk3 fun e=>?_⟩
        obtain ⟨b,hb,_,hA,_⟩:=hc e
        exact ⟨b,hb,by rw [hA (.inr rfl)]; simp⟩
      · simp at h
    · simp at h
  · simp at h
theorem freeze_set {b n : Nat} {cur : Array Value} {e : TypeId} (h : w.heap[b]? = some (.cells cur e (0,0))) (o : Nat) (hn : n ≠ 0) : Tf w (w.freeze ⟨b,o,none⟩ n) b (.cells cur e (o,o + n)):=by
  have hlt:=lt_of_heap h
  refine ⟨by simp [World.freeze,hn],by simp [World.freeze,hn],by simp [World.freeze,hn],by simp [World.freeze,hn],?_,fun k hk=>?_⟩
  · simp [World.freeze,hn,Array.getElem?_modify,h]
  · simp [World.freeze,hn,Array.getElem?_modify,Ne.symm hk]
theorem R7 : ∀ {rows : List (List D)} {l : List UInt8}, Mo rows = some l → rows.length = l.length ∧ ∀ (j : Nat) (x : UInt8), l[j]? = some x → rows[j]? = some [D.int .u8 (x.toNat : Int)]
  | [], l, h => by
    simp only [Mo,Oi] at h
    subst h
    exact ⟨rfl,fun j x h=>by simp at h⟩
  | r :: rows, l, h => by
    unfold Mo at h
    split at h
    · simp at *
    · rename_i n l' heq
      simp only [List.cons.injEq] at heq
      obtain ⟨rfl,rfl⟩:=heq
      split at h
      · rename_i hb
        simp only [Om] at h
        obtain ⟨l2,hl2,rfl⟩:=h
        obtain ⟨h1,h2⟩:=R7 hl2
        refine ⟨by simp [h1],fun j x hj=>?_⟩
        cases j with
        | zero =>
          simp at hj
          subst hj
          have : (UInt8.ofNat n.toNat).toNat = n.toNat:=by simp; omega
          simp [this]
          omega
        | succ j=>simpa using h2 j x (by simpa using hj)
      · simp at h
    · simp at h
theorem ustr_ok {pt it ty e : TypeId} {p r : D} {n : Int} {v : Value} {S' : St} {wr : Bool} (hr : Rel w ρ S.heap) (hp : ptrT P pt = some e) (hc : Ct P e = some 1) (hx : VR w ρ S.heap p v) (h : ustrD S e p n = some (r, S', wr)) :
    ∃ u w',(Builtin.unsafeString_ #[pt,it] ty #[v,.int .i64 n]).run P w = .ok u w'∧Ta w ρ S r S' wr u w':=by
  unfold ustrD at h
  split at h
  · split at h
    · rename_i hn
      subst hn
      simp only [Oi,Pi_] at h
      obtain ⟨rfl,rfl,rfl⟩:=h
      cases hx
      exact ⟨_,w,Lib.run_unsafeString_none w pt it ty none,Ta.pure hr (.str _)⟩
    · simp at h
  · rename_i g ver
    split at h
    · rename_i ob hob
      split at h
      · rename_i hcond
        obtain ⟨hkind,hsz,he,hn,hnl⟩:=hcond
        split at h
        · rename_i l hl
          simp only [Oi,Pi_] at h
          obtain ⟨rfl,rfl,rfl⟩:=h
          cases hx with | ptr _ _ _ _ a ob1 hg hv hk3 hcp =>
          unfold rowsOf at hob
          simp only [hg] at hob
          split at hob
          · rename_i e1
            simp only [Oi] at hob
            subst hob
            subst e1
            obtain ⟨b,hb,rfl⟩:=hcp rfl
            obtain ⟨o1,ho1,cur,hcur,hz,⟨c,hcc,hcl,hcm,hcg⟩,hrl,hkk,hh⟩:=hr.cel hb hg hk3
            rw [hg] at ho1
            injection ho1 with ho1
            subst ho1
            obtain ⟨hlen,hat0⟩:=R7 hl
            have hat : ∀ (j : Nat) (x : UInt8),l[j]? = some x→ob1.rows[j]? = some [D.int .u8 (x.toNat : Int)]:=fun j x hj=>by
              have h1:=hat0 j x hj
              rw [List.getElem?_take] at h1
              split at h1
              · exact h1
              · simp at h1
            rw [List.length_take,Nat.min_eq_left hnl] at hlen
            obtain ⟨m,rfl⟩ : ∃ m : Nat,n = m:=⟨n.toNat,by omega⟩
            simp only [Int.toNat_natCast] at hlen hnl
            subst he
            subst hlen
            by_cases hne : l = []
            · subst hne
              simp only [List.length_nil]
              refine ⟨_,w,Lib.run_unsafeString_none w pt it ty _,updN ρ g,?_,?_,.str _,by simp⟩
              · exact rel_drop (o':={ ob1 with ver:=ob1.ver + 1 }) hr hb hg hcur (⟨rfl,rfl,rfl,rfl,hcur,fun _ _=>rfl⟩ : Tf w w b (.cells cur ob1.elem (0,0))) (by simp) rfl
              · exact Le (o':={ ob1 with ver:=ob1.ver + 1 }) hr hb hg hcur (⟨rfl,rfl,rfl,rfl,hcur,fun _ _=>rfl⟩ : Tf w w b (.cells cur ob1.elem (0,0))) (by simp) rfl
            · have hl0 : l.length ≠ 0 := by simpa using hne
              have hset:=freeze_set hcur 0 hl0
              have hrun:=Lib.run_unsafeString_row (P:=P) w pt it ty ob1.elem (ptrT_iff.1 hp) (cellsOf_size hc) b cur.size (shape_of hcur) l hne (by rw [hcc,hsz]; omega) (by unfold maxLen at hcm; omega) (fun j x hj=>by
                have hrow:=hat j x hj
                obtain ⟨_,_,v,hv1,hv2⟩:=hh j _ 0 _ hrow rfl
                cases hv2
                rw [add_plain,Nat.zero_add]
                simp only [World.cell?,hcur]
                simpa [hsz] using hv1)
              simp only [Nat.zero_mul,Nat.zero_add] at hrun ⊢
              refine ⟨_,_,hrun,updN ρ g,?_,?_,.str _,by simp⟩
              · exact rel_drop (o':={ ob1 with ver:=ob1.ver + 1 }) hr hb hg hcur hset (by simp) rfl
              · exact Le (o':={ ob1 with ver:=ob1.ver + 1 }) hr hb hg hcur hset (by simp) rfl
          · simp at hob
        · simp at h
      · simp at h
    · simp at h
  · simp at h
theorem strsh_ok {s e : TypeId} {x r : D} {v : Value} {S' : St} {wr : Bool} (hr : Rel w ρ S.heap) (hs : P.underlying s = some (.slice e)) (he : P.underlying e = some (.int .u8)) (hx : VR w ρ S.heap x v) (h : P7 S x = some (r, S', wr)) :
    ∃ u w',(convert s s v).run P w = .ok u w'∧Ta w ρ S r S' wr u w':=by
  unfold P7 at h
  split at h
  · rename_i g ver n
    split at h
    · rename_i ob hob
      split at h
      · rename_i hcond
        obtain ⟨hk2,hsz,rfl,hgr⟩:=hcond
        simp only [Oi,Pi_] at h
        obtain ⟨rfl,rfl,rfl⟩:=h
        cases hx with | msl _ _ _ _ _ A c ob1 hnc hcap hg hv hk3 hc =>
        unfold rowsOf at hob
        simp only [hg] at hob
        split at hob
        · rename_i e1
          simp only [Oi] at hob
          subst hob
          subst e1
          obtain ⟨b,hb,hlo,hA,hcp⟩:=hc rfl
          obtain ⟨o1,ho1,cur,hcur,hz,⟨cc,hcc,hcl,hcm,hcg⟩,hrl,hkk,hh⟩:=hr.cel hb hg hk3
          rw [hg] at ho1
          injection ho1 with ho1
          subst ho1
          obtain ⟨cur1,hc1,hc2⟩:=hcp rfl
          rw [hcur] at hc1
          injection hc1 with hc1
          injection hc1 with hc1
          subst hc1
          have hce : c = ob1.rows.length:=by
            have h1:=hcg hgr
            rw [hcc,h1,hsz] at hc2
            omega
          have hA0:=hA (.inr rfl)
          simp only [Nat.zero_mul] at hA0
          subst hA0
          have hset:=freeze_set hcur cur.size (show (1 : Nat) ≠ 0 by decide)
          have hrun : (convert s s (.slice (some ⟨b,0,none⟩) ob1.rows.length c)).run P w = .ok (.slice (some ⟨b,0,none⟩) ob1.rows.length c) (w.freeze ⟨b,cur.size,none⟩ 1):=by
            simp [convert,run_underlying hs,run_underlying he,markStringish,shape_of hcur]
          refine ⟨_,_,hrun,updN ρ g,rel_drop (o':={ ob1 with ver:=ob1.ver + 1 }) hr hb hg hcur hset (by simp) rfl,Le (o':={ ob1 with ver:=ob1.ver + 1 }) hr hb hg hcur hset (by simp) rfl,?_,by simp⟩
          have hst:=Le (o':={ ob1 with ver:=ob1.ver + 1 }) hr hb hg hcur hset (by simp) rfl
          refine .sl 1 ob1.rows (some ob1.rows.length) ⟨b,0,none⟩ ob1.rows.length c rfl hnc (fun k hk=>by simp at hk; omega) (fun r hr'=>by rw [hrl r hr',hsz]) b 0 (fun i j=>(cur[i * 1 + j]?).getD .nilFunc) (fun _=>rfl) (fun i r j d hi hj=>?_) (fun i r j d hi hj=>?_)
          · obtain ⟨q1, q2, u, q3, q4⟩ := hh i r j d hi hj
            rw [hsz] at q3
            refine ⟨?_,⟨by rw [hset.size]; exact lt_of_heap hcur,?_,?_⟩,q2 (by omega)⟩
            · simp only [World.cell?,hset.new,Nat.zero_add,q3,Option.isSome_none,Bool.false_eq_true,if_false,Option.getD_some]
            · intro hX
              exact (hr.hid b _ hX).2 g hb
            · intro g' hg'
              simp only [updN] at hg'
              split at hg'
              · simp at hg'
              · rename_i hne
                exact absurd (hr.inj g' g b hg' hb) hne
          · obtain ⟨q1, q2, u, q3, q4⟩ := hh i r j d hi hj
            rw [hsz] at q3
            rw [q3]
            exact q4.mono hst
        · simp at hob
      · simp at h
    · simp at h
  · simp at h

/-! strings gone over -/
theorem rngs_ok {t : TypeId} {s : ByteArray} (hr : Rel w ρ S.heap) (ht : P.underlying t = some .string) : ∃ v w',(Instr.range t (.string s)).run P w = .ok v w'∧Ta w ρ S (.iter S.heap.length 0) (newAt S ⟨1,2,[[.str s,.int .i64 0]],0,3,false⟩) true v w':=by
  have hadd:=Te.alloc w (.stringIter s 0)
  refine ⟨.pointer (some ⟨w.heap.size,0,none⟩),w.alloc (.stringIter s 0),?_,_,rel_newiter (ob:=⟨1,2,[[.str s,.int .i64 0]],0,3,false⟩) hr hadd rfl (show (1 : Nat) ≠ 0 by decide) rfl,F6 hr hadd,?_,by simp⟩
  · unfold Instr.range
    rw [Ac (run_underlying ht w)]
    rfl
  · exact .iter _ 0 _ ⟨1,2,[[.str s,.int .i64 0]],0,3,false⟩ (by simp [newAt]) (Nat.le_refl _) (fun _=>by simp [upd])
theorem Q7 {b pos : Nat} {s : ByteArray} (h : w.heap[b]? = some (.stringIter s pos)) : (getObj b).run P w = .ok (.stringIter s pos) w:=by
 simp [getObj,Sem.run,h]
theorem run_setIter {b pos : Nat} {s : ByteArray} {o : Obj} (h : w.heap[b]? = some (.stringIter s pos)) : (setObj b o).run P w = .ok () { w with heap:=w.heap.setIfInBounds b o }:=by
 simp [setObj,Sem.run,h]
theorem nexts_ok {ty : TypeId} {g ver : Nat} {r : D} {v : Value} {S' : St} {wr : Bool} (hr : Rel w ρ S.heap) (hx : VR w ρ S.heap (.iter g ver) v) (h : nextsD S g ver = some (r, S', wr)) :
    ∃ u w',(Instr.next v true ty).run P w = .ok u w'∧Ta w ρ S r S' wr u w':=by
  unfold nextsD at h
  split at h
  · rename_i ob hob
    split at h
    · rename_i hk
      split at h
      · rename_i s pos hrows
        cases hx with | iter _ _ b ob1 hg hv hc =>
        unfold rowsOf at hob
        simp only [hg] at hob
        split at hob
        · rename_i e1
          simp only [Oi] at hob
          subst hob
          subst e1
          have hb:=hc rfl
          obtain ⟨s1,p1,h1,h2⟩:=hr.iter hb hg hk.1 (by rw [hk.2]; decide)
          rw [hrows] at h2
          simp only [List.cons.injEq,D.str.injEq,D.int.injEq,and_true,true_and] at h2
          obtain ⟨rfl,rfl⟩:=h2
          rw [Int.toNat_natCast] at h
          have hnc : ∀ c e f,Obj.stringIter s p1 ≠ .cells c e f:=fun _ _ _ e=>by cases e
          have hblt:=lt_of_heap h1
          split at h
          · rename_i hlt
            simp only [Oi,Pi_] at h
            obtain ⟨rfl,rfl,rfl⟩:=h
            have hset:=Tf.setObj (w:=w) (o:=.stringIter s (p1 + (Utf8.decode s p1).2)) hblt
            refine ⟨.tuple #[.bool true,goInt p1,.int .i32 (Utf8.decode s p1).1],_,?_,ρ,rel_iter hr hb hg hk.1 (by rw [hk.2]; decide) h1 hnc hset ⟨rfl,rfl,rfl,by simp [hrows],rfl⟩ rfl,Jb hr hb hg hk.1 h1 hnc hset ⟨rfl,rfl,rfl,by simp [hrows],rfl⟩,?_,by simp⟩
            · unfold Instr.next
              simp only
              rw [Ac (Q7 h1)]
              simp only [hlt,if_true]
              rw [Ac (run_setIter h1)]
              rfl
            · have hv : VL w ρ S.heap [D.bool true, .int .i64 p1, .int .i32 (Utf8.decode s p1).1] [.bool true, goInt p1, .int .i32 (Utf8.decode s p1).1] := .cons (.bool _) (.cons (.int _ _) (.cons (.int _ _) .nil))
              have hst:=Jb hr hb hg hk.1 h1 hnc hset (o':={ ob1 with rows:=[[.str s,.int .i64 (p1 + (Utf8.decode s p1).2 : Nat)]] }) ⟨rfl,rfl,rfl,by simp [hrows],rfl⟩
              exact .tup _ [.bool true,goInt p1,.int .i32 (Utf8.decode s p1).1] rfl (fun j d v e1 e2=>(hv.get e1 e2).mono hst)
          · rename_i hlt
            simp only [Oi,Pi_] at h
            obtain ⟨rfl,rfl,rfl⟩:=h
            refine ⟨.tuple #[.bool false],w,?_,Ta.pure hr (.tup [.bool false] [.bool false] rfl (fun j d v=>VL.get (.cons (.bool _) .nil)))⟩
            unfold Instr.next
            simp only
            rw [Ac (Q7 h1)]
            simp only [hlt,if_false]
            rfl
        · simp at hob
      · simp at h
    · simp at h
  · simp at h

/-! functions that the model carries out itself -/
theorem ext_none : Extern.allNextRows.lookup "" = none := by kernel_rfl
theorem ext_idx : Extern.allNextRows.lookup "internal/bytealg.IndexByteString" = none ∧ Extern.allGenericRows.lookup "internal/bytealg.IndexByteString" = none ∧ Extern.allTypedRows.lookup "internal/bytealg.IndexByteString" = none ∧ Extern.allRows.lookup "internal/bytealg.IndexByteString" = some Extern.BytealgIndexByte.indexByte := ⟨by kernel_rfl, by kernel_rfl, by kernel_rfl, by kernel_rfl⟩
theorem ext_cnt : Extern.allNextRows.lookup "internal/bytealg.CountString" = none ∧ Extern.allGenericRows.lookup "internal/bytealg.CountString" = none ∧ Extern.allTypedRows.lookup "internal/bytealg.CountString" = none ∧ Extern.allRows.lookup "internal/bytealg.CountString" = some Extern.BytealgCount.count := ⟨by kernel_rfl, by kernel_rfl, by kernel_rfl, by kernel_rfl⟩
theorem ext_esc : Extern.allNextRows.lookup "internal/abi.NoEscape" = none ∧ Extern.allGenericRows.lookup "internal/abi.NoEscape" = none ∧ Extern.allTypedRows.lookup "internal/abi.NoEscape" = none ∧ Extern.allRows.lookup "internal/abi.NoEscape" = some Extern.AbiNoEscape.same := ⟨by kernel_rfl, by kernel_rfl, by kernel_rfl, by kernel_rfl⟩
theorem run_ext {f : FuncId} {fn : Func} {name : String} {g : Array Value → Sem Value} {vs : Array Value} {v : Value} {w' : World} (hf : P.funcs[f]? = some fn) (hb : fn.body.isNone = true) (hn : fn.name = name) (ho : fn.origin = "") (hne : (name == "runtime.NumGoroutine") = false)
  (hx : Extern.allNextRows.lookup name = none∧Extern.allGenericRows.lookup name = none∧Extern.allTypedRows.lookup name = none∧Extern.allRows.lookup name = some g) (h : (g vs).run P w = .ok v w') : (callFunc f vs).run P w = .ok (.value v) w':=by
 obtain ⟨h1,h2,h3,h4⟩:=hx
 have hp : Sem.run P program w = .ok P w:=rfl
 have hfn : Extern.findNext fn = none:=by simp [Extern.findNext,hn,ho,h1,ext_none]
 have hfd : Extern.find fn = some g:=by simp [Extern.find,hn,h2,h3,h4]
 unfold callFunc
 rw [Ac hp]
 simp only [hf]
 rw [if_neg (by rw [hn,hne]; simp),if_pos hb]
 rw [Ac (a:=()) (w':=w) rfl]
 simp only [hfn,hfd]
 rw [Ac h]
 rfl
theorem idxb_run {s : ByteArray} {c : Int} : (Extern.BytealgIndexByte.indexByte #[.string s,.int .u8 c]).run P w = .ok (.int .i64 (match (List.range s.size).find? (fun i=>s[i]! == UInt8.ofNat c.toNat) with | some i=>(i : Int) | none=>-1)) w:=by
 have hdef : Extern.BytealgIndexByte.indexByte #[.string s,.int .u8 c] = (do
   let b ← Extern.Bytes.bytesOf (.string s)
   let c ← Extern.Bytes.asByte (.int .u8 c)
   match (List.range b.size).find? fun i=>b[i]! == c with
   | some i=>pure (goInt i)
   | none=>pure (goInt (-1))):=rfl
 rw [hdef,Ac (a:=s) (w':=w) rfl,Ac (a:=UInt8.ofNat c.toNat) (w':=w) rfl]
 cases (List.range s.size).find? (fun i=>s[i]! == UInt8.ofNat c.toNat)<;>rfl
theorem cntb_run {s : ByteArray} {c : Int} : (Extern.BytealgCount.count #[.string s,.int .u8 c]).run P w = .ok (.int .i64 (s.foldl (fun n x=>if x == UInt8.ofNat c.toNat then n + 1 else n) (0 : Nat))) w:=by
 have hdef : Extern.BytealgCount.count #[.string s,.int .u8 c] = (do
   let b ← Extern.Bytes.bytesOf (.string s)
   let c ← Extern.Bytes.asByte (.int .u8 c)
   pure (goInt (b.foldl (fun n x=>if x == c then n + 1 else n) (0 : Nat)))):=rfl
 rw [hdef,Ac (a:=s) (w':=w) rfl,Ac (a:=UInt8.ofNat c.toNat) (w':=w) rfl]
 rfl

/-! bytes of a string, appended -/
theorem appNoneS {t u ty e : TypeId} {i : TypeInfo} (ht : P.underlying t = some (.slice e)) (hu : P.underlying u = some .string) (hi : P.info? e = some i) {A : Option Addr} {n c : Nat} (hnc : n ≤ c) {s : ByteArray} (hs : s.size = 0) :
  (Builtin.append_ #[t,u] ty #[.slice A n c,.string s]).run P w = .ok (.slice A n c) w:=by
 cases A with
 | none=>simp [Builtin.append_,run_underlying ht,run_underlying hu,sizeOf,typeInfo,hi,Builtin.lenOf,Builtin.firstCells,hnc,hs]
 | some a=>simp [Builtin.append_,run_underlying ht,run_underlying hu,sizeOf,typeInfo,hi,Builtin.lenOf,Builtin.firstCells,hnc,hs,storeCells]
theorem appstr_ok {t u ty e : TypeId} {i : TypeInfo} {kind : Nat} {z : List D} {s r : D} {vs : Value} {str : ByteArray} {S' : St} {wr : Bool} (hr : Rel w ρ S.heap) (ht : P.underlying t = some (.slice e)) (hu : P.underlying u = some .string) (hi : P.info? e = some i) (hn : Ct P e = some 1) (hz : Gu P e = some z) (hzl : z.length = 1) (hb : 0 < i.bytes) (hk : kind = 0 ∨ kind = 1 ∨ kind = 2)
    (hs : VR w ρ S.heap s vs) (h : Bl e 1 i.bytes kind s (Be str) S = some (r,S',wr)) :
    ∃ v w',(Builtin.append_ #[t,u] ty #[vs,.string str]).run P w = .ok v w'∧Ta w ρ S r S' wr v w':=by
  obtain ⟨i1,zv,hi1,hzv,hzc,_,_⟩:=Fj (w:=w) (ρ:=ρ) (H:=S.heap) hz
  rw [hi] at hi1
  injection hi1 with hi1
  subst hi1
  obtain ⟨i2,d2,hi2,hd2,hsz,h0⟩:=Cy hn
  rw [hi] at hi2
  injection hi2 with hi2
  subst hi2
  have hlen : (Be str).length = str.size:=by simp [Be]
  refine R8 hr hi hn hzc hzl hb hk hs (fun r hr'=>by
    simp only [Be,List.mem_map] at hr'
    obtain ⟨b,_,rfl⟩:=hr'
    rfl) ?_ ?_ h
  · intro hne A m c hm
    exact appNoneS ht hu hi hm (by rw [← hlen,hne]; rfl)
  · intro hne
    refine ⟨Lib.strCells str,by rw [Lib.strCells_length,hlen,Nat.mul_one],Lib.strCells_oneCell str,fun i r j d hi' hj=>?_,fun hpos k1 k2=>?_,fun bb sLen sCap olds hlo holds hg k1 k2=>?_,fun g sLen sCap cur hg hroom hfit=>?_⟩
    · simp only [Be, Lp_, Om] at hi'
      obtain ⟨b,hb',rfl⟩:=hi'
      have hj0 : j = 0:=by have:=lt_of_some hj; simp at this; exact this
      subst hj0
      simp at hj
      subst hj
      refine ⟨rfl,fun _=>rfl,.int .u8 b.toNat,?_,.int _ _⟩
      simp [Lib.strCells,hb']
    · rw [hlen] at hpos k1 k2 ⊢
      have:=run_append_nil_string (P:=P) w t u ty e i zv ht hu hi hzv str hpos k1 k2
      have e : Array.map (fun b : UInt8=>Value.int .u8 (b.toNat : Int)) str.data = (Lib.strCells str).toArray:=by apply Array.ext'; simp [Lib.strCells]
      rw [this,e]
    · rw [hlen] at hg k1 k2 ⊢
      exact Lib.run_append_grow_string (P:=P) w t u ty e i zv ht hu hi hzv bb sLen sCap olds hlo holds str hg k1 k2
    · rw [hlen] at hroom ⊢
      rw [Lib.strCells_length,hsz,Nat.mul_one] at hfit ⊢
      exact Lib.run_append_room_string (P:=P) w t u ty e i ht hu hi hsz g sLen sCap cur hg str hroom hfit
/-! zeros, appended to nil -/
theorem appmk_ok {t u ty e : TypeId} {i : TypeInfo} {n : Nat} {z : List D} {k kn : IntKind} {m : Int} {r : D} {S' : St} {wr : Bool} (hr : Rel w ρ S.heap) (ht : P.underlying t = some (.slice e)) (hu : P.underlying u = some (.int kn)) (hi : P.info? e = some i) (hn : Ct P e = some n) (hz : Gu P e = some z) (hzl : z.length = n) {kd : Nat} (hkd : kd = 0 ∨ kd = 2) (hb : 0 < i.bytes)
    (h : (if 0 < m∧m.toNat * i.bytes ≤ 140737488355328 then some (D.msl S.heap.length 0 0 m.toNat none,newAt S ⟨e,n,List.replicate m.toNat z,0,kd,true⟩,true) else none) = some (r,S',wr)) :
    ∃ v w',(Builtin.append_ #[t,u] ty #[.slice none 0 0,.int k m]).run P w = .ok v w'∧Ta w ρ S r S' wr v w':=by
  obtain ⟨i1,zv,hi1,hzv,hzc,hall,hfree⟩:=Fj (w:=w) (ρ:=ρ) (H:=S.heap) hz
  rw [hi] at hi1
  injection hi1 with hi1
  subst hi1
  obtain ⟨i2,d2,hi2,hd2,hsz,h0⟩:=Cy hn
  rw [hi] at hi2
  injection hi2 with hi2
  subst hi2
  split at h
  · rename_i hc
    obtain ⟨hm,hby⟩:=hc
    simp only [Oi,Pi_] at h
    obtain ⟨rfl,rfl,rfl⟩:=h
    obtain ⟨q,rfl⟩ : ∃ q : Nat,m = q:=⟨m.toNat,by omega⟩
    rw [Int.toNat_natCast] at hby ⊢
    have h1 : q * 1 ≤ q * i.bytes:=Nat.mul_le_mul_left _ hb
    have hq : 0 < q:=by omega
    have hml : q ≤ maxLen:=by simp only [maxLen]; omega
    have hrun:=Lib.run_append_nil_zeros (P:=P) w t u ty e i zv k kn ht hu hi hzv q hq (by rw [hsz]; exact h0) (by omega) (by omega)
    have hadd:=Te.drewAlloc w (.cells (Builtin.zeroCells zv.cells q ++ Builtin.zeroCells zv.cells (grownCap w q 0 e - q)) e)
    have hge:=grownCap_ge w q 0 e
    have hcm:=grownCap_le_maxLen w q 0 e hml
    subst hzl
    have hzs : zv.cells.size = z.length:=hzc.1
    have hcs : (Builtin.zeroCells zv.cells q ++ Builtin.zeroCells zv.cells (grownCap w q 0 e - q)).size = grownCap w q 0 e * z.length:=by
      simp only [Array.size_append,size_zeroCells,hzs,← Nat.add_mul]
      congr 1
      omega
    have hin:=RowsIn.replicate (kk:=True) hzc hall hfree q h0
    have hrows : ∀ i' r' j d,(List.replicate q z)[i']? = some r'→r'[j]? = some d→d.Tc = true∧d.free = true∧∃ v,(Builtin.zeroCells zv.cells q ++ Builtin.zeroCells zv.cells (grownCap w q 0 e - q))[i' * z.length + j]? = some v∧VR w ρ S.heap d v:=by
      intro i' r' j d hi' hj
      obtain ⟨q1,q2,v,q3,q4⟩:=hin.2 i' r' j d hi' hj
      refine ⟨q1,q2 trivial,v,?_,q4⟩
      have e1 : Builtin.zeroCells zv.cells q = (Array.range (q * z.length)).map (zv.cells[· % zv.cells.size]!):=by rw [← hzs]; rfl
      rw [← e1] at q3
      rw [Array.getElem?_append_left (Array.getElem?_eq_some_iff.1 q3).1]
      exact q3
    refine ⟨_,_,hrun,_,Ir (ob:=⟨e,z.length,List.replicate q z,0,kd,true⟩) hr hadd h0 ⟨_,hcs,by simpa using hge,hcm,by simp⟩ (fun r hr'=>by rw [List.eq_of_mem_replicate hr']) (hkd.elim .inl fun h=>.inr (.inr h)) (fun i' r' j d hi' hj=>?_),F6 hr hadd,?_,by simp⟩
    · obtain ⟨q1, q2, q3⟩ := hrows i' r' j d hi' hj
      exact ⟨q1,fun _=>q2,q3⟩
    · refine .msl _ 0 0 _ none _ _ ⟨e,z.length,List.replicate q z,0,kd,true⟩ hge (fun k hk=>by cases hk) (by simp [newAt]) (Nat.le_refl _) (by show kd ≠ 3; omega) fun _=>⟨w.heap.size,by simp [upd],by simp,fun _=>by simp,fun _=>⟨_,hadd.new,by simpa using hcs⟩⟩
  · simp at h
end
end Go.Proofs.YtkaedpmmopigkaaGreatDoor
namespace Go.Proofs.YtkaedpmmopigkaaGreatDoor
open Go.RowKit
set_option linter.unusedVariables false
set_option linter.unusedSimpArgs false

section
variable {P : Program} {w : World} {ρ : Su} {S : St}

theorem over_rows {run : Sem Value} {kind g ver lo n m c : Nat} {cap : Option Nat} {A : Addr} {ob : Sk} {new : List (List D)} {news : List Value}
    (hr : Rel w ρ S.heap) (hs : VR w ρ S.heap (.msl g ver lo n cap) (.slice (some A) n c)) (hg : S.heap[g]? = some ob) (hv : ob.ver = ver) (hsz : ob.sz = 1) (hkk : kW kind ob.kind = true)
    (hm : new.length = m) (hmn : m ≤ n) (hnl : news.length = m) (hnew1 : ∀ r ∈ new,r.length = 1)
    (hnr : ∀ (i : Nat) (d : D),new[i]? = some [d]→d.Tc = true∧(kind ≠ 0→d.free = true)∧∃ v,news[i]? = some v∧VR w ρ S.heap d v)
    (hrun0 : m = 0→run.run P w = .ok (goInt 0) w)
    (hrun : ∀ (b o : Nat) (cur : Array Value) (e : TypeId),m ≠ 0→w.heap[b]? = some (.cells cur e (0,0))→o + m ≤ cur.size→A = ⟨b,o,none⟩→run.run P w = .ok (goInt ((m : Nat) : Int)) (w.setRow b (cur.toList.take o ++ news ++ cur.toList.drop (o + m)).toArray)) :
    ∃ v w',run.run P w = .ok v w'∧Ta w ρ S (.int .i64 m) (setAt S g { ob with rows:=ob.rows.take lo ++ new ++ ob.rows.drop (lo + m) }) true v w':=by
  cases hs with
  | msl _ _ _ _ _ _ _ ob1 hnc hcap hg1 hver hk3 hcur =>
  rw [hg] at hg1
  injection hg1 with hg1
  subst hg1
  obtain ⟨b,hρ,hlo,hA,_⟩:=hcur hv
  obtain ⟨o1,ho1,cur,hc,hz,⟨cc,hcc,hcl,hcm,hcg⟩,hl,hkk',hh⟩:=hr.cel hρ hg hk3
  rw [hg] at ho1
  injection ho1 with ho1
  subst ho1
  obtain ⟨hk01,hkf,hkf'⟩:=kW_ok hkk
  rw [hsz] at hl hh hcc hA
  simp only [Nat.mul_one] at hcc hh hA
  have hrl' : (ob.rows.take lo ++ new ++ ob.rows.drop (lo + m)).length = ob.rows.length:=by
    simp only [Ll_,List.length_take,List.length_drop]; omega
  have hest : ({ ob with rows:=ob.rows.take lo ++ new ++ ob.rows.drop (lo + m) } : Sk).sz = ob.sz∧({ ob with rows:=ob.rows.take lo ++ new ++ ob.rows.drop (lo + m) } : Sk).elem = ob.elem∧({ ob with rows:=ob.rows.take lo ++ new ++ ob.rows.drop (lo + m) } : Sk).kind = ob.kind∧ob.rows.length ≤ ({ ob with rows:=ob.rows.take lo ++ new ++ ob.rows.drop (lo + m) } : Sk).rows.length∧ob.ver ≤ ({ ob with rows:=ob.rows.take lo ++ new ++ ob.rows.drop (lo + m) } : Sk).ver:=⟨rfl,rfl,rfl,by show ob.rows.length ≤ (ob.rows.take lo ++ new ++ ob.rows.drop (lo + m)).length; omega,Nat.le_refl _⟩
  have hlen3 : ∀ r ∈ ob.rows.take lo ++ new ++ ob.rows.drop (lo + m),r.length = ob.sz:=by
    intro r hr'
    rw [hsz]
    rcases List.mem_append.1 hr' with h1 | h1
    · rcases List.mem_append.1 h1 with h2 | h2
      · exact hl r (List.mem_of_mem_take h2)
      · exact hnew1 r h2
    · exact hl r (List.mem_of_mem_drop h1)
  by_cases hm0 : m = 0
  · have hnew : new = [] := List.eq_nil_of_length_eq_zero (hm.trans hm0)
    subst hnew
    have hset : Tf w w b (.cells cur ob.elem (0,0)):=⟨rfl,rfl,rfl,rfl,hc,fun _ _=>rfl⟩
    have hsame : ob.rows.take lo ++ [] ++ ob.rows.drop (lo + m) = ob.rows:=by rw [hm0]; simp
    refine ⟨_,w,hrun0 hm0,ρ,Kk hk3 hr hρ hg hc hset rfl hest (fun _ _ _=>rfl) ⟨cc,by rw [hsz,Nat.mul_one]; exact hcc,by show _ ≤ cc; rw [hsame]; exact hcl,hcm,by intro h; show _ = (_ : List (List D)).length; rw [hsame]; exact hcg h⟩ hlen3 (by rw [show ({ ob with rows:=ob.rows.take lo ++ [] ++ ob.rows.drop (lo + m) } : Sk).rows = ob.rows from hsame]; intro i r j d h1 h2; have:=hh i r j d h1 h2; simpa [hsz] using this),Ja hr hρ hg hc hset rfl hest (fun _ _ _=>rfl),by rw [hm0]; exact .int _ _,by simp⟩
  · have hA0 := hA (.inl (by omega))
    have hfit : lo + m ≤ cur.size:=by omega
    have hrn:=hrun b lo cur ob.elem hm0 hc hfit hA0
    have hset:=Tf.setRow (cs:=(cur.toList.take lo ++ news ++ cur.toList.drop (lo + m)).toArray) hc
    have hget : ∀ q : Nat,(cur.toList.take lo ++ news ++ cur.toList.drop (lo + m)).toArray[q]? = if lo ≤ q∧q < lo + m then news[q - lo]? else cur[q]?:=by
      intro q
      have:=Kg (cur:=cur.toList) (vs:=news) (o:=lo) (by rw [hnl]; simpa using hfit) q
      rw [hnl] at this
      simpa using this
    have hsize : (cur.toList.take lo ++ news ++ cur.toList.drop (lo + m)).toArray.size = cur.size:=by
      simp only [List.size_toArray,Ll_,List.length_take,List.length_drop,Array.length_toList]
      omega
    generalize (cur.toList.take lo ++ news ++ cur.toList.drop (lo + m)).toArray = cur' at hset hget hsize hrn
    have himm : ob.kind = 1→∀ q,q < ob.rows.length * ob.sz→cur'[q]? = cur[q]?:=fun h=>absurd h hk01
    have hrows : ∀ i' r' j d,(ob.rows.take lo ++ new ++ ob.rows.drop (lo + m))[i']? = some r'→r'[j]? = some d→d.Tc = true∧(ob.kind ≠ 0→d.free = true)∧∃ v,cur'[i' * ob.sz + j]? = some v∧VR w ρ S.heap d v:=by
      intro i' r' j d hi' hj
      have hr1:=hlen3 r' (Lm hi')
      rw [hsz] at hr1 ⊢
      obtain ⟨d',rfl⟩ : ∃ d',r' = [d']:=List.length_eq_one_iff.1 hr1
      have hj0 : j = 0:=by have:=lt_of_some hj; simp at this; exact this
      subst hj0
      simp only [Lz,Oi] at hj
      subst hj
      simp only [Nat.mul_one,Nat.add_zero]
      have htl : (ob.rows.take lo).length = lo:=by rw [List.length_take]; omega
      rw [Lo_] at hi'
      by_cases c1 : i' < lo
      · rw [La_ (by omega), List.getElem?_take_of_lt c1] at hi'
        obtain ⟨q1,q2,v,q3,q4⟩:=hh i' _ 0 d' hi' rfl
        refine ⟨q1,q2,v,?_,q4⟩
        rw [hget,if_neg (by omega)]
        simpa using q3
      · rw [Lr_ (by omega), htl] at hi'
        by_cases c2 : i' - lo < m
        · rw [La_ (by omega)] at hi'
          obtain ⟨q1,q2,v,q3,q4⟩:=hnr (i' - lo) d' hi'
          refine ⟨q1,fun h=>q2 (hkf h),v,?_,q4⟩
          rw [hget,if_pos (by omega)]
          exact q3
        · rw [Lr_ (by omega), List.getElem?_drop] at hi'
          obtain ⟨q1,q2,v,q3,q4⟩:=hh _ _ 0 d' hi' rfl
          refine ⟨q1,q2,v,?_,q4⟩
          rw [hget,if_neg (by omega)]
          rw [Nat.add_zero,show lo + m + (i' - lo - new.length) = i' by omega] at q3
          exact q3
    exact ⟨_,_,hrn,ρ,Kk hk3 hr hρ hg hc hset hsize hest himm ⟨cc,by rw [hsize,hsz,Nat.mul_one]; exact hcc,by show (ob.rows.take lo ++ new ++ ob.rows.drop (lo + m)).length ≤ cc; omega,hcm,fun h=>by show cc = (ob.rows.take lo ++ new ++ ob.rows.drop (lo + m)).length; rw [hrl']; exact hcg h⟩ hlen3 hrows,Ja hr hρ hg hc hset hsize hest himm,.int _ _,by simp⟩

theorem Qr {t u ty e : TypeId} {kind : Nat} {d r : D} {vd vx : Value} {S' : St} {wr : Bool} {src : List (List D)} {cells : List Value} (hr : Rel w ρ S.heap) (ht : P.underlying t = some (.slice e)) (hs1 : (P.info? e).map (·.size) = some 1)
    (hd : VR w ρ S.heap d vd) (hcl : cells.length = src.length) (hsrc1 : ∀ r ∈ src,r.length = 1)
    (hcr : ∀ (i : Nat) (d : D),src[i]? = some [d]→d.Tc = true∧(kind ≠ 0→d.free = true)∧∃ v,cells[i]? = some v∧VR w ρ S.heap d v)
    (hrun0 : ∀ (A : Option Addr) (n c : Nat),min src.length n = 0→(Builtin.copy_ #[t,u] ty #[.slice A n c,vx]).run P w = .ok (goInt 0) w)
    (hrun : ∀ (b o n c : Nat) (cur : Array Value) (q : TypeId),min src.length n ≠ 0→w.heap[b]? = some (.cells cur q (0,0))→o + min src.length n ≤ cur.size→(Builtin.copy_ #[t,u] ty #[.slice (some ⟨b,o,none⟩) n c,vx]).run P w = .ok (goInt ((min src.length n : Nat) : Int)) (w.setRow b (cur.toList.take o ++ cells.take (min src.length n) ++ cur.toList.drop (o + min src.length n)).toArray))
    (h : Fy 1 kind d src S = some (r,S',wr)) : ∃ v w',(Builtin.copy_ #[t,u] ty #[vd,vx]).run P w = .ok v w'∧Ta w ρ S r S' wr v w':=by
  unfold Fy at h
  split at h
  · cases hd
    simp only [Oi,Pi_] at h
    obtain ⟨rfl,rfl,rfl⟩:=h
    exact ⟨_,w,hrun0 none 0 0 (by simp),Ta.pure hr (.int _ _)⟩
  · split at h
    · rename_i s rows cap hc
      simp only [Oi,Pi_] at h
      obtain ⟨rfl,rfl,rfl⟩:=h
      cases hd with
      | sl _ _ _ A n c hn =>
        refine ⟨_,w,hrun0 (some A) n c ?_,Ta.pure hr (.int _ _)⟩
        rcases hc.2 with h1 | h1
        · have : src = [] := by simpa using h1
          simp [this]
        · have : rows = [] := by simpa using h1
          simp [hn,this]
    · simp at h
  · rename_i g ver lo n cap
    unfold rowsOf at h
    cases hd with
    | msl _ _ _ _ _ A c ob hnc hcap hg hver hk3 hcur =>
    simp only [hg] at h
    by_cases hv : ob.ver = ver
    · subst hv
      simp only [if_true] at h
      split at h
      · rename_i hc
        simp only [Oi,Pi_] at h
        obtain ⟨rfl,rfl,rfl⟩:=h
        refine over_rows (run:=Builtin.copy_ #[t,u] ty #[.slice (some A) n c,vx]) (m:=min src.length n) (new:=src.take (min src.length n)) (news:=cells.take (min src.length n)) hr (.msl g ob.ver lo n cap A c ob hnc hcap hg hver hk3 hcur) hg rfl hc.1 hc.2 (by rw [List.length_take]; omega) (by omega) (by rw [List.length_take,hcl]; omega) (fun r hr'=>hsrc1 r (List.mem_of_mem_take hr')) (fun i d hi=>?_) (fun h0=>hrun0 _ _ _ h0) (fun b o cur q h0 hcc hfit hA=>?_)
        · have hil : i < min src.length n := by have := lt_of_some hi; rw [List.length_take] at this; omega
          rw [List.getElem?_take_of_lt hil] at hi
          obtain ⟨q1,q2,v,q3,q4⟩:=hcr i d hi
          exact ⟨q1,q2,v,by rw [List.getElem?_take_of_lt hil]; exact q3,q4⟩
        · subst hA
          exact hrun b o n c cur q h0 hcc hfit
      · simp at h
    · simp [hv] at h
  · simp at h
theorem copy_ok {t ty e : TypeId} {kind : Nat} {d x r : D} {vd vx : Value} {S' : St} {wr : Bool} {src : List (List D)} (hr : Rel w ρ S.heap) (ht : P.underlying t = some (.slice e)) (hn : Ct P e = some 1)
    (hd : VR w ρ S.heap d vd) (hx : VR w ρ S.heap x vx) (hsrc : Lp kind S 1 x = some src) (h : Fy 1 kind d src S = some (r,S',wr)) :
    ∃ v w',(Builtin.copy_ #[t,t] ty #[vd,vx]).run P w = .ok v w'∧Ta w ρ S r S' wr v w':=by
  obtain ⟨i,d2,hi,hd2,hsz,h0⟩:=Cy hn
  have hs1 : (P.info? e).map (·.size) = some 1:=by rw [hi]; simp [hsz]
  obtain ⟨A,c,rfl,hrl,hs⟩:=srcK_ok hr hx hsrc
  by_cases he : src = []
  · subst he
    refine Qr (cells:=[]) hr ht hs1 hd rfl (by simp) (by simp) (fun A' n c' hm=>?_) (fun b o n c' cur q hm=>by simp at hm) h
    exact run_copy_none (P:=P) w t t ty e A' A n c' _ c ht hs1 (by simp)
  · obtain ⟨b0, o0, f, rfl, hf⟩ := hs he
    have hone : ∀ (i : Nat) (d : D),src[i]? = some [d]→w.cell? ⟨b0,o0 + i,none⟩ = some (f i 0)∧VR w ρ S.heap d (f i 0)∧d.Tc = true∧(kind ≠ 0→d.free = true):=by
      intro i d hi
      obtain ⟨q1,q2,q3,q4⟩:=hf i [d] 0 d hi rfl
      rw [Nat.mul_one,Nat.add_zero] at q1
      exact ⟨q1,q2,q3,q4⟩
    have hsome : ∀ i,i < src.length→∃ d,src[i]? = some [d]:=by
      intro i hi
      have h1:=hrl _ (List.getElem_mem hi)
      obtain ⟨d,hd⟩:=List.length_eq_one_iff.1 h1
      exact ⟨d,by rw [Lg hi,hd]⟩
    have hcg : ∀ (j : Nat) (v : Value),((List.range src.length).map fun i=>f i 0)[j]? = some v→j < src.length∧v = f j 0:=by
      intro j v hj
      have hjl:=lt_of_some hj
      simp only [List.length_map,List.length_range] at hjl
      rw [Lp_,List.getElem?_range hjl] at hj
      simp only [Option.map_some,Oi] at hj
      exact ⟨hjl,hj.symm⟩
    refine Qr (cells:=(List.range src.length).map fun i=>f i 0) hr ht hs1 hd (by simp) hrl (fun i d hi=>?_) (fun A' n c' hm=>?_) (fun b o n c' cur q hm hcc hfit=>?_) h
    · obtain ⟨q1, q2, q3, q4⟩ := hone i d hi
      have hil:=lt_of_some hi
      exact ⟨q3,q4,f i 0,by rw [Lp_,List.getElem?_range hil]; rfl,q2⟩
    · exact run_copy_none (P:=P) w t t ty e A' (some ⟨b0,o0,none⟩) n c' _ c ht hs1 hm
    · have hl : (((List.range src.length).map fun i => f i 0).take (min src.length n)).length = min src.length n := by simp
      have:=run_copy_row (P:=P) w t t ty e b o n c' ⟨b0,o0,none⟩ src.length c cur q (((List.range src.length).map fun i=>f i 0).take (min src.length n)) ht hs1 hcc hl (fun j v hj=>?_) (by rw [hl]; exact hfit) (fun v hv=>?_)
      · rw [hl] at this
        exact this
      · have hjl : j < min src.length n := by have := lt_of_some hj; rw [hl] at this; exact this
        rw [List.getElem?_take_of_lt hjl] at hj
        obtain ⟨h1,rfl⟩:=hcg j v hj
        obtain ⟨d,hd⟩:=hsome j h1
        rw [add_plain]
        exact (hone j d hd).1
      · obtain ⟨j, hj, rfl⟩ := List.mem_iff_getElem.1 (List.mem_of_mem_take hv)
        simp only [List.length_map,List.length_range] at hj
        obtain ⟨d,hd⟩:=hsome j hj
        simp only [List.getElem_map,List.getElem_range]
        exact ((hone j d hd).2.1.oneCell (hone j d hd).2.2.1).1
theorem copys_ok {t u ty e : TypeId} {kind : Nat} {d r : D} {s : ByteArray} {vd : Value} {S' : St} {wr : Bool} (hr : Rel w ρ S.heap) (ht : P.underlying t = some (.slice e)) (hn : Ct P e = some 1)
    (hd : VR w ρ S.heap d vd) (h : Fy 1 kind d (Be s) S = some (r,S',wr)) :
    ∃ v w',(Builtin.copy_ #[t,u] ty #[vd,.string s]).run P w = .ok v w'∧Ta w ρ S r S' wr v w':=by
  obtain ⟨i,d2,hi,hd2,hsz,h0⟩:=Cy hn
  have hs1 : (P.info? e).map (·.size) = some 1:=by rw [hi]; simp [hsz]
  have hbl : (Be s).length = s.size:=by simp [Be]
  have hcl : (Lib.byteCells s.data.toList).length = s.size:=by rw [Lib.byteCells_length]; simp
  refine Qr (cells:=Lib.byteCells s.data.toList) hr ht hs1 hd (by rw [hcl,hbl]) (fun r hr'=>?_) (fun i d hi=>?_) (fun A n c hm=>?_) (fun b o n c cur q hm hcc hfit=>?_) h
  · simp only [Be, List.mem_map] at hr'
    obtain ⟨_,_,rfl⟩:=hr'
    rfl
  · simp only [Be, Lp_, Om, List.cons.injEq, and_true] at hi
    obtain ⟨b,hb,rfl⟩:=hi
    refine ⟨rfl,fun _=>rfl,.int .u8 b.toNat,?_,.int _ _⟩
    simp [Lib.byteCells,hb]
  · rw [hbl] at hm
    simp only [Builtin.copy_,Sem.run_bind]
    cases A<;>simp [run_underlying ht,Builtin.lenOf,Builtin.firstCells,sizeOf,typeInfo,hi,hm,storeCells,Result.andThen]
  · rw [hbl] at hm hfit ⊢
    have hl : ((Lib.byteCells s.data.toList).take (min s.size n)).length = min s.size n:=by rw [List.length_take,hcl]; omega
    have hst:=run_storeCells_at P b o q ((Lib.byteCells s.data.toList).take (min s.size n)) 0 cur w hcc (by rw [hl]; simpa using hfit) (fun v hv=>Lib.byteCells_one _ v (List.mem_of_mem_take hv))
    rw [hl] at hst
    simp only [Nat.add_zero] at hst
    simp [Builtin.copy_,run_underlying ht,Builtin.lenOf,Builtin.firstCells,sizeOf,typeInfo,hi]
    rw [show List.take (min s.size n) (List.map (fun b : UInt8=>Value.int IntKind.u8 (b.toNat : Int)) s.data.toList) = (Lib.byteCells s.data.toList).take (min s.size n) from rfl,hst]
    simp [Result.andThen]

/-! new bytes of whatever content -/
theorem digits_u8 : ∀ (n t : Nat) (acc : Array Value),(∀ (i : Nat) (v : Value),acc[i]? = some v→∃ k : Int,v = .int .u8 k)→∀ (i : Nat) (v : Value),(Extern.BytealgMakeNoZero.digits n t acc)[i]? = some v→∃ k : Int,v = .int .u8 k
 | 0,_,_,h=>h
 | n + 1, t, acc, h => by
  rw [Extern.BytealgMakeNoZero.digits]
  refine digits_u8 n _ _ fun i v hi=>?_
  rw [Array.getElem?_push] at hi
  split at hi
  ·
   simp only [Oi] at hi
   exact ⟨_,hi.symm⟩
  ·
   exact h i v hi
theorem mknz_run (ps : Array TypeId) {t e : TypeId} (ht : P.underlying t = some (.slice e)) (n : Nat) (hn : n ≤ 140737488355328) :
  ∃ cs : Array Value,(Extern.BytealgMakeNoZero.makeNoZero ps #[t] #[.int .i64 n]).run P w = .ok (.slice (some ⟨w.heap.size,0,none⟩) n cs.size) (w.drew.drew.alloc (.cells cs e))∧n ≤ cs.size∧cs.size ≤ maxLen∧∀ (i : Nat) (v : Value),cs[i]? = some v→∃ k : Int,v = .int .u8 k:=by
 obtain ⟨cs,h1,h2,h3⟩:=Lib.run_makeNoZero (P:=P) w ps t e ht n (by omega)
 refine ⟨cs,h1,h2,h3 (by simp only [maxLen]; omega),?_⟩
 have hdef : Extern.BytealgMakeNoZero.makeNoZero ps #[t] #[.int .i64 n] =
   (do
    let .slice elem ← underlying t | stuck "bytealg.MakeNoZero: slice type expected"
    if (n : Int) < 0 || (n : Int) > 2 ^ 48 then runtimePanic (.error "makeslice: len out of range")
    let cap ← choose (.appendCap (n : Int).toNat 0 elem)
    askRoom cap
    let bytes ← choose (.extern "internal/bytealg.MakeNoZero.bytes" 0)
    let a ← newRow elem (Extern.BytealgMakeNoZero.digits cap bytes #[])
    pure (.slice (some a) (n : Int).toNat cap)):=rfl
 rw [hdef] at h1
 have g1 : ¬ (n : Int) < 0:=by omega
 have g2 : ¬ (281474976710656 : Int) < (n : Int):=by omega
 simp [run_underlying ht,g1,g2,Question.forced,newRow] at h1
 obtain ⟨_,h5⟩:=h1
 have h6:=congrArg (fun w' : World=>w'.heap[w.heap.size]?) h5
 have e1 : ∀ o : Obj,(w.drew.drew.alloc o).heap[w.heap.size]? = some o:=fun o=>heap_alloc_new w.drew.drew o
 simp only [e1,Oi,Obj.cells.injEq] at h6
 obtain ⟨h6,_⟩:=h6
 rw [← h6]
 exact digits_u8 _ _ _ (by simp)
theorem drew2_add (w : World) (o : Obj) : Te w (w.drew.drew.alloc o) o:=⟨rfl,rfl,rfl,by simp,heap_alloc_new w.drew.drew o,fun k h=>heap_alloc_old w.drew.drew o h⟩
theorem mknz_ok (ps : Array TypeId) {t e : TypeId} {k : IntKind} {n : Int} (hr : Rel w ρ S.heap) (ht : P.underlying t = some (.slice e)) (hk : k = .i64) (h0 : 0 ≤ n) (hn : n ≤ 140737488355328) :
    ∃ v w',(Extern.BytealgMakeNoZero.makeNoZero ps #[t] #[.int k n]).run P w = .ok v w'∧Ta w ρ S (.msl S.heap.length 0 0 n.toNat none) (newAt S ⟨e,1,List.replicate n.toNat [.junk],0,2,true⟩) true v w':=by
  subst hk
  obtain ⟨m,rfl⟩ : ∃ m : Nat,n = m:=⟨n.toNat,by omega⟩
  simp only [Int.toNat_natCast]
  obtain ⟨cs,h1,h2,h3,h4⟩:=mknz_run (P:=P) (w:=w) ps ht m (by omega)
  have hadd:=drew2_add w (.cells cs e)
  refine ⟨_,_,h1,_,Ir (ob:=⟨e,1,List.replicate m [.junk],0,2,true⟩) hr hadd (by simp) ⟨cs.size,by simp,by simpa using h2,h3,by simp⟩ (fun r hr'=>by rw [List.eq_of_mem_replicate hr']; rfl) (.inr (.inr rfl)) (fun i' r' j d hi' hj=>?_),F6 hr hadd,?_,by simp⟩
  · have hr' := List.eq_of_mem_replicate (Lm hi')
    subst hr'
    have hil : i' < m:=by have:=lt_of_some hi'; simpa using this
    have hj0 : j = 0:=by have:=lt_of_some hj; simp at this; exact this
    subst hj0
    simp only [Lz,Oi] at hj
    subst hj
    have hq : i' < cs.size:=by omega
    obtain ⟨q,hq2⟩:=h4 i' cs[i'] (Array.getElem?_eq_getElem hq)
    refine ⟨rfl,fun _=>rfl,cs[i'],by simp [hq],?_⟩
    rw [hq2]
    exact .junk q
  · refine .msl _ 0 0 _ none _ _ ⟨e,1,List.replicate m [.junk],0,2,true⟩ h2 (fun k hk=>by cases hk) (by simp [newAt]) (Nat.le_refl _) (by simp) fun _=>⟨w.heap.size,by simp [upd],by simp,fun _=>by simp,fun _=>⟨_,hadd.new,by simp⟩⟩

/-! maps whose keys are structs -/
theorem checkKeyS : ∀ (d : Nat) (t : TypeId) (Tm : List Nat), Ed P d t = some Tm → ∀ (b : Bool) (k : Nat) (a : D) (va : Value), VR w ρ S.heap a va → a.val = true → a.cells.length = Tm.length → (Fh P t = true → ∃ cs, a = .agg cs) →
    (Instr.checkKey b (d + k) t va).run P w = .ok () w
  | 0,t,Tm,h=>by simp [Ed] at h
  | d + 1, t, Tm, h => by
    intro b k a va h1 ha hlen hag
    rw [show d + 1 + k = (d + k) + 1 by omega]
    simp only [Ed] at h
    split at h
    · rename_i kk hu
      simp [Instr.checkKey,run_underlying hu]
    · rename_i hu
      simp [Instr.checkKey,run_underlying hu]
    · rename_i hu
      simp [Instr.checkKey,run_underlying hu]
    · rename_i fs hu
      split at h
      · simp at h
      · obtain ⟨xs, rfl⟩ := hag (by simp [Fh, hu])
        cases h1 with | agg _ va hl1 hc1 hh1 =>
        have key : ∀ (fl : List Field) (o : Nat) (fm : List Nat),eqFields P (Ed P d) fl o = some fm→o + fm.length ≤ xs.length →
            (forIn fl PUnit.unit (fun (f : Field) (_ : PUnit) => (if f.name ≠ "_" then (do Instr.checkKey b (d + k) f.type (← part f.type va.toArray f.offset); pure (ForInStep.yield PUnit.unit)) else pure (ForInStep.yield PUnit.unit) : Sem (ForInStep PUnit)))).run P w = .ok PUnit.unit w := by
          intro fl
          induction fl with
          | nil=>intro o fm hf hle; simp
          | cons f fl ihl =>
            intro o fm hf hle
            simp only [eqFields] at hf
            split at hf
            · simp at hf
            · rename_i hno
              simp only [not_or,ne_eq,Decidable.not_not] at hno
              obtain ⟨hname,hoff⟩:=hno
              split at hf
              · rename_i fa m hfa hsz
                split at hf
                · rename_i hlen'
                  simp only [Om] at hf
                  obtain ⟨fm',hf',rfl⟩:=hf
                  simp only [Ll_] at hle
                  have hone : Fh P f.type = false→m = 1:=by
                    intro hg
                    cases d with
                    | zero=>simp [Ed] at hfa
                    | succ d' =>
                      simp only [Ed] at hfa
                      split at hfa
                      · simp only [Oi] at hfa; subst hfa; exact hlen'.symm
                      · simp only [Oi] at hfa; subst hfa; exact hlen'.symm
                      · simp only [Oi] at hfa; subst hfa; exact hlen'.symm
                      · rename_i hu'; unfold Fh at hg; rw [hu'] at hg; simp at hg
                      · simp at hfa
                  obtain ⟨pa,a1,a2,a3,a4⟩ : ∃ p,Ay xs o m (Fh P f.type) = some p∧p.cells.length = m∧p.val = true∧(Fh P f.type = true→∃ c,p = .agg c):=by
                    cases hg : Fh P f.type with
                    | true =>
                      refine ⟨.agg ((xs.drop o).take m),by simp [Ay]; omega,by simp [D.cells]; omega,?_,fun _=>⟨_,rfl⟩⟩
                      simp only [D.val,List.all_eq_true] at hc1 ⊢
                      intro c hc'
                      exact hc1 c (List.mem_of_mem_drop (List.mem_of_mem_take hc'))
                    | false =>
                      have:=hone hg
                      subst this
                      have hlt : o < xs.length:=by omega
                      have hcl : xs[o].Tc = true:=by
                        simp only [List.all_eq_true] at hc1
                        exact hc1 _ (List.getElem_mem hlt)
                      refine ⟨xs[o],by simp [Ay,hlt],?_,?_,fun h=>by simp at h⟩
                      · cases e : xs[o]<;>first | rfl | (rw [e] at hcl; simp [D.Tc] at hcl)
                      · cases e : xs[o]<;>first | rfl | (rw [e] at hcl; simp [D.Tc] at hcl)
                  obtain ⟨xa,x1,x2⟩:=Lt (P:=P) hl1 hc1 hh1 a1 hsz rfl
                  have hq:=checkKeyS d f.type fa hfa b k pa xa x2 a3 (by rw [a2,hlen']) a4
                  simp only [List.forIn_cons,Sem.run_bind,hname,ne_eq,not_false_eq_true,if_true,hoff,x1,Result.andThen_ok,hq,Sem.run_pure]
                  exact ihl (o + m) fm' hf' (by omega)
                · simp at hf
              · simp at hf
        have hk:=key fs.toList 0 Tm h (by simp only [D.cells] at hlen; omega)
        rw [Array.forIn_toList] at hk
        simp only [Instr.checkKey,Sem.run_bind,run_underlying hu,Result.andThen_ok]
        refine Eq.trans (congrArg (fun z=>Result.andThen z _) hk) ?_
        rfl
    · simp at h
theorem keyS_free {Tm : List Nat} {k : D} (h : N7 Tm k = true) : k.Sy = true ∧ k.val = true := by
  unfold N7 at h
  split at h
  · rename_i cs
    simp only [Bool.and_eq_true,beq_iff_eq,List.all_eq_true] at h
    obtain ⟨h1,h2⟩:=h
    have key : ∀ d ∈ cs,d.free = true∧d.Tc = true:=by
      intro d hd
      obtain ⟨i,hi,rfl⟩:=List.mem_iff_getElem.1 hd
      have:=h2 (cs[i],Tm[i]'(by omega)) (by
        rw [List.mem_iff_getElem]
        exact ⟨i,by simp; omega,by simp⟩)
      simp only at this
      revert this
      cases e : cs[i]<;>cases e2 : Tm[i]'(by omega)<;>simp [isKey,D.free,D.Td,D.Tc]
    exact ⟨by simp only [D.Sy,List.all_eq_true]; exact fun d hd=>(key d hd).1,by simp only [D.val,List.all_eq_true]; exact fun d hd=>(key d hd).2⟩
  · simp at h
theorem keyS_check {kt : TypeId} {Tm : List Nat} {k : D} {vk : Value} {b : Bool} (hgt : Fh P kt = true) (hkt : Ed P 9 kt = some Tm) (hkey : N7 Tm k = true) (hk : VR w ρ S.heap k vk) : (Instr.checkKey b 10000 kt vk).run P w = .ok () w:=by
 obtain ⟨_,h2⟩:=keyS_free hkey
 refine checkKeyS 9 kt Tm hkt b 9991 k vk hk h2 ?_ fun _=>?_
 ·
  unfold N7 at hkey
  split at hkey
  ·
   simp only [Bool.and_eq_true,beq_iff_eq] at hkey
   exact hkey.1
  ·
   simp at hkey
 ·
  unfold N7 at hkey
  split at hkey
  ·
   exact ⟨_,rfl⟩
  ·
   simp at hkey
theorem eqS_run {kt : TypeId} {Tm : List Nat} {cs ds : List D} {va vb : Value} {r : Bool} (hgt : Fh P kt = true) (hkt : Ed P 9 kt = some Tm) (h1 : VR w ρ S.heap (.agg cs) va) (h2 : VR w ρ S.heap (.agg ds) vb) (he : Cu Tm cs ds = some r) : (Op.equal kt va vb).run P w = .ok r w:=by
 have hv1 : (D.agg cs).val = true:=by cases h1 with | agg _ _ _ hc _=>exact hc
 have hv2 : (D.agg ds).val = true:=by cases h2 with | agg _ _ _ hc _=>exact hc
 exact Qo 9 kt Tm hkt 9991 _ _ _ _ r h1 h2 hv1 hv2 he (fun _=>⟨⟨_,rfl⟩,⟨_,rfl⟩⟩) (fun h=>by rw [hgt] at h; simp at h)
theorem Rx {kt : TypeId} {Tm : List Nat} {k : D} {vk : Value} (hgt : Fh P kt = true) (hkt : Ed P 9 kt = some Tm) (hk : VR w ρ S.heap k vk) : ∀ {rows : List (List D)} {es : List MapEntry} {i : Nat} {x : Option (Nat × D)}, es.length = rows.length → (∀ (j : Nat) (r : List D), rows[j]? = some r → ∃ (e : MapEntry) (a v : D), es[j]? = some e ∧ r = [a, v] ∧ VR w ρ S.heap a e.key ∧ VR w ρ S.heap v e.val) → Kz Tm k rows i = some x →
    (x = none∧(Instr.findAsking kt vk es i).run P w = .ok none w) ∨ ∃ (j : Nat) (v : D) (e : MapEntry) (cs ds : List D),x = some (i + j,v)∧(∃ a,a = D.agg ds∧rows[j]? = some [a,v]∧k = .agg cs∧VR w ρ S.heap a e.key)∧es[j]? = some e∧VR w ρ S.heap v e.val∧Cu Tm cs ds = some true∧(Instr.findAsking kt vk es i).run P w = .ok (some (i + j,e.val)) w
  | [], es, i, x, hl, hh, h => by
    have : es = []:=by simpa using hl
    subst this
    simp only [Kz,Oi] at h
    subst h
    exact .inl ⟨rfl,rfl⟩
  | r :: rows, es, i, x, hl, hh, h => by
    cases es with
    | nil=>simp at hl
    | cons e es =>
      obtain ⟨e',a,v,h1,h2,h3,h4⟩:=hh 0 r rfl
      simp at h1
      subst h1 h2
      simp only [Kz] at h
      split at h
      · rename_i cs ds
        cases hb : Cu Tm cs ds with
        | none=>simp [hb] at h
        | some bb =>
          have hsn:=eqS_run hgt hkt hk h3 hb
          cases bb with
          | true =>
            simp only [hb,Oi] at h
            subst h
            exact .inr ⟨0,v,e,cs,ds,rfl,⟨_,rfl,rfl,rfl,h3⟩,rfl,h4,hb,by unfold Instr.findAsking; rw [Ac hsn]; rfl⟩
          | false =>
            simp only [hb] at h
            rcases Rx hgt hkt hk (es:=es) (by simpa using hl) (fun j r hj=>by simpa using hh (j + 1) r (by simpa using hj)) h with ⟨rfl,hf⟩ | ⟨j,v2,e2,c2,d2,hx,⟨a2,q0,hr,q1,q2⟩,he,q3,q4,hf⟩
            · exact .inl ⟨rfl,by unfold Instr.findAsking; rw [Ac hsn]; exact hf⟩
            · refine .inr ⟨j + 1, v2, e2, c2, d2, by rw [hx]; congr 2; omega, ⟨a2, q0, by simpa using hr, q1, q2⟩, by simpa using he, q3, q4, ?_⟩
              unfold Instr.findAsking
              rw [Ac hsn]
              simp only [Bool.false_eq_true,if_false]
              rw [hf]
              congr 3
              omega
      · simp at h
theorem find_S {kt : TypeId} {Tm : List Nat} {k : D} {vk : Value} (hgt : Fh P kt = true) (hkt : Ed P 9 kt = some Tm) (hk : VR w ρ S.heap k vk) {rows : List (List D)} {es : List MapEntry} {x : Option (Nat × D)} (hl : es.length = rows.length) (hh : ∀ (j : Nat) (r : List D),rows[j]? = some r→∃ (e : MapEntry) (a v : D),es[j]? = some e∧r = [a,v]∧VR w ρ S.heap a e.key∧VR w ρ S.heap v e.val) (h : Kz Tm k rows 0 = some x) :
  (x = none∧(Instr.findKey kt vk es).run P w = .ok none w) ∨ ∃ (j : Nat) (v : D) (e : MapEntry) (a : D),x = some (0 + j,v)∧rows[j]? = some [a,v]∧es[j]? = some e∧VR w ρ S.heap v e.val∧VR w ρ S.heap a e.key∧(∃ cs ds,k = .agg cs∧a = .agg ds∧Cu Tm cs ds = some true)∧(Instr.findKey kt vk es).run P w = .ok (some (0 + j,e.val)) w:=by
 obtain ⟨fs,hu⟩ : ∃ kd,P.underlying kt = some kd∧((∃ fs,kd = .struct fs) ∨ ∃ n e,kd = .array n e):=by
  unfold Fh at hgt
  split at hgt
  ·
   rename_i hu; exact ⟨_,hu,.inl ⟨_,rfl⟩⟩
  ·
   rename_i hu; exact ⟨_,hu,.inr ⟨_,_,rfl⟩⟩
  ·
   simp at hgt
 have hfk : (Instr.findKey kt vk es).run P w = (Instr.findAsking kt vk es 0).run P w:=by
  unfold Instr.findKey
  rw [Ac (run_underlying hu.1 w)]
  cases es with
  | nil=>rfl
  | cons e es=>rcases hu.2 with ⟨fs,rfl⟩ | ⟨n,e,rfl⟩<;>rfl
 rw [hfk]
 rcases Rx hgt hkt hk hl hh h with h1 | ⟨j,v,e,cs,ds,h1,⟨a,rfl,h3,h4,h5⟩,h6,h7,h8,h9⟩
 ·
  exact .inl h1
 ·
  exact .inr ⟨j,v,e,_,h1,h3,h6,h7,h5,⟨cs,ds,h4,rfl,h8⟩,h9⟩
theorem sameBits_S {Tm : List Nat} {k a : D} {vk va : Value} (hk : VR w ρ S.heap k vk) (ha : VR w ρ S.heap a va) (h : ∃ cs ds, k = .agg cs ∧ a = .agg ds ∧ Cu Tm cs ds = some true) : Instr.sameBits 10000 va vk = true := by
  obtain ⟨cs,ds,rfl,rfl,he⟩:=h
  cases hk with | agg _ vs hl hc hh =>
  cases ha with | agg _ us hl2 hc2 hh2 =>
  have key : ∀ (Tm : List Nat) (cs ds : List D) (vs us : List Value),vs.length = cs.length→us.length = ds.length→(∀ (j : Nat) (d : D) (v : Value),cs[j]? = some d→vs[j]? = some v→VR w ρ S.heap d v)→(∀ (j : Nat) (d : D) (v : Value),ds[j]? = some d→us[j]? = some v→VR w ρ S.heap d v)→Cu Tm cs ds = some true→us.length = vs.length∧((us.zip vs).all fun (x,y)=>Instr.sameBits 9999 x y) = true:=by
    intro Tm
    induction Tm with
    | nil =>
      intro cs ds vs us h1 h2 _ _ he
      cases cs<;>cases ds<;>simp [Cu] at he
      have : vs = []:=by simpa using h1
      have : us = []:=by simpa using h2
      simp_all
    | cons f Tm ih =>
      intro cs ds vs us h1 h2 g1 g2 he
      cases cs with
      | nil=>cases ds<;>simp [Cu] at he
      | cons c cs =>
        cases ds with
        | nil=>simp [Cu] at he
        | cons d ds =>
          cases vs with
          | nil=>simp at h1
          | cons v vs =>
            cases us with
            | nil=>simp at h2
            | cons u us =>
              simp only [Cu] at he
              split at he
              · rename_i hk2
                simp only [Bool.and_eq_true] at hk2
                split at he
                · rename_i x y e1 e2
                  simp only [Oi,Bool.and_eq_true] at he
                  obtain ⟨rfl,rfl⟩:=he
                  obtain ⟨q1,q2⟩:=ih cs ds vs us (by simpa using h1) (by simpa using h2) (fun j d v hd hv=>g1 (j + 1) d v (by simpa using hd) (by simpa using hv)) (fun j d v hd hv=>g2 (j + 1) d v (by simpa using hd) (by simpa using hv)) e2
                  have:=Oz (n:=9998) hk2.1 (g1 0 c v rfl rfl) (g2 0 d u rfl rfl) e1
                  exact ⟨by simp [q1],by simp only [List.zip_cons_cons,List.all_cons,Bool.and_eq_true]; exact ⟨this,q2⟩⟩
                · simp at he
              · simp at he
  obtain ⟨q1,q2⟩:=key Tm cs ds vs us hl hl2 hh hh2 he
  show (us.toArray.size == vs.toArray.size && (us.toArray.toList.zip vs.toArray.toList).all fun (x,y)=>Instr.sameBits 9999 x y) = true
  simp only [Bool.and_eq_true,beq_iff_eq]
  exact ⟨by simpa using q1,by simpa using q2⟩
theorem mapgetS_ok {t kt e : TypeId} {Tm : List Nat} {z m k r : D} {vm vk : Value} {ok : Bool} (hr : Rel w ρ S.heap) (ht : P.underlying t = some (.map kt e)) (hgt : Fh P kt = true) (hkt : Ed P 9 kt = some Tm) (hz : Lb P e = some z) (hm : VR w ρ S.heap m vm) (hk : VR w ρ S.heap k vk)
    (h : O5 S Tm z ok m k = some r) : ∃ v,(Instr.lookup t vm vk ok).run P w = .ok v w∧VR w ρ S.heap r v:=by
  unfold O5 at h
  split at h
  · rename_i rows hrows
    obtain ⟨es,hes,hsz,hall⟩:=map_rows hr hm hrows
    split at h
    · rename_i hkey
      obtain ⟨zv,hzrun,hzcell⟩ : ∃ zv,(zeroValue e).run P w = .ok zv w∧VR w ρ S.heap z zv:=by
        unfold Lb at hz
        split at hz
        · rename_i i hi
          split at hz
          · rename_i zv hzv
            exact ⟨zv,by simp [zeroValue,typeInfo,hi,hzv],K5 hz⟩
          · simp at hz
        · simp at hz
      have hck:=fun b=>keyS_check (b:=b) hgt hkt hkey hk
      have hsome : ∀ j v,(Instr.findKey kt vk es.toList).run P w = .ok (some (j,v)) w→(Instr.lookup t vm vk ok).run P w = .ok (if ok then .tuple #[v,.bool true] else v) w:=by
        intro j v hx
        unfold Instr.lookup
        rw [Ac (run_underlying ht w)]
        rcases hes with ⟨rfl,rfl⟩ | ⟨b,clock,rfl,hb⟩
        · simp only
          rw [Ac (a:=(#[] : Array MapEntry)) (w':=w) rfl,Ac (hck _),Ac hx]
          rfl
        · simp only
          rw [Ac (Gd hb)]
          simp only
          rw [Ac (a:=es) (w':=w) rfl,Ac (hck _),Ac hx]
          rfl
      have hnone : (Instr.findKey kt vk es.toList).run P w = .ok none w→(Instr.lookup t vm vk ok).run P w = .ok (if ok then .tuple #[zv,.bool false] else zv) w:=by
        intro hx
        unfold Instr.lookup
        rw [Ac (run_underlying ht w)]
        rcases hes with ⟨rfl,rfl⟩ | ⟨b,clock,rfl,hb⟩
        · simp only
          rw [Ac (a:=(#[] : Array MapEntry)) (w':=w) rfl,Ac (hck _),Ac hx]
          simp only
          rw [Ac hzrun]
          rfl
        · simp only
          rw [Ac (Gd hb)]
          simp only
          rw [Ac (a:=es) (w':=w) rfl,Ac (hck _),Ac hx]
          simp only
          rw [Ac hzrun]
          rfl
      have htup : ∀ (x : D) (v : Value) (b : Bool),VR w ρ S.heap x v→VR w ρ S.heap (.tup [x,.bool b]) (.tuple #[v,.bool b]):=by
        intro x v b hx
        have hv : VL w ρ S.heap [x,.bool b] [v,.bool b]:=.cons hx (.cons (.bool _) .nil)
        exact .tup [x,.bool b] [v,.bool b] rfl (fun j d v=>hv.get)
      cases hf : Kz Tm k rows 0 with
      | none=>simp [hf] at h
      | some x =>
        rcases find_S hgt hkt hk (es:=es.toList) (by simpa using hsz) (fun j r hj=>by obtain ⟨e,a,v,h1,h2⟩:=hall j r hj; exact ⟨e,a,v,by simpa using h1,h2⟩) hf with ⟨rfl,hfn⟩ | ⟨j,v,e2,a,rfl,hrow,he,q1,q2,q3,hfn⟩
        · simp only [hf, Oi] at h
          subst h
          refine ⟨_,hnone hfn,?_⟩
          cases ok
          · exact hzcell
          · exact htup _ _ _ hzcell
        · simp only [hf, Oi] at h
          subst h
          refine ⟨_,hsome _ _ hfn,?_⟩
          cases ok
          · exact q1
          · exact htup _ _ _ q1
    · simp at h
  · simp at h
theorem mapsetS_ok {t kt e : TypeId} {Tm : List Nat} {m k v : D} {vm vk vv : Value} {S' : St} (hr : Rel w ρ S.heap) (ht : P.underlying t = some (.map kt e)) (hgt : Fh P kt = true) (hkt : Ed P 9 kt = some Tm) (hm : VR w ρ S.heap m vm) (hk : VR w ρ S.heap k vk) (hv : VR w ρ S.heap v vv) (h : O4 S Tm m k v = some S') :
    ∃ w',(Instr.mapUpdate t vm vk vv).run P w = .ok () w'∧Ta w ρ S .undef S' true undef w':=by
  unfold O4 at h
  split at h
  · rename_i g ver
    cases hm with
    | mref _ _ r ob hg hver hh =>
      unfold rowsOf at h
      simp only [hg] at h
      by_cases hvv : ob.ver = ver
      · subst hvv
        simp only [if_true] at h
        split at h
        · rename_i hkk
          obtain ⟨hk3,he0,hkey⟩:=hkk
          split at h
          · rename_i v' hsn
            have hv':=Lf hr (Nat.le_refl _) hv hsn
            split at h
            · rename_i hfc
              simp only [Bool.and_eq_true] at hfc
              have hρ:=hh rfl
              obtain ⟨es,clock,hc,hs,hl,hall⟩:=hr.map hρ hg hk3 he0
              have hkfree:=keyS_free hkey
              have hck:=fun b=>keyS_check (b:=b) hgt hkt hkey hk
              have hblt:=lt_of_heap hc
              have hnc : ∀ c e f,Obj.map es clock ≠ .cells c e f:=fun _ _ _ e=>by cases e
              cases hf : Kz Tm k ob.rows 0 with
              | none=>simp [hf] at h
              | some x =>
                rcases find_S hgt hkt hk (es:=es.toList) (by simpa using hs) (fun j r hj=>by obtain ⟨e,a,v,h1,h2,_,_,h5,h6⟩:=hall j r hj; exact ⟨e,a,v,by simpa using h1,h2,h5,h6⟩) hf with ⟨rfl,hfn⟩ | ⟨j,v0,e2,a,rfl,hrow,he,q1,q2,q3,hfn⟩
                · simp only [hf, Oi] at h
                  subst h
                  refine ⟨{ w with heap:=w.heap.setIfInBounds r (.map (es.push ⟨vk,vv,clock⟩) (clock + 1)) },?_,ρ,?_,Jb hr hρ hg hk3 hc hnc (Tf.setObj hblt) ⟨rfl,rfl,rfl,by simp,rfl⟩,.undef _,by simp⟩
                  · unfold Instr.mapUpdate
                    rw [Ac (run_underlying ht w)]
                    simp only
                    rw [Ac (Gd hc)]
                    simp only
                    rw [Ac (hck _),Ac hfn]
                    exact Ki hc
                  · refine Sg hr hρ hg hk3 he0 hc hnc (Tf.setObj hblt) ⟨rfl, rfl, rfl, by simp, rfl⟩ (by simp [hs]) ?_ ?_
                    · intro r' hr'
                      simp only [List.mem_append,List.mem_singleton] at hr'
                      rcases hr' with hr' | rfl
                      · exact hl r' hr'
                      · rfl
                    · intro i r' hi
                      simp only at hi
                      by_cases hil : i < ob.rows.length
                      · rw [La_ hil] at hi
                        obtain ⟨e3,k3,v3,z1,z2⟩:=hall i r' hi
                        exact ⟨e3,k3,v3,by rw [Array.getElem?_push_lt (by omega)]; rw [Array.getElem?_eq_getElem (by omega)] at z1; exact z1,z2⟩
                      · rw [Lr_ (by omega)] at hi
                        have hi0 : i - ob.rows.length = 0:=by have:=lt_of_some hi; simp at this; omega
                        rw [hi0] at hi
                        simp at hi
                        subst hi
                        have hie : i = es.size:=by omega
                        subst hie
                        exact ⟨⟨vk,vv,clock⟩,k,v',by simp,rfl,hkfree,hfc,hk,hv'⟩
                · simp only [hf, Oi, Nat.zero_add] at h
                  subst h
                  have he' : es[j]? = some e2:=by simpa using he
                  have hjl:=(Array.getElem?_eq_some_iff.1 he').1
                  have hkts : (Instr.keyThatStays (((es[0 + j]?).map (·.key)).getD vk) vk).run P w = .ok vk w:=by
                    rw [Nat.zero_add,he']
                    unfold Instr.keyThatStays
                    simp only [Option.map_some,Option.getD_some]
                    rw [if_pos (sameBits_S hk q2 q3)]
                    rfl
                  refine ⟨{ w with heap:=w.heap.setIfInBounds r (.map (es.modify j fun e=>{ e with key:=vk,val:=vv }) clock) },?_,ρ,?_,Jb hr hρ hg hk3 hc hnc (Tf.setObj hblt) ⟨rfl,rfl,rfl,by simp,rfl⟩,.undef _,by simp⟩
                  · unfold Instr.mapUpdate
                    rw [Ac (run_underlying ht w)]
                    simp only
                    rw [Ac (Gd hc)]
                    simp only
                    rw [Ac (hck _),Ac hfn]
                    simp only
                    rw [Ac hkts]
                    rw [Nat.zero_add]
                    exact Ki hc
                  · refine Sg hr hρ hg hk3 he0 hc hnc (Tf.setObj hblt) ⟨rfl, rfl, rfl, by simp, rfl⟩ (by simp [hs]) ?_ ?_
                    · intro r' hr'
                      rcases List.mem_or_eq_of_mem_set hr' with hr' | rfl
                      · exact hl r' hr'
                      · rfl
                    · intro i r' hi
                      simp only at hi
                      by_cases hij : j = i
                      · subst hij
                        rw [List.getElem?_set_self (by omega)] at hi
                        simp only [Oi] at hi
                        subst hi
                        exact ⟨{ e2 with key:=vk,val:=vv },k,v',by simp [Array.getElem?_modify,he'],rfl,hkfree,hfc,hk,hv'⟩
                      · rw [Ln_ hij] at hi
                        obtain ⟨e3,k3,v3,z1,z2⟩:=hall i r' hi
                        exact ⟨e3,k3,v3,by rw [Array.getElem?_modify,if_neg hij]; exact z1,z2⟩
            · simp at h
          · simp at h
        · simp at h
      · simp [hvv] at h
  · simp at h
end
end Go.Proofs.YtkaedpmmopigkaaGreatDoor
namespace Go.Proofs.YtkaedpmmopigkaaGreatDoor
open Go.RowKit
set_option linter.unusedVariables false
set_option linter.unusedSimpArgs false

section
variable {P : Program} {w : World} {ρ : Su} {S : St}

def Does (P : Program) (w : World) (ρ : Su) (S : St) (ev : Operand→Value) (o : Oper) (r : D) (S' : St) (wr : Bool) : Prop :=
 ∃ nx v w',(execOp ev o).run P w = .ok nx w'∧(nx = .value v ∨ nx = .skip∧v = undef)∧Ta w ρ S r S' wr v w'

theorem Does.val {ev : Operand→Value} {o : Oper} {r : D} {S' : St} {wr : Bool} {s : Sem Value} (he : execOp ev o = (do pure (.value (← s)))) (h : ∃ v w',s.run P w = .ok v w'∧Ta w ρ S r S' wr v w') : Does P w ρ S ev o r S' wr:=by
 obtain ⟨v,w',h1,h2⟩:=h
 exact ⟨.value v,v,w',by rw [he,Ac h1]; rfl,.inl rfl,h2⟩
theorem Does.pure {ev : Operand→Value} {o : Oper} {r : D} {s : Sem Value} (hr : Rel w ρ S.heap) (he : execOp ev o = (do pure (.value (← s)))) (h : ∃ v,s.run P w = .ok v w∧VR w ρ S.heap r v) : Does P w ρ S ev o r S false:=by
 obtain ⟨v,h1,h2⟩:=h
 exact Does.val he ⟨v,w,h1,Ta.pure hr h2⟩
theorem eqb_ok {neg a b : Bool} {op : BinOp} {t : TypeId} {x y : Operand} {H : List Sk} (ho : op = .eql ∨ op = .neq) (hn : neg = decide (op = .neq)) (ht : P.underlying t = some .bool) :
  ∃ v,(do eqGuard op t x y (.bool a) (.bool b); binOp op t (.bool a) (.bool b)).run P w = .ok v w∧VR w ρ H (.bool ((a == b) != neg)) v:=by
 have h : ∀ d : Nat,(Op.equalIn (d + 1) t (.bool a) (.bool b)).run P w = .ok (a == b) w:=fun d=>by simp [Op.equalIn,run_underlying ht]
 rcases ho with rfl | rfl
 ·
  subst hn
  refine ⟨.bool (a == b),?_,by cases a<;>cases b<;>exact .bool _⟩
  simp only [eqGuard,binOp]
  simp [Op.equal,Op.maxDepth,h 9999]
 ·
  subst hn
  refine ⟨.bool !(a == b),?_,by cases a<;>cases b<;>exact .bool _⟩
  simp only [eqGuard,binOp]
  simp [Op.equal,Op.maxDepth,h 9999]
theorem fold_ok {f : D→D→Option D} {g : Value→Value→Sem Value} (hfg : ∀ {d1 d2 r : D} {v1 v2 : Value},VR w ρ S.heap d1 v1→VR w ρ S.heap d2 v2→f d1 d2 = some r→∃ v,(g v1 v2).run P w = .ok v w∧VR w ρ S.heap r v) :
  ∀ {ds : List D} {vs : List Value} {d r : D} {v : Value},VR w ρ S.heap d v→VL w ρ S.heap ds vs→Pk f d ds = some r→∃ u,(vs.foldlM g v).run P w = .ok u w∧VR w ρ S.heap r u:=by
 intro ds
 induction ds with
 | nil =>
  intro vs d r v hd hv h
  cases hv
  simp only [Pk,Oi] at h
  subst h
  exact ⟨v,rfl,hd⟩
 | cons a ds ih =>
  intro vs d r v hd hv h
  cases hv with | cons h1 t1 =>
  simp only [Pk] at h
  split at h
  ·
   rename_i z hz
   obtain ⟨u,h3,h4⟩:=hfg hd h1 hz
   obtain ⟨u2,h5,h6⟩:=ih h4 t1 h
   refine ⟨u2,?_,h6⟩
   rw [List.foldlM_cons,Ac h3]
   exact h5
  ·
   simp at h
theorem max2_ok {d1 d2 r : D} {v1 v2 : Value} (h1 : VR w ρ S.heap d1 v1) (h2 : VR w ρ S.heap d2 v2) (h : maxD d1 d2 = some r) : ∃ v,(Builtin.max2 v1 v2).run P w = .ok v w∧VR w ρ S.heap r v:=by
 unfold maxD at h
 split at h
 ·
  split at h
  ·
   rename_i hk
   subst hk
   simp only [Oi] at h
   subst h
   cases h1; cases h2
   exact ⟨_,rfl,.int _ _⟩
  ·
   simp at h
 ·
  simp at h
theorem min2_ok {d1 d2 r : D} {v1 v2 : Value} (h1 : VR w ρ S.heap d1 v1) (h2 : VR w ρ S.heap d2 v2) (h : minD d1 d2 = some r) : ∃ v,(Builtin.min2 v1 v2).run P w = .ok v w∧VR w ρ S.heap r v:=by
 unfold minD at h
 split at h
 ·
  split at h
  ·
   rename_i hk
   subst hk
   simp only [Oi] at h
   subst h
   cases h1; cases h2
   exact ⟨_,rfl,.int _ _⟩
  ·
   simp at h
 ·
  simp at h
theorem maxs_ok {ts : Array TypeId} {t : TypeId} {ds : List D} {vs : List Value} {r : D} (hv : VL w ρ S.heap ds vs) (h : pop .max ds = some r) : ∃ v,(Builtin.max_ ts t vs.toArray).run P w = .ok v w∧VR w ρ S.heap r v:=by
 cases hv with
 | nil=>simp [pop] at h
 | cons h1 t1=>exact fold_ok (fun a b c=>max2_ok a b c) h1 t1 h
theorem mins_ok {ts : Array TypeId} {t : TypeId} {ds : List D} {vs : List Value} {r : D} (hv : VL w ρ S.heap ds vs) (h : pop .min ds = some r) : ∃ v,(Builtin.min_ ts t vs.toArray).run P w = .ok v w∧VR w ρ S.heap r v:=by
 cases hv with
 | nil=>simp [pop] at h
 | cons h1 t1=>exact fold_ok (fun a b c=>min2_ok a b c) h1 t1 h
theorem boolT_iff {t : TypeId} : boolT P t = true ↔ P.underlying t = some .bool:=by
 unfold boolT
 split
 ·
  rename_i h; simp [h]
 ·
  rename_i h; constructor
  ·
   intro h'; simp at h'
  ·
   intro h'; exact absurd h' h
theorem intT_iff {t : TypeId} {k : IntKind} : Qg P t = some k ↔ P.underlying t = some (.int k):=by
 unfold Qg
 split
 ·
  rename_i k' h; simp [h]
 ·
  rename_i h; constructor
  ·
   intro h'; simp at h'
  ·
   intro h'; exact absurd h' (h k)
theorem mapT_iff {t k e : TypeId} : mapT P t = some (k,e) ↔ P.underlying t = some (.map k e):=by
 unfold mapT
 split
 ·
  rename_i k' e' h; simp [h]
 ·
  rename_i h; constructor
  ·
   intro h'; simp at h'
  ·
   intro h'; exact absurd h' (h k e)
theorem Rz {s : TypeId} {k : Nat} {f : Field} (h : fieldT P s k = some f) : ∃ fs,P.underlying s = some (.struct fs)∧fs[k]? = some f:=by
 unfold fieldT at h
 split at h
 ·
  rename_i fs hu; exact ⟨fs,hu,h⟩
 ·
  simp at h
theorem parts_zip (ps : Array (Nat × Operand)) (ev : Operand→Value) : (ps.map fun (i,x)=>(i,ev x)) = ((ps.toList.map (·.1)).zip ((ps.toList.map (·.2)).map ev)).toArray:=by
 apply Array.ext'
 simp only [Array.toList_map]
 generalize ps.toList = l
 induction l with
 | nil=>rfl
 | cons p l ih=>simp [ih]
theorem vo_of {H : List Sk} {lo hi mx : Option Operand} {ev : Operand→Value} {xs : List D} {a b m : Option D} (hv : VL w ρ H xs ((opnds [lo,hi,mx]).map ev)) (h : Ci lo.isSome hi.isSome mx.isSome xs = some (a,b,m)) :
    VO w ρ H a (lo.map ev)∧VO w ρ H b (hi.map ev)∧VO w ρ H m (mx.map ev)∧(m.isSome = true→b.isSome = true):=by
  cases lo<;>cases hi<;>cases mx<;>simp only [opnds,List.filterMap_cons,List.filterMap_nil,id,List.map_cons,List.map_nil] at hv<;>simp only [Option.isSome_some,Option.isSome_none] at h
  all_goals
    first
      | (cases hv with
         | nil=>simp [Ci] at h; obtain ⟨rfl,rfl,rfl⟩:=h; exact ⟨.none,.none,.none,by simp⟩)
      | (cases hv with
         | cons h1 t1 => cases t1 with
           | nil=>simp [Ci] at h<;>(obtain ⟨rfl,rfl,rfl⟩:=h; first | exact ⟨.some h1,.none,.none,by simp⟩ | exact ⟨.none,.some h1,.none,by simp⟩))
      | (cases hv with
         | cons h1 t1 => cases t1 with
           | cons h2 t2 => cases t2 with
             | nil=>simp [Ci] at h<;>(obtain ⟨rfl,rfl,rfl⟩:=h; first | exact ⟨.some h1,.some h2,.none,by simp⟩ | exact ⟨.none,.some h1,.some h2,by simp⟩))
      | (cases hv with
         | cons h1 t1 => cases t1 with
           | cons h2 t2 => cases t2 with
             | cons h3 t3 => cases t3 with
               | nil=>simp [Ci] at h; obtain ⟨rfl,rfl,rfl⟩:=h; exact ⟨.some h1,.some h2,.some h3,by simp⟩)
      | (simp [Ci] at h; done)

set_option maxHeartbeats 4000000 in
theorem kd_of (kd : Kd) (e : TypeId) : kd.of e = 0 ∨ kd.of e = 1 ∨ kd.of e = 2:=by
 unfold Kd.of
 split
 ·
  exact .inl rfl
 ·
  split
  ·
   exact .inr (.inr rfl)
  ·
   exact .inr (.inl rfl)
theorem ext_mk : Extern.allNextRows.lookup "internal/bytealg.MakeNoZero" = none ∧ Extern.allGenericRows.lookup "internal/bytealg.MakeNoZero" = none ∧ Extern.allTypedRows.lookup "internal/bytealg.MakeNoZero" = some Extern.BytealgMakeNoZero.makeNoZero := ⟨by kernel_rfl, by kernel_rfl, by kernel_rfl⟩
theorem run_mknz {f : FuncId} {fn : Func} {rt : TypeId} {vs : Array Value} {v : Value} {w' : World} (hf : P.funcs[f]? = some fn) (hb : fn.body.isNone = true) (hn : fn.name = "internal/bytealg.MakeNoZero") (ho : fn.origin = "") (hrt : fn.resultTypes = #[rt])
  (h : (Extern.BytealgMakeNoZero.makeNoZero fn.params #[rt] vs).run P w = .ok v w') : (callFunc f vs).run P w = .ok (.value v) w':=by
 obtain ⟨h1,h2,h3⟩:=ext_mk
 have hp : Sem.run P program w = .ok P w:=rfl
 have hfn : Extern.findNext fn = none:=by simp [Extern.findNext,hn,ho,h1,ext_none]
 have hfd : Extern.find fn = some (Extern.BytealgMakeNoZero.makeNoZero fn.params fn.resultTypes):=by simp [Extern.find,hn,h2,h3]
 unfold callFunc
 rw [Ac hp]
 simp only [hf]
 rw [if_neg (by rw [hn]; decide),if_pos hb]
 rw [Ac (a:=()) (w':=w) rfl]
 simp only [hfn,hfd]
 rw [hrt,Ac h]
 rfl
theorem lop_mknz {e : TypeId} {ds : List D} {S : St} {r : D} {S' : St} {wr : Bool} (h : lop (.mknz e) ds S = some (r,S',wr)) : ∃ n : Int,ds = [.int .i64 n]∧0 ≤ n∧n ≤ 140737488355328∧r = .msl S.heap.length 0 0 n.toNat none∧S' = newAt S ⟨e,1,List.replicate n.toNat [.junk],0,2,true⟩∧wr = true:=by
 unfold lop at h
 split at h<;>simp only [reduceCtorEq,LOp.mknz.injEq] at *
 rename_i h1
 subst h1
 split at h
 ·
  rename_i hn
  simp only [Oi,Pi_] at h
  obtain ⟨rfl,rfl,rfl⟩:=h
  exact ⟨_,rfl,hn.1,hn.2,rfl,rfl,rfl⟩
 ·
  simp at h
theorem tass_ok {t xt : TypeId} {td : TypeDesc} {z x r : D} {v : Value} {ok : Bool} {H : List Sk} (hu : P.underlying t = some td) (hnot : ∀ m, td ≠ .interface m) (hz : Lb P t = some z) (hx : VR w ρ H x v) (h : pop (.tass t z ok) [x] = some r) :
    ∃ u,(Instr.typeAssert v xt t ok).run P w = .ok u w∧VR w ρ H r u:=by
  obtain ⟨zv,hzrun,hzcell⟩ : ∃ zv,(zeroValue t).run P w = .ok zv w∧VR w ρ H z zv:=by
    unfold Lb at hz
    split at hz
    · rename_i i hi
      split at hz
      · rename_i zv hzv
        exact ⟨zv,by simp [zeroValue,typeInfo,hi,hzv],K5 hz⟩
      · simp at hz
    · simp at hz
  have htup : ∀ (x : D) (v : Value) (b : Bool),VR w ρ H x v→VR w ρ H (.tup [x,.bool b]) (.tuple #[v,.bool b]):=by
    intro x v b hx
    have hv : VL w ρ H [x,.bool b] [v,.bool b]:=.cons hx (.cons (.bool _) .nil)
    exact .tup [x,.bool b] [v,.bool b] rfl (fun j d v=>hv.get)
  have hif : ∀ (t' : TypeId) (u : Value),(Instr.typeAssert (.iface t' u) xt t true).run P w = .ok (if t' = t then .tuple #[u,.bool true] else .tuple #[zv,.bool false]) w:=by
    intro t' u
    unfold Instr.typeAssert
    simp only [Sem.run_bind,run_underlying hu,Result.andThen_ok]
    cases td<;>first | exact absurd rfl (hnot _) | (simp only [if_true]; split<;>rename_i he<;>simp [he,hzrun,Sem.run_bind])
  have hif2 : ∀ (u : Value),(Instr.typeAssert (.iface t u) xt t false).run P w = .ok u w:=by
    intro u
    unfold Instr.typeAssert
    simp only [Sem.run_bind,run_underlying hu,Result.andThen_ok]
    cases td<;>first | exact absurd rfl (hnot _) | simp
  have hni : (Instr.typeAssert .nilIface xt t true).run P w = .ok (.tuple #[zv,.bool false]) w:=by
    unfold Instr.typeAssert
    simp only [Sem.run_bind,run_underlying hu,Result.andThen_ok]
    cases td<;>first | exact absurd rfl (hnot _) | simp [hzrun,Sem.run_bind]
  unfold pop at h
  split at h<;>simp only [reduceCtorEq,List.cons.injEq,and_true,LOp.tass.injEq] at *
  · rename_i t1 z1 ok1 t' d hop heq
    obtain ⟨rfl,rfl,rfl⟩:=hop
    subst heq
    cases hx with
    | ifc _ _ u hf hv hxx =>
    by_cases he : t' = t
    · subst he
      rw [if_pos rfl] at h
      simp only [Oi] at h
      subst h
      cases ok
      · exact ⟨_,hif2 _,hxx⟩
      · exact ⟨_,by rw [hif,if_pos rfl],htup _ _ _ hxx⟩
    · rw [if_neg he] at h
      cases ok
      · simp at h
      · simp only [if_true, Oi] at h
        subst h
        exact ⟨_,by rw [hif,if_neg he],htup _ _ _ hzcell⟩
  · rename_i t1 z1 ok1 t' d hop heq
    obtain ⟨rfl,rfl,rfl⟩:=hop
    subst heq
    cases hx with
    | ifr _ _ u hv hxx =>
    by_cases he : t' = t
    · subst he
      rw [if_pos rfl] at h
      simp only [Oi] at h
      subst h
      cases ok
      · exact ⟨_,hif2 _,hxx⟩
      · exact ⟨_,by rw [hif,if_pos rfl],htup _ _ _ hxx⟩
    · rw [if_neg he] at h
      cases ok
      · simp at h
      · simp only [if_true, Oi] at h
        subst h
        exact ⟨_,by rw [hif,if_neg he],htup _ _ _ hzcell⟩
  · rename_i t1 z1 hop heq
    obtain ⟨rfl,rfl,rfl⟩:=hop
    subst heq
    cases hx
    simp only [Oi] at h
    subst h
    exact ⟨_,hni,htup _ _ _ hzcell⟩
set_option maxHeartbeats 8000000 in
theorem aop_ok {kd : Kd} {o : Oper} {l : LOp} {xs : List Operand} {ev : Operand → Value} {ds : List D} {r : D} {S' : St} {wr : Bool} (hevf : ∀ f, ev (.func f) = .func (.func f) #[] #[]) (hlow : Nr P kd o = some (l, xs)) (hv : VL w ρ S.heap ds (xs.map ev)) (hr : Rel w ρ S.heap) (h : aop l ds S = some (r, S', wr)) :
    Does P w ρ S ev o r S' wr:=by
  obtain ⟨odst,oop,oty,opos,oafter,oguard⟩:=o
  unfold Nr at hlow
  simp only at hlow
  split at hlow
  case h_1 x =>
    simp only [Oi,Pi_] at hlow
    obtain ⟨rfl,rfl⟩:=hlow
    cases hv with | cons h1 t1=>cases t1 with | nil =>
    simp only [aop,LOp.loud,pop,Bool.false_eq_true,if_false,Option.map_some,Oi,Pi_] at h
    obtain ⟨rfl,rfl,rfl⟩:=h
    exact ⟨_,_,w,rfl,.inl rfl,Ta.pure hr h1⟩
  case h_2 x =>
    simp only [Oi,Pi_] at hlow
    obtain ⟨rfl,rfl⟩:=hlow
    cases hv with | cons h1 t1=>cases t1 with | nil =>
    simp only [aop,LOp.loud,pop,Bool.false_eq_true,if_false,Option.map_some,Oi,Pi_] at h
    obtain ⟨rfl,rfl,rfl⟩:=h
    exact ⟨_,_,w,rfl,.inl rfl,Ta.pure hr h1⟩
  case h_3 c a b =>
    simp only [Oi,Pi_] at hlow
    obtain ⟨rfl,rfl⟩:=hlow
    cases hv with | cons h1 t1=>cases t1 with | cons h2 t2=>cases t2 with | cons h3 t3=>cases t3 with | nil =>
    rename_i d1 d2 d3
    cases d1<;>simp only [aop,LOp.loud,pop,Bool.false_eq_true,if_false,Option.map_some,Option.map_none,reduceCtorEq] at h
    rename_i bb
    simp only [Oi,Pi_] at h
    obtain ⟨rfl,rfl,rfl⟩:=h
    generalize hc : ev c = vc at h1
    cases h1
    cases bb
    · exact ⟨_,_,w,by simp [execOp,hc,asBool],.inl rfl,Ta.pure hr h3⟩
    · exact ⟨_,_,w,by simp [execOp,hc,asBool],.inl rfl,Ta.pure hr h2⟩
  case h_4 op t x y ty =>
    have key : l = .bin op→xs = [x,y]→Does P w ρ S ev ⟨odst,.binOp op t x y ty,oty,opos,oafter,oguard⟩ r S' wr:=by
      rintro rfl rfl
      cases hv with | cons h1 t1=>cases t1 with | cons h2 t2=>cases t2 with | nil =>
      simp only [aop,LOp.loud,pop,Bool.false_eq_true,if_false,Om,Pi_] at h
      obtain ⟨r',hb,rfl,rfl,rfl⟩:=h
      exact Does.pure hr rfl (bin_ok h1 h2 hb)
    split at hlow
    · rename_i hop
      split at hlow
      · rename_i hbt
        simp only [Oi,Pi_] at hlow
        obtain ⟨rfl,rfl⟩:=hlow
        cases hv with | cons h1 t1=>cases t1 with | cons h2 t2=>cases t2 with | nil =>
        rename_i d1 d2
        cases d1<;>cases d2<;>simp only [aop,LOp.loud,pop,Bool.false_eq_true,if_false,Option.map_some,Option.map_none,reduceCtorEq] at h
        simp only [Oi,Pi_] at h
        obtain ⟨rfl,rfl,rfl⟩:=h
        generalize hx : ev x = vx at h1
        generalize hy : ev y = vy at h2
        cases h1
        cases h2
        refine Does.pure (s:=(do eqGuard op t x y (ev x) (ev y); binOp op t (ev x) (ev y))) hr rfl ?_
        rw [hx,hy]
        exact eqb_ok hop rfl (boolT_iff.1 hbt)
      · split at hlow
        · simp only [Oi, Pi_] at hlow
          exact key hlow.1.symm hlow.2.symm
        · split at hlow
          · rename_i fam hfam
            split at hlow
            · split at hlow
              · rename_i e hpt
                simp only [Om,Pi_] at hlow
                obtain ⟨n,hn,rfl,rfl⟩:=hlow
                cases hv with | cons h1 t1=>cases t1 with | cons h2 t2=>cases t2 with | nil =>
                simp only [aop,LOp.loud,lop,if_true,Om,Pi_] at h
                obtain ⟨b,hb,rfl,rfl,rfl⟩:=h
                exact Does.pure hr rfl (eqp_ok hop hpt hn h1 h2 hb)
              · simp at hlow
            · rename_i hf1
              split at hlow
              · simp at hlow
              · rename_i hf4
                simp only [Oi,Pi_] at hlow
                obtain ⟨rfl,rfl⟩:=hlow
                cases hv with | cons h1 t1=>cases t1 with | cons h2 t2=>cases t2 with | nil =>
                simp only [aop,LOp.loud,pop,Bool.false_eq_true,if_false,Om,Pi_] at h
                obtain ⟨_,⟨b,hb,rfl⟩,rfl,rfl,rfl⟩:=h
                refine Does.pure hr rfl (eqnil_ok hop hfam hf1 (fun h4=>?_) h1 h2 hb)
                cases hcx : isConst x with
                | true=>exact .inl rfl
                | false =>
                  cases hcy : isConst y with
                  | true=>exact .inr rfl
                  | false=>exact absurd ⟨h4,hcx,hcy⟩ hf4
          · split at hlow
            · rename_i hagg
              split at hlow
              · rename_i Tm hfl
                simp only [Oi,Pi_] at hlow
                obtain ⟨rfl,rfl⟩:=hlow
                cases hv with | cons h1 t1=>cases t1 with | cons h2 t2=>cases t2 with | nil =>
                rename_i d1 d2
                cases d1<;>cases d2<;>simp only [aop,LOp.loud,pop,Bool.false_eq_true,if_false,Option.map_some,Option.map_none,reduceCtorEq] at h
                simp only [Om,Pi_] at h
                obtain ⟨_,⟨q,hq,rfl⟩,rfl,rfl,rfl⟩:=h
                exact Does.pure (s:=(do eqGuard op t x y (ev x) (ev y); binOp op t (ev x) (ev y))) hr rfl (eqs_ok hop rfl hagg hfl h1 h2 hq)
              · simp at hlow
            · simp at hlow
    · simp only [Oi, Pi_] at hlow
      exact key hlow.1.symm hlow.2.symm
  case h_5 op t x =>
    simp only [Oi,Pi_] at hlow
    obtain ⟨rfl,rfl⟩:=hlow
    cases hv with | cons h1 t1=>cases t1 with | nil =>
    simp only [aop,LOp.loud,pop,Bool.false_eq_true,if_false,Om,Pi_] at h
    obtain ⟨r',hb,rfl,rfl,rfl⟩:=h
    exact Does.pure hr rfl (un_ok h1 hb)
  case h_6 e =>
    split at hlow
    · rename_i z n hz hn
      split at hlow
      · rename_i hl
        simp only [Oi,Pi_] at hlow
        obtain ⟨rfl,rfl⟩:=hlow
        cases hv
        simp only [aop,LOp.loud,lop,if_true,Oi,Pi_] at h
        obtain ⟨rfl,rfl,rfl⟩:=h
        exact Does.val rfl (alloc_ok hr hz hn hl)
      · simp at hlow
    · simp at hlow
  case h_7 e x =>
    cases hbx : kd.bx odst with
    | false =>
      rw [if_neg (by rw [hbx]; exact Bool.false_ne_true)] at hlow
      simp only [Om,Pi_] at hlow
      obtain ⟨n,hn,rfl,rfl⟩:=hlow
      cases hv with | cons h1 t1=>cases t1 with | nil =>
      simp only [aop,LOp.loud,lop,if_true] at h
      split at h
      · rename_i hc
        simp only [Bool.and_eq_true,beq_iff_eq] at hc
        simp only [Oi,Pi_] at h
        obtain ⟨rfl,rfl,rfl⟩:=h
        exact Does.val rfl (box_ok hr hn h1 hc.1 hc.2)
      · simp at h
    | true =>
      rw [if_pos hbx] at hlow
      simp only [Om,Pi_] at hlow
      obtain ⟨n,hn,rfl,rfl⟩:=hlow
      cases hv with | cons h1 t1=>cases t1 with | nil =>
      simp only [aop,LOp.loud,lop,if_true] at h
      split at h
      · rename_i hc
        simp only [Bool.and_eq_true,beq_iff_eq] at hc
        simp only [Oi,Pi_] at h
        obtain ⟨rfl,rfl,rfl⟩:=h
        exact Does.val rfl (boxc_ok hr h1 hc.1.1 hc.2)
      · simp at h
  case h_8 t ps =>
    split at hlow
    · rename_i z pl hz hpl
      split at hlow
      · rename_i places hp
        simp only [Oi,Pi_] at hlow
        obtain ⟨rfl,rfl⟩:=hlow
        simp only [aop,LOp.loud,pop,Bool.false_eq_true,if_false,Om,Pi_] at h
        obtain ⟨_,⟨cs,hb,rfl⟩,rfl,rfl,rfl⟩:=h
        refine Does.pure (s:=Instr.build t (ps.map fun (i,x)=>(i,ev x))) hr rfl ?_
        rw [parts_zip]
        exact build_ok hz hpl hp hv (by simp) hb
      · simp at hlow
    · simp at hlow
  case h_9 t len ps =>
    split at hlow
    · rename_i e he
      split at hlow
      · rename_i z n hz hn
        split at hlow
        · rename_i hl
          simp only [Oi,Pi_] at hlow
          obtain ⟨rfl,rfl⟩:=hlow
          simp only [aop,LOp.loud,lop,if_true] at h
          refine Does.val (s:=Instr.buildSlice t len (ps.map fun (i,x)=>(i,ev x))) rfl ?_
          rw [parts_zip]
          generalize (if kd.bx odst = true then 1 else kd.of e) = kk at h
          by_cases hk0 : kk = 0
          · rw [if_pos hk0] at h
            cases hf : Dw (List.replicate len z) n (ps.toList.map (·.1)) ds with
            | none=>rw [hf] at h; simp at h
            | some rs =>
              rw [hf] at h
              simp only [Oi,Pi_] at h
              obtain ⟨rfl,rfl,rfl⟩:=h
              exact bslice0_ok hr (sliceT_iff.1 he) hz hn hl.1 hl.2 hv (by simp) hf
          · rw [if_neg hk0] at h
            cases hys : Ar S.heap.length S.heap ds with
            | none=>rw [hys] at h; simp at h
            | some ys =>
              rw [hys] at h
              simp only at h
              cases hrs : Cw (List.replicate len z) n (ps.toList.map (·.1)) ys with
              | none=>rw [hrs] at h; simp at h
              | some rs =>
                rw [hrs] at h
                exact bslice_ok hr (sliceT_iff.1 he) hz hn hl.1 hl.2 hv (by simp) hys hrs h
        · simp at hlow
      · simp at hlow
    · simp at hlow
  case h_10 t a =>
    simp only [Om,Pi_] at hlow
    obtain ⟨n,hn,rfl,rfl⟩:=hlow
    cases hv with | cons h1 t1=>cases t1 with | nil =>
    simp only [aop,LOp.loud,lop,if_true,Om,Pi_] at h
    obtain ⟨r',hb,rfl,rfl,rfl⟩:=h
    exact Does.pure hr rfl (load_ok hr h1 hb hn rfl)
  case h_11 t a x =>
    simp only [Om,Pi_] at hlow
    obtain ⟨n,hn,rfl,rfl⟩:=hlow
    cases hv with | cons h1 t1=>cases t1 with | cons h2 t2=>cases t2 with | nil =>
    simp only [aop,LOp.loud,lop,if_true,Om,Pi_] at h
    obtain ⟨S2,hb,rfl,rfl,rfl⟩:=h
    obtain ⟨w',h3,h4⟩:=store_ok hr h1 h2 hn hb
    exact ⟨.skip,undef,w',by simp [execOp,h3],.inr ⟨rfl,rfl⟩,h4⟩
  case h_12 x =>
    simp only [Oi,Pi_] at hlow
    obtain ⟨rfl,rfl⟩:=hlow
    cases hv with | cons h1 t1=>cases t1 with | nil =>
    rename_i d1
    generalize hx : ev x = vx at h1
    cases d1<;>simp only [aop,LOp.loud,pop,Bool.false_eq_true,if_false,Option.map_some,Option.map_none,reduceCtorEq] at h
    all_goals
      simp only [Oi,Pi_] at h
      obtain ⟨rfl,rfl,rfl⟩:=h
      have h1':=h1
      cases h1
      exact ⟨_,_,w,by simp [execOp,hx],.inl rfl,Ta.pure hr h1'⟩
  case h_13 s x f =>
    split at hlow
    · rename_i fd hfd
      simp only [Om,Pi_] at hlow
      obtain ⟨n,hn,rfl,rfl⟩:=hlow
      cases hv with | cons h1 t1=>cases t1 with | nil =>
      simp only [aop,LOp.loud,pop,Bool.false_eq_true,if_false,Om,Pi_] at h
      obtain ⟨r',hb,rfl,rfl,rfl⟩:=h
      obtain ⟨fs,hu,hf⟩:=Rz hfd
      exact Does.pure hr rfl (faddr_ok hu hf hn h1 hb)
    · simp at hlow
  case h_14 s x f =>
    split at hlow
    · rename_i fd hfd
      simp only [Om,Pi_] at hlow
      obtain ⟨n,hn,rfl,rfl⟩:=hlow
      cases hv with | cons h1 t1=>cases t1 with | nil =>
      rename_i d1
      cases d1<;>simp only [aop,LOp.loud,pop,Bool.false_eq_true,if_false,Option.map_some,Option.map_none,reduceCtorEq] at h
      simp only [Om,Pi_] at h
      obtain ⟨r',hb,rfl,rfl,rfl⟩:=h
      obtain ⟨fs,hu,hf⟩:=Rz hfd
      generalize hx : ev x = vx at h1
      refine Does.pure (s:=Instr.field s (ev x) f) hr rfl ?_
      rw [hx]
      cases h1 with
      | agg _ vs hl hc hh =>
        obtain ⟨v,h2,h3⟩:=Lt (P:=P) hl hc hh hb hn rfl
        exact ⟨v,by simp [Instr.field,run_underlying hu,hf,asAgg,h2],h3⟩
    · simp at hlow
  case h_15 t x i =>
    split at hlow
    · rename_i e he
      simp only [Om,Pi_] at hlow
      obtain ⟨n,hn,rfl,rfl⟩:=hlow
      cases hv with | cons h1 t1=>cases t1 with | cons h2 t2=>cases t2 with | nil =>
      simp only [aop,LOp.loud,lop,if_true,Om,Pi_] at h
      obtain ⟨r',hb,rfl,rfl,rfl⟩:=h
      exact Does.pure hr rfl (iaddr_ok (sliceT_iff.1 he) hn h1 h2 hb)
    · split at hlow
      · rename_i len e he
        simp only [Om,Pi_] at hlow
        obtain ⟨n,hn,rfl,rfl⟩:=hlow
        cases hv with | cons h1 t1=>cases t1 with | cons h2 t2=>cases t2 with | nil =>
        simp only [aop,LOp.loud,pop,Bool.false_eq_true,if_false,Om,Pi_] at h
        obtain ⟨r',hb,rfl,rfl,rfl⟩:=h
        exact Does.pure hr rfl (aaddr_ok (arrayT_iff.1 he) hn h1 h2 hb)
      · simp at hlow
  case h_16 t x i =>
    split at hlow
    · rename_i hs
      simp only [Oi,Pi_] at hlow
      obtain ⟨rfl,rfl⟩:=hlow
      cases hv with | cons h1 t1=>cases t1 with | cons h2 t2=>cases t2 with | nil =>
      simp only [aop,LOp.loud,pop,Bool.false_eq_true,if_false,Om,Pi_] at h
      obtain ⟨r',hb,rfl,rfl,rfl⟩:=h
      exact Does.pure hr rfl (index_ok hs h1 h2 hb)
    · split at hlow
      · rename_i len e he
        simp only [Om,Pi_] at hlow
        obtain ⟨n,hn,rfl,rfl⟩:=hlow
        cases hv with | cons h1 t1=>cases t1 with | cons h2 t2=>cases t2 with | nil =>
        rename_i d1 d2
        cases d1<;>cases d2<;>simp only [aop,LOp.loud,pop,Bool.false_eq_true,if_false,Option.map_some,Option.map_none,reduceCtorEq] at h
        split at h
        · rename_i hj
          simp only [Om,Pi_] at h
          obtain ⟨r',hb,rfl,rfl,rfl⟩:=h
          generalize hx : ev x = vx at h1
          generalize hi : ev i = vi at h2
          cases h2
          refine Does.pure (s:=Instr.index t (ev x) (ev i)) hr rfl ?_
          rw [hx,hi]
          cases h1 with
          | agg _ vs hl hc hh =>
            obtain ⟨v,h2,h3⟩:=Lt (P:=P) hl hc hh hb hn rfl
            exact ⟨v,by simp [Instr.index,asIntOf,run_underlying (arrayT_iff.1 he),hj,run_sizeOf hn,h2],h3⟩
        · simp at h
      · simp at hlow
  case h_17 t x lo hi mx =>
    split at hlow
    · rename_i hs
      simp only [Oi,Pi_] at hlow
      obtain ⟨rfl,rfl⟩:=hlow
      cases hv with | cons h1 t1 =>
      rename_i d1 ds
      generalize hx : ev x = vx at h1
      cases d1<;>simp only [aop,LOp.loud,pop,Bool.false_eq_true,if_false,Option.map_some,Option.map_none,reduceCtorEq] at h
      cases h1
      split at h
      · rename_i a b hsa
        simp only [Om,Pi_] at h
        obtain ⟨_,⟨⟨l,hh⟩,hb,rfl⟩,rfl,rfl,rfl⟩:=h
        obtain ⟨o1,o2,o3,_⟩:=vo_of t1 hsa
        refine Does.pure (s:=Instr.sliceAt t (ev x) (lo.map ev) (hi.map ev) (mx.map ev)) hr rfl ?_
        generalize mx.map ev = vm at o3
        cases o3
        rw [hx]
        exact ⟨_,sliceStr_ok (strT_iff.1 hs) o1 o2 hb,.str _⟩
      · simp at h
    · split at hlow
      · rename_i e he
        simp only [Om,Pi_] at hlow
        obtain ⟨n,hn,rfl,rfl⟩:=hlow
        cases hv with | cons h1 t1 =>
        simp only [aop,LOp.loud,lop,if_true] at h
        split at h
        · rename_i a b m hsa
          simp only [Om,Pi_] at h
          obtain ⟨r',hb,rfl,rfl,rfl⟩:=h
          obtain ⟨o1,o2,o3,o4⟩:=vo_of t1 hsa
          exact Does.pure hr rfl (slice_ok (sliceT_iff.1 he) hn h1 o1 o2 o3 o4 hb)
        · simp at h
      · simp at hlow
  case h_18 x i =>
    simp only [Oi,Pi_] at hlow
    obtain ⟨rfl,rfl⟩:=hlow
    cases hv with | cons h1 t1=>cases t1 with | nil =>
    rename_i d1
    cases d1<;>simp only [aop,LOp.loud,pop,Bool.false_eq_true,if_false,Option.map_some,Option.map_none,reduceCtorEq] at h
    simp only [Om,Pi_] at h
    obtain ⟨r',hb,rfl,rfl,rfl⟩:=h
    exact Does.pure hr rfl (extract_ok h1 hb)
  case h_19 t l c =>
    split at hlow
    · rename_i e he
      split at hlow
      · rename_i i z n hi hz hn
        split at hlow
        · rename_i hl
          simp only [Oi,Pi_] at hlow
          obtain ⟨rfl,rfl⟩:=hlow
          cases hv with | cons h1 t1=>cases t1 with | cons h2 t2=>cases t2 with | nil =>
          rename_i d1 d2
          generalize hvl : ev l = vl at h1
          generalize hvc : ev c = vc at h2
          cases d1<;>cases d2<;>simp only [aop,LOp.loud,lop,if_true,reduceCtorEq] at h
          cases h1
          cases h2
          refine Does.val (s:=Instr.makeSlice t (ev l) (ev c)) rfl ?_
          rw [hvl,hvc]
          exact mkslice_ok hr (sliceT_iff.1 he) hi hn hz hl.1 hl.2 (kd_of kd _) h
        · simp at hlow
      · simp at hlow
    · simp at hlow
  case h_20 t rr =>
    split at hlow
    · rename_i hn
      simp only [Oi,Pi_] at hlow
      obtain ⟨rfl,rfl⟩:=hlow
      cases hv
      simp only [aop,LOp.loud,lop,if_true,Oi,Pi_] at h
      obtain ⟨rfl,rfl,rfl⟩:=h
      have : rr = none:=by simpa using hn
      subst this
      exact Does.val rfl (mkmap_ok hr)
    · simp at hlow
  case h_21 t m k v =>
    split at hlow
    · rename_i kt e hmt
      split at hlow
      · rename_i kf hkf
        simp only [Oi,Pi_] at hlow
        obtain ⟨rfl,rfl⟩:=hlow
        cases hv with | cons h1 t1=>cases t1 with | cons h2 t2=>cases t2 with | cons h3 t3=>cases t3 with | nil =>
        simp only [aop,LOp.loud,lop,if_true,Om,Pi_] at h
        obtain ⟨S2,hb,rfl,rfl,rfl⟩:=h
        obtain ⟨w',h4,h5⟩:=mapset_ok hr (mapT_iff.1 hmt) hkf h1 h2 h3 hb
        exact ⟨.skip,undef,w',by simp [execOp,h4],.inr ⟨rfl,rfl⟩,h5⟩
      · split at hlow
        · rename_i hag
          simp only [Om,Pi_] at hlow
          obtain ⟨Tm,hfm,rfl,rfl⟩:=hlow
          cases hv with | cons h1 t1=>cases t1 with | cons h2 t2=>cases t2 with | cons h3 t3=>cases t3 with | nil =>
          simp only [aop,LOp.loud,lop,if_true,Om,Pi_] at h
          obtain ⟨S2,hb,rfl,rfl,rfl⟩:=h
          obtain ⟨w',h4,h5⟩:=mapsetS_ok hr (mapT_iff.1 hmt) hag hfm h1 h2 h3 hb
          exact ⟨.skip,undef,w',by simp [execOp,h4],.inr ⟨rfl,rfl⟩,h5⟩
        · simp at hlow
    · simp at hlow
  case h_22 t m k v =>
    split at hlow
    · rename_i kt e hmt
      split at hlow
      · rename_i kf hkf
        simp only [Oi,Pi_] at hlow
        obtain ⟨rfl,rfl⟩:=hlow
        cases hv with | cons h1 t1=>cases t1 with | cons h2 t2=>cases t2 with | cons h3 t3=>cases t3 with | nil =>
        simp only [aop,LOp.loud,lop,if_true,Om,Pi_] at h
        obtain ⟨S2,hb,rfl,rfl,rfl⟩:=h
        obtain ⟨w',h4,h5⟩:=mapset_ok hr (mapT_iff.1 hmt) hkf h1 h2 h3 hb
        exact ⟨.skip,undef,w',by simp [execOp,h4],.inr ⟨rfl,rfl⟩,h5⟩
      · split at hlow
        · rename_i hag
          simp only [Om,Pi_] at hlow
          obtain ⟨Tm,hfm,rfl,rfl⟩:=hlow
          cases hv with | cons h1 t1=>cases t1 with | cons h2 t2=>cases t2 with | cons h3 t3=>cases t3 with | nil =>
          simp only [aop,LOp.loud,lop,if_true,Om,Pi_] at h
          obtain ⟨S2,hb,rfl,rfl,rfl⟩:=h
          obtain ⟨w',h4,h5⟩:=mapsetS_ok hr (mapT_iff.1 hmt) hag hfm h1 h2 h3 hb
          exact ⟨.skip,undef,w',by simp [execOp,h4],.inr ⟨rfl,rfl⟩,h5⟩
        · simp at hlow
    · simp at hlow
  case h_23 t m k ok =>
    split at hlow
    · rename_i kt e hmt
      split at hlow
      · rename_i z kf hz hkf
        simp only [Oi,Pi_] at hlow
        obtain ⟨rfl,rfl⟩:=hlow
        cases hv with | cons h1 t1=>cases t1 with | cons h2 t2=>cases t2 with | nil =>
        simp only [aop,LOp.loud,lop,if_true,Om,Pi_] at h
        obtain ⟨r',hb,rfl,rfl,rfl⟩:=h
        exact Does.pure hr rfl (mapget_ok hr (mapT_iff.1 hmt) hkf hz h1 h2 hb)
      · rename_i z hz hkn
        split at hlow
        · rename_i hag
          simp only [Om,Pi_] at hlow
          obtain ⟨Tm,hfm,rfl,rfl⟩:=hlow
          cases hv with | cons h1 t1=>cases t1 with | cons h2 t2=>cases t2 with | nil =>
          simp only [aop,LOp.loud,lop,if_true,Om,Pi_] at h
          obtain ⟨r',hb,rfl,rfl,rfl⟩:=h
          exact Does.pure hr rfl (mapgetS_ok hr (mapT_iff.1 hmt) hag hfm hz h1 h2 hb)
        · simp at hlow
      · simp at hlow
    · simp at hlow
  case h_24 f first caps =>
    split at hlow
    · rename_i hf
      simp only [Oi,Pi_] at hlow
      obtain ⟨rfl,rfl⟩:=hlow
      simp only [aop,LOp.loud,pop,Bool.false_eq_true,if_false,Option.map_some,Oi,Pi_] at h
      obtain ⟨rfl,rfl,rfl⟩:=h
      have hf0 : first = #[]:=by simpa using hf
      subst hf0
      refine Does.pure (s:=Instr.makeFunc (.func f) (#[].map ev) (caps.map ev)) hr rfl ⟨.func (.func f) #[] (caps.map ev),by simp [Instr.makeFunc],?_⟩
      have:=VR.fn (w:=w) (ρ:=ρ) (H:=S.heap) f ds (caps.toList.map ev) hv.len (fun j d v=>hv.get)
      have he : (caps.toList.map ev).toArray = caps.map ev:=by apply Array.ext'; simp
      rw [he] at this
      exact this
    · simp at hlow
  case h_25 s d x =>
    split at hlow
    · rename_i k1 k hk1 hk
      simp only [Oi,Pi_] at hlow
      obtain ⟨rfl,rfl⟩:=hlow
      cases hv with | cons h1 t1=>cases t1 with | nil =>
      rename_i d1
      cases d1<;>simp only [aop,LOp.loud,pop,Bool.false_eq_true,if_false,Option.map_some,Option.map_none,reduceCtorEq] at h
      simp only [Oi,Pi_] at h
      obtain ⟨rfl,rfl,rfl⟩:=h
      generalize hx : ev x = vx at h1
      cases h1
      refine Does.pure (s:=convert s d (ev x)) hr rfl ⟨.int k _,?_,.int _ _⟩
      rw [hx]
      simp [convert,run_underlying (intT_iff.1 hk1),run_underlying (intT_iff.1 hk),Conv.intToInt]
    · split at hlow
      · rename_i hss
        simp only [Bool.and_eq_true] at hss
        simp only [Oi,Pi_] at hlow
        obtain ⟨rfl,rfl⟩:=hlow
        cases hv with | cons h1 t1=>cases t1 with | nil =>
        rename_i d1
        cases d1<;>simp only [aop,LOp.loud,pop,Bool.false_eq_true,if_false,Option.map_some,Option.map_none,reduceCtorEq] at h
        simp only [Oi,Pi_] at h
        obtain ⟨rfl,rfl,rfl⟩:=h
        generalize hx : ev x = vx at h1
        cases h1
        refine Does.pure (s:=convert s d (ev x)) hr rfl ⟨.string _,?_,.str _⟩
        rw [hx]
        simp [convert,run_underlying (strT_iff.1 hss.1),run_underlying (strT_iff.1 hss.2)]
      · split at hlow
        · rename_i hud
          split at hlow
          · rename_i t hpt
            simp only [Om,Pi_] at hlow
            obtain ⟨n,hn,rfl,rfl⟩:=hlow
            cases hv with | cons h1 t1=>cases t1 with | nil =>
            simp only [aop,LOp.loud,lop,if_true,Om,Pi_] at h
            obtain ⟨r',hb,rfl,rfl,rfl⟩:=h
            obtain ⟨h3,h4⟩:=toU_ok hr hpt hud hn h1 hb
            exact Does.pure (s:=convert s d (ev x)) hr rfl ⟨_,h3,h4⟩
          · simp at hlow
        · split at hlow
          · rename_i hus
            split at hlow
            · rename_i t hpt
              simp only [Om,Pi_] at hlow
              obtain ⟨n,hn,rfl,rfl⟩:=hlow
              cases hv with | cons h1 t1=>cases t1 with | nil =>
              simp only [aop,LOp.loud,lop,if_true,Om,Pi_] at h
              obtain ⟨r',hb,rfl,rfl,rfl⟩:=h
              obtain ⟨h3,h4⟩:=ofU_ok hr hus hpt hn h1 hb
              exact Does.pure (s:=convert s d (ev x)) hr rfl ⟨_,h3,h4⟩
            · simp at hlow
          · split at hlow
            · rename_i e e' hse hde
              split at hlow
              · rename_i hc
                obtain ⟨rfl,hc1,hc2⟩:=hc
                simp only [Oi,Pi_] at hlow
                obtain ⟨rfl,rfl⟩:=hlow
                cases hv with | cons h1 t1=>cases t1 with | nil =>
                simp only [aop,LOp.loud,lop,if_true] at h
                exact Does.val (s:=convert s s (ev x)) rfl (strsh_ok hr (sliceT_iff.1 hse) (intT_iff.1 hc1) h1 h)
              · simp at hlow
            · rename_i e hse hde
              split at hlow
              · rename_i hc
                simp only [Bool.and_eq_true,decide_eq_true_eq,beq_iff_eq] at hc
                simp only [Oi,Pi_] at hlow
                obtain ⟨rfl,rfl⟩:=hlow
                cases hv with | cons h1 t1=>cases t1 with | nil =>
                simp only [aop,LOp.loud,lop,if_true] at h
                split at h
                · rename_i rows hrows
                  simp only [Om,Pi_] at h
                  obtain ⟨b,hb,rfl,rfl,rfl⟩:=h
                  exact Does.pure hr rfl ⟨_,bstr_ok hr (sliceT_iff.1 hse) (intT_iff.1 hc.1.1) (strT_iff.1 hc.1.2) h1 hrows hb,.str _⟩
                · simp at h
              · simp at hlow
            · rename_i e hse hde
              split at hlow
              · rename_i hc
                simp only [Bool.and_eq_true,decide_eq_true_eq,beq_iff_eq] at hc
                simp only [Oi,Pi_] at hlow
                obtain ⟨rfl,rfl⟩:=hlow
                cases hv with | cons h1 t1=>cases t1 with | nil =>
                rename_i d1
                generalize hx : ev x = vx at h1
                cases d1<;>simp only [aop,LOp.loud,lop,if_true,reduceCtorEq] at h
                cases h1
                simp only [Oi,Pi_] at h
                obtain ⟨rfl,rfl,rfl⟩:=h
                refine Does.val (s:=convert s d (ev x)) rfl ?_
                rw [hx]
                exact strb_ok hr (strT_iff.1 hc.1.2) (sliceT_iff.1 hde) (intT_iff.1 hc.1.1)
              · simp at hlow
            · simp at hlow
  case h_26 t x =>
    split at hlow
    · simp at hlow
    · simp at hlow
    · rename_i td hnot hu
      simp only [Oi,Pi_] at hlow
      obtain ⟨rfl,rfl⟩:=hlow
      cases hv with | cons h1 t1=>cases t1 with | nil =>
      simp only [aop,LOp.loud,pop,Bool.false_eq_true,if_false] at h
      split at h
      · rename_i hval
        simp only [Option.map_some,Oi,Pi_] at h
        obtain ⟨rfl,rfl,rfl⟩:=h
        refine Does.pure hr (s:=Instr.makeInterface t (ev x)) rfl ⟨.iface t (ev x),?_,?_⟩
        · simp only [Instr.makeInterface, Sem.run_bind, run_underlying hu, Result.andThen_ok]
          cases td<;>first | rfl | exact absurd rfl (hnot _)
        · split
          · rename_i hf; exact .ifc t _ _ hf hval h1
          · exact .ifr t _ _ hval h1
      · simp at h
  case h_27 x xt t ok =>
    split at hlow
    · simp at hlow
    · simp at hlow
    · rename_i td hnot hu
      simp only [Om,Pi_] at hlow
      obtain ⟨z,hz,rfl,rfl⟩:=hlow
      cases hv with | cons h1 t1=>cases t1 with | nil =>
      simp only [aop,LOp.loud,Bool.false_eq_true,if_false,Om,Pi_] at h
      obtain ⟨r',hp,rfl,rfl,rfl⟩:=h
      exact Does.pure hr (s:=Instr.typeAssert (ev x) xt t ok) rfl (tass_ok hu (fun m hm=>hnot m hm) hz h1 hp)
  case h_28 c =>
    obtain ⟨callee,args,argTypes⟩:=c
    have run_bi : ∀ (bi : Builtin) (s : Sem Value),(∀ k,builtin bi argTypes oty k (args.map ev) = (do pure (.value (← s))))→callee = .builtin bi→(∃ v w',s.run P w = .ok v w'∧Ta w ρ S r S' wr v w') →
        Does P w ρ S ev ⟨odst,.call ⟨callee,args,argTypes⟩,oty,opos,oafter,oguard⟩ r S' wr:=by
      rintro bi s hs rfl hh
      refine Does.val (s:=s) ?_ hh
      simp only [execOp,resolve,invoke]
      rw [← hs (args.map fun | .const _=>true | _=>false)]
      rfl
    simp only at hlow
    split at hlow
    · simp only [Oi, Pi_] at hlow
      obtain ⟨rfl,rfl⟩:=hlow
      simp [aop,lop,LOp.loud] at h
    · -- a function
      rename_i f
      split at hlow
      · rename_i fn hfn
        split at hlow
        · rename_i hbody
          split at hlow
          · rename_i hmz
            split at hlow
            · rename_i rt hrt
              split at hlow
              · rename_i e he
                split at hlow
                · rename_i hu8
                  simp only [Oi,Pi_] at hlow
                  obtain ⟨rfl,rfl⟩:=hlow
                  have he' : (args.toList.map ev).toArray = args.map ev:=by apply Array.ext'; simp
                  have hrt' : fn.resultTypes = #[rt]:=by apply Array.ext'; simpa using hrt
                  simp only [aop,LOp.loud,if_true] at h
                  obtain ⟨n,rfl,hn0,hn1,rfl,rfl,rfl⟩:=lop_mknz h
                  have hvs : args.map ev = #[.int .i64 n]:=by
                    rw [← he']
                    generalize args.toList.map ev = vs at hv
                    cases hv with
                    | cons h1 t1 =>
                    cases t1 with
                    | nil =>
                    cases h1
                    rfl
                  obtain ⟨v,w',h4,h5⟩:=mknz_ok (P:=P) fn.params hr (sliceT_iff.1 he) rfl hn0 hn1
                  refine ⟨.value v,v,w',?_,.inl rfl,h5⟩
                  have hh : (execOp ev ⟨odst,.call ⟨.value (.func f),args,argTypes⟩,oty,opos,oafter,oguard⟩).run P w = (callFunc f (args.map ev)).run P w:=by
                    simp [execOp,resolve,Deferred.ofValue,invoke,hevf]
                  rw [hh,hvs]
                  exact run_mknz hfn hbody hmz.1 hmz.2 hrt' h4
                · simp at hlow
              · simp at hlow
            · simp at hlow
          · split at hlow
            rotate_left
            · simp at hlow
            rename_i l' hl'
            simp only [Oi,Pi_] at hlow
            obtain ⟨rfl,rfl⟩:=hlow
            split at hl'
            · rename_i horig
              have he : (args.toList.map ev).toArray = args.map ev:=by apply Array.ext'; simp
              have run_x : ∀ (name : String) (g : Array Value → Sem Value), fn.name = name → (name == "runtime.NumGoroutine") = false → (Extern.allNextRows.lookup name = none ∧ Extern.allGenericRows.lookup name = none ∧ Extern.allTypedRows.lookup name = none ∧ Extern.allRows.lookup name = some g) →
                  (∃ v w',(g (args.map ev)).run P w = .ok v w'∧Ta w ρ S r S' wr v w')→Does P w ρ S ev ⟨odst,.call ⟨.value (.func f),args,argTypes⟩,oty,opos,oafter,oguard⟩ r S' wr:=by
                rintro name g h1 h2 h3 ⟨v,w',h4,h5⟩
                refine ⟨.value v,v,w',?_,.inl rfl,h5⟩
                have hh : (execOp ev ⟨odst,.call ⟨.value (.func f),args,argTypes⟩,oty,opos,oafter,oguard⟩).run P w = (callFunc f (args.map ev)).run P w:=by
                  simp [execOp,resolve,Deferred.ofValue,invoke,hevf]
                rw [hh]
                exact run_ext hfn hbody h1 horig h2 h3 h4
              unfold Jd at hl'
              split at hl'
              · rename_i hnm
                simp only [Oi] at hl'
                subst hl'
                refine run_x _ _ hnm (by decide) ext_idx ?_
                rw [← he]
                generalize args.toList.map ev = vs at hv
                cases hv with
                | nil=>simp [aop,LOp.loud,pop] at h
                | cons h1 t1 => cases t1 with
                  | nil=>simp [aop,LOp.loud,pop] at h
                  | cons h2 t2 => cases t2 with
                    | cons h3 t3=>simp [aop,LOp.loud,pop] at h
                    | nil =>
                      rename_i d1 v1 d2 v2
                      simp only [aop,LOp.loud,Bool.false_eq_true,if_false,Om,Pi_] at h
                      obtain ⟨r',hp,rfl,rfl,rfl⟩:=h
                      unfold pop at hp
                      split at hp<;>simp only [reduceCtorEq,List.cons.injEq,and_true,Oi] at *
                      rename_i s c heq
                      obtain ⟨rfl,rfl⟩:=heq
                      subst hp
                      cases h1; cases h2
                      exact ⟨_,w,idxb_run,Ta.pure hr (.int _ _)⟩
              · split at hl'
                · rename_i hnm
                  simp only [Oi] at hl'
                  subst hl'
                  refine run_x _ _ hnm (by decide) ext_cnt ?_
                  rw [← he]
                  generalize args.toList.map ev = vs at hv
                  cases hv with
                  | nil=>simp [aop,LOp.loud,pop] at h
                  | cons h1 t1 => cases t1 with
                    | nil=>simp [aop,LOp.loud,pop] at h
                    | cons h2 t2 => cases t2 with
                      | cons h3 t3=>simp [aop,LOp.loud,pop] at h
                      | nil =>
                        rename_i d1 v1 d2 v2
                        simp only [aop,LOp.loud,Bool.false_eq_true,if_false,Om,Pi_] at h
                        obtain ⟨r',hp,rfl,rfl,rfl⟩:=h
                        unfold pop at hp
                        split at hp<;>simp only [reduceCtorEq,List.cons.injEq,and_true,Oi] at *
                        rename_i s c heq
                        obtain ⟨rfl,rfl⟩:=heq
                        subst hp
                        cases h1; cases h2
                        exact ⟨_,w,cntb_run,Ta.pure hr (.int _ _)⟩
                · split at hl'
                  · rename_i hnm
                    simp only [Oi] at hl'
                    subst hl'
                    refine run_x _ _ hnm (by decide) ext_esc ?_
                    rw [← he]
                    generalize args.toList.map ev = vs at hv
                    cases hv with
                    | nil=>simp [aop,LOp.loud,pop] at h
                    | cons h1 t1 => cases t1 with
                      | cons h2 t2=>simp [aop,LOp.loud,pop] at h
                      | nil =>
                        simp only [aop,LOp.loud,pop,Bool.false_eq_true,if_false,Option.map_some,Oi,Pi_] at h
                        obtain ⟨rfl,rfl,rfl⟩:=h
                        exact ⟨_,w,rfl,Ta.pure hr h1⟩
                  · simp at hl'
            · simp at hl'
        · simp only [Oi, Pi_] at hlow
          obtain ⟨rfl,rfl⟩:=hlow
          simp [aop,lop,LOp.loud] at h
      · simp at hlow
    · simp only [Oi, Pi_] at hlow
      obtain ⟨rfl,rfl⟩:=hlow
      simp [aop,lop,LOp.loud] at h
    · -- len
      split at hlow
      · rename_i x t hargs htys
        have ha : args = #[x]:=by apply Array.ext'; simpa using hargs
        have hb : argTypes = #[t]:=by apply Array.ext'; simpa using htys
        subst ha hb
        split at hlow
        · rename_i hst
          simp only [Oi,Pi_] at hlow
          obtain ⟨rfl,rfl⟩:=hlow
          cases hv with | cons h1 t1=>cases t1 with | nil =>
          simp only [aop,LOp.loud,pop,Bool.false_eq_true,if_false,Om,Pi_] at h
          obtain ⟨r',hb,rfl,rfl,rfl⟩:=h
          have ht : (La P t = true∧P.underlying t = some .string) ∨ (La P t = false∧∃ e,P.underlying t = some (.slice e)):=by
            cases hs : La P t with
            | true=>exact .inl ⟨rfl,strT_iff.1 hs⟩
            | false =>
              rw [hs] at hst
              simp only [Bool.false_or] at hst
              obtain ⟨e,he⟩:=Option.isSome_iff_exists.1 hst
              exact .inr ⟨rfl,e,sliceT_iff.1 he⟩
          obtain ⟨v,h3,h4⟩:=len_ok (P:=P) (ty:=oty) ht h1 hb
          exact run_bi .len (Builtin.len_ #[t] oty #[ev x]) (fun k=>by simp [builtin]) rfl ⟨v,w,h3,Ta.pure hr h4⟩
        · split at hlow
          · rename_i n e he
            simp only [Oi,Pi_] at hlow
            obtain ⟨rfl,rfl⟩:=hlow
            cases hv with | cons h1 t1=>cases t1 with | nil =>
            simp only [aop,LOp.loud,pop,Bool.false_eq_true,if_false,Option.map_some,Oi,Pi_] at h
            obtain ⟨rfl,rfl,rfl⟩:=h
            exact run_bi .len (Builtin.len_ #[t] oty #[ev x]) (fun k=>by simp [builtin]) rfl ⟨.int .i64 n,w,by simp [Builtin.len_,run_underlying (arrayT_iff.1 he),goInt],Ta.pure hr (.int _ _)⟩
          · simp at hlow
      · simp at hlow
    · -- cap
      split at hlow
      · rename_i x t hargs htys
        have ha : args = #[x]:=by apply Array.ext'; simpa using hargs
        have hb : argTypes = #[t]:=by apply Array.ext'; simpa using htys
        subst ha hb
        split at hlow
        · rename_i hst
          simp only [Oi,Pi_] at hlow
          obtain ⟨rfl,rfl⟩:=hlow
          cases hv with | cons h1 t1=>cases t1 with | nil =>
          simp only [aop,LOp.loud,pop,Bool.false_eq_true,if_false,Om,Pi_] at h
          obtain ⟨r',hb,rfl,rfl,rfl⟩:=h
          obtain ⟨e,he⟩:=Option.isSome_iff_exists.1 hst
          obtain ⟨v,h3,h4⟩:=cap_ok (P:=P) (ty:=oty) (sliceT_iff.1 he) h1 hb
          exact run_bi .cap (Builtin.cap_ #[t] oty #[ev x]) (fun k=>by simp [builtin]) rfl ⟨v,w,h3,Ta.pure hr h4⟩
        · simp at hlow
      · simp at hlow
    · -- append
      split at hlow
      · rename_i sx x t t' hargs htys
        have ha : args = #[sx,x]:=by apply Array.ext'; simpa using hargs
        have hb : argTypes = #[t,t']:=by apply Array.ext'; simpa using htys
        subst ha hb
        split at hlow
        · rename_i hst
          split at hlow
          · rename_i e he
            split at hlow
            · rename_i i z hi hz
              split at hlow
              · rename_i hl
                simp only [Oi,Pi_] at hlow
                obtain ⟨rfl,rfl⟩:=hlow
                cases hv with | cons h1 t1=>cases t1 with | cons h2 t2=>cases t2 with | nil =>
                rename_i d1 d2
                generalize hx : ev x = vx at h2
                cases d2<;>simp only [aop,LOp.loud,lop,if_true,reduceCtorEq] at h
                cases h2
                refine run_bi .append (Builtin.append_ #[t,t'] oty #[ev sx,ev x]) (fun k=>by simp [builtin]) rfl ?_
                rw [hx]
                exact appstr_ok hr (sliceT_iff.1 he) (strT_iff.1 hst) hi hl.2.1 hz hl.2.2.1 hl.2.2.2 (kd_of kd _) h1 h
              · simp at hlow
            · simp at hlow
          · simp at hlow
        · split at hlow
          · rename_i htt
            subst htt
            split at hlow
            · rename_i e he
              split at hlow
              · rename_i i n z hi hn hz
                split at hlow
                · rename_i hl
                  simp only [Oi,Pi_] at hlow
                  obtain ⟨rfl,rfl⟩:=hlow
                  cases hv with | cons h1 t1=>cases t1 with | cons h2 t2=>cases t2 with | nil =>
                  simp only [aop,LOp.loud,lop,if_true] at h
                  exact run_bi .append (Builtin.append_ #[t,t] oty #[ev sx,ev x]) (fun k=>by simp [builtin]) rfl (append_ok hr (sliceT_iff.1 he) hi hn hz hl.1 hl.2 (kd_of kd _) h1 h2 h)
                · simp at hlow
              · simp at hlow
            · simp at hlow
          · split at hlow
            · rename_i hit
              obtain ⟨kn,hkn⟩:=Option.isSome_iff_exists.1 hit
              split at hlow
              · rename_i e he
                split at hlow
                · rename_i i n z hi hn hz
                  split at hlow
                  · rename_i hl
                    simp only [Oi,Pi_] at hlow
                    obtain ⟨rfl,rfl⟩:=hlow
                    cases hv with | cons h1 t1=>cases t1 with | cons h2 t2=>cases t2 with | nil =>
                    rename_i d1 d2
                    generalize hvs : ev sx = vs at h1
                    generalize hvx : ev x = vx at h2
                    cases d1<;>cases d2<;>simp only [aop,LOp.loud,lop,if_true,reduceCtorEq] at h
                    cases h1
                    cases h2
                    refine run_bi .append (Builtin.append_ #[t,t'] oty #[ev sx,ev x]) (fun k=>by simp [builtin]) rfl ?_
                    rw [hvs,hvx]
                    exact appmk_ok hr (sliceT_iff.1 he) (intT_iff.1 hkn) hi hn hz hl.1 (kd:=if kd.of e = 0 then 0 else 2) (by split<;>simp) hl.2 h
                  · simp at hlow
                · simp at hlow
              · simp at hlow
            · simp at hlow
      · simp at hlow
    · -- copy
      split at hlow
      · rename_i dx x t t' hargs htys
        have ha : args = #[dx,x]:=by apply Array.ext'; simpa using hargs
        have hb : argTypes = #[t,t']:=by apply Array.ext'; simpa using htys
        subst ha hb
        split at hlow
        · rename_i e he
          split at hlow
          · rename_i i n hi hn
            split at hlow
            · rename_i hn1
              subst hn1
              split at hlow
              · rename_i hst
                split at hlow
                · simp only [Oi, Pi_] at hlow
                  obtain ⟨rfl,rfl⟩:=hlow
                  cases hv with | cons h1 t1=>cases t1 with | cons h2 t2=>cases t2 with | nil =>
                  rename_i d1 d2
                  generalize hx : ev x = vx at h2
                  cases d2<;>simp only [aop,LOp.loud,lop,if_true,reduceCtorEq] at h
                  cases h2
                  by_cases hk0 : kd.of e = 0
                  · rw [if_pos hk0] at h; simp at h
                  · rw [if_neg hk0] at h
                    refine run_bi .copy (Builtin.copy_ #[t,t'] oty #[ev dx,ev x]) (fun k=>by simp [builtin]) rfl ?_
                    rw [hx]
                    exact copys_ok hr (sliceT_iff.1 he) hn h1 h
                · simp at hlow
              · split at hlow
                · rename_i htt
                  subst htt
                  simp only [Oi,Pi_] at hlow
                  obtain ⟨rfl,rfl⟩:=hlow
                  cases hv with | cons h1 t1=>cases t1 with | cons h2 t2=>cases t2 with | nil =>
                  rename_i d1 d2
                  simp only [aop,LOp.loud,lop,if_true] at h
                  cases hsrc : Lp (kd.of e) S 1 d2 with
                  | none=>rw [hsrc] at h; simp at h
                  | some src =>
                    rw [hsrc] at h
                    exact run_bi .copy (Builtin.copy_ #[t,t] oty #[ev dx,ev x]) (fun k=>by simp [builtin]) rfl (copy_ok hr (sliceT_iff.1 he) hn h1 h2 hsrc h)
                · simp at hlow
            · simp at hlow
          · simp at hlow
        · simp at hlow
      · simp at hlow
    · -- max
      simp only [Oi,Pi_] at hlow
      obtain ⟨rfl,rfl⟩:=hlow
      simp only [aop,LOp.loud,Bool.false_eq_true,if_false,Om,Pi_] at h
      obtain ⟨r',hb,rfl,rfl,rfl⟩:=h
      have he : (args.toList.map ev).toArray = args.map ev:=by apply Array.ext'; simp
      obtain ⟨v,h3,h4⟩:=maxs_ok (P:=P) (ts:=argTypes) (t:=oty) hv hb
      rw [he] at h3
      exact run_bi .max (Builtin.max_ argTypes oty (args.map ev)) (fun k=>by simp [builtin]) rfl ⟨v,w,h3,Ta.pure hr h4⟩
    · -- min
      simp only [Oi,Pi_] at hlow
      obtain ⟨rfl,rfl⟩:=hlow
      simp only [aop,LOp.loud,Bool.false_eq_true,if_false,Om,Pi_] at h
      obtain ⟨r',hb,rfl,rfl,rfl⟩:=h
      have he : (args.toList.map ev).toArray = args.map ev:=by apply Array.ext'; simp
      obtain ⟨v,h3,h4⟩:=mins_ok (P:=P) (ts:=argTypes) (t:=oty) hv hb
      rw [he] at h3
      exact run_bi .min (Builtin.min_ argTypes oty (args.map ev)) (fun k=>by simp [builtin]) rfl ⟨v,w,h3,Ta.pure hr h4⟩
    · -- the bytes of a slice
      split at hlow
      · rename_i x hargs
        have ha : args = #[x]:=by apply Array.ext'; simpa using hargs
        subst ha
        simp only [Oi,Pi_] at hlow
        obtain ⟨rfl,rfl⟩:=hlow
        cases hv with | cons h1 t1=>cases t1 with | nil =>
        simp only [aop,LOp.loud,lop,if_true,Om,Pi_] at h
        obtain ⟨r',hb,rfl,rfl,rfl⟩:=h
        obtain ⟨v,h3,h4⟩:=sdata_ok (P:=P) (ts:=argTypes) (ty:=oty) hr h1 hb
        exact run_bi .unsafeSliceData (Builtin.unsafeSliceData_ argTypes oty #[ev x]) (fun k=>by simp [builtin]) rfl ⟨v,w,h3,Ta.pure hr h4⟩
      · simp at hlow
    · -- bytes as a string
      split at hlow
      · rename_i x y t t' hargs htys
        have ha : args = #[x,y]:=by apply Array.ext'; simpa using hargs
        have hb : argTypes = #[t,t']:=by apply Array.ext'; simpa using htys
        subst ha hb
        split at hlow
        · rename_i e hpt
          split at hlow
          · rename_i hc
            simp only [Oi,Pi_] at hlow
            obtain ⟨rfl,rfl⟩:=hlow
            cases hv with | cons h1 t1=>cases t1 with | cons h2 t2=>cases t2 with | nil =>
            rename_i d1 d2
            generalize hy : ev y = vy at h2
            simp only [aop,LOp.loud,if_true] at h
            unfold lop at h
            split at h<;>simp only [reduceCtorEq,List.cons.injEq,and_true,LOp.ustr.injEq] at *
            rename_i e' p n heq1 heq2
            subst heq1
            obtain ⟨rfl,rfl⟩:=heq2
            cases h2
            refine run_bi .unsafeString (Builtin.unsafeString_ #[t,t'] oty #[ev x,ev y]) (fun k=>by simp [builtin]) rfl ?_
            rw [hy]
            exact ustr_ok hr hpt hc.2 h1 h
          · simp at hlow
        · simp at hlow
      · simp at hlow
    · simp at hlow
  case h_29 t x =>
    split at hlow
    · rename_i hst
      simp only [Oi,Pi_] at hlow
      obtain ⟨rfl,rfl⟩:=hlow
      cases hv with | cons h1 t1=>cases t1 with | nil =>
      rename_i d1
      generalize hx : ev x = vx at h1
      cases d1<;>simp only [aop,LOp.loud,lop,if_true,reduceCtorEq] at h
      cases h1
      simp only [Oi,Pi_] at h
      obtain ⟨rfl,rfl,rfl⟩:=h
      refine Does.val (s:=Instr.range t (ev x)) rfl ?_
      rw [hx]
      exact rngs_ok hr (strT_iff.1 hst)
    · simp at hlow
  case h_30 it isString =>
    split at hlow
    · rename_i hst
      subst hst
      simp only [Oi,Pi_] at hlow
      obtain ⟨rfl,rfl⟩:=hlow
      cases hv with | cons h1 t1=>cases t1 with | nil =>
      rename_i d1
      cases d1<;>simp only [aop,LOp.loud,lop,if_true,reduceCtorEq] at h
      exact Does.val (s:=Instr.next (ev it) true oty) rfl (nexts_ok hr h1 h)
    · simp at hlow
  case h_31=>simp at hlow
end
end Go.Proofs.YtkaedpmmopigkaaGreatDoor
namespace Go.Proofs.YtkaedpmmopigkaaGreatDoor
open Go.RowKit
set_option linter.unusedVariables false
set_option linter.unusedSimpArgs false

section
variable {P : Program}

def Oo (P : Program) (G : Nat→Option (List D)) (call : Bi) : Prop :=
 ∀ f ds S r S' wr,call f ds S = some (r,S',wr)→∀ w (ρ : Su) vs,ρ.X.G = G→Rel w ρ S.heap→VL w ρ S.heap ds vs →
  (callFunc f vs.toArray).run P w = .ok (.enter f vs.toArray) w∧Calls P f vs.toArray w fun e w'=>∃ v,e = .returned v∧Ta w ρ S r S' wr v w'

theorem lowOp_call {kd : Kd} {o : Oper} {f : FuncId} {xs : List Operand} (h : Nr P kd o = some (.call f,xs)) : ∃ args tys,o.op = .call ⟨.value (.func f),args,tys⟩∧xs = args.toList:=by
 have hx : ∀ {s : String} {b : Prop} [Decidable b] {l : LOp},(if b then Jd s else none) = some l→l ≠ .call f:=by
  intro s b _ l hl e
  subst e
  split at hl
  ·
   unfold Jd at hl
   repeat' (first | (split at hl; skip) | (simp at hl; done))
   all_goals simp at hl
  ·
   simp at hl
 unfold Nr at h
 split at h
 case h_28 c hop =>
  obtain ⟨callee,args,tys⟩:=c
  simp only at h
  split at h
  ·
   simp at h
  ·
   rename_i f'
   split at h
   ·
    split at h
    ·
     split at h
     ·
      repeat' (first | (split at h; skip) | (simp at h; done))
      all_goals simp at h
     ·
      split at h
      ·
       rename_i l' hl'
       simp only [Oi,Pi_] at h
       exact absurd h.1 (hx hl')
      ·
       simp at h
    ·
     simp only [Oi,Pi_,LOp.call.injEq] at h
     obtain ⟨rfl,rfl⟩:=h
     exact ⟨args,tys,hop,rfl⟩
   ·
    simp at h
  all_goals (repeat' (first | (split at h; skip) | (simp at h; done)))
  all_goals first
   | (simp at h; done)
   | (simp only [Om,Pi_,reduceCtorEq,false_and,and_false,exists_false] at h; done)
 all_goals (repeat' (first | (split at h; skip) | (simp at h; done)))
 all_goals first
  | (simp at h; done)
  | (simp only [Om,Pi_,reduceCtorEq,false_and,and_false,exists_false] at h; done)
theorem lowOp_callv {kd : Kd} {o : Oper} {xs : List Operand} (h : Nr P kd o = some (.callv,xs)) : ∃ t args tys,o.op = .call ⟨.value (.tmp t),args,tys⟩∧xs = .tmp t :: args.toList:=by
 have hx : ∀ {s : String} {b : Prop} [Decidable b] {l : LOp},(if b then Jd s else none) = some l→l ≠ .callv:=by
  intro s b _ l hl e
  subst e
  split at hl
  ·
   unfold Jd at hl
   repeat' (first | (split at hl; skip) | (simp at hl; done))
   all_goals simp at hl
  ·
   simp at hl
 unfold Nr at h
 split at h
 case h_28 c hop =>
  obtain ⟨callee,args,tys⟩:=c
  simp only at h
  split at h
  ·
   simp at h
  ·
   rename_i f'
   split at h
   ·
    split at h
    ·
     split at h
     ·
      repeat' (first | (split at h; skip) | (simp at h; done))
      all_goals simp at h
     ·
      split at h
      ·
       rename_i l' hl'
       simp only [Oi,Pi_] at h
       exact absurd h.1 (hx hl')
      ·
       simp at h
    ·
     simp at h
   ·
    simp at h
  ·
   simp only [Oi,Pi_] at h
   obtain ⟨_,rfl⟩:=h
   exact ⟨_,args,tys,hop,rfl⟩
  all_goals (repeat' (first | (split at h; skip) | (simp at h; done)))
  all_goals first
   | (simp at h; done)
   | (simp only [Om,Pi_,reduceCtorEq,false_and,and_false,exists_false] at h; done)
 all_goals (repeat' (first | (split at h; skip) | (simp at h; done)))
 all_goals first
  | (simp at h; done)
  | (simp only [Om,Pi_,reduceCtorEq,false_and,and_false,exists_false] at h; done)

theorem lowOp_invoke {kd : Kd} {o : Oper} {tab : List (TypeId × FuncId)} {xs : List Operand} (h : Nr P kd o = some (.invoke tab,xs)) : ∃ recv name args tys,o.op = .call ⟨.invoke recv name,args,tys⟩∧xs = recv :: args.toList∧tab = O3 P name:=by
 have hx : ∀ {s : String} {b : Prop} [Decidable b] {l : LOp},(if b then Jd s else none) = some l→l ≠ .invoke tab:=by
  intro s b _ l hl e
  subst e
  split at hl
  ·
   unfold Jd at hl
   repeat' (first | (split at hl; skip) | (simp at hl; done))
   all_goals simp at hl
  ·
   simp at hl
 unfold Nr at h
 split at h
 case h_28 c hop =>
  obtain ⟨callee,args,tys⟩:=c
  simp only at h
  split at h
  ·
   simp only [Oi,Pi_,LOp.invoke.injEq] at h
   obtain ⟨rfl,rfl⟩:=h
   exact ⟨_,_,args,tys,hop,rfl,rfl⟩
  ·
   rename_i f'
   split at h
   ·
    split at h
    ·
     split at h
     ·
      repeat' (first | (split at h; skip) | (simp at h; done))
      all_goals simp at h
     ·
      split at h
      ·
       rename_i l' hl'
       simp only [Oi,Pi_] at h
       exact absurd h.1 (hx hl')
      ·
       simp at h
    ·
     simp at h
   ·
    simp at h
  ·
   simp at h
  all_goals (repeat' (first | (split at h; skip) | (simp at h; done)))
  all_goals first
   | (simp at h; done)
   | (simp only [Om,Pi_,reduceCtorEq,false_and,and_false,exists_false] at h; done)
 all_goals (repeat' (first | (split at h; skip) | (simp at h; done)))
 all_goals first
  | (simp at h; done)
  | (simp only [Om,Pi_,reduceCtorEq,false_and,and_false,exists_false] at h; done)

theorem mem_lookup {α β : Type} [BEq α] [LawfulBEq α] {l : List (α × β)} {a : α} {b : β} (h : l.lookup a = some b) : (a,b) ∈ l:=by
 induction l with
 | nil=>simp at h
 | cons p l ih =>
  obtain ⟨x,y⟩:=p
  simp only [List.lookup_cons] at h
  split at h
  ·
   rename_i he
   simp only [Oi] at h
   rw [eq_of_beq he,h]
   exact List.mem_cons_self
  ·
   exact List.mem_cons_of_mem _ (ih h)
theorem pointerT_iff {t : TypeId} : Ls P t = true ↔ ∃ e,P.underlying t = some (.pointer e):=by
 unfold Ls
 split
 ·
  rename_i e hu; exact ⟨fun _=>⟨e,hu⟩,fun _=>rfl⟩
 ·
  rename_i hn; exact ⟨fun h=>by simp at h,fun ⟨e,he⟩=>absurd he (hn e)⟩
theorem run_method {w : World} {name : String} {tab : List (TypeId × FuncId)} {t : TypeId} {f : FuncId} {v : Value} (htab : tab = O3 P name) (h : tab.lookup t = some f) : (method (P.types.size + Made.depth) t v name).run P w = .ok (f,v) w:=by
 subst htab
 have hm:=mem_lookup h
 unfold O3 at hm
 simp only [List.mem_filterMap,List.mem_range] at hm
 obtain ⟨t',hlt,hx⟩:=hm
 split at hx
 ·
  rename_i i hi
  split at hx
  ·
   rename_i m hfm
   split at hx
   ·
    rename_i f' pr hmf
    rw [Option.ite_none_right_eq_some] at hx
    obtain ⟨hc,hx⟩:=hx
    ·
     simp only [Oi,Pi_] at hx
     obtain ⟨rfl,rfl⟩:=hx
     rw [Bool.and_eq_true,Bool.and_eq_true,Bool.and_eq_true,beq_iff_eq,Array.isEmpty_iff] at hc
     obtain ⟨⟨⟨hp,hpr⟩,hus⟩,hb⟩:=hc
     obtain ⟨td,hu⟩:=Option.isSome_iff_exists.1 hus
     obtain ⟨k,hk⟩ : ∃ k,P.types.size + Made.depth = k + 1:=⟨P.types.size + Made.depth - 1,by omega⟩
     rw [hk]
     have hti : (typeInfo t').run P w = .ok i w:=by simp [typeInfo,hi]
     unfold method
     rw [Ac hti]
     simp only [hfm,hp]
     have hfo : (follow [] t' (.val v)).run P w = .ok (t',.val v) w:=rfl
     rw [Ac hfo]
     simp only [hmf]
     have hre : (receiverAt t' (.val v) pr (if (#[] : Array FieldStep).isEmpty = true then some ((name.splitOn ".").getLastD name) else none)).run P w = .ok v w := by
      unfold receiverAt
      rw [Ac (run_underlying hu w)]
      cases hpt : Ls P t' with
      | true =>
       rw [hpt] at hpr
       subst hpr
       obtain ⟨e,he⟩:=pointerT_iff.1 hpt
       rw [hu] at he
       simp only [Oi] at he
       subst he
       rfl
      | false =>
       rw [hpt] at hpr
       subst hpr
       cases td<;>first | rfl | (exfalso; have : Ls P t' = true:=pointerT_iff.2 ⟨_,hu⟩; rw [hpt] at this; simp at this)
     rw [Ac hre]
     rfl
   ·
    simp at hx
  ·
   simp at hx
 ·
  simp at hx
theorem exOp_ok {G : Nat→Option (List D)} {call : Bi} (hcall : Oo P G call) {kd : Kd} {o : Oper} {l : LOp} {xs : List Operand} {a : Act} {w : World} {ρ : Su} {S S' : St} {ds : List D} {r : D} {wr : Bool} {K : Act→World→Prop} {Q : Exit→Act→World→Prop}
  (hG : ρ.X.G = G) (hlowF : L6 P kd o = some (l,xs)) (hv : VL w ρ S.heap ds (xs.map a.eval)) (hr : Rel w ρ S.heap) (h : Aw call l ds S = some (r,S',wr)) (hK : ∀ v w',Ta w ρ S r S' wr v w'→K (a.put o.dst v) w') : o.wp P a w K Q:=by
 have hlow : Nr P kd o = some (l,xs):=by
  unfold L6 at hlowF
  split at hlowF
  ·
   rename_i x hx; rw [hx]; exact hlowF
  ·
   simp only [Oi,Pi_] at hlowF
   obtain ⟨rfl,rfl⟩:=hlowF
   simp [Aw,aop,LOp.loud,pop] at h
 have plain : aop l ds S = some (r,S',wr)→o.wp P a w K Q:=by
  intro h
  obtain ⟨nx,v,w',h1,h2,h3⟩:=aop_ok (fun _=>rfl) hlow hv hr h
  unfold Oper.wp
  rw [h1]
  rcases h2 with rfl | ⟨rfl,rfl⟩
  ·
   exact hK v w' h3
  ·
   exact hK undef w' h3
 have fin : ∀ f vs,(execOp a.eval o).run P w = (callFunc f vs).run P w→(callFunc f vs).run P w = .ok (.enter f vs) w∧(Calls P f vs w fun e w'=>∃ v,e = .returned v∧Ta w ρ S r S' wr v w')→o.wp P a w K Q:=by
  rintro f vs he ⟨h1,h2⟩
  unfold Oper.wp
  rw [he,h1,Oper.upon_enter]
  refine h2.mono ?_
  rintro e w' ⟨v,rfl,hp⟩
  exact hK v w' hp
 unfold Aw at h
 split at h
 ·
  rename_i f
  obtain ⟨args,tys,hop,rfl⟩:=lowOp_call hlow
  have hc:=hcall f ds S r S' wr h w ρ _ hG hr hv
  have he : (args.toList.map a.eval).toArray = args.map a.eval:=by apply Array.ext'; simp
  rw [he] at hc
  refine fin f (args.map a.eval) ?_ hc
  simp [execOp,hop,resolve,Deferred.ofValue,invoke,Act.eval]
 ·
  split at h
  ·
   rename_i f caps ys
   obtain ⟨t,args,tys,hop,rfl⟩:=lowOp_callv hlow
   cases hv with
   | cons h1 t1 =>
    generalize hx : a.eval (.tmp t) = vx at h1
    cases h1 with
    | fn _ _ vs hl hh =>
     have hc:=hcall f _ S r S' wr h w ρ _ hG hr (t1.append (VL.of hl hh))
     have he : (args.toList.map a.eval ++ vs).toArray = args.map a.eval ++ vs.toArray:=by apply Array.ext'; simp
     rw [he] at hc
     refine fin f _ ?_ hc
     simp only [Act.eval] at hx
     simp [execOp,hop,resolve,Deferred.ofValue,invoke,Act.eval,hx]
  ·
   simp at h
 ·
  rename_i tab
  obtain ⟨recv,name,args,tys,hop,rfl,htab⟩:=lowOp_invoke hlow
  have go : ∀ (t : TypeId) (d : D) (v : Value) (ys : List D) (f : FuncId),a.eval recv = .iface t v→VR w ρ S.heap d v→VL w ρ S.heap ys (args.toList.map a.eval)→tab.lookup t = some f→call f (d :: ys) S = some (r,S',wr)→o.wp P a w K Q:=by
   intro t d v ys f he hd hys hlk hcl
   have hc:=hcall f _ S r S' wr hcl w ρ _ hG hr (.cons hd hys)
   have he2 : (v :: args.toList.map a.eval).toArray = #[v] ++ args.map a.eval:=by apply Array.ext'; simp
   rw [he2] at hc
   refine fin f _ ?_ hc
   have hm:=run_method (w:=w) (v:=v) htab hlk
   have hp : Sem.run P program w = .ok P w:=rfl
   have h0 : execOp a.eval o = invoke (.fn (.method name) #[]) (#[a.eval recv] ++ args.map a.eval):=by
    unfold execOp
    rw [hop]
    rfl
   rw [h0,he]
   have e1 : (#[Value.iface t v] ++ args.map a.eval)[0]? = some (.iface t v):=by
    rw [Array.getElem?_append_left (by simp)]
    rfl
   have e2 : (#[Value.iface t v] ++ args.map a.eval).extract 1 (#[Value.iface t v] ++ args.map a.eval).size = args.map a.eval:=by
    apply Array.ext'
    simp only [Array.toList_extract,Array.toList_append,List.extract_eq_take_drop,Array.size_append]
    simp
    rw [List.take_of_length_le (by simp)]
   simp only [invoke,e1,e2,callMethod]
   rw [Ac hp,Ac hm]
  split at h
  ·
   rename_i t d ys
   split at h
   ·
    rename_i f hlk
    cases hv with
    | cons h1 t1 =>
    generalize hx : a.eval recv = vx at h1
    cases h1 with
    | ifc _ _ v hf hvv h1=>exact go t d v ys f hx h1 t1 hlk h
   ·
    simp at h
  ·
   rename_i t d ys
   split at h
   ·
    rename_i f hlk
    cases hv with
    | cons h1 t1 =>
    generalize hx : a.eval recv = vx at h1
    cases h1 with
    | ifr _ _ v hvv h1=>exact go t d v ys f hx h1 t1 hlk h
   ·
    simp at h
  ·
   simp at h
 ·
  exact plain h

/-! slots -/
def sig (slots : List Nat) (prev : List (Option Tmp)) (vals env : List D) (t : Nat) : D :=
 match Gj prev t with
 | some d=>vals.getD d .undef
 | none=>match idxOf slots t with
  | some j=>env.getD j .undef
  | none=>.undef
def FR (w : World) (ρ : Su) (H : List Sk) (nt : Nat) (σ : Nat→D) (a : Act) : Prop :=
 a.tmps.size = nt∧∀ t,t < nt→VR w ρ H (σ t) (a.tmps.getD t undef)
theorem Oy (slots : List Nat) (o : Option Tmp) (prev : List (Option Tmp)) (r : D) (vals env : List D) (t : Nat) : sig slots (o :: prev) (r :: vals) env t = if o = some t then r else sig slots prev vals env t:=by
 have e : Gj (o :: prev) t = if o = some t then some 0 else (Gj prev t).map (· + 1):=rfl
 unfold sig
 rw [e]
 by_cases h : o = some t
 ·
  simp [h]
 ·
  simp only [h,if_false]
  cases Gj prev t with
  | none=>simp
  | some d=>simp
theorem FR.put {w w' : World} {ρ ρ' : Su} {S S' : St} {nt : Nat} {σ σ' : Nat→D} {a : Act} {dst : Option Tmp} {r : D} {v : Value} (h : FR w ρ S.heap nt σ a) (hs : Stp w ρ S w' ρ' S') (hv : VR w' ρ' S'.heap r v) (hd : Ga nt dst = true) (hσ : ∀ t,σ' t = if dst = some t then r else σ t) :
  FR w' ρ' S'.heap nt σ' (a.put dst v):=by
 cases dst with
 | none=>exact ⟨h.1,fun t ht=>by rw [hσ]; simpa [Act.put] using (h.2 t ht).mono hs⟩
 | some d =>
  have hdl : d < a.tmps.size:=by rw [h.1]; simpa [Ga] using hd
  refine ⟨by simpa [Act.put] using h.1,fun t ht=>?_⟩
  rw [hσ]
  by_cases e : d = t
  ·
   subst e
   simp [Act.put,hdl,hv]
  ·
   have e' : ¬ some d = some t:=by simpa using e
   rw [if_neg e']
   have:=(h.2 t ht).mono hs
   simp only [Act.put,Array.getD_eq_getD_getElem?,Array.getElem?_setIfInBounds,if_neg e] at this ⊢
   exact this
theorem Gh {l : List Nat} {t j : Nat} (h : idxOf l t = some j) : l[j]? = some t:=by
 induction l generalizing j with
 | nil=>simp [idxOf] at h
 | cons s l ih =>
  unfold idxOf at h
  split at h
  ·
   rename_i e; simp at h; subst h e; rfl
  ·
   simp only [Om] at h
   obtain ⟨k,hk,rfl⟩:=h
   simpa using ih hk
theorem Gy {l : List (Option Tmp)} {t d : Nat} (h : Gj l t = some d) : l[d]? = some (some t):=by
 induction l generalizing d with
 | nil=>simp [Gj] at h
 | cons s l ih =>
  unfold Gj at h
  split at h
  ·
   rename_i e; simp at h; subst h e; rfl
  ·
   simp only [Om] at h
   obtain ⟨k,hk,rfl⟩:=h
   simpa using ih hk
theorem opd_ok {w : World} {ρ : Su} {H : List Sk} {nt : Nat} {slots : List Nat} {prev : List (Option Tmp)} {vals env : List D} {a : Act} {x : Operand} {y : Sn} {gl : Nat→Option (List D)} (hgl : ∀ g row,gl g = some row→VR w ρ H (.Tn row 0) (.pointer (some ⟨g,0,none⟩))) (h : Qe gl slots prev x = some y) (hs : slots.all (· < nt) = true) (hp : ∀ d ∈ prev,Ga nt d = true)
    (hf : ∀ t,x = .tmp t→VR w ρ H (sig slots prev vals env t) (a.tmps.getD t undef)) : VR w ρ H (opd vals env y) (a.eval x):=by
  unfold Qe at h
  split at h
  · rename_i t
    have h1:=hf t rfl
    unfold sig at h1
    split at h
    · rename_i d hd
      simp only [Oi] at h
      subst h
      simp only [hd] at h1
      exact h1
    · rename_i hd
      simp only [Om] at h
      obtain ⟨j,hj,rfl⟩:=h
      simp only [hd,hj] at h1
      exact h1
  · rename_i v
    simp only [Oi] at h
    subst h
    cases hc : Pq v with
    | none=>exact .undef _
    | some d=>exact K5 hc
  · simp only [Oi] at h
    subst h
    exact .fn _ [] [] rfl (fun j d v h=>by simp at h)
  · rename_i g
    simp only [Oi] at h
    subst h
    cases hg : gl g with
    | none=>exact .undef _
    | some row=>exact hgl g row hg
theorem tmp_in {nt : Nat} {slots : List Nat} {prev : List (Option Tmp)} {t : Nat} {y : Sn} {gl : Nat→Option (List D)} (h : Qe gl slots prev (.tmp t) = some y) (hs : slots.all (· < nt) = true) (hp : ∀ d ∈ prev,Ga nt d = true) : t < nt:=by
 unfold Qe at h
 simp only at h
 split at h
 ·
  rename_i d hd
  have:=hp _ (Lm (Gy hd))
  simpa [Ga] using this
 ·
  simp only [Om] at h
  obtain ⟨j,hj,_⟩:=h
  have:=List.all_eq_true.1 hs t (Lm (Gh hj))
  simpa using this
theorem opds_ok {w : World} {ρ : Su} {H : List Sk} {nt : Nat} {slots : List Nat} {prev : List (Option Tmp)} {vals env : List D} {a : Act} {gl : Nat→Option (List D)} (hgl : ∀ g row,gl g = some row→VR w ρ H (.Tn row 0) (.pointer (some ⟨g,0,none⟩))) (hs : slots.all (· < nt) = true) (hp : ∀ d ∈ prev,Ga nt d = true) : ∀ {xs : List Operand} {ys : List Sn},Kt gl slots prev xs = some ys →
  (∀ t,.tmp t ∈ xs→t < nt→VR w ρ H (sig slots prev vals env t) (a.tmps.getD t undef))→VL w ρ H (ys.map (opd vals env)) (xs.map a.eval)
 | [],ys,h,_=>by simp only [Kt,Oi] at h; subst h; exact .nil
 | x :: xs, ys, h, hf => by
  unfold Kt at h
  split at h
  ·
   rename_i y m hy hm
   simp only [Oi] at h
   subst h
   refine .cons (opd_ok hgl hy hs hp fun t ht=>?_) (opds_ok hgl hs hp hm fun t ht=>hf t (List.mem_cons_of_mem _ ht))
   subst ht
   exact hf t (List.mem_cons_self ..) (tmp_in hy hs hp)
  ·
   simp at h
theorem Ml {dsts : List (Option Tmp)} {vals : List D} {slots0 : List Nat} : ∀ {slots : List Nat} {k : Nat} {env : List D} (j : Nat), (exports (He dsts slots k) vals env).getD j .undef = if k ≤ j ∧ j < k + slots.length ∧ j < env.length then (match Gj dsts (slots.getD (j - k) 0) with | some d => vals.getD d .undef | none => env.getD j .undef) else env.getD j .undef
  | [],k,env,j=>by simp only [He,exports,List.length_nil]; rw [if_neg (by omega)]
  | s :: l, k, env, j => by
    unfold He
    split
    · rename_i d hd
      simp only [exports]
      rw [Ml (slots0:=slots0) (slots:=l) (k:=k + 1) j]
      by_cases e : k = j
      · subst e
        rw [if_neg (by omega)]
        by_cases hl : k < env.length
        · rw [if_pos ⟨Nat.le_refl _, by simp, hl⟩]
          simp [hd,hl]
        · rw [if_neg (by omega)]
          simp [hl]
      · have h1 : (env.set k (vals.getD d .undef)).getD j .undef = env.getD j .undef := by simp [List.getD, Ln_ e]
        rw [h1]
        by_cases h2 : k + 1 ≤ j∧j < k + 1 + l.length∧j < env.length
        · rw [if_pos (by simpa using h2), if_pos (by simp; omega)]
          rw [show j - k = (j - (k + 1)) + 1 by omega]
          simp
        · rw [if_neg (by simpa using h2),if_neg (by simp; omega)]
    · rename_i hd
      rw [Ml (slots0:=slots0) (slots:=l) (k:=k + 1) j]
      by_cases e : k = j
      · subst e
        rw [if_neg (by omega)]
        by_cases hl : k < env.length
        · rw [if_pos ⟨Nat.le_refl _, by simp, hl⟩]
          simp [hd]
        · rw [if_neg (by omega)]
      · by_cases h2 : k + 1 ≤ j ∧ j < k + 1 + l.length ∧ j < env.length
        · rw [if_pos h2, if_pos (by simp; omega)]
          rw [show j - k = (j - (k + 1)) + 1 by omega]
          simp
        · rw [if_neg h2,if_neg (by simp; omega)]
theorem Ic {vals : List D} : ∀ {es : List (Nat × Nat)} {env : List D},(exports es vals env).length = env.length
 | [],env=>rfl
 | (j,d) :: es,env=>by simp only [exports]; rw [Ic]; simp
theorem Po {vals : List D} {n : Nat} : ∀ {es : List (Nat × Nat)} {env : List D},(∀ p ∈ es,p.1 < n)→(exports es vals env).drop n = env.drop n
 | [],env,_=>rfl
 | (j,d) :: es,env,h=>by
  simp only [exports]
  rw [Po fun p hp=>h p (List.mem_cons_of_mem _ hp)]
  have:=h (j,d) List.mem_cons_self
  rw [List.drop_set_of_lt this]
theorem Qn {dsts : List (Option Tmp)} : ∀ {slots : List Nat} {k : Nat},∀ p ∈ He dsts slots k,p.1 < k + slots.length
 | [],k,p,h=>by simp [He] at h
 | s :: l, k, p, h => by
  unfold He at h
  split at h
  ·
   rcases List.mem_cons.1 h with rfl | h
   ·
    simp
   ·
    have:=Qn (slots:=l) (k:=k + 1) p h
    simp; omega
  ·
   have:=Qn (slots:=l) (k:=k + 1) p h
   simp; omega
theorem sig_end {dsts : List (Option Tmp)} {slots : List Nat} {vals env : List D} (hl : slots.length ≤ env.length) (t : Nat) : sig slots [] [] (exports (He dsts slots 0) vals env) t = (match idxOf slots t with | some _=>sig slots dsts vals env t | none=>.undef):=by
 unfold sig
 simp only [Gj]
 cases hj : idxOf slots t with
 | none=>rfl
 | some j =>
  have hm:=Gh hj
  have hjl:=lt_of_some hm
  simp only
  rw [Ml (slots0:=slots),if_pos (by omega)]
  have : slots.getD (j - 0) 0 = t:=by simp [List.getD,hm]
  rw [this]
theorem FR.end_ {w : World} {ρ : Su} {H : List Sk} {nt : Nat} {dsts : List (Option Tmp)} {slots : List Nat} {vals env : List D} {a : Act} (hl : slots.length ≤ env.length) (h : FR w ρ H nt (sig slots dsts vals env) a) : FR w ρ H nt (sig slots [] [] (exports (He dsts slots 0) vals env)) a:=by
 refine ⟨h.1,fun t ht=>?_⟩
 rw [sig_end hl]
 cases idxOf slots t with
 | none=>exact .undef _
 | some j=>exact h.2 t ht

theorem guard_ok {w : World} {ρ : Su} {H : List Sk} {nt : Nat} {slots : List Nat} {prev : List (Option Tmp)} {vals env : List D} {a : Act} {ops : Array Oper} {j d : Nat} {b b' : Bool} {t : Tmp} (hjd : (ops[j]?).bind (·.dst) = some t) (hloc : Gj prev t = some d) (hp : ∀ d ∈ prev,Ga nt d = true)
  (hf : VR w ρ H (sig slots prev vals env t) (a.tmps.getD t undef)) (hsz : a.tmps.size = nt) (hv : vals.getD d .undef = .bool b') : yielded ops a.tmps j = some b':=by
 unfold sig at hf
 simp only [hloc,hv] at hf
 have ht : t < a.tmps.size:=by
  have:=hp _ (Lm (Gy hloc))
  rw [hsz]
  simpa [Ga] using this
 unfold yielded
 rw [hjd]
 simp only [Option.bind_some,Array.getElem?_eq_getElem ht]
 simp only [Array.getD,ht,dif_pos] at hf
 generalize hx : a.tmps[t] = x at hf
 have hx' : a.tmps.getInternal t ht = x:=hx
 rw [hx'] at hf
 cases hf
 rfl

theorem guard_skip {w : World} {ρ : Su} {H : List Sk} {nt : Nat} {slots : List Nat} {prev : List (Option Tmp)} {vals env : List D} {a : Act} {ops : Array Oper} {j d : Nat} {t : Tmp} (hjd : (ops[j]?).bind (·.dst) = some t) (hloc : Gj prev t = some d) (hp : ∀ d ∈ prev,Ga nt d = true)
  (hf : VR w ρ H (sig slots prev vals env t) (a.tmps.getD t undef)) (hsz : a.tmps.size = nt) (hv : vals.getD d .undef = .skip) : yielded ops a.tmps j = none:=by
 unfold sig at hf
 simp only [hloc,hv] at hf
 have ht : t < a.tmps.size:=by
  have:=hp _ (Lm (Gy hloc))
  rw [hsz]
  simpa [Ga] using this
 unfold yielded
 rw [hjd]
 simp only [Option.bind_some,Array.getElem?_eq_getElem ht]
 simp only [Array.getD,ht,dif_pos] at hf
 generalize hx : a.tmps[t] = x at hf
 have hx' : a.tmps.getInternal t ht = x:=hx
 rw [hx'] at hf
 cases hf
 rfl

theorem kd_glob {kd : Kd} {g : Nat} {row : List D} (h : kd.glob g = some row) : kd.glob g = some row:=h
theorem seq_part {G : Nat → Option (List D)} {call : Bi} (hcall : Oo P G call) {kd : Kd} {nt : Nat} {slots : List Nat} {ops : Array Oper} {env : List D} {Q : Exit → Act → World → Prop} (tl : List Oper) (hkG : ∀ g row, kd.glob g = some row → G g = some row) (hs : slots.all (· < nt) = true) :
    ∀ (os : List Oper) (k : Nat) (prev : List (Option Tmp)) (vals : List D) (los : List Sm) (S : St) (vals' : List D) (S' : St) (a : Act) (w : World) (ρ : Su), ops.toList.drop k = os ++ tl → prev = ((ops.toList.take k).map (·.dst)).reverse → (∀ d ∈ prev, Ga nt d = true) →
      Qd P kd nt slots os prev = some los→Gl call los vals env S = some (vals',S')→Rel w ρ S.heap→ρ.X.G = G→FR w ρ S.heap nt (sig slots prev vals env) a →
      (∀ a' w' ρ',Rel w' ρ' S'.heap→Stp w ρ S w' ρ' S'→FR w' ρ' S'.heap nt (sig slots (((ops.toList.take (k + os.length)).map (·.dst)).reverse) vals' env) a'→a'.defers = a.defers→wpOps P ops Q (List.range' (k + os.length) tl.length) a' w') →
      wpOps P ops Q (List.range' k (os.length + tl.length)) a w:=by
  intro os
  induction os with
  | nil =>
    intro k prev vals los S vals' S' a w ρ hk hprev hp hlow hex hr hG hf hQ
    simp only [Qd,Oi] at hlow
    subst hlow
    simp only [Gl,Oi,Pi_] at hex
    obtain ⟨rfl,rfl⟩:=hex
    have:=hQ a w ρ hr (Stp.refl _ _ _) (by simpa [hprev] using hf) rfl
    simpa using this
  | cons o os ih =>
    intro k prev vals los S vals' S' a w ρ hk hprev hp hlow hex hr hG hf hQ
    have hko : ops.toList[k]? = some o:=by
      have : (ops.toList.drop k)[0]? = some o:=by rw [hk]; rfl
      simpa using this
    have hkl : k < ops.toList.length:=lt_of_some hko
    have hko' : ops[k]? = some o:=by simpa using hko
    have hdrop : ops.toList.drop (k + 1) = os ++ tl:=by
      have : (ops.toList.drop k).drop 1 = os ++ tl:=by rw [hk]; rfl
      rwa [List.drop_drop] at this
    have hprev' : o.dst :: prev = ((ops.toList.take (k + 1)).map (·.dst)).reverse:=by
      rw [List.take_succ_eq_append_getElem hkl,List.map_append,List.reverse_append,← hprev]
      have : ops.toList[k] = o:=by rw [Lg hkl] at hko; injection hko
      simp [this]
    have hpl : prev.length = k:=by rw [hprev,List.length_reverse,List.length_map,List.length_take]; omega
    unfold Qd at hlow
    split at hlow
    · simp at hlow
    · rename_i l xs hlop
      split at hlow
      · rename_i args g rest hargs hg hrest
        split at hlow
        · rename_i hd
          simp only [Oi] at hlow
          subst hlow
          have hp' : ∀ d ∈ o.dst :: prev,Ga nt d = true:=by
            intro d hd'
            rcases List.mem_cons.1 hd' with rfl | hd'
            · exact hd
            · exact hp d hd'
          rw [show (o :: os).length + tl.length = (os.length + tl.length) + 1 by simp; omega,List.range'_succ]
          simp only [wpOps,hko']
          have go : Region.wanted o (yielded ops a.tmps) = true→(match Aw call l (args.map (opd vals env)) S with | none=>none | some (r,S1,wr)=>Gl call rest (r :: vals) env S1) = some (vals',S') →
              (if Region.wanted o (yielded ops a.tmps) = true then o.wp P a w (wpOps P ops Q (List.range' (k + 1) (os.length + tl.length))) Q ∨ o.asks P a w∧LetsOut Q else wpOps P ops Q (List.range' (k + 1) (os.length + tl.length)) (a.put o.dst undef) w):=by
            intro hw hx
            rw [if_pos hw]
            left
            split at hx
            · simp at hx
            · rename_i r S1 wr hop
              refine exOp_ok hcall hG hlop (opds_ok (fun g row hg=>hr.glob g row (by rw [hG]; exact hkG g row (kd_glob hg))) hs hp hargs fun t _ ht=>hf.2 t ht) hr hop ?_
              rintro v w1 ⟨ρ1,h1,h2,h3,_⟩
              refine ih (k + 1) (o.dst :: prev) (r :: vals) rest S1 vals' S' _ w1 ρ1 hdrop hprev' hp' hrest hx h1 (by rw [h2.hid]; exact hG) (hf.put h2 h3 hd fun t=>Oy slots o.dst prev r vals env t) ?_
              intro a' w' ρ' h4 h5 h6 h7
              have:=hQ a' w' ρ' h4 (h2.trans h5) (by rw [show k + (o :: os).length = k + 1 + os.length by simp; omega]; exact h6) (h7.trans (by cases o.dst<;>rfl))
              rw [show k + 1 + os.length = k + (o :: os).length by simp; omega]; exact this
          unfold Gl at hex
          cases hgo : o.guard with
          | none =>
            rw [hgo] at hg
            simp only [Ia,Oi] at hg
            subst hg
            simp only [onG] at hex
            exact go (by simp [Region.wanted,hgo]) hex
          | some jb =>
            obtain ⟨j,b⟩:=jb
            rw [hgo] at hg
            unfold Ia at hg
            simp only at hg
            split at hg
            · rename_i hj
              split at hg
              · rename_i t ht
                split at hg
                · rename_i hloc
                  simp only [Oi] at hg
                  subst hg
                  simp only [onG] at hex
                  have hjd : (ops[j]?).bind (·.dst) = some t:=by
                    rw [hprev] at ht
                    have hjl : j < ops.toList.length:=by omega
                    have h1 : ((ops.toList.take k).map (·.dst)).length = k:=by rw [List.length_map,List.length_take]; omega
                    simp only [List.getD,List.length_reverse,h1] at ht
                    rw [List.getElem?_reverse (by rw [h1]; omega),h1,show k - 1 - (k - 1 - j) = j by omega] at ht
                    simp only [Lp_,List.getElem?_take] at ht
                    rw [if_pos (by omega)] at ht
                    have h2 : ops[j]? = some ops.toList[j]:=by simp
                    rw [Lg hjl] at ht
                    rw [h2]
                    simpa using ht
                  split at hex
                  · simp at hex
                  · -- the guard says no
                    rename_i hv
                    split at hv
                    · rename_i b' hb'
                      simp only [Oi] at hv
                      have hy:=guard_ok (b:=b) hjd hloc hp (hf.2 t (by
                        have:=hp _ (Lm (Gy hloc))
                        simpa [Ga] using this)) hf.1 hb'
                      have hw : Region.wanted o (yielded ops a.tmps) = false:=by
                        simp only [Region.wanted,hgo,hy]
                        simpa using hv
                      rw [hw]
                      simp only [Bool.false_eq_true,if_false]
                      refine ih (k + 1) (o.dst :: prev) (.skip :: vals) rest S vals' S' _ w ρ hdrop hprev' hp' hrest hex hr hG (hf.put (Stp.refl _ _ _) .skip hd fun t=>Oy slots o.dst prev .skip vals env t) ?_
                      intro a' w' ρ' h4 h5 h6 h7
                      have:=hQ a' w' ρ' h4 h5 (by rw [show k + (o :: os).length = k + 1 + os.length by simp; omega]; exact h6) (h7.trans (by cases o.dst<;>rfl))
                      rw [show k + 1 + os.length = k + (o :: os).length by simp; omega]; exact this
                    · rename_i hb'
                      have hy:=guard_skip hjd hloc hp (hf.2 t (by
                        have:=hp _ (Lm (Gy hloc))
                        simpa [Ga] using this)) hf.1 hb'
                      have hw : Region.wanted o (yielded ops a.tmps) = false:=by
                        simp only [Region.wanted,hgo,hy]
                        rfl
                      rw [hw]
                      simp only [Bool.false_eq_true,if_false]
                      refine ih (k + 1) (o.dst :: prev) (.skip :: vals) rest S vals' S' _ w ρ hdrop hprev' hp' hrest hex hr hG (hf.put (Stp.refl _ _ _) .skip hd fun t=>Oy slots o.dst prev .skip vals env t) ?_
                      intro a' w' ρ' h4 h5 h6 h7
                      have:=hQ a' w' ρ' h4 h5 (by rw [show k + (o :: os).length = k + 1 + os.length by simp; omega]; exact h6) (h7.trans (by cases o.dst<;>rfl))
                      rw [show k + 1 + os.length = k + (o :: os).length by simp; omega]; exact this
                    · simp at hv
                  · rename_i hv
                    split at hv
                    · rename_i b' hb'
                      simp only [Oi] at hv
                      have hy:=guard_ok (b:=b) hjd hloc hp (hf.2 t (by
                        have:=hp _ (Lm (Gy hloc))
                        simpa [Ga] using this)) hf.1 hb'
                      refine go ?_ hex
                      simp only [Region.wanted,hgo,hy]
                      simpa using hv
                    · simp at hv
                    · simp at hv
                · simp at hg
              · simp at hg
            · simp at hg
        · simp at hlow
      · simp at hlow
theorem seq_ok {G : Nat→Option (List D)} {call : Bi} (hcall : Oo P G call) {kd : Kd} {nt : Nat} {slots : List Nat} {ops : Array Oper} {env : List D} {Q : Exit→Act→World→Prop} (hkG : ∀ g row,kd.glob g = some row→G g = some row) (hs : slots.all (· < nt) = true) :
  ∀ (os : List Oper) (k : Nat) (prev : List (Option Tmp)) (vals : List D) (los : List Sm) (S : St) (vals' : List D) (S' : St) (a : Act) (w : World) (ρ : Su),ops.toList.drop k = os→prev = ((ops.toList.take k).map (·.dst)).reverse→(∀ d ∈ prev,Ga nt d = true) →
   Qd P kd nt slots os prev = some los→Gl call los vals env S = some (vals',S')→Rel w ρ S.heap→ρ.X.G = G→FR w ρ S.heap nt (sig slots prev vals env) a →
   (∀ a' w' ρ',Rel w' ρ' S'.heap→Stp w ρ S w' ρ' S'→FR w' ρ' S'.heap nt (sig slots (dstsOf ops.toList) vals' env) a'→a'.defers = a.defers→Q .normal a' w') →
   wpOps P ops Q (List.range' k os.length) a w:=by
 intro os k prev vals los S vals' S' a w ρ hk hprev hp hlow hex hr hG hf hQ
 have hkl : k + os.length = max k ops.toList.length:=by
  have:=congrArg List.length hk
  simp only [List.length_drop] at this
  omega
 refine seq_part hcall [] hkG hs os k prev vals los S vals' S' a w ρ (by simpa using hk) hprev hp hlow hex hr hG hf fun a' w' ρ' h1 h2 h3 h4=>?_
 rw [List.take_of_length_le (by omega)] at h3
 exact hQ a' w' ρ' h1 h2 h3 h4
end
end Go.Proofs.YtkaedpmmopigkaaGreatDoor
namespace Go.Proofs.YtkaedpmmopigkaaGreatDoor
open Go.RowKit
set_option linter.unusedVariables false
set_option linter.unusedSimpArgs false

def Down (ops : Array Oper) (L : Nat→Prop) : Prop:=∀ i o,ops[i]? = some o→L i→∀ e ∈ o.after,Region.binds .any e = true→L e.on

theorem one_bit (get : Nat → Nat) : ∀ (es : List Edge) (s i : Nat), (es.foldl (fun s e => if Region.binds .any e then s ||| 2 ^ e.on ||| get e.on else s) s).testBit i = true → s.testBit i = true ∨ ∃ e ∈ es, Region.binds .any e = true ∧ (i = e.on ∨ (get e.on).testBit i = true)
  | [],s,i,h=>.inl h
  | e :: es, s, i, h => by
    rw [List.foldl_cons] at h
    rcases one_bit get es _ i h with h1 | ⟨e',he',h2⟩
    · by_cases hb : Region.binds .any e = true
      · rw [if_pos hb, Nat.testBit_or, Nat.testBit_or, Bool.or_eq_true, Bool.or_eq_true] at h1
        rcases h1 with (h1 | h1) | h1
        · exact .inl h1
        · refine .inr ⟨e, by simp, hb, .inl ?_⟩
          rw [Nat.testBit_two_pow] at h1
          have : e.on = i:=by simpa using h1
          exact this.symm
        · exact .inr ⟨e,by simp,hb,.inr h1⟩
      · rw [if_neg hb] at h1
        exact .inl h1
    · exact .inr ⟨e',by simp [he'],h2⟩
theorem before_aux {ops : Array Oper} {L : Nat→Prop} (hL : Down ops L) : ∀ (os : List Oper) (acc : Array Nat),ops.toList.drop acc.size = os→(∀ j i,(acc.getD j 0).testBit i = true→L j→L i)→∀ j i,((os.foldl (fun acc o=>acc.push (o.after.foldl (fun s e=>if Region.binds .any e then s ||| 2 ^ e.on ||| acc.getD e.on 0 else s) 0)) acc).getD j 0).testBit i = true→L j→L i
 | [],acc,hd,h=>h
 | o :: os, acc, hd, h => by
  rw [List.foldl_cons]
  have ho : ops[acc.size]? = some o:=by
   have : (ops.toList.drop acc.size)[0]? = some o:=by rw [hd]; rfl
   simpa using this
  refine before_aux hL os _ ?_ ?_
  ·
   have : (ops.toList.drop acc.size).drop 1 = os:=by rw [hd]; rfl
   rw [List.drop_drop] at this
   simpa using this
  ·
   intro j i hj hLj
   by_cases hlt : j < acc.size
   ·
    have e : (acc.push (o.after.foldl (fun s e=>if Region.binds .any e then s ||| 2 ^ e.on ||| acc.getD e.on 0 else s) 0)).getD j 0 = acc.getD j 0:=by
     simp only [Array.getD_eq_getD_getElem?]
     rw [Array.getElem?_push_lt hlt,Array.getElem?_eq_getElem hlt]
    rw [e] at hj
    exact h j i hj hLj
   ·
    by_cases heq : j = acc.size
    ·
     subst heq
     have e : (acc.push (o.after.foldl (fun s e=>if Region.binds .any e then s ||| 2 ^ e.on ||| acc.getD e.on 0 else s) 0)).getD acc.size 0 = o.after.foldl (fun s e=>if Region.binds .any e then s ||| 2 ^ e.on ||| acc.getD e.on 0 else s) 0:=by
      simp [Array.getD_eq_getD_getElem?]
     rw [e,← Array.foldl_toList] at hj
     rcases one_bit (fun k=>acc.getD k 0) _ _ _ hj with h1 | ⟨e',he',hb,h2⟩
     ·
      simp at h1
     ·
      have hLe:=hL _ o ho hLj e' (Array.mem_toList_iff.1 he') hb
      rcases h2 with rfl | h2
      ·
       exact hLe
      ·
       exact h _ _ h2 hLe
    ·
     have e : (acc.push (o.after.foldl (fun s e=>if Region.binds .any e then s ||| 2 ^ e.on ||| acc.getD e.on 0 else s) 0)).getD j 0 = 0:=by
      simp only [Array.getD_eq_getD_getElem?]
      rw [Array.getElem?_eq_none (by simp; omega)]
      rfl
     rw [e] at hj
     simp at hj
theorem Mq {ops : Array Oper} {L : Nat→Prop} (hL : Down ops L) {j i : Nat} (h : ((Region.before ops).toList.getD j 0).testBit i = true) (hj : L j) : L i:=by
 have:=before_aux hL ops.toList #[] (by simp) (by simp) j i
 refine this ?_ hj
 unfold Region.before at h
 rw [← Array.foldl_toList] at h
 simpa using h
theorem O1 {ops : Array Oper} {L : Nat→Prop} (hL : Down ops L) {i j : Nat} (h : ordered (Region.before ops).toList i j = true) : (j < i→L i→L j)∧(i < j→L j→L i):=by
 unfold ordered at h
 refine ⟨fun hlt hi=>?_,fun hlt hj=>?_⟩
 ·
  rw [show Nat.max i j = i from Nat.max_eq_left (Nat.le_of_lt hlt),show Nat.min i j = j from Nat.min_eq_right (Nat.le_of_lt hlt)] at h
  exact Mq hL h hi
 ·
  rw [show Nat.max i j = j from Nat.max_eq_right (Nat.le_of_lt hlt),show Nat.min i j = i from Nat.min_eq_left (Nat.le_of_lt hlt)] at h
  exact Mq hL h hj

theorem countP_le' {p q : Nat→Bool} (h : ∀ x,q x = true→p x = true) : ∀ l : List Nat,l.countP q ≤ l.countP p
 | []=>by simp
 | a :: l=>by
  have ih:=countP_le' h l
  simp only [List.countP_cons]
  have:=h a
  cases hq : q a<;>cases hp : p a<;>simp_all<;>omega
theorem countP_lt' {p q : Nat→Bool} (h : ∀ x,q x = true→p x = true) {i : Nat} (hp : p i = true) (hq : q i = false) : ∀ l : List Nat,i ∈ l→l.countP q < l.countP p
 | [],hi=>by simp at hi
 | a :: l, hi => by
  simp only [List.countP_cons]
  rcases List.mem_cons.1 hi with rfl | hi
  ·
   have:=countP_le' h l
   simp [hp,hq]
   omega
  ·
   have ih:=countP_lt' h hp hq l hi
   have:=h a
   cases hq' : q a<;>cases hp' : p a<;>simp_all<;>omega

section
variable {P : Program} {ops : Array Oper} {Q : Exit→Act→World→Prop}
theorem wp_region_inv {id : Nat} {a0 : Act} {w0 : World} (hm : P.follows .mixedOrders = true) (hB : ∀ i o, ops[i]? = some o → ∀ e ∈ o.after, Region.binds .any e = true → e.on < i) (Inv : (Nat → Prop) → Act → World → Prop)
    (h0 : Inv (fun _=>False) a0 w0.drew)
    (hstep : ∀ L i o a w,ops[i]? = some o→¬ L i→Down ops L→(∀ e ∈ o.after,Region.binds .any e = true→L e.on)→Inv L a w→wpOp P ops Q i (fun a' w'=>Inv (fun k=>L k ∨ k = i) a' w') a w)
    (hend : ∀ L a w,(∀ i,i < ops.size→L i)→Inv L a w→Q .normal a w) : (Code.region id ops true).wp P Q a0 w0:=by
  refine wp_region_any hm ?_
  have key : ∀ (fuel : Nat) (listed : Array Bool) (a : Act) (w : World),listed.size = ops.size→(List.range ops.size).countP (fun i=>!listed.getD i false) ≤ fuel→Down ops (fun i=>listed.getD i false = true)→Inv (fun i=>listed.getD i false = true) a w→wpAny P .any ops Q fuel listed a w:=by
    intro fuel
    induction fuel with
    | zero =>
      intro listed a w hs hc hd h
      have hall : ∀ i,i < ops.size→listed.getD i false = true:=by
        intro i hi
        have h0 : (List.range ops.size).countP (fun i=>!listed.getD i false) = 0:=by omega
        rw [List.countP_eq_zero] at h0
        simpa using h0 i (List.mem_range.2 hi)
      refine ⟨?_,hend _ a w hall h⟩
      rw [List.eq_nil_iff_forall_not_mem]
      intro j hj
      obtain ⟨hu,o,ho,_⟩:=mem_ready.1 hj
      have hjl:=(Array.getElem?_eq_some_iff.1 ho).1
      have:=hall j hjl
      rw [getD_both hu] at this
      cases this
    | succ fuel ih =>
      intro listed a w hs hc hd h
      refine ⟨fun hnil=>hend _ a w ?_ h,fun i hi=>?_⟩
      · intro i
        induction i using Nat.strongRecOn with
        | _ i ihs =>
          intro hil
          cases hli : listed.getD i false with
          | true=>rfl
          | false =>
            exfalso
            have ho : ops[i]? = some ops[i]:=Array.getElem?_eq_getElem hil
            have hr : i ∈ Region.ready .any ops listed:=mem_ready.2 ⟨getD_in (by omega) hli,ops[i],ho,fun e he hb=>ihs e.on (hB i _ ho e he hb) (Nat.lt_trans (hB i _ ho e he hb) hil)⟩
            rw [hnil] at hr
            cases hr
      · obtain ⟨hu, o, ho, hall⟩ := mem_ready.1 hi
        have hil:=(Array.getElem?_eq_some_iff.1 ho).1
        have hset : (fun k=>(listed.setIfInBounds i true).getD k false = true) = (fun k=>listed.getD k false = true ∨ k = i):=by
          funext k
          apply propext
          by_cases hki : i = k
          · subst hki
            simp [hs,hil]
          · rw [getD_set_ne false hki]
            constructor
            · exact .inl
            · rintro (h | h)
              · exact h
              · exact absurd h.symm hki
        have hni : ¬ (listed.getD i false = true):=by rw [getD_both hu]; simp
        refine wpOp_mono ?_ (hstep _ i o a w ho hni hd hall h)
        intro a' w' hinv
        refine ih _ _ _ (by simp [hs]) ?_ ?_ (by rw [hset]; exact hinv)
        · have := countP_lt' (p := fun k => !listed.getD k false) (q := fun k => !(listed.setIfInBounds i true).getD k false) (i := i) ?_ ?_ ?_ (List.range ops.size) (List.mem_range.2 hil)
          · omega
          · intro x hx'
            simp only [Bool.not_eq_true'] at hx' ⊢
            rw [Bool.eq_false_iff] at hx' ⊢
            intro hc
            apply hx'
            have:=congrFun hset x
            rw [this]
            exact .inl hc
          · simp only [Bool.not_eq_true']; exact getD_both hu
          · simp only [Bool.not_eq_false']
            have:=congrFun hset i
            rw [this]
            exact .inr rfl
        · rw [hset]
          intro k ok hk hLk e he hb
          rcases hLk with hLk | rfl
          · exact .inl (hd k ok hk hLk e he hb)
          · rw [ho] at hk
            injection hk with hk
            subst hk
            exact .inl (hall e he hb)
  refine key ops.size _ a0 _ (by simp) (Nat.le_trans (List.countP_le_length) (by simp)) ?_ ?_
  · intro i o ho hL
    simp [Array.getD] at hL
  · have : (fun i => (Array.replicate ops.size false).getD i false = true) = (fun _ => False) := by
      funext i
      apply propext
      simp [Array.getD]
    rw [this]
    exact h0
end
end Go.Proofs.YtkaedpmmopigkaaGreatDoor
namespace Go.Proofs.YtkaedpmmopigkaaGreatDoor
open Go.RowKit
set_option linter.unusedVariables false
set_option linter.unusedSimpArgs false

def Ht (call : Bi) : Prop:=∀ f ds S r S',call f ds S = some (r,S',false)→S' = S

theorem lop_clean {l : LOp} {ds : List D} {S S' : St} {r : D} (h : lop l ds S = some (r,S',false)) : S' = S:=by
 unfold lop at h
 repeat' (first | (simp at h; done) | (split at h))
 all_goals first
  | (simp at h; done)
  | (simp only [Oi,Pi_] at h; exact h.2.1.symm)
  | (simp only [Om,Pi_] at h; obtain ⟨_,_,h1,h2,h3⟩:=h; first | exact h2.symm | (cases h3; done))
  | skip
 all_goals
  first | unfold Cf at h | unfold Bl at h | unfold ustrD at h | unfold P7 at h | unfold nextsD at h | unfold Fy at h
  repeat' (first | (simp at h; done) | (split at h) | (unfold Bl at h; skip))
  all_goals first
   | (simp at h; done)
   | (simp only [Oi,Pi_] at h; exact h.2.1.symm)
theorem aop_clean {l : LOp} {ds : List D} {S S' : St} {r : D} (h : aop l ds S = some (r,S',false)) : S' = S:=by
 unfold aop at h
 split at h
 ·
  exact lop_clean h
 ·
  simp only [Om,Pi_] at h
  obtain ⟨_,_,_,h2,_⟩:=h
  exact h2.symm
theorem K3 {call : Bi} (hc : Ht call) {l : LOp} {ds : List D} {S S' : St} {r : D} (h : Aw call l ds S = some (r,S',false)) : S' = S:=by
 unfold Aw at h
 split at h
 ·
  exact hc _ _ _ _ _ h
 ·
  split at h
  ·
   exact hc _ _ _ _ _ h
  ·
   simp at h
 ·
  split at h
  ·
   split at h
   ·
    exact hc _ _ _ _ _ h
   ·
    simp at h
  ·
   split at h
   ·
    exact hc _ _ _ _ _ h
   ·
    simp at h
  ·
   simp at h
 ·
  exact aop_clean h
theorem Oe {call : Bi} {l : LOp} {ds : List D} {S S' : St} {r : D} {wr : Bool} (hl : l.loud = false) (h : Aw call l ds S = some (r,S',wr)) : S' = S∧wr = false∧∀ S2,Aw call l ds S2 = some (r,S2,false):=by
 have ha : Aw call l ds = aop l ds:=by cases l<;>first | rfl | (simp [LOp.loud] at hl; done)
 rw [ha] at h ⊢
 unfold aop at h
 simp only [hl,Bool.false_eq_true,if_false,Om,Pi_] at h
 obtain ⟨r',h1,rfl,rfl,rfl⟩:=h
 exact ⟨rfl,rfl,fun S2=>by simp [aop,hl,h1]⟩

inductive Eff where
 | none
 | set (g : Nat) (o : Sk)
 | new (o : Sk)
def Eff.app : Eff→St→St
 | .none,S=>S
 | .set g o,S=>setAt S g o
 | .new o,S=>newAt S o
def Eff.within (n : Nat) (W : List Nat) (c : Bool) : Eff→Prop
 | .none=>True
 | .set g _=>g ∈ W
 | .new _=>c = true∧n ∈ W
def Framed (call : Bi) (l : LOp) (ds : List D) (S : St) (r : D) (S' : St) (wr : Bool) (fp : FP) : Prop :=
 ∃ R W eff,fp.reads = some R∧fp.writes = some W∧S' = Eff.app eff S∧Eff.within S.heap.length W fp.creates eff ∧
  ∀ T : St,(∀ g ∈ R,T.heap[g]? = S.heap[g]?)→(fp.creates = true→T.heap.length = S.heap.length)→Aw call l ds T = some (r,eff.app T,wr)

theorem Fp {S T : St} {g v : Nat} (h : T.heap[g]? = S.heap[g]?) : rowsOf T g v = rowsOf S g v:=by simp [rowsOf,h]
theorem snap_plain {m : Nat} {H : List Sk} {d : D} (h : Ao d = true) : snap m H d = some d:=by
 cases d<;>first | rfl | (simp [Ao] at h; done)
theorem Qx {m : Nat} {H : List Sk} : ∀ {ds : List D},ds.all Ao = true→Bw m H ds = some ds
 | [],_=>rfl
 | d :: ds,h=>by
  simp only [List.all_cons,Bool.and_eq_true] at h
  simp [Bw,snap_plain h.1,Qx h.2]
theorem Qz {m : Nat} {H : List Sk} {d : D} (h : Sv d = true) : Sw m H d = some d:=by
 unfold Sv at h
 split at h
 ·
  simp [Sw,Qx h]
 ·
  rename_i hn
  unfold Sw
  split
  ·
   rename_i cs; exact absurd rfl (hn cs)
  ·
   exact snap_plain h
theorem fpApp_loud (s x r : D) (wr : Bool) : (Co s x r wr).loud = true:=by
 unfold Co
 cases wr
 ·
  rfl
 ·
  simp only [if_true]
  split
  ·
   split<;>rfl
  ·
   rfl
theorem fpMk_loud (r : D) (wr : Bool) : (Cb r wr).loud = true:=by
 unfold Cb
 split<;>cases wr<;>rfl
theorem fpOf_loud (l : LOp) (ds : List D) (r : D) (wr : Bool) : (Ec l ds r wr).loud = l.loud:=by
 unfold Ec
 repeat' split
 all_goals first
  | rfl
  | (cases wr<;>rfl)
  | exact fpApp_loud ..
  | exact fpMk_loud ..
  | (rename_i h; simp [h,Bg]; cases wr<;>rfl)
  | (rename_i h; simp at h; simp [h,Ai])

theorem E5 {call : Bi} {l : LOp} {ds : List D} {S S' : St} {r : D} {wr : Bool} (h : Aw call l ds S = some (r,S',wr)) {f : St→Option D} (he : ∀ T : St,Aw call l ds T = (f T).map fun r=>(r,T,false)) (R : List Nat) (hT : ∀ T : St,(∀ g ∈ R,T.heap[g]? = S.heap[g]?)→f T = f S) (hf : Ec l ds r wr = Ak R) : Framed call l ds S r S' wr (Ec l ds r wr):=by
 rw [he S,Om] at h
 obtain ⟨r',h1,h2⟩:=h
 simp only [Pi_] at h2
 obtain ⟨rfl,rfl,rfl⟩:=h2
 rw [hf]
 exact ⟨R,[],.none,rfl,rfl,rfl,trivial,fun T hR _=>by rw [he T,hT T hR,h1]; rfl⟩

theorem read_congr {S T : St} {sz : Nat} {x : D} (h : ∀ g ∈ Bv x,T.heap[g]? = S.heap[g]?) : Dh T sz x = Dh S sz x∧Dj T sz x = Dj S sz x:=by
 cases x with
 | msl g v lo n c=>simp [Dh,Dj,Fp (h g (by simp [Bv]))]
 | _=>exact ⟨rfl,rfl⟩
theorem rowsOf_lt {S : St} {g v : Nat} {o : Sk} (h : rowsOf S g v = some o) : g < S.heap.length:=by
 unfold rowsOf at h
 split at h
 ·
  rename_i h1; exact (List.getElem?_eq_some_iff.1 h1).1
 ·
  simp at h
theorem fp_app {e sz bytes kind : Nat} {s x r : D} {new : List (List D)} {S S' : St} {wr : Bool} {F : St → Option (D × St × Bool)}
    (hF : ∀ T : St,(∀ g ∈ Bv s ++ Bv x,T.heap[g]? = S.heap[g]?)→F T = Bl e sz bytes kind s new T) (h : Bl e sz bytes kind s new S = some (r,S',wr)) :
    ∃ R W eff, (Co s x r wr).reads = some R ∧ (Co s x r wr).writes = some W ∧ S' = Eff.app eff S ∧ Eff.within S.heap.length W (Co s x r wr).creates eff ∧
      ∀ T : St,(∀ g ∈ R,T.heap[g]? = S.heap[g]?)→((Co s x r wr).creates = true→T.heap.length = S.heap.length)→F T = some (r,eff.app T,wr):=by
  have quiet : ∀ r,wr = false→S' = S→(∀ T : St,(∀ g ∈ Bv s ++ Bv x,T.heap[g]? = S.heap[g]?)→Bl e sz bytes kind s new T = some (r,T,false))→∃ R W eff,(Co s x r wr).reads = some R∧(Co s x r wr).writes = some W∧S' = Eff.app eff S∧Eff.within S.heap.length W (Co s x r wr).creates eff ∧
      ∀ T : St,(∀ g ∈ R,T.heap[g]? = S.heap[g]?)→((Co s x r wr).creates = true→T.heap.length = S.heap.length)→F T = some (r,eff.app T,wr):=by
    intro r h1 h2 h3
    subst h1 h2
    exact ⟨_,_,.none,rfl,rfl,rfl,trivial,fun T hR _=>by rw [hF T hR,h3 T hR]; rfl⟩
  have fresh : ∀ v lo n c o,wr = true→S' = newAt S o→(Bv s ≠ [S.heap.length])→(∀ T : St,(∀ g ∈ Bv s ++ Bv x,T.heap[g]? = S.heap[g]?)→Bl e sz bytes kind s new T = some (.msl T.heap.length v lo n c,newAt T o,true))→∃ R W eff,(Co s x (.msl S.heap.length v lo n c) wr).reads = some R∧(Co s x (.msl S.heap.length v lo n c) wr).writes = some W∧S' = Eff.app eff S∧Eff.within S.heap.length W (Co s x (.msl S.heap.length v lo n c) wr).creates eff ∧
      ∀ T : St,(∀ g ∈ R,T.heap[g]? = S.heap[g]?)→((Co s x (.msl S.heap.length v lo n c) wr).creates = true→T.heap.length = S.heap.length)→F T = some (.msl S.heap.length v lo n c,eff.app T,wr):=by
    intro v lo n c o h1 h2 hne h3
    subst h1 h2
    have hf : Co s x (.msl S.heap.length v lo n c) true = ⟨true,some (Bv s ++ Bv x),some [S.heap.length],true,none⟩:=by simp only [Co,if_true,if_neg hne]
    rw [hf]
    exact ⟨_,_,.new o,rfl,rfl,rfl,⟨rfl,by simp⟩,fun T hR hl=>by rw [hF T hR,h3 T hR,hl rfl]; rfl⟩
  have inpl : ∀ g v lo n c o,wr = true→S' = setAt S g o→Bv s = [g]→(∀ T : St,(∀ g ∈ Bv s ++ Bv x,T.heap[g]? = S.heap[g]?)→Bl e sz bytes kind s new T = some (.msl g v lo n c,setAt T g o,true))→∃ R W eff,(Co s x (.msl g v lo n c) wr).reads = some R∧(Co s x (.msl g v lo n c) wr).writes = some W∧S' = Eff.app eff S∧Eff.within S.heap.length W (Co s x (.msl g v lo n c) wr).creates eff ∧
      ∀ T : St,(∀ g ∈ R,T.heap[g]? = S.heap[g]?)→((Co s x (.msl g v lo n c) wr).creates = true→T.heap.length = S.heap.length)→F T = some (.msl g v lo n c,eff.app T,wr):=by
    intro g v lo n c o h1 h2 hne h3
    subst h1 h2
    have hf : Co s x (.msl g v lo n c) true = ⟨true,some (Bv s ++ Bv x),some [g],false,none⟩:=by simp only [Co,if_true,if_pos hne]
    rw [hf]
    exact ⟨_,_,.set g o,rfl,rfl,rfl,by simp [Eff.within],fun T hR _=>by rw [hF T hR,h3 T hR]; rfl⟩
  cases s with
  | Tk =>
    simp only [Bl] at h quiet fresh
    split at h
    · rename_i hc
      simp only [Oi,Pi_] at h
      obtain ⟨rfl,rfl,rfl⟩:=h
      exact quiet _ rfl rfl fun T hT=>by rw [if_pos hc]
    · rename_i hc
      split at h
      · rename_i hb
        simp only [Oi,Pi_] at h
        obtain ⟨rfl,rfl,rfl⟩:=h
        exact fresh _ _ _ _ _ rfl rfl (by simp [Bv]) fun T hT=>by rw [if_neg hc,if_pos hb]
      · simp at h
  | sl s' rows cap =>
    simp only [Bl] at h quiet fresh
    split at h
    · rename_i hc
      simp only [Oi,Pi_] at h
      obtain ⟨rfl,rfl,rfl⟩:=h
      exact quiet _ rfl rfl fun T hT=>by rw [if_pos hc]
    · rename_i hc
      split at h
      · rename_i hb
        simp only [Oi,Pi_] at h
        obtain ⟨rfl,rfl,rfl⟩:=h
        exact fresh _ _ _ _ _ rfl rfl (by simp [Bv]) fun T hT=>by rw [if_neg hc,if_pos hb]
      · simp at h
  | msl g v lo n cap =>
    simp only [Bl] at h quiet fresh inpl
    cases ho : rowsOf S g v with
    | none=>rw [ho] at h; simp at h
    | some o =>
      rw [ho] at h
      have hg:=rowsOf_lt ho
      have hT' : ∀ T : St,(∀ k ∈ Bv (D.msl g v lo n cap) ++ Bv x,T.heap[k]? = S.heap[k]?)→rowsOf T g v = some o:=fun T hT=>(Fp (hT g (by simp [Bv]))).trans ho
      by_cases h1 : o.sz = sz∧o.elem = e∧lo = 0∧n = o.rows.length∧cap = none∧(if kind = 0 then o.kind = 0 else (o.kind = 1 ∨ o.kind = 2))∧(n + new.length) * bytes ≤ 140737488355328
      · replace h : some (D.msl g (v + 1) 0 (n + new.length) none, setAt S g { o with rows := o.rows ++ new, ver := v + 1, grow := true }, true) = some (r, S', wr) := by rw [← h]; exact (if_pos h1).symm
        simp only [Oi,Pi_] at h
        obtain ⟨rfl,rfl,rfl⟩:=h
        exact inpl _ _ _ _ _ _ rfl rfl rfl fun T hT=>by rw [hT' T hT]; exact if_pos h1
      · by_cases h2 : o.sz = sz ∧ o.elem = e ∧ lo = 0 ∧ cap = none ∧ (if kind = 0 then o.kind = 0 else o.kind = 2) ∧ n + new.length ≤ o.rows.length
        · replace h : some (D.msl g v 0 (n + new.length) none, setAt S g { o with rows := o.rows.take n ++ new ++ o.rows.drop (n + new.length) }, true) = some (r, S', wr) := by rw [← h]; exact ((if_neg h1).trans (if_pos h2)).symm
          simp only [Oi,Pi_] at h
          obtain ⟨rfl,rfl,rfl⟩:=h
          exact inpl _ _ _ _ _ _ rfl rfl rfl fun T hT=>by rw [hT' T hT]; exact (if_neg h1).trans (if_pos h2)
        · by_cases h3 : o.sz = sz ∧ o.elem = e ∧ cap = some n ∧ (if kind = 0 then o.kind = 0 else (o.kind = 1 ∨ o.kind = 2)) ∧ (n + new.length) * bytes ≤ 140737488355328
          · by_cases h4 : new.isEmpty = true
            · replace h : some (D.msl g v lo n cap, S, false) = some (r, S', wr) := by rw [← h]; exact ((if_neg h1).trans ((if_neg h2).trans ((if_pos h3).trans (if_pos h4)))).symm
              simp only [Oi,Pi_] at h
              obtain ⟨rfl,rfl,rfl⟩:=h
              exact quiet _ rfl rfl fun T hT=>by rw [hT' T hT]; exact (if_neg h1).trans ((if_neg h2).trans ((if_pos h3).trans (if_pos h4)))
            · replace h : some (D.msl S.heap.length 0 0 (n + new.length) none, newAt S ⟨e, sz, (o.rows.drop lo).take n ++ new, 0, kind, true⟩, true) = some (r, S', wr) := by rw [← h]; exact ((if_neg h1).trans ((if_neg h2).trans ((if_pos h3).trans (if_neg h4)))).symm
              simp only [Oi,Pi_] at h
              obtain ⟨rfl,rfl,rfl⟩:=h
              exact fresh _ _ _ _ _ rfl rfl (by simp only [Bv]; intro hq; injection hq; omega) fun T hT=>by rw [hT' T hT]; exact (if_neg h1).trans ((if_neg h2).trans ((if_pos h3).trans (if_neg h4)))
          · replace h : none = some (r, S', wr) := by rw [← h]; exact ((if_neg h1).trans ((if_neg h2).trans (if_neg h3))).symm
            simp at h
  | _=>simp [Bl] at h

theorem Iq {m : Nat} {H : List Sk} : ∀ {ds : List D},ds.all Sv = true→Ar m H ds = some ds
 | [],_=>rfl
 | d :: ds,h=>by
  simp only [List.all_cons,Bool.and_eq_true] at h
  simp [Ar,Qz h.1,Iq h.2]
theorem I6 {call : Bi} {l : LOp} {ds : List D} {S S' : St} {r : D} {wr : Bool} (h : Aw call l ds S = some (r, S', wr)) : Framed call l ds S r S' wr (Ec l ds r wr) ∨ Ec l ds r wr = Bg wr := by
  cases hl : l.loud with
  | false =>
    left
    obtain ⟨rfl,rfl,h2⟩:=Oe hl h
    have e : Ec l ds r false = Ai:=by
      cases l<;>first | rfl | (simp [LOp.loud] at hl; done) | skip
      rename_i st _ _ _ _
      cases st
      · simp [LOp.loud] at hl
      · rfl
    rw [e]
    exact ⟨[],[],.none,rfl,rfl,rfl,trivial,fun T _ _=>h2 T⟩
  | true =>
    cases l with
    | load sz agg =>
      left
      match ds,h with
      | [a], h =>
        have he : ∀ T : St,Aw call (.load sz agg) [a] T = (Gq sz agg T a).map fun r=>(r,T,false):=fun T=>rfl
        cases a with
        | ptr g v i o =>
          refine E5 h he [g] (fun T hT=>?_) rfl
          simp only [Gq,Fp (hT g (by simp))]
        | _=>refine E5 h he [] (fun T hT=>?_) rfl; rfl
      | [],h=>simp [Aw,aop,LOp.loud,lop] at h
      | _ :: _ :: _,h=>simp [Aw,aop,LOp.loud,lop] at h
    | Ti sz =>
      left
      match ds,h with
      | [a, i], h =>
        have he : ∀ T : St,Aw call (.Ti sz) [a,i] T = (Fg T sz a i).map fun r=>(r,T,false):=fun T=>rfl
        cases a with
        | msl g v lo n c =>
          refine E5 h he [g] (fun T hT=>?_) rfl
          cases i<;>simp only [Fg,Fp (hT g (by simp))]
        | _=>refine E5 h he [] (fun T hT=>?_) rfl; cases i<;>rfl
      | [],h=>simp [Aw,aop,LOp.loud,lop] at h
      | [_],h=>simp [Aw,aop,LOp.loud,lop] at h
      | _ :: _ :: _ :: _,h=>simp [Aw,aop,LOp.loud,lop] at h
    | mapget kf z ok =>
      left
      match ds,h with
      | [a, i], h =>
        have he : ∀ T : St,Aw call (.mapget kf z ok) [a,i] T = (Kq T kf z ok a i).map fun r=>(r,T,false):=fun T=>rfl
        cases a with
        | mref g v =>
          refine E5 h he [g] (fun T hT=>?_) rfl
          simp only [Kq,M7,Fp (hT g (by simp))]
        | _=>refine E5 h he [] (fun T hT=>?_) rfl; rfl
      | [],h=>simp [Aw,aop,LOp.loud,lop] at h
      | [_],h=>simp [Aw,aop,LOp.loud,lop] at h
      | _ :: _ :: _ :: _,h=>simp [Aw,aop,LOp.loud,lop] at h
    | slice st sz lo hi mx =>
      cases st with
      | true=>simp [LOp.loud] at hl
      | false =>
        left
        match ds,h with
        | a :: xs, h =>
          have he : ∀ T : St,Aw call (.slice false sz lo hi mx) (a :: xs) T = (match Ci lo hi mx xs with | some (p,q,m)=>D8 T sz a p q m | none=>none).map fun r=>(r,T,false):=by
            intro T
            show lop (.slice false sz lo hi mx) (a :: xs) T = _
            simp only [lop]
            split<;>(rename_i hq; rw [hq]; try rfl)
          cases a with
          | msl g v o n c =>
            refine E5 h he [g] (fun T hT=>?_) rfl
            simp only [D8,Fz,Fp (hT g (by simp))]
          | _=>refine E5 h he [] (fun T hT=>?_) rfl; rfl
        | [],h=>simp [Aw,aop,LOp.loud,lop] at h
    | strb =>
      left
      match ds,h with
      | [a], h =>
        cases a with
        | str s=>exact E5 h (f:=fun T=>some (.sl 1 (Be s) none)) (fun T=>rfl) [] (fun T hT=>rfl) rfl
        | _=>simp [Aw,aop,LOp.loud,lop] at h
      | [],h=>simp [Aw,aop,LOp.loud,lop] at h
      | _ :: _ :: _,h=>simp [Aw,aop,LOp.loud,lop] at h
    | append e sz bytes kind =>
      left
      match ds,h with
      | [s, x], h =>
        have he : ∀ T : St,Aw call (.append e sz bytes kind) [s,x] T = Cf e sz bytes kind s x T:=fun T=>rfl
        rw [he] at h
        unfold Cf at h
        cases hn : (if kind = 0 then Dj S sz x else Dh S sz x) with
        | none=>rw [hn] at h; simp at h
        | some new =>
          rw [hn] at h
          refine fp_app (F:=fun T=>Aw call (.append e sz bytes kind) [s,x] T) (fun T hT=>?_) h
          obtain ⟨h1,h2⟩:=read_congr (sz:=sz) (x:=x) fun g hg=>hT g (List.mem_append.2 (.inr hg))
          rw [he]
          unfold Cf
          rw [h1,h2,hn]
      | [],h=>simp [Aw,aop,LOp.loud,lop] at h
      | [_],h=>simp [Aw,aop,LOp.loud,lop] at h
      | _ :: _ :: _ :: _,h=>simp [Aw,aop,LOp.loud,lop] at h
    | Tg e sz len z ps kind =>
      by_cases hk : (decide (kind = 0) || ds.all Sv) = true
      · have hf0 : Ec (.Tg e sz len z ps kind) ds r wr = Cb r wr := by simp only [Ec]; rw [if_pos hk]
        have he : ∀ T : St,Aw call (.Tg e sz len z ps kind) ds T = lop (.Tg e sz len z ps kind) ds T:=fun T=>rfl
        rw [he] at h
        by_cases h0 : kind = 0
        · simp only [lop, if_pos h0] at h
          cases hf : Dw (List.replicate len z) sz ps ds with
          | none=>rw [hf] at h; simp at h
          | some rs =>
            rw [hf] at h
            simp only [Oi,Pi_] at h
            obtain ⟨rfl,rfl,rfl⟩:=h
            left
            rw [hf0]
            exact ⟨[],[S.heap.length],.new ⟨e,sz,rs,0,0,false⟩,rfl,rfl,rfl,⟨rfl,by simp⟩,fun T _ hT=>by rw [he]; simp only [lop,if_pos h0,hf,hT rfl]; rfl⟩
        · have hp : ds.all Sv = true := by simpa [h0] using hk
          simp only [lop,if_neg h0,Iq hp] at h
          cases hf : Cw (List.replicate len z) sz ps ds with
          | none=>rw [hf] at h; simp at h
          | some rs =>
            rw [hf] at h
            simp only at h
            by_cases h2 : kind = 2
            · rw [if_pos h2] at h
              simp only [Oi,Pi_] at h
              obtain ⟨rfl,rfl,rfl⟩:=h
              left
              rw [hf0]
              exact ⟨[],[S.heap.length],.new ⟨e,sz,rs,0,2,false⟩,rfl,rfl,rfl,⟨rfl,by simp⟩,fun T _ hT=>by rw [he]; simp only [lop,if_neg h0,Iq hp,hf,if_pos h2,hT rfl]; rfl⟩
            · rw [if_neg h2] at h
              simp only [Oi,Pi_] at h
              obtain ⟨rfl,rfl,rfl⟩:=h
              left
              rw [hf0]
              exact ⟨[],[],.none,rfl,rfl,rfl,trivial,fun T _ _=>by rw [he]; simp only [lop,if_neg h0,Iq hp,hf,if_neg h2]; rfl⟩
      · right
        simp only [Ec]
        rw [if_neg hk]
    | boxc sz =>
      left
      match ds,h with
      | [x],h=>exact E5 h (f:=fun T=>if x.val && x.cells.length == sz && x.cells.all D.free then some (.Tn x.cells 0) else none) (fun T=>by simp only [Aw,aop,LOp.loud,if_true,lop]; split<;>rfl) [] (fun T hT=>rfl) rfl
      | [],h=>simp [Aw,aop,LOp.loud,lop] at h
      | _ :: _ :: _,h=>simp [Aw,aop,LOp.loud,lop] at h
    | box e sz =>
      left
      match ds,h with
      | [x], h =>
        simp only [Aw,aop,LOp.loud,if_true,lop] at h
        split at h
        · rename_i hx
          simp only [Oi,Pi_] at h
          obtain ⟨rfl,rfl,rfl⟩:=h
          exact ⟨[],[S.heap.length],.new ⟨e,sz,[x.cells],0,0,false⟩,rfl,rfl,rfl,⟨rfl,by simp⟩,fun T _ hT=>by simp only [Aw,aop,LOp.loud,if_true,lop,if_pos hx,hT rfl]; rfl⟩
        · simp at h
      | [],h=>simp [Aw,aop,LOp.loud,lop] at h
      | _ :: _ :: _,h=>simp [Aw,aop,LOp.loud,lop] at h
    | mknz e =>
      left
      rcases ds with _ | ⟨a,_ | ⟨b,ds⟩⟩
      · simp [Aw,aop,LOp.loud,lop] at h
      · have he : ∀ T : St, Aw call (.mknz e) [a] T = lop (.mknz e) [a] T := fun T => rfl
        rw [he] at h
        cases a with
        | int k n =>
          cases k<;>first | (simp [lop] at h; done) | skip
          simp only [lop] at h
          split at h
          · rename_i hx
            simp only [Oi,Pi_] at h
            obtain ⟨rfl,rfl,rfl⟩:=h
            exact ⟨[],[S.heap.length],.new ⟨e,1,List.replicate n.toNat [.junk],0,2,true⟩,rfl,rfl,rfl,⟨rfl,by simp⟩,fun T _ hT=>by rw [he]; simp only [lop,if_pos hx,hT rfl]; rfl⟩
          · simp at h
        | _=>simp [lop] at h
      · simp [Aw,aop,LOp.loud,lop] at h
    | mkslice e sz bytes z kind =>
      left
      rcases ds with _ | ⟨a,_ | ⟨b,_ | ⟨c,ds⟩⟩⟩
      · simp [Aw,aop,LOp.loud,lop] at h
      · simp [Aw,aop,LOp.loud,lop] at h
      · cases a <;> first | (simp [Aw, aop, LOp.loud, lop] at h; done) | skip
        cases b<;>first | (simp [Aw,aop,LOp.loud,lop] at h; done) | skip
        rename_i k1 l k2 c
        simp only [Aw,aop,LOp.loud,if_true,lop] at h
        split at h
        · rename_i hx
          simp only [Oi,Pi_] at h
          obtain ⟨rfl,rfl,rfl⟩:=h
          exact ⟨[],[S.heap.length],.new ⟨e,sz,List.replicate l.toNat z,0,kind,decide (l ≠ c)⟩,rfl,rfl,rfl,⟨rfl,by simp⟩,fun T _ hT=>by simp only [Aw,aop,LOp.loud,if_true,lop,if_pos hx,hT rfl]; rfl⟩
        · simp at h
      · simp [Aw,aop,LOp.loud,lop] at h
    | store sz =>
      match ds,h with
      | [a, x], h =>
        cases a with
        | ptr g v i o =>
          by_cases hp : Sv x = true
          · left
            have hf : Ec (.store sz) [.ptr g v i o,x] r wr = ⟨true,some [g],some [g],false,none⟩:=by simp [Ec,hp]
            have hs : ∀ ob : Sk,∀ T : St,(if ob.kind = 0 then some x else Sw T.heap.length T.heap x) = some x:=fun ob T=>by rw [Qz hp]; simp
            simp only [Aw,aop,LOp.loud,if_true,lop,Om,Pi_] at h
            obtain ⟨S1,h1,rfl,rfl,rfl⟩:=h
            simp only [Bq,hs] at h1
            split at h1
            · rename_i ob hob
              split at h1
              · rename_i row hrow
                split at h1
                · rename_i hc
                  simp only [Oi] at h1
                  subst h1
                  rw [hf]
                  refine ⟨[g],[g],.set g { ob with rows:=ob.rows.set i (overlay row o x.cells) },rfl,rfl,rfl,by simp [Eff.within],fun T hT _=>?_⟩
                  have hob' : rowsOf T g v = some ob:=(Fp (hT g (by simp))).trans hob
                  simp only [Aw,aop,LOp.loud,if_true,lop,Bq,hs,hob',hrow,if_pos hc]
                  rfl
                · simp at h1
              · simp at h1
            · simp at h1
          · right; simp [Ec,hp]
        | _=>right; rfl
      | [],h=>simp [Aw,aop,LOp.loud,lop] at h
      | [_],h=>simp [Aw,aop,LOp.loud,lop] at h
      | _ :: _ :: _ :: _,h=>simp [Aw,aop,LOp.loud,lop] at h
    | _=>right; simp_all [Ec,LOp.loud]

theorem app_get {e : Eff} {S : St} {W : List Nat} {c : Bool} (h : e.within S.heap.length W c) {g : Nat} (hg : g ∉ W) : (e.app S).heap[g]? = S.heap[g]?:=by
 cases e with
 | none=>rfl
 | set g' o =>
  have hne : g' ≠ g:=fun e=>hg (e ▸ h)
  simp [Eff.app,setAt,Ln_ hne]
 | new o =>
  have hne : g ≠ S.heap.length:=fun e=>hg (e ▸ h.2)
  simp only [Eff.app,newAt]
  rcases Nat.lt_or_ge g S.heap.length with h1 | h1
  ·
   rw [La_ h1]
  ·
   rw [Lr_ h1,List.getElem?_eq_none h1]
   simp only [List.getElem?_eq_none_iff,List.length_singleton]
   omega
theorem app_len {e : Eff} {S : St} {W : List Nat} {c : Bool} (h : e.within S.heap.length W c) (hc : c = false) : (e.app S).heap.length = S.heap.length:=by
 cases e with
 | none=>rfl
 | set g' o=>simp [Eff.app,setAt]
 | new o=>rw [hc] at h; cases h.1
theorem app_comm {e f : Eff} {S : St} {W V : List Nat} {c d : Bool} (he : e.within S.heap.length W c) (hf : f.within S.heap.length V d) (hd : ∀ g ∈ W,g ∉ V) (hcd : ¬ (c = true∧d = true)) : e.app (f.app S) = f.app (e.app S):=by
 cases e with
 | none=>rfl
 | set g o =>
  cases f with
  | none=>rfl
  | set g' o' =>
   have hne : g ≠ g':=fun e=>hd g he (e ▸ hf)
   simp only [Eff.app,setAt,St.mk.injEq]
   exact ⟨List.set_comm _ _ (fun e=>hne e.symm),by omega⟩
  | new o' =>
   have hne : g ≠ S.heap.length:=fun e=>hd g he (e ▸ hf.2)
   simp only [Eff.app,setAt,newAt,St.mk.injEq,and_true]
   rw [List.set_append]
   split
   ·
    rfl
   ·
    rename_i h1
    rw [List.set_eq_of_length_le (l:=S.heap) (by omega),List.set_eq_of_length_le (by simp; omega)]
 | new o =>
  cases f with
  | none=>rfl
  | set g' o' =>
   have hne : g' ≠ S.heap.length:=fun e=>hd _ he.2 (e ▸ hf)
   simp only [Eff.app,setAt,newAt,St.mk.injEq,and_true]
   rw [List.set_append]
   split
   ·
    rfl
   ·
    rename_i h1
    rw [List.set_eq_of_length_le (l:=S.heap) (by omega),List.set_eq_of_length_le (by simp; omega)]
  | new o'=>exact absurd ⟨he.1,hf.1⟩ hcd
theorem dj_some {l m : List Nat} (h : dj (some l) (some m) = true) : ∀ g ∈ l,g ∉ m:=by
 intro g hg hm
 cases l with
 | nil=>cases hg
 | cons a l =>
  cases m with
  | nil=>cases hm
  | cons b m =>
   have:=List.all_eq_true.1 h g hg
   simp at this
   simp at hm
   rcases hm with hm | hm
   ·
    exact this.1 hm
   ·
    exact this.2 hm
theorem dj_some0 {l : List Nat} (h : dj none (some l) = true) : l = []:=by
 cases l with
 | nil=>rfl
 | cons a l=>simp [dj] at h
theorem dj_none {l : List Nat} (h : dj (some l) none = true) : l = []:=by
 cases l with
 | nil=>rfl
 | cons a l=>simp [dj] at h

theorem swap {call : Bi} (hc : Ht call) {la lb : LOp} {da db : List D} {ra rb : D} {wa wb : Bool} {S S1 S2 : St} (h1 : Aw call la da S = some (ra, S1, wa)) (h2 : Aw call lb db S1 = some (rb, S2, wb)) (hi : Ba (Ec la da ra wa) (Ec lb db rb wb) = true) :
    ∃ S3,Aw call lb db S = some (rb,S3,wb)∧Aw call la da S3 = some (ra,S2,wa)∧((Ec la da ra wa).writes = none→S2 = S1)∧((Ec lb db rb wb).writes = none→S3 = S2):=by
  cases hla : la.loud with
  | false =>
    obtain ⟨rfl,rfl,h3⟩:=Oe hla h1
    refine ⟨S2,h2,h3 S2,fun hw=>?_,fun _=>rfl⟩
    rcases I6 h1 with ⟨_,_,_,_,hw',_⟩ | hf
    · rw [hw] at hw'; cases hw'
    · rw [hf] at hw; cases hw
  | true =>
    cases hlb : lb.loud with
    | false =>
      obtain ⟨rfl,rfl,h3⟩:=Oe hlb h2
      refine ⟨S,h3 S,h1,fun _=>rfl,fun hw=>?_⟩
      rcases I6 h2 with ⟨_,_,_,_,hw',_⟩ | hf
      · rw [hw] at hw'; cases hw'
      · rw [hf] at hw; cases hw
    | true =>
      simp only [Ba,fpOf_loud,hla,hlb,Bool.not_true,Bool.false_or,Bool.and_eq_true,Bool.not_eq_true'] at hi
      obtain ⟨⟨⟨⟨⟨d1,d2⟩,d3⟩,d4⟩,d5⟩,d6⟩:=hi
      rcases I6 h1 with ⟨Ra,Wa,ea,hra,hwa,rfl,hia,hTa⟩ | hfa
      · rcases I6 h2 with ⟨Rb, Wb, eb, hrb, hwb, rfl, hib, hTb⟩ | hfb
        · rw [hra, hwb] at d3
          rw [hwa,hrb] at d1
          rw [hwa,hwb] at d2
          have d1:=dj_some d1
          have d2:=dj_some d2
          have d3:=dj_some d3
          have hlen : ∀ (hcb : (Ec lb db rb wb).creates = true),(ea.app S).heap.length = S.heap.length:=fun hcb=>app_len hia (by rw [hcb] at d4; simpa using d4)
          have hib' : eb.within S.heap.length Wb (Ec lb db rb wb).creates:=by
            cases eb with
            | none=>trivial
            | set g o=>exact hib
            | new o=>exact ⟨hib.1,by rw [← hlen hib.1]; exact hib.2⟩
          have hb : Aw call lb db S = some (rb,eb.app S,wb):=hTb S (fun g hg=>(app_get hia fun hgw=>d1 g hgw hg).symm) (fun hcb=>(hlen hcb).symm)
          have ha : Aw call la da (eb.app S) = some (ra,ea.app (eb.app S),wa):=hTa (eb.app S) (fun g hg=>app_get hib' fun hgw=>d3 g hgw hg) (fun hca=>app_len hib' (by rw [hca] at d4; simpa using d4))
          rw [app_comm hia hib' d2 (fun hcd=>by rw [hcd.1,hcd.2] at d4; cases d4)] at ha
          exact ⟨eb.app S,hb,ha,fun hw=>(by rw [hw] at hwa; cases hwa),fun hw=>(by rw [hw] at hwb; cases hwb)⟩
        · cases wb with
          | true =>
            rw [hfb,hra] at d3
            rw [hfb,hwa] at d2
            rw [hfb] at d4
            have hR:=dj_some0 (by simpa [Bg] using d3)
            have hW:=dj_none (by simpa [Bg] using d2)
            subst hR hW
            have hca : (Ec la da ra wa).creates = false:=by simpa [Bg] using d4
            have he : ∀ T : St,ea.app T = T:=fun T=>by
              cases ea with
              | none=>rfl
              | set g o=>cases hia
              | new o=>cases hia.2
            rw [he] at h1 h2
            refine ⟨S2,h2,?_,fun hw=>(by rw [hwa] at hw; cases hw),fun _=>rfl⟩
            have:=hTa S2 (fun g hg=>(by cases hg)) (fun h=>by rw [hca] at h; cases h)
            rwa [he] at this
          | false =>
            have:=K3 hc h2
            subst this
            rw [hfb,hwa] at d1
            have hW:=dj_none (by simpa [Bg] using d1)
            subst hW
            rw [hfb] at d5
            have hca : (Ec la da ra wa).creates = false:=by simpa [Bg] using d5
            have he : ea.app S = S:=by
              cases ea with
              | none=>rfl
              | set g o=>cases hia
              | new o=>cases hia.2
            rw [he] at h1 h2 ⊢
            exact ⟨S,h2,h1,fun _=>rfl,fun _=>rfl⟩
      · cases wa with
        | true =>
          rcases I6 h2 with ⟨Rb,Wb,eb,hrb,hwb,rfl,hib,hTb⟩ | hfb
          · rw [hfa, hrb] at d1
            rw [hfa,hwb] at d2
            rw [hfa] at d4
            have hR:=dj_some0 (by simpa [Bg] using d1)
            have hW:=dj_some0 (by simpa [Bg] using d2)
            subst hR hW
            have hcb : (Ec lb db rb wb).creates = false:=by simpa [Bg] using d4
            have he : ∀ T : St,eb.app T = T:=fun T=>by
              cases eb with
              | none=>rfl
              | set g o=>cases hib
              | new o=>cases hib.2
            rw [he] at h2 ⊢
            refine ⟨S,?_,h1,fun _=>rfl,fun hw=>(by rw [hwb] at hw; cases hw)⟩
            have:=hTb S (fun g hg=>(by cases hg)) (fun h=>by rw [hcb] at h; cases h)
            rwa [he] at this
          · rw [hfb,hfa] at d1; exact absurd (show dj none none = true by cases wb<;>exact d1) (by decide)
        | false =>
          have:=K3 hc h1
          subst this
          rcases I6 h2 with ⟨Rb,Wb,eb,hrb,hwb,rfl,hib,hTb⟩ | hfb
          · rw [hfa, hwb] at d3
            have hW:=dj_none (by simpa [Bg] using d3)
            subst hW
            have he : eb.app S1 = S1:=by
              cases eb with
              | none=>rfl
              | set g o=>cases hib
              | new o=>cases hib.2
            rw [he] at h2 ⊢
            exact ⟨S1,h2,h1,fun _=>rfl,fun _=>rfl⟩
          · cases wb with
            | true=>rw [hfb,hfa] at d3; exact absurd (show dj none none = true from d3) (by decide)
            | false =>
              have:=K3 hc h2
              subst this
              exact ⟨S2,h2,h1,fun _=>rfl,fun _=>rfl⟩
end Go.Proofs.YtkaedpmmopigkaaGreatDoor
namespace Go.Proofs.YtkaedpmmopigkaaGreatDoor
open Go.RowKit
set_option linter.unusedVariables false
set_option linter.unusedSimpArgs false

def Er {α : Type} (V : Nat→α) (i : Nat) : List α:=((List.range i).map V).reverse
theorem J2 {α : Type} (V : Nat→α) (i : Nat) : Er V (i + 1) = V i :: Er V i:=by simp [Er,List.range_succ]
theorem Ku {α : Type} {V W : Nat→α} {i : Nat} (h : ∀ k,k < i→V k = W k) : Er V i = Er W i:=by
 unfold Er
 congr 1
 exact List.map_congr_left fun k hk=>h k (List.mem_range.1 hk)
theorem Mc {α : Type} (V : Nat→α) (i : Nat) : (Er V i).length = i:=by simp [Er]
theorem I4 {α : Type} (V : Nat→α) : ∀ (i d : Nat),d < i→(Er V i)[d]? = some (V (i - 1 - d))
 | 0,d,h=>by omega
 | i + 1,0,h=>by rw [J2]; simp
 | i + 1,d + 1,h=>by
  rw [J2,Ls_,I4 V i d (by omega)]
  congr 2
  omega
theorem stp_drew (w : World) (ρ : Su) (S : St) : Stp w ρ S w.drew ρ S :=
 ⟨rfl,rfl,rfl,rfl,Nat.le_refl _,Nat.le_refl _,fun b _ h=>⟨rfl,h⟩,fun b q h=>⟨rfl,h⟩,fun _ _ _ _ _ _=>rfl,fun g o h=>⟨o,h,⟨Nat.le_refl _,rfl⟩,fun _=>rfl,fun _=>⟨rfl,rfl,rfl,Nat.le_refl _,fun b cur _ h=>⟨cur,h,rfl⟩⟩⟩⟩
def J8 (ops : Array Oper) (i : Nat) : List (Option Tmp):=((ops.toList.take i).map (·.dst)).reverse
theorem dstTo_succ {ops : Array Oper} {i : Nat} {o : Oper} (h : ops[i]? = some o) : J8 ops (i + 1) = o.dst :: J8 ops i:=by
 have hl : ops.toList[i]? = some o:=by simpa using h
 have hlt:=lt_of_some hl
 unfold J8
 rw [List.take_succ_eq_append_getElem hlt,List.map_append,List.reverse_append]
 have : ops.toList[i] = o:=by rw [Lg hlt] at hl; injection hl
 simp [this]
theorem sig_to {ops : Array Oper} {slots : List Nat} {V : Nat → D} {env : List D} {t : Nat} (hu : ∀ (k k' : Nat) (o o' : Oper), ops[k]? = some o → ops[k']? = some o' → o.dst = some t → o'.dst = some t → k = k') :
    ∀ i,i ≤ ops.size→((∃ k o,k < i∧ops[k]? = some o∧o.dst = some t∧sig slots (J8 ops i) (Er V i) env t = V k) ∨ ((∀ k o,k < i→ops[k]? = some o→o.dst ≠ some t)∧sig slots (J8 ops i) (Er V i) env t = sig slots [] [] env t))
  | 0,_=>.inr ⟨fun k o hk=>by omega,by simp [J8,Er]⟩
  | i + 1, hi => by
    have ho : ops[i]? = some ops[i]:=Array.getElem?_eq_getElem (by omega)
    rw [dstTo_succ ho,J2,Oy]
    by_cases e : ops[i].dst = some t
    · exact .inl ⟨i,ops[i],by omega,ho,e,by simp [e]⟩
    · rw [if_neg e]
      rcases sig_to hu i (by omega) with ⟨k,o,hk,hok,hd,hs⟩ | ⟨hn,hs⟩
      · exact .inl ⟨k,o,by omega,hok,hd,hs⟩
      · refine .inr ⟨fun k o hk hok hd => ?_, hs⟩
        by_cases hki : k = i
        · subst hki
          rw [ho] at hok
          injection hok with hok
          subst hok
          exact e hd
        · exact hn k o (by omega) hok hd


/-! the run of the abstract machine, operation by operation -/
inductive TStep (call : Bi) (n : Nat) (news : List (TypeId × List D)) (tl env : List D) (V : Nat→D) (ST : Nat→St) (W : Nat→Bool) (F : Nat→FP) (i : Nat) (lo : Sm) : Prop
 | skip (hg : onG (Er V i ++ tl) lo.guard = some false) (h1 : V i = .skip) (h2 : ST (i + 1) = ST i) (h3 : F i = Ai)
 | run (hg : onG (Er V i ++ tl) lo.guard = some true) (h : Aw call lo.op (lo.args.map (opd (Er V i ++ tl) env)) (ST i) = some (V i,ST (i + 1),W i)) (hF : F i = Bd n lo (lo.args.map (opd (Er V i ++ tl) env)) (V i) (W i)) (hs : Am n news lo (Er F i) (F i) (ST (i + 1)) = true)

theorem trace_ex {call : Bi} {n : Nat} {news : List (TypeId × List D)} {tl env : List D} : ∀ (los : List Sm) (k : Nat) (V0 : Nat → D) (F0 : Nat → FP) (S : St) (valsF : List D) (SF : St), Im call n news los (Er F0 k) (Er V0 k ++ tl) env S = some (valsF, SF) →
    ∃ (V : Nat→D) (ST : Nat→St) (W : Nat→Bool) (F : Nat→FP),(∀ j,j < k→V j = V0 j)∧(∀ j,j < k→F j = F0 j)∧ST k = S∧ST (k + los.length) = SF∧valsF = Er V (k + los.length) ++ tl∧∀ i lo,los[i]? = some lo→TStep call n news tl env V ST W F (k + i) lo
  | [], k, V0, F0, S, valsF, SF, h => by
    simp only [Im,Oi,Pi_] at h
    obtain ⟨rfl,rfl⟩:=h
    exact ⟨V0,fun _=>S,fun _=>false,F0,fun _ _=>rfl,fun _ _=>rfl,rfl,rfl,rfl,fun i lo hi=>by simp at hi⟩
  | lo :: los, k, V0, F0, S, valsF, SF, h => by
    have fin : ∀ (r : D) (S1 : St) (wr : Bool) (fp : FP),Im call n news los (fp :: Er F0 k) (r :: (Er V0 k ++ tl)) env S1 = some (valsF,SF) →
        (∀ V ST W F,Er V k = Er V0 k→Er F k = Er F0 k→V k = r→F k = fp→ST k = S→ST (k + 1) = S1→W k = wr→TStep call n news tl env V ST W F k lo) →
        ∃ (V : Nat→D) (ST : Nat→St) (W : Nat→Bool) (F : Nat→FP),(∀ j,j < k→V j = V0 j)∧(∀ j,j < k→F j = F0 j)∧ST k = S∧ST (k + (lo :: los).length) = SF∧valsF = Er V (k + (lo :: los).length) ++ tl∧∀ i lo',(lo :: los)[i]? = some lo'→TStep call n news tl env V ST W F (k + i) lo':=by
      intro r S1 wr fp hx ht
      have e1 : r :: (Er V0 k ++ tl) = Er (fun i=>if i = k then r else V0 i) (k + 1) ++ tl:=by
        rw [J2]
        simp only [if_true,List.cons_append,List.cons.injEq,true_and]
        rw [Ku (V:=fun i=>if i = k then r else V0 i) (W:=V0) (fun j hj=>by rw [if_neg (by omega)])]
      have e2 : fp :: Er F0 k = Er (fun i=>if i = k then fp else F0 i) (k + 1):=by
        rw [J2]
        simp only [if_true,List.cons.injEq,true_and]
        rw [Ku (V:=fun i=>if i = k then fp else F0 i) (W:=F0) (fun j hj=>by rw [if_neg (by omega)])]
      rw [e1,e2] at hx
      obtain ⟨V,ST,W,F,h1,h2,h3,h4,h5,h6⟩:=trace_ex los (k + 1) _ _ S1 valsF SF hx
      have hV : ∀ j,j < k→V j = V0 j:=fun j hj=>by rw [h1 j (by omega),if_neg (by omega)]
      have hF : ∀ j,j < k→F j = F0 j:=fun j hj=>by rw [h2 j (by omega),if_neg (by omega)]
      refine ⟨V,fun i=>if i = k then S else ST i,fun i=>if i = k then wr else W i,F,hV,hF,by simp,?_,?_,?_⟩
      · simp only [List.length_cons]
        rw [if_neg (by omega),← h4]
        congr 1
        omega
      · rw [h5, List.length_cons]
        congr 2
        omega
      · intro i lo' hi
        cases i with
        | zero =>
          simp at hi
          subst hi
          exact ht V _ _ F (Ku hV) (Ku hF) (by rw [h1 k (by omega)]; simp) (by rw [h2 k (by omega)]; simp) (by simp) (by simp [h3]) (by simp)
        | succ i =>
          simp at hi
          have:=h6 i lo' hi
          rw [show k + 1 + i = k + (i + 1) by omega] at this
          cases this with
          | skip hg a1 a2 a3=>exact .skip hg a1 (by rw [if_neg (by omega),if_neg (by omega)]; exact a2) a3
          | run hg hh hF hs=>exact .run hg (by rw [if_neg (by omega),if_neg (by omega),if_neg (by omega)]; exact hh) (by rw [if_neg (by omega)]; exact hF) (by rw [if_neg (by omega)]; exact hs)
    unfold Im at h
    split at h
    · simp at h
    · rename_i hg
      exact fin .skip S false Ai h fun V ST W F a1 a2 a3 a4 a5 a6 a7=>.skip (by rw [a1]; exact hg) a3 (by rw [a6,a5]) a4
    · rename_i hg
      split at h
      · simp at h
      · rename_i r S' wr hop
        split at h
        · rename_i hok
          exact fin r S' wr _ h fun V ST W F a1 a2 a3 a4 a5 a6 a7=>.run (by rw [a1]; exact hg) (by rw [a1,a3,a5,a6,a7]; exact hop) (by rw [a1,a3,a4,a7]) (by rw [a2,a4,a6]; exact hok)
        · simp at h

theorem Ny {P : Program} {kd : Kd} {nt : Nat} {slots bs : List Nat} {k : Nat} : ∀ {os : List Oper} {prev : List (Option Tmp)} {r0 : Nat} {los : List Sm}, Nz P kd nt slots bs k os prev r0 = some los →
    los.length = os.length∧(∀ o ∈ os,Ga nt o.dst = true)∧∀ i o,os[i]? = some o →
      (∃ p,Jc P o = some p∧los[i]? = some ⟨.mv,[.loc (prev.length + i + (k - 1 - (r0 + (D9 P (os.take i)).length)))],none,Nq bs (prev.length + i),some (r0 + (D9 P (os.take i)).length)⟩) ∨
      (Jc P o = none∧∃ l xs args g,(∃ mt' : Bool,L6 P (kd.lit mt') o = some (l,xs))∧Kt kd.glob slots (((os.take i).map (·.dst)).reverse ++ prev) xs = some args∧Ia (((os.take i).map (·.dst)).reverse ++ prev) o.guard = some g∧los[i]? = some ⟨l,args,g,Nq bs (prev.length + i),none⟩)
  | [], prev, r0, los, h => by
    simp only [Nz,Oi] at h
    subst h
    exact ⟨rfl,by simp,fun i o hi=>by simp at hi⟩
  | o :: os, prev, r0, los, h => by
    unfold Nz at h
    split at h
    · rename_i hd
      split at h
      · rename_i p hp
        split at h
        · rename_i rest hr
          simp only [Oi] at h
          subst h
          obtain ⟨h1,h2,h3⟩:=Ny hr
          refine ⟨by simp [h1],fun o' ho'=>?_,fun i o' hi=>?_⟩
          · rcases List.mem_cons.1 ho' with rfl | ho'
            · exact hd
            · exact h2 o' ho'
          · cases i with
            | zero =>
              simp at hi
              subst hi
              exact .inl ⟨p,hp,by simp [D9]⟩
            | succ i =>
              simp at hi
              have e1 : prev.length + (i + 1) = (o.dst :: prev).length + i:=by simp; omega
              have e2 : r0 + (D9 P ((o :: os).take (i + 1))).length = r0 + 1 + (D9 P (os.take i)).length:=by
                simp only [D9,List.take_succ_cons,List.filterMap_cons,hp,List.length_cons]; omega
              rw [e1,e2]
              rcases h3 i o' hi with ⟨p',q1,q2⟩ | ⟨q0,l',xs',args',g',q1,q2,q3,q4⟩
              · exact .inl ⟨p',q1,by simpa using q2⟩
              · exact .inr ⟨q0,l',xs',args',g',q1,by simpa using q2,by simpa using q3,by simpa using q4⟩
        · simp at h
      · rename_i hp
        split at h
        · simp at h
        · rename_i l xs hl
          split at h
          · rename_i args g rest ha hg hr
            simp only [Oi] at h
            subst h
            obtain ⟨h1,h2,h3⟩:=Ny hr
            refine ⟨by simp [h1],fun o' ho'=>?_,fun i o' hi=>?_⟩
            · rcases List.mem_cons.1 ho' with rfl | ho'
              · exact hd
              · exact h2 o' ho'
            · cases i with
              | zero =>
                simp at hi
                subst hi
                exact .inr ⟨hp,l,xs,args,g,⟨_,hl⟩,by simpa using ha,by simpa using hg,by simp⟩
              | succ i =>
                simp at hi
                have e1 : prev.length + (i + 1) = (o.dst :: prev).length + i:=by simp; omega
                have e2 : r0 + (D9 P ((o :: os).take (i + 1))).length = r0 + (D9 P (os.take i)).length:=by
                  simp only [D9,List.take_succ_cons,List.filterMap_cons,hp]
                rw [e1,e2]
                rcases h3 i o' hi with ⟨p',q1,q2⟩ | ⟨q0,l',xs',args',g',q1,q2,q3,q4⟩
                · exact .inl ⟨p',q1,by simpa using q2⟩
                · exact .inr ⟨q0,l',xs',args',g',q1,by simpa using q2,by simpa using q3,by simpa using q4⟩
          · simp at h
    · simp at h

/-! the operations that are left, in the order of the text -/
structure Ev where
 op : LOp
 ds : List D
 r : D
 wr : Bool
def Ev.fp (e : Ev) : FP:=Ec e.op e.ds e.r e.wr
def Runs (call : Bi) (E : Nat→Option Ev) (Z : Nat→List Sk→Prop) : List Nat→St→St→Prop
 | [],S,S'=>S' = S
 | i :: l,S,S'=>match E i with
  | none=>Runs call E Z l S S'
  | some e=>∃ S1,Aw call e.op e.ds S = some (e.r,S1,e.wr)∧(e.fp.writes = none→Z i S1.heap)∧Runs call E Z l S1 S'
theorem Runs.drop {call : Bi} {E : Nat→Option Ev} {Z : Nat→List Sk→Prop} {i : Nat} (hi : E i = none) {post : List Nat} : ∀ {pre : List Nat} {S S' : St},Runs call E Z (pre ++ i :: post) S S'→Runs call E Z (pre ++ post) S S'
 | [],S,S',h=>by simpa [Runs,hi] using h
 | j :: pre, S, S', h => by
  simp only [List.cons_append,Runs] at h ⊢
  split at h
  ·
   rename_i hj
   exact Runs.drop hi h
  ·
   rename_i e hj
   obtain ⟨S1,h1,h2,h3⟩:=h
   exact ⟨S1,h1,h2,Runs.drop hi h3⟩
theorem Runs.front {call : Bi} (hc : Ht call) {E : Nat→Option Ev} {Z : Nat→List Sk→Prop} {i : Nat} {e : Ev} (hi : E i = some e) {post : List Nat} : ∀ {pre : List Nat} {S S' : St},Runs call E Z (pre ++ i :: post) S S'→(∀ j ∈ pre,∀ e',E j = some e'→Ba e'.fp e.fp = true) →
  ∃ S1,Aw call e.op e.ds S = some (e.r,S1,e.wr)∧(e.fp.writes = none→Z i S1.heap)∧Runs call E Z (pre ++ post) S1 S'
 | [],S,S',h,_=>by simpa [Runs,hi] using h
 | j :: pre, S, S', h, hd => by
  simp only [List.cons_append,Runs] at h ⊢
  split at h
  ·
   rename_i hj
   exact Runs.front hc hi h fun k hk=>hd k (List.mem_cons_of_mem _ hk)
  ·
   rename_i e' hj
   obtain ⟨S1,h1,h2,h3⟩:=h
   obtain ⟨S2,k1,k2,k3⟩:=Runs.front hc hi h3 fun k hk=>hd k (List.mem_cons_of_mem _ hk)
   obtain ⟨S3,q1,q2,q3,q4⟩:=swap hc h1 k1 (hd j (by simp) e' hj)
   exact ⟨S3,q1,fun hw=>by rw [q4 hw]; exact k2 hw,S2,q2,fun hw=>by rw [q3 hw]; exact h2 hw,k3⟩
end Go.Proofs.YtkaedpmmopigkaaGreatDoor

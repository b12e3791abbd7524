/- Proved here: parts of the proof, joined (E22, E23, E24, E25, E26, E27): an abstract machine, its soundness, what functions of the program compute in it; no condition. -/
import Derived.Test.YtcogjcplldpkaaaGreatM5
namespace Go.Proofs.YtcogjcplldpkaaaGreat
set_option linter.unusedSimpArgs false
set_option linter.unusedVariables false
set_option maxRecDepth 10000
set_option maxHeartbeats 2000000

theorem new_dup {d : Nat} (hd : 9 ≤ d) {H : List AObj} {fx ux : D} {fl : List Fi} {ul : List (Us fl)} (hX : SlD 12 (fiRows fl) fx) (hU : SlD 3 (usRows ul) ux) (hfl6 : fl.length ≤ 1000000) (hul : ul.length ≤ 1000) (gd : Nat) (l k : Int) (hRF : rulesF ul [] = .inr (8, l, k)) (lo : Nat) : runF LP NN d 6 [progD fx ux, .ifr 34 (.ptr gd 0 0 0), .ifc 49 (.agg [])] ⟨H, lo⟩ = some (.tup [.nilp, .agg [.int .i64 8, .int .i64 l, .int .i64 k]], ⟨H, lo⟩, false) := by
 have hm1 : min H.length (H.length + 2) = H.length := by omega
 have hm2 : min H.length (H.length + 1) = H.length := by omega
 unfold progD
 refine run_at (F := F6) rfl (by simp only [LP, fnOf, snapVs, snaps, zs, zm, zv, hX.snap, hX.free, hU.snap, hU.free] <;> exact rfl) rfl (by simp only [LP, zf, zm, hX.snap, hX.free, hU.snap, hU.free]; try rfl) (by simp only [F6, zv] <;> exact rfl) (by omega) ?_
 rintro d rfl
 have zz31 := And.intro hX.isCell (And.intro hX.val (And.intro hX.cells (And.intro hU.isCell (And.intro hU.val (And.intro hU.cells (And.intro hm1 (hm2)))))))
 refine cw_seq (cw_region ?_)
 refine ow_op (by simp only [zl, zm, zc, Nat.reduceAdd, isCell_ifr, val_ifr, cells_ifr, isCell_ifc, val_ifc, cells_ifc, zz31] <;> exact rfl) ?_
 refine ow_mc ?_
 refine ow_op (by simp only [zl, zm, Nat.reduceAdd, isCell_ifr, val_ifr, cells_ifr, isCell_ifc, val_ifc, cells_ifc, zz31] <;> exact rfl) ?_
 refine ow_nil ?_
 refine sk_n (by simp only [ze] <;> exact rfl) ?_
 refine cw_seq (cw_region ?_)
 refine ow_op (by simp only [zl, zm, zd, partD, List.take, List.drop, Nat.reduceAdd, isCell_ifr, val_ifr, cells_ifr, isCell_ifc, val_ifc, cells_ifc, zz31] <;> exact rfl) ?_
 refine ow_op (by simp only [zo, Nat.reduceAdd, isCell_ifr, val_ifr, cells_ifr, isCell_ifc, val_ifc, cells_ifc, zz31]; exact (rules_run (by omega) _ hX hU hfl6 hul).trans (by rw [hRF])) ?_
 refine ow_ml rfl ?_
 refine ow_op (by simp only [zo, List.getElem?_cons_zero, List.getElem?_cons_succ, Nat.reduceAdd, isCell_ifr, val_ifr, cells_ifr, isCell_ifc, val_ifc, cells_ifc, zz31] <;> exact rfl) ?_
 refine ow_op (by simp only [zo, List.getElem?_cons_zero, List.getElem?_cons_succ, Nat.reduceAdd, isCell_ifr, val_ifr, cells_ifr, isCell_ifc, val_ifc, cells_ifc, zz31] <;> exact rfl) ?_
 refine ow_op (by simp only [zl, zm, Nat.reduceAdd, isCell_ifr, val_ifr, cells_ifr, isCell_ifc, val_ifc, cells_ifc, zz31] <;> exact rfl) ?_
 refine ow_ml rfl ?_
 refine ow_op (by simp only [zl, zm, storeD, overlay, snapVs, snaps, zs, zc, zf, List.take, List.drop, Nat.reduceAdd, isCell_ifr, val_ifr, cells_ifr, isCell_ifc, val_ifc, cells_ifc, zz31] <;> exact rfl) ?_
 refine ow_nil ?_
 refine sk_n (by simp only [ze] <;> exact rfl) ?_
 refine cw_seq (cw_seq (cw_region ?_))
 refine ow_op (by simp only [zo, faddrD_ptr, faddrD_cptr, zm, Nat.reduceAdd, isCell_ifr, val_ifr, cells_ifr, isCell_ifc, val_ifc, cells_ifc, zz31] <;> exact rfl) ?_
 refine ow_op (by simp only [zl, zm, zd, partD, List.take, List.drop, Nat.reduceAdd, isCell_ifr, val_ifr, cells_ifr, isCell_ifc, val_ifc, cells_ifc, zz31] <;> exact rfl) ?_
 refine ow_op (by simp only [zo, binD, zb, Int.reduceEq, Int.reduceToNat, Int.reduceLT, Nat.reduceAdd, isCell_ifr, val_ifr, cells_ifr, isCell_ifc, val_ifc, cells_ifc, zz31] <;> exact rfl) ?_
 refine ow_nil ?_
 refine sk_n (by simp only [ze] <;> exact rfl) ?_
 skip
 refine cw_true (by simp only [opd, zv, Nat.reduceAdd, isCell_ifr, val_ifr, cells_ifr, isCell_ifc, val_ifc, cells_ifc, zz31] <;> rfl) ?_
 refine cw_seq ?_
 refine cw_drawn (by simp only [newsVals, zw, Nat.reduceAdd] <;> exact rfl) (by simp only [zw, newsObj, St.eta] <;> exact rfl) ?_
 refine dw_op (by simp only [zl, zm, zd, partD, List.take, List.drop, Nat.reduceAdd, isCell_ifr, val_ifr, cells_ifr, isCell_ifc, val_ifc, cells_ifc, zz31] <;> exact rfl) (by simp only [fpHere, zo, zq] <;> exact rfl) rfl ?_
 refine dw_mc rfl ?_
 refine dw_op (by simp only [zl, zm, storeD, overlay, snapVs, snaps, zs, zc, zf, List.take, List.drop, Nat.reduceAdd, isCell_ifr, val_ifr, cells_ifr, isCell_ifc, val_ifc, cells_ifc, zz31] <;> exact rfl) (by simp only [fpHere, zo, zq] <;> exact rfl) rfl ?_
 refine dw_nil ?_
 refine sk_n (by simp only [ze] <;> exact rfl) ?_
 refine cw_ret (sk_r ?_)
 refine ⟨_, by simp only [F6, resultD, resDs, resD, zg, zd, rowsOf, partD, List.take, List.drop, zm, at_app, at_app0, List.getElem?_cons_succ, List.getElem?_cons_zero] <;> exact rfl, ?_⟩
 simp [leave, LP, snapR, snapV, snapVs, snaps, snap, D.freeR, D.freeV, D.free, D.free0]

theorem new_ok {d : Nat} (hd : 9 ≤ d) {H : List AObj} {fx ux : D} {fl : List Fi} {ul : List (Us fl)} (hX : SlD 12 (fiRows fl) fx) (hU : SlD 3 (usRows ul) ux) (hfl6 : fl.length ≤ 1000000) (hul : ul.length ≤ 1000) (gd : Nat) (o : List Ru) (hRF : rulesF ul [] = .inl o) (lo : Nat) : runF LP NN d 6 [progD fx ux, .ifr 34 (.ptr gd 0 0 0), .ifc 49 (.agg [])] ⟨H, lo⟩ = some (.tup [.ptr (H.length + 3) 0 0 0, .agg [.int .i64 0, .int .i64 0, .int .i64 0]], ⟨H ++ [⟨32, 9, [[.str ⟨#[]⟩, fx, .nils, .nils, .nils, .nils, .nils, ux, .nils]], 0, 0, false⟩, ⟨45, 3, [[.int .i64 0, .int .i64 0, .int .i64 0]], 0, 0, false⟩, ⟨45, 3, [[.int .i64 0, .int .i64 0, .int .i64 0]], 0, 0, false⟩, dkO gd fx ux (clipD (appY 3 (ruRows o))) false .nils], min lo H.length⟩, true) := by
 have hm1 : min H.length (H.length + 2) = H.length := by omega
 have hm2 : min H.length (H.length + 1) = H.length := by omega
 unfold progD
 have hG := (appY_S 3 (ruRows o)).clip
 refine run_at (F := F6) rfl (by simp only [LP, fnOf, snapVs, snaps, zs, zm, zv, hX.snap, hX.free, hU.snap, hU.free] <;> exact rfl) rfl (by simp only [LP, zf, zm, hX.snap, hX.free, hU.snap, hU.free]; try rfl) (by simp only [F6, zv] <;> exact rfl) (by omega) ?_
 rintro d rfl
 have zz32 := And.intro hX.isCell (And.intro hX.val (And.intro hX.cells (And.intro hU.isCell (And.intro hU.val (And.intro hU.cells (And.intro hm1 (And.intro hm2 (And.intro hG.isCell (And.intro hG.val (hG.cells))))))))))
 refine cw_seq (cw_region ?_)
 refine ow_op (by simp only [zl, zm, zc, Nat.reduceAdd, isCell_ifr, val_ifr, cells_ifr, isCell_ifc, val_ifc, cells_ifc, zz32] <;> exact rfl) ?_
 refine ow_mc ?_
 refine ow_op (by simp only [zl, zm, Nat.reduceAdd, isCell_ifr, val_ifr, cells_ifr, isCell_ifc, val_ifc, cells_ifc, zz32] <;> exact rfl) ?_
 refine ow_nil ?_
 refine sk_n (by simp only [ze] <;> exact rfl) ?_
 refine cw_seq (cw_region ?_)
 refine ow_op (by simp only [zl, zm, zd, partD, List.take, List.drop, Nat.reduceAdd, isCell_ifr, val_ifr, cells_ifr, isCell_ifc, val_ifc, cells_ifc, zz32] <;> exact rfl) ?_
 refine ow_op (by simp only [zo, Nat.reduceAdd, isCell_ifr, val_ifr, cells_ifr, isCell_ifc, val_ifc, cells_ifc, zz32]; exact (rules_run (by omega) _ hX hU hfl6 hul).trans (by rw [hRF])) ?_
 refine ow_ml rfl ?_
 refine ow_op (by simp only [zo, List.getElem?_cons_zero, List.getElem?_cons_succ, Nat.reduceAdd, isCell_ifr, val_ifr, cells_ifr, isCell_ifc, val_ifc, cells_ifc, zz32] <;> exact rfl) ?_
 refine ow_op (by simp only [zo, List.getElem?_cons_zero, List.getElem?_cons_succ, Nat.reduceAdd, isCell_ifr, val_ifr, cells_ifr, isCell_ifc, val_ifc, cells_ifc, zz32] <;> exact rfl) ?_
 refine ow_op (by simp only [zl, zm, Nat.reduceAdd, isCell_ifr, val_ifr, cells_ifr, isCell_ifc, val_ifc, cells_ifc, zz32] <;> exact rfl) ?_
 refine ow_ml rfl ?_
 refine ow_op (by simp only [zl, zm, storeD, overlay, snapVs, snaps, zs, zc, zf, List.take, List.drop, Nat.reduceAdd, isCell_ifr, val_ifr, cells_ifr, isCell_ifc, val_ifc, cells_ifc, zz32] <;> exact rfl) ?_
 refine ow_nil ?_
 refine sk_n (by simp only [ze] <;> exact rfl) ?_
 refine cw_seq (cw_seq (cw_region ?_))
 refine ow_op (by simp only [zo, faddrD_ptr, faddrD_cptr, zm, Nat.reduceAdd, isCell_ifr, val_ifr, cells_ifr, isCell_ifc, val_ifc, cells_ifc, zz32] <;> exact rfl) ?_
 refine ow_op (by simp only [zl, zm, zd, partD, List.take, List.drop, Nat.reduceAdd, isCell_ifr, val_ifr, cells_ifr, isCell_ifc, val_ifc, cells_ifc, zz32] <;> exact rfl) ?_
 refine ow_op (by simp only [zo, binD, zb, Int.reduceEq, Int.reduceToNat, Int.reduceLT, Nat.reduceAdd, isCell_ifr, val_ifr, cells_ifr, isCell_ifc, val_ifc, cells_ifc, zz32] <;> exact rfl) ?_
 refine ow_nil ?_
 refine sk_n (by simp only [ze] <;> exact rfl) ?_
 skip
 refine cw_false (by simp only [opd, zv, Nat.reduceAdd, isCell_ifr, val_ifr, cells_ifr, isCell_ifc, val_ifc, cells_ifc, zz32] <;> rfl) ?_
 refine cw_skip (sk_n rfl (cw_seq (cw_region ?_)))
 refine ow_me rfl ?_
 refine ow_op (by simp only [zl, zm, zd, partD, List.take, List.drop, Nat.reduceAdd, isCell_ifr, val_ifr, cells_ifr, isCell_ifc, val_ifc, cells_ifc, zz32] <;> exact rfl) ?_
 refine ow_me rfl ?_
 refine ow_me rfl ?_
 refine ow_op (by simp only [zo, fillD, overlay, zc, List.take, List.drop, Nat.reduceAdd, Nat.reduceLeDiff, Nat.reduceBEq, zm, Nat.reduceAdd, isCell_ifr, val_ifr, cells_ifr, isCell_ifc, val_ifc, cells_ifc, zz32] <;> exact rfl) ?_
 refine ow_op (by simp only [zl, zm, zc, Nat.reduceAdd, isCell_ifr, val_ifr, cells_ifr, isCell_ifc, val_ifc, cells_ifc, zz32] <;> exact rfl) ?_
 refine ow_op (by simp only [zo, fillD, overlay, zc, List.take, List.drop, Nat.reduceAdd, Nat.reduceLeDiff, Nat.reduceBEq, zm, Nat.reduceAdd, isCell_ifr, val_ifr, cells_ifr, isCell_ifc, val_ifc, cells_ifc, zz32] <;> exact rfl) ?_
 refine ow_ml rfl ?_
 refine ow_op (by simp only [zl, zm, storeD, overlay, snapVs, snaps, zs, zc, zf, List.take, List.drop, Nat.reduceAdd, isCell_ifr, val_ifr, cells_ifr, isCell_ifc, val_ifc, cells_ifc, zz32] <;> exact rfl) ?_
 refine ow_nil ?_
 refine sk_n (by simp only [ze] <;> exact rfl) ?_
 refine cw_ret ?_
 refine ⟨_, by simp only [F6, resultD, resDs, resD, zg, zd, rowsOf, partD, List.take, List.drop, zm, at_app, at_app0, List.getElem?_cons_succ, List.getElem?_cons_zero] <;> exact rfl, ?_⟩
 simp [leave, LP, snapR, snapV, snapVs, snaps, snap, D.freeR, D.freeV, D.free, D.free0, dkO]

end Go.Proofs.YtcogjcplldpkaaaGreat

namespace Go.Proofs.YtcogjcplldpkaaaGreat
set_option linter.unusedSimpArgs false
set_option linter.unusedVariables false
set_option maxRecDepth 10000
set_option maxHeartbeats 1000000

theorem idxI_congr {α β : Type} {p : α → Bool} {q : β → Bool} {a : List α} {b : List β} (hl : a.length = b.length) (h : ∀ (j : Nat) (ha : j < a.length) (hb : j < b.length), p a[j] = q b[j]) : idxI p a = idxI q b := by
 have e : a.map p = b.map q := by
  apply List.ext_getElem
  ·
   simp [hl]
  ·
   intro j h1 h2
   simp only [List.length_map] at h1 h2
   simp only [List.getElem_map]
   exact h j h1 h2
 have h1 := idxI_map (fun x : Bool => x) p a
 have h2 := idxI_map (fun x : Bool => x) q b
 rw [← h1, ← h2, e]
theorem sel_fit {o : List Ru} {l : List Uu} (h : RuOK o l) (s : ByteArray) (m : Nat) : selI o s m = fitI l s m := by
 obtain ⟨hl, hj⟩ := h
 have h1 : idxI (selP1 s) o = idxI (lawP1 s) l := idxI_congr hl fun j ha hb => by
  obtain ⟨_, e2, _⟩ := hj j _ _ (List.getElem?_eq_getElem ha) (List.getElem?_eq_getElem hb)
  simp only [selP1, lawP1, e2]
  exact any_beq_comm s _
 unfold selI fitI
 rw [h1]
 by_cases hc : idxI (lawP1 s) l < 0 ∧ m ≠ 0
 ·
  rw [if_pos hc, if_pos hc]
  refine idxI_congr hl fun j ha hb => ?_
  obtain ⟨_, e2, e3⟩ := hj j _ _ (List.getElem?_eq_getElem ha) (List.getElem?_eq_getElem hb)
  simp only [selP2, lawQ, e2, e3]
  by_cases hm : modeF l[j].f l[j].m = m
  ·
   have h0 := mode_pos (f := l[j].f) (m := l[j].m) (by rw [hm]; exact hc.2)
   simp [h0, hm]
  ·
   simp [hm]; omega
 ·
  rw [if_neg hc, if_neg hc]
theorem fit_lt {o : List Ru} {l : List Uu} (h : RuOK o l) (s : ByteArray) (m : Nat) (h0 : fitI l s m ≥ 0) : ∃ i : Nat, i < o.length ∧ fitI l s m = (i : Int) ∧ ∀ hi : i < o.length, o[i].sec = secF i := by
 have key : ∀ (p : Uu → Bool), idxI p l ≥ 0 → ∃ i : Nat, i < l.length ∧ idxI p l = (i : Int) := by
  intro p hp
  unfold idxI at hp ⊢
  cases hf : l.findIdx? p with
  | none => rw [hf] at hp; simp at hp
  | some i => exact ⟨i, (List.findIdx?_eq_some_iff_getElem.1 hf).1, rfl⟩
 have h2 : ∃ i : Nat, i < l.length ∧ fitI l s m = (i : Int) := by
  unfold fitI at h0 ⊢
  split at h0
  ·
   rename_i hc; rw [if_pos hc]; exact key _ h0
  ·
   rename_i hc; rw [if_neg hc]; exact key _ h0
 obtain ⟨i, hi, hf⟩ := h2
 have hio : i < o.length := by rw [h.1]; exact hi
 exact ⟨i, hio, hf, fun hi' => (h.2 i _ _ (List.getElem?_eq_getElem hio) (List.getElem?_eq_getElem hi)).1⟩
/-- the state of the law's loop -/
structure LS (H : List AObj) (fx ux rx : D) (nm : ByteArray) (mode : Nat) (r : Rp) (many : Nat) (act : Bool) (dn pn : List ByteArray) (dx : D) (g : Option Nat) (px : D) (g2 : Option Nat) : Prop where
 h1 : H[1]? = some (drO nm mode r many)
 h5 : H[5]? = some (dkO 1 fx ux rx act dx)
 hA : AppI 9 1 (strRows dn) H dx g
 hP : AppI 9 1 (strRows pn) H px g2
 hne : ∀ k, g = some k → g2 ≠ some k
 hlen : 7 ≤ H.length
section
variable {H : List AObj} {fx ux rx dx px : D} {nm : ByteArray} {mode many : Nat} {r : Rp} {act : Bool} {dn pn : List ByteArray} {g g2 : Option Nat}
theorem LS.push (h : LS H fx ux rx nm mode r many act dn pn dx g px g2) (l : List AObj) : LS (H ++ l) fx ux rx nm mode r many act dn pn dx g px g2 :=
 ⟨get_app h.h1 l, get_app h.h5 l, h.hA.push l, h.hP.push l, h.hne, by have := h.hlen; simp; omega⟩
theorem LS.drive (h : LS H fx ux rx nm mode r many act dn pn dx g px g2) (nm' : ByteArray) (mode' : Nat) (r' : Rp) (many' : Nat) : LS (H.set 1 (drO nm' mode' r' many')) fx ux rx nm' mode' r' many' act dn pn dx g px g2 :=
 ⟨get_set_self h.h1 _, get_set_ne h.h5 (by decide) _, h.hA.put h.h1 (by simp [drO]) _, h.hP.put h.h1 (by simp [drO]) _, h.hne, by have := h.hlen; simp; omega⟩
theorem LS.desk (h : LS H fx ux rx nm mode r many act dn pn dx g px g2) (act' : Bool) : LS (H.set 5 (dkO 1 fx ux rx act' dx)) fx ux rx nm mode r many act' dn pn dx g px g2 :=
 ⟨get_set_ne h.h1 (by decide) _, get_set_self h.h5 _, h.hA.put h.h5 (by simp [dkO]) _, h.hP.put h.h5 (by simp [dkO]) _, h.hne, by have := h.hlen; simp; omega⟩
theorem LS.put (h : LS H fx ux rx nm mode r many act dn pn dx g px g2) {k : Nat} {o : AObj} (hk : H[k]? = some o) (h0 : o.kind ≠ 1) (h1 : k ≠ 1) (h5 : k ≠ 5) (n : AObj) : LS (H.set k n) fx ux rx nm mode r many act dn pn dx g px g2 :=
 ⟨get_set_ne h.h1 h1 _, get_set_ne h.h5 h5 _, h.hA.put hk h0 _, h.hP.put hk h0 _, h.hne, by have := h.hlen; simp; omega⟩
/-- the mode of a statement -/
def MODE (vb : ByteArray) (qx : D) (nm : ByteArray) (mode mv : Nat) : Prop := ∀ (d : Nat) (H : List AObj) (lo gd gk many : Nat) (r : Rp) (fx ux rx dx : D) (act : Bool) (rows0 : List (List D)), 4 ≤ d → H[gd]? = some (drO nm mode r many) → H[gk]? = some (dkO gd fx ux rx act dx) → AppAt 9 1 rows0 H dx → runF LP NN d 29 [.ptr gk 0 0 0, (.agg [.str vb, .int .i64 0, .int .i64 0, qx, .nils]), .str nm] ⟨H, lo⟩ = some (.int .u8 mv, ⟨H, lo⟩, false)
theorem MODE.other {vb : ByteArray} {qx : D} {pr : List (List D)} (hQ : SlD 2 pr qx) (hvo : (vb.toList == (⟨#[79, 80, 69, 78]⟩ : ByteArray).toList) = false) (nm : ByteArray) (mode : Nat) : MODE vb qx nm mode mode :=
 fun d H lo gd gk many r fx ux rx dx act rows0 hd h1 h2 h3 => mode_other (by omega) h1 h2 h3 hQ hvo nm lo
theorem MODE.open (k : Nat) (hk : k < 4) (nm : ByteArray) (mode : Nat) : MODE (verbN 0) (ph1 k nm) nm mode (k + 1) :=
 fun d H lo gd gk many r fx ux rx dx act rows0 hd h1 h2 h3 => mode_open hd h1 h2 h3 k hk nm lo
variable {fl : List Fi} {ur : List (List D)} {o : List Ru} {vb : ByteArray} {qx : D} {pr : List (List D)} {mv : Nat}
theorem doK {d : Nat} (hd : 2 ≤ d) (h : LS H fx ux rx nm mode r many act dn pn dx g px g2) (hm : many ≤ 1000) (hQ : SlD 2 pr qx) (hV : fileV vb) (hq : r.h = false ∨ (r.e == 6) = false) (lo : Nat) :
  ∃ H' lo', runF LP NN d 8 [.ptr 5 0 0 0, .nilp, (.agg [.str vb, .int .i64 0, .int .i64 0, qx, .nils]), .int .i64 0] ⟨H, lo⟩ = some (.agg r.cs, ⟨H', min lo lo'⟩, true) ∧ LS H' fx ux rx nm mode r (many + 1) act dn pn dx g px g2 ∧ H.length ≤ H'.length ∧ ∀ (k : Nat) (ob : AObj), H[k]? = some ob → k ≠ 1 → k ≠ 5 → ob.kind = 0 → H'[k]? = some ob :=
 ⟨_, _, do_ok hd h.h1 h.h5 hm hQ hV hq lo, (h.drive _ _ _ _).push _, by simp, fun k ob hk hk1 _ _ => get_app (get_set_ne hk (fun e => hk1 e.symm) _) _⟩
theorem doM {d : Nat} (hd : 9 ≤ d) (h : LS H fx ux rx nm mode (⟨true, ⟨#[]⟩, 6⟩ : Rp) many act dn pn dx g px g2) (hm : many ≤ 1000) (hX : SlD 12 (fiRows fl) fx) (hfl : fl.length ≤ 1000000) (hU : SlD 3 ur ux) (hR : SlD 3 (ruRows o) rx) (hol : o.length ≤ 1000000) (hQ : SlD 2 pr qx) (hV : fileV vb) (hM : MODE vb qx nm mode mv) (hsel : decide (selI o nm mv ≥ 0) = false ∨ act = true) (lo : Nat) :
  ∃ H' lo', runF LP NN d 8 [.ptr 5 0 0 0, .nilp, (.agg [.str vb, .int .i64 0, .int .i64 0, qx, .nils]), .int .i64 0] ⟨H, lo⟩ = some (.agg [.bool true, .nils, .str ⟨#[]⟩, .bool false, .int .i64 (if (fl.any fun f => (f.nm.toList == nm.toList) && stN f) = true then 0 else 6)], ⟨H', min lo lo'⟩, true) ∧ LS H' fx ux rx nm mode (⟨true, ⟨#[]⟩, 6⟩ : Rp) (many + 1) act dn pn dx g px g2 ∧ H.length ≤ H'.length ∧ ∀ (k : Nat) (ob : AObj), H[k]? = some ob → k ≠ 1 → k ≠ 5 → ob.kind = 0 → H'[k]? = some ob := by
 refine ⟨_, _, do_miss (e := if (fl.any fun f => (f.nm.toList == nm.toList) && stN f) = true then 0 else 6) hd h.h1 h.h5 hm hQ hV (fun {d'} lo h8 => ?_) lo, (h.drive _ _ _ _).push _, by simp, fun k ob hk hk1 _ _ => get_app (get_set_ne hk (fun e => hk1 e.symm) _) _⟩
 have w := ((h.drive nm mode (⟨true, ⟨#[]⟩, 6⟩ : Rp) (many + 1)).push [⟨57, 5, [[.str vb, .int .i64 0, .int .i64 0, qx, .nils]], 0, 0, false⟩, ⟨38, 5, [[.bool false, .nils, .str ⟨#[]⟩, .bool false, .int .i64 0]], 0, 0, false⟩, ⟨38, 5, [[.bool true, .nils, .str ⟨#[]⟩, .bool false, .int .i64 6]], 0, 0, false⟩, ⟨38, 5, [[.bool true, .nils, .str ⟨#[]⟩, .bool false, .int .i64 6]], 0, 0, false⟩])
 have hmd : ∀ {d' : Nat} (lo : Nat) (l : List AObj), 4 ≤ d' → runF LP NN d' 29 [.ptr 5 0 0 0, (.agg [.str vb, .int .i64 0, .int .i64 0, qx, .nils]), .str nm] ⟨_ ++ l, lo⟩ = some (.int .u8 mv, ⟨_ ++ l, lo⟩, false) := fun lo l h4 => hM _ _ lo 1 5 _ _ _ _ _ _ _ _ h4 (w.push l).h1 (w.push l).h5 (w.push l).hA.at
 have hif : (if (fl.any fun f => (f.nm.toList == nm.toList) && stN f) = true then [.bool true, .nils, .str ⟨#[]⟩, .bool false, .int .i64 0] else ((⟨true, ⟨#[]⟩, 6⟩ : Rp)).cs) = ([.bool true, .nils, .str ⟨#[]⟩, .bool false, .int .i64 (if (fl.any fun f => (f.nm.toList == nm.toList) && stN f) = true then 0 else 6)] : List D) := by split <;> rfl
 rcases Bool.eq_false_or_eq_true (decide (selI o nm mv ≥ 0)) with hs | hs
 ·
  have ha : act = true := hsel.resolve_left (by rw [hs]; simp)
  subst ha
  have := failed_a h8 w.h1 w.h5 w.hA.at hX hfl hU hR hol hQ mv hmd (⟨true, ⟨#[]⟩, 6⟩ : Rp) hs lo
  rw [hif] at this
  exact this
 ·
  have := failed_n h8 w.h1 w.h5 w.hA.at hX hfl hU hR hol hQ mv hmd (⟨true, ⟨#[]⟩, 6⟩ : Rp) hs lo
  rw [hif] at this
  exact this
theorem doH {d : Nat} (hd : 10 ≤ d) (h : LS H fx ux rx nm mode (⟨true, ⟨#[]⟩, 6⟩ : Rp) many false dn pn dx g px g2) (hm : many ≤ 1000) (hdn : dn.length ≤ 1000) (hX : SlD 12 (fiRows fl) fx) (hfl : fl.length ≤ 1000000) (hU : SlD 3 ur ux) (hR : SlD 3 (ruRows o) rx) (hol : o.length ≤ 1000000) (hQ : SlD 2 pr qx) (hV : fileV vb) (hM : MODE vb qx nm mode mv) {i : Nat} (hi : i < o.length) (hsel : selI o nm mv = (i : Int)) (lo : Nat) :
  ∃ H' dx' g' lo', runF LP NN d 8 [.ptr 5 0 0 0, .nilp, (.agg [.str vb, .int .i64 0, .int .i64 0, qx, .nils]), .int .i64 0] ⟨H, lo⟩ = some (.agg (rpS o[i].sec), ⟨H', min lo lo'⟩, true) ∧ LS H' fx ux rx nm mode (⟨true, ⟨#[]⟩, 6⟩ : Rp) (many + 1) true (dn ++ [o[i].sec]) pn dx' g' px g2 ∧ H.length ≤ H'.length ∧ ∀ (k : Nat) (ob : AObj), H[k]? = some ob → k ≠ 1 → k ≠ 5 → ob.kind = 0 → H'[k]? = some ob := by
 obtain ⟨H', dx', g', lo', hrun, hh1, hh5, hA', hg', hlen, hk⟩ := do_hit hd h.h1 h.h5 hm h.hA hdn hX hfl hU hR hol hQ hV mv (fun {d'} Hx lo h1 h2 h3 h4 => hM _ _ lo 1 5 _ _ _ _ _ _ _ _ h4 h1 h2 h3) hi hsel lo
 refine ⟨H', dx', some g', lo', hrun, ⟨hh1, hh5, hA', h.hP.keep fun k ob hk2 hob => hk k ob hob ?_ ?_ ?_, ?_, by have := h.hlen; omega⟩, hlen, fun k ob hob h1 h5 h0 => hk k ob hob h1 h5 (h.hA.ne hob (by omega))⟩
 ·
  rintro rfl; exact h.hP.ne h.h1 (by simp [drO]) hk2
 ·
  rintro rfl; exact h.hP.ne h.h5 (by simp [dkO]) hk2
 ·
  intro hg; exact h.hne _ hg hk2
 ·
  intro k hk2 hgk
  simp only [Option.some.injEq] at hk2
  subst hk2
  rcases hg' with e | e
  ·
   exact h.hne _ e hgk
  ·
   have := h.hP.lt _ hgk; omega
end

end Go.Proofs.YtcogjcplldpkaaaGreat

namespace Go.Proofs.YtcogjcplldpkaaaGreat
set_option linter.unusedSimpArgs false
set_option linter.unusedVariables false
set_option maxRecDepth 10000
set_option maxHeartbeats 2000000

/-- an act of the law's argument -/
structure Ac where
 vb : Nat
 fi : Nat
 mo : Nat
 how : Nat
 hvb : vb < 256
 hfi : fi < 256
 hmo : mo < 256
 hhow : how < 256
def Ac.row (a : Ac) : List D := [.int .u8 a.vb, .int .u8 a.fi, .int .u8 a.mo, .int .u8 a.how]
def acRows (l : List Ac) : List (List D) := l.map Ac.row
theorem acRows_at {l : List Ac} {i : Nat} (h : i < l.length) : (acRows l)[i]? = some [.int .u8 l[i].vb, .int .u8 l[i].fi, .int .u8 l[i].mo, .int .u8 l[i].how] := by simp [acRows, h, Ac.row]
theorem acRows_len (l : List Ac) : (acRows l).length = l.length := by simp [acRows]

theorem lawDo_bigl {d : Nat} (hd : 12 ≤ d) (S : St) {x y : D} {l : List Uu} {acts : List Ac} (hS : SlD 3 (uRows l) x) (hY : SlD 4 (acRows acts) y) (hl : ¬ l.length ≤ 6) : runF LP NN d 3 [x, y] S = some (.bool true, S, false) := by
 have hbig : decide (((l.length : Nat) : Int) > 6) = true := decide_eq_true (by omega)
 refine run_pure (F := F3) rfl (by simp only [LP, fnOf, snapVs, snaps, zs, zm, zv, hS.snapV, hS.freeV, hY.snapV, hY.freeV] <;> exact rfl) rfl (by simp only [LP, zf, zm, hS.snapV, hS.freeV, hY.snapV, hY.freeV]; try rfl) (by simp only [F3, zv] <;> exact rfl) (by omega) ?_
 rintro d rfl
 have zz33 := And.intro hS.len (And.intro @uRows_len (And.intro hY.len (And.intro @acRows_len (hbig))))
 refine cw_seq (cw_region ?_)
 refine ow_mc ?_
 refine ow_nil ?_
 refine sk_n (by simp only [ze] <;> exact rfl) ?_
 refine cw_seq (cw_seq (cw_region ?_))
 refine ow_me rfl ?_
 refine ow_op (by simp only [zo, lenD_str, lenD_nils, lenD_sl, lenD_msl, zz33] <;> exact rfl) ?_
 refine ow_op (by simp only [zo, binD, zb, Int.reduceEq, Int.reduceToNat, Int.reduceLT, zz33] <;> exact rfl) ?_
 refine ow_ml rfl ?_
 refine ow_know 0 (b := true) (by simp only [opd, zv, zz33] <;> rfl) (by simp only [zn] <;> exact rfl) ?_
 refine ow_off rfl rfl ?_
 refine ow_off rfl rfl ?_
 refine ow_off rfl rfl ?_
 refine ow_op (by simp only [zo, zz33] <;> exact rfl) ?_
 refine ow_nil ?_
 refine sk_n (by simp only [ze] <;> exact rfl) ?_
 refine cw_true (by simp only [opd, zv, zz33]) ?_
 refine cw_seq (cw_region ?_)
 refine ow_op (by simp only [zo, zz33]; exact lives_run (by omega) _) ?_
 refine ow_ml rfl ?_
 refine ow_nil ?_
 refine sk_n (by simp only [ze] <;> exact rfl) ?_
 refine cw_ret (sk_r ?_)
 refine ⟨_, by simp only [F3, resultD, resDs, resD, zg, zd, rowsOf, partD, List.take, List.drop, zm] <;> exact rfl, ?_⟩
 rfl

theorem lawDo_biga {d : Nat} (hd : 12 ≤ d) (S : St) {x y : D} {l : List Uu} {acts : List Ac} (hS : SlD 3 (uRows l) x) (hY : SlD 4 (acRows acts) y) (hl : l.length ≤ 6) (ha : ¬ acts.length ≤ 40) : runF LP NN d 3 [x, y] S = some (.bool true, S, false) := by
 have hbig : decide (((l.length : Nat) : Int) > 6) = false := decide_eq_false (by omega)
 have hbig2 : decide (((acts.length : Nat) : Int) > 40) = true := decide_eq_true (by omega)
 refine run_pure (F := F3) rfl (by simp only [LP, fnOf, snapVs, snaps, zs, zm, zv, hS.snapV, hS.freeV, hY.snapV, hY.freeV] <;> exact rfl) rfl (by simp only [LP, zf, zm, hS.snapV, hS.freeV, hY.snapV, hY.freeV]; try rfl) (by simp only [F3, zv] <;> exact rfl) (by omega) ?_
 rintro d rfl
 have zz34 := And.intro hS.len (And.intro @uRows_len (And.intro hY.len (And.intro @acRows_len (And.intro hbig (hbig2)))))
 refine cw_seq (cw_region ?_)
 refine ow_mc ?_
 refine ow_nil ?_
 refine sk_n (by simp only [ze] <;> exact rfl) ?_
 refine cw_seq (cw_seq (cw_region ?_))
 refine ow_me rfl ?_
 refine ow_op (by simp only [zo, lenD_str, lenD_nils, lenD_sl, lenD_msl, zz34] <;> exact rfl) ?_
 refine ow_op (by simp only [zo, binD, zb, Int.reduceEq, Int.reduceToNat, Int.reduceLT, zz34] <;> exact rfl) ?_
 refine ow_ml rfl ?_
 refine ow_know 0 (b := false) (by simp only [opd, zv, zz34] <;> rfl) (by simp only [zn] <;> exact rfl) ?_
 refine ow_on rfl ?_
 refine ow_me rfl ?_
 refine ow_on rfl ?_
 refine ow_op (by simp only [zo, lenD_str, lenD_nils, lenD_sl, lenD_msl, zz34] <;> exact rfl) ?_
 refine ow_on rfl ?_
 refine ow_op (by simp only [zo, binD, zb, Int.reduceEq, Int.reduceToNat, Int.reduceLT, zz34] <;> exact rfl) ?_
 refine ow_op (by simp only [zo, zz34] <;> exact rfl) ?_
 refine ow_nil ?_
 refine sk_n (by simp only [ze] <;> exact rfl) ?_
 skip
 refine cw_true (by simp only [opd, zv, zz34] <;> rfl) ?_
 refine cw_seq (cw_region ?_)
 refine ow_op (by simp only [zo, zz34]; exact lives_run (by omega) _) ?_
 refine ow_ml rfl ?_
 refine ow_nil ?_
 refine sk_n (by simp only [ze] <;> exact rfl) ?_
 refine cw_ret (sk_r ?_)
 refine ⟨_, by simp only [F3, resultD, resDs, resD, zg, zd, rowsOf, partD, List.take, List.drop, zm] <;> exact rfl, ?_⟩
 rfl

theorem lawDo_dup {d : Nat} (hd : 12 ≤ d) (S : St) {x y : D} {l : List Uu} {acts : List Ac} (hS : SlD 3 (uRows l) x) (hY : SlD 4 (acRows acts) y) (hl : l.length ≤ 6) (ha : acts.length ≤ 40) (i : Nat) (c : Int) (hf : firstDup l = some (i, c)) (hR : rulesF (ulOf l) [] = .inr (8, ((i + 1 : Nat) : Int), c)) : runF LP NN d 3 [x, y] S = some (.bool true, S, false) := by
 have hbig : decide (((l.length : Nat) : Int) > 6) = false := decide_eq_false (by omega)
 have hbig2 : decide (((acts.length : Nat) : Int) > 40) = false := decide_eq_false (by omega)
 have hU : SlD 3 (usRows (ulOf l)) (appY 3 (useRows l)) := by rw [ulOf_rows]; exact appY_S 3 (useRows l)

 refine run_pure (F := F3) rfl (by simp only [LP, fnOf, snapVs, snaps, zs, zm, zv, hS.snapV, hS.freeV, hY.snapV, hY.freeV] <;> exact rfl) rfl (by simp only [LP, zf, zm, hS.snapV, hS.freeV, hY.snapV, hY.freeV]; try rfl) (by simp only [F3, zv] <;> exact rfl) (by omega) ?_
 rintro d rfl
 have zz35 := And.intro hS.len (And.intro @uRows_len (And.intro hY.len (And.intro @acRows_len (And.intro hbig (And.intro hbig2 (And.intro hf (And.intro @twD.eq_1 (And.intro @beq_self_eq_true.{0} (And.intro @bne_self_eq_false.{0} (And.intro @Bool.and_self (And.intro @Bool.not_true (And.intro @progD.eq_1 (And.intro hU.isCell (And.intro hU.val (And.intro hU.cells (@List.append_nil.{0}))))))))))))))))
 refine cw_seq (cw_region ?_)
 refine ow_mc ?_
 refine ow_nil ?_
 refine sk_n (by simp only [ze] <;> exact rfl) ?_
 refine cw_seq (cw_seq (cw_region ?_))
 refine ow_me rfl ?_
 refine ow_op (by simp only [zo, lenD_str, lenD_nils, lenD_sl, lenD_msl, Int.reduceBNe, Nat.reduceAdd, zz35] <;> exact rfl) ?_
 refine ow_op (by simp only [zo, binD, zb, Int.reduceEq, Int.reduceToNat, Int.reduceLT, Int.reduceBNe, Nat.reduceAdd, zz35] <;> exact rfl) ?_
 refine ow_ml rfl ?_
 refine ow_know 0 (b := false) (by simp only [opd, zv, Int.reduceBNe, Nat.reduceAdd, zz35] <;> rfl) (by simp only [zn] <;> exact rfl) ?_
 refine ow_on rfl ?_
 refine ow_me rfl ?_
 refine ow_on rfl ?_
 refine ow_op (by simp only [zo, lenD_str, lenD_nils, lenD_sl, lenD_msl, Int.reduceBNe, Nat.reduceAdd, zz35] <;> exact rfl) ?_
 refine ow_on rfl ?_
 refine ow_op (by simp only [zo, binD, zb, Int.reduceEq, Int.reduceToNat, Int.reduceLT, Int.reduceBNe, Nat.reduceAdd, zz35] <;> exact rfl) ?_
 refine ow_op (by simp only [zo, Int.reduceBNe, Nat.reduceAdd, zz35] <;> exact rfl) ?_
 refine ow_nil ?_
 refine sk_n (by simp only [ze] <;> exact rfl) ?_
 skip
 refine cw_false (by simp only [opd, zv, Int.reduceBNe, Nat.reduceAdd, zz35] <;> rfl) ?_
 refine cw_skip (sk_n rfl (cw_seq (cw_region ?_)))
 refine ow_me rfl ?_
 refine ow_op (by simp only [zo, Int.reduceBNe, Nat.reduceAdd, zz35]; exact program_run (by omega) _ hS (by omega)) ?_
 refine ow_op (by simp only [zl, zm, Int.reduceBNe, Nat.reduceAdd, zz35] <;> exact rfl) ?_
 refine ow_op (by simp only [zl, zm, storeD, overlay, snapVs, snaps, zs, zc, zf, List.take, List.drop, Int.reduceBNe, Nat.reduceAdd, zz35] <;> exact rfl) ?_
 refine ow_nil ?_
 refine sk_n (by simp only [ze] <;> exact rfl) ?_
 refine cw_seq (cw_region ?_)
 refine ow_op (by simp only [zo, fillD, overlay, zc, List.take, List.drop, Nat.reduceAdd, Nat.reduceLeDiff, Nat.reduceBEq, zm, Int.reduceBNe, Nat.reduceAdd, zz35] <;> exact rfl) ?_
 refine ow_op (by simp only [zl, zm, zc, Int.reduceBNe, Nat.reduceAdd, zz35] <;> exact rfl) ?_
 refine ow_ml rfl ?_
 refine ow_nil ?_
 refine sk_n (by simp only [ze] <;> exact rfl) ?_
 refine cw_seq (cw_region ?_)
 refine ow_op (by simp only [zl, zm, zd, partD, List.take, List.drop, Int.reduceBNe, Nat.reduceAdd, zz35] <;> exact rfl) ?_
 refine ow_me rfl ?_
 refine ow_op (by simp only [opd, zv, exOp, LOp.loud, aop, pop, if_true, if_false, Bool.false_eq_true, Option.map_some, zc, zf, Int.reduceBNe, Nat.reduceAdd, zz35] <;> exact rfl) ?_
 refine ow_op (by simp only [zo, fillD, overlay, zc, List.take, List.drop, Nat.reduceAdd, Nat.reduceLeDiff, Nat.reduceBEq, zm, Int.reduceBNe, Nat.reduceAdd, zz35] <;> exact rfl) ?_
 refine ow_op (by simp only [opd, zv, exOp, LOp.loud, aop, pop, if_true, if_false, Bool.false_eq_true, Option.map_some, zc, zf, Int.reduceBNe, Nat.reduceAdd, zz35] <;> exact rfl) ?_
 refine ow_op (by simp only [zo, Int.reduceBNe, Nat.reduceAdd, zz35]; exact new_dup (by omega) (SlD.of 12 (fiRows theFiles) none) hU (by decide) (by simp only [ulOf, List.length_mapIdx]; omega) 1 _ _ hR _) ?_
 refine ow_ml rfl ?_
 refine ow_op (by simp only [zo, List.getElem?_cons_zero, List.getElem?_cons_succ, Int.reduceBNe, Nat.reduceAdd, zz35] <;> exact rfl) ?_
 refine ow_op (by simp only [zo, List.getElem?_cons_zero, List.getElem?_cons_succ, Int.reduceBNe, Nat.reduceAdd, zz35] <;> exact rfl) ?_
 refine ow_op (by simp only [zl, zm, Int.reduceBNe, Nat.reduceAdd, zz35] <;> exact rfl) ?_
 refine ow_ml rfl ?_
 refine ow_op (by simp only [zl, zm, storeD, overlay, snapVs, snaps, zs, zc, zf, List.take, List.drop, Int.reduceBNe, Nat.reduceAdd, zz35] <;> exact rfl) ?_
 refine ow_nil ?_
 refine sk_n (by simp only [ze] <;> exact rfl) ?_
 refine cw_seq (cw_seq ?_)
 refine cw_drawn (by simp only [newsVals, zw, Nat.reduceAdd] <;> exact rfl) (by simp only [zw, newsObj, St.eta] <;> exact rfl) ?_
 refine dw_op (by simp only [zl, zm, zd, partD, List.take, List.drop, Int.reduceBNe, Nat.reduceAdd, zz35] <;> exact rfl) (by simp only [fpHere, zo, zq] <;> exact rfl) rfl ?_
 refine dw_me rfl rfl ?_
 refine dw_op (by simp only [zo, Int.reduceBNe, Nat.reduceAdd, zz35]; exact twice_run (by omega) _ hS (by omega)) (by simp only [fpHere, zo, zq] <;> exact rfl) rfl ?_
 refine dw_quiet (by simp only [zo, eqCells, eqCell, isKey, eq_self, if_true, Bool.and_true, Int.reduceBNe, Nat.reduceAdd, zz35] <;> exact rfl) rfl rfl ?_
 refine dw_ml rfl rfl ?_
 refine dw_know 0 (b := false) (by simp only [opd, zv, Int.reduceBNe, Nat.reduceAdd, zz35] <;> rfl) (by simp only [zn] <;> exact rfl) ?_
 refine dw_on rfl ?_
 refine dw_me rfl rfl ?_
 refine dw_on rfl ?_
 refine dw_op (by simp only [opd, zv, exOp, aop, LOp.loud, lop, if_true, Option.map_some, Int.reduceBNe, Nat.reduceAdd, zz35] <;> exact rfl) (by simp only [fpHere, zo, zq] <;> exact rfl) rfl ?_
 refine dw_on rfl ?_
 refine dw_quiet (by simp only [zo, faddrD_ptr, faddrD_cptr, zm, Int.reduceBNe, Nat.reduceAdd, zz35] <;> exact rfl) rfl rfl ?_
 refine dw_on rfl ?_
 refine dw_op (by simp only [zl, zm, zd, partD, List.take, List.drop, Int.reduceBNe, Nat.reduceAdd, zz35] <;> exact rfl) (by simp only [fpHere, zo, zq] <;> exact rfl) rfl ?_
 refine dw_on rfl ?_
 refine dw_quiet (by simp only [zo, binD, zb, Int.reduceEq, Int.reduceToNat, Int.reduceLT, Int.reduceBNe, Nat.reduceAdd, zz35] <;> exact rfl) rfl rfl ?_
 refine dw_on rfl ?_
 refine dw_quiet (by simp only [zo, Int.reduceBNe, Nat.reduceAdd, zz35] <;> exact rfl) rfl rfl ?_
 refine dw_quiet (by simp only [zo, Int.reduceBNe, Nat.reduceAdd, zz35] <;> exact rfl) rfl rfl ?_
 refine dw_nil ?_
 refine sk_n (by simp only [ze] <;> exact rfl) ?_
 skip
 refine cw_false (by simp only [opd, zv, Int.reduceBNe, Nat.reduceAdd, zz35] <;> rfl) ?_
 refine cw_skip (sk_n rfl (cw_seq (cw_seq (cw_region ?_))))
 refine ow_me rfl ?_
 refine ow_op (by simp only [opd, zv, exOp, aop, LOp.loud, lop, if_true, Option.map_some, Int.reduceBNe, Nat.reduceAdd, zz35] <;> exact rfl) ?_
 refine ow_nil ?_
 refine sk_n (by simp only [ze] <;> exact rfl) ?_
 skip
 refine cw_true (by simp only [opd, zv, Int.reduceBNe, Nat.reduceAdd, zz35] <;> rfl) ?_
 refine cw_seq (cw_region ?_)
 refine ow_op (by simp only [zo, Int.reduceBNe, Nat.reduceAdd, zz35]; exact lives_run (by omega) _) ?_
 refine ow_ml rfl ?_
 refine ow_nil ?_
 refine sk_n (by simp only [ze] <;> exact rfl) ?_
 refine cw_ret (sk_r ?_)
 refine ⟨_, by simp only [F3, resultD, resDs, resD, zg, zd, rowsOf, partD, List.take, List.drop, zm] <;> exact rfl, ?_⟩
 rfl

end Go.Proofs.YtcogjcplldpkaaaGreat

namespace Go.Proofs.YtcogjcplldpkaaaGreat
set_option linter.unusedSimpArgs false
set_option linter.unusedVariables false
set_option maxRecDepth 10000
set_option maxHeartbeats 4000000

def nameA (k : Nat) : ByteArray := ⟨#[70]⟩ ++ (⟨#[48, 49, 50, 51]⟩ : ByteArray).extract (k % 4) (k % 4 + 1)
def rpN (q : Nat) : Rp := ([⟨true, ⟨#[]⟩, 0⟩, ⟨false, ⟨#[]⟩, 0⟩, ⟨true, ⟨#[65, 84, 32, 69, 78, 68]⟩, 0⟩, ⟨true, ⟨#[]⟩, 6⟩] : List Rp).getD q ⟨false, ⟨#[]⟩, 0⟩
def rpR : List (List D) := [[.bool true, .nils, .str ⟨#[]⟩, .bool false, .int .i64 0], [.bool false, .nils, .str ⟨#[]⟩, .bool false, .int .i64 0], [.bool true, .nils, .str ⟨#[65, 84, 32, 69, 78, 68]⟩, .bool false, .int .i64 0], [.bool true, .nils, .str ⟨#[]⟩, .bool false, .int .i64 6]]
theorem rp_at (q : Nat) (h : q < 4) : rpR[q]? = some [.bool (rpN q).h, .nils, .str (rpN q).b, .bool false, .int .i64 (rpN q).e] := by
 match q, h with
 | 0, _ => rfl
 | 1, _ => rfl
 | 2, _ => rfl
 | 3, _ => rfl
theorem rp_in (q : Nat) (h : q < 4) : [.bool (rpN q).h, .nils, .str (rpN q).b, .bool false, .int .i64 (rpN q).e] ∈ allR := by
 match q, h with
 | 0, _ => exact List.mem_append_left _ (by simp [rpN])
 | 1, _ => exact List.mem_append_left _ (by simp [rpN])
 | 2, _ => exact List.mem_append_left _ (by simp [rpN])
 | 3, _ => exact List.mem_append_left _ (by simp [rpN])
theorem rp_ok (q : Nat) (h : q < 3) : (rpN q).h = false ∨ ((rpN q).e == 6) = false := by
 match q, h with
 | 0, _ => exact .inr rfl
 | 1, _ => exact .inl rfl
 | 2, _ => exact .inr rfl
theorem rpS_in (i : Nat) (h : i < 6) : rpS (secF i) ∈ allR := List.mem_append_right _ (List.mem_map.2 ⟨i, by simpa using h, rfl⟩)
theorem any_tab : ((List.range 4).all fun k => (theFiles.any fun f => (f.nm.toList == (nameA k).toList) && stN f) == decide (k % 2 = 0)) = true := by decide +kernel
theorem any_file (k : Nat) : (theFiles.any fun f => (f.nm.toList == (nameA k).toList) && stN f) = decide (k % 2 = 0) := by
 have h := List.all_eq_true.1 any_tab (k % 4) (by simp; omega)
 have e : nameA (k % 4) = nameA k := by simp [nameA]
 rw [e] at h
 have := beq_iff_eq.1 h
 rw [this, show k % 4 % 2 = k % 2 by omega]
theorem stmt_all (vb fi mo how : Nat) (nm : ByteArray) : ∃ qx pr, SlD 2 pr qx ∧ (∀ (d : Nat) (S : St), 1 ≤ d → runF LP NN d 10 [.agg [.int .u8 vb, .int .u8 fi, .int .u8 mo, .int .u8 how], .str nm] S = some (.agg [.str (verbN (vb % 8)), .int .i64 0, .int .i64 0, qx, .nils], S, false)) ∧ (vb % 8 = 0 → qx = ph1 (mo % 4) nm) := by
 by_cases h : vb % 8 = 0
 ·
  exact ⟨ph1 (mo % 4) nm, _, .of _ _ _, fun d S hd => by rw [h]; exact stmt_open hd S vb fi mo how nm h, fun _ => rfl⟩
 ·
  exact ⟨ph0, _, .of _ _ _, fun d S hd => stmt_other hd S vb fi mo how nm h, fun e => absurd e h⟩
theorem verb_dis (k : Nat) (h : k < 8) (h7 : k ≠ 7) : ((verbN k).toList == (⟨#[68, 73, 83, 80, 76, 65, 89]⟩ : ByteArray).toList) = false := by
 match k, h, h7 with
 | 0, _, _ => decide +kernel
 | 1, _, _ => decide +kernel
 | 2, _, _ => decide +kernel
 | 3, _, _ => decide +kernel
 | 4, _, _ => decide +kernel
 | 5, _, _ => decide +kernel
 | 6, _, _ => decide +kernel
 | k + 7, h, h7 => exact absurd (by omega) h7

end Go.Proofs.YtcogjcplldpkaaaGreat

namespace Go.Proofs.YtcogjcplldpkaaaGreat
set_option linter.unusedSimpArgs false
set_option linter.unusedVariables false
set_option maxRecDepth 10000
set_option maxHeartbeats 8000000

theorem lawDo_ok {d : Nat} (hd : 12 ≤ d) (S : St) {x y : D} {l : List Uu} {acts : List Ac} (hS : SlD 3 (uRows l) x) (hY : SlD 4 (acRows acts) y) (hl : l.length ≤ 6) (ha : acts.length ≤ 40) (o : List Ru) (hf : firstDup l = none) (hR : rulesF (ulOf l) [] = .inl o) (hok : RuOK o l) : runF LP NN d 3 [x, y] S = some (.bool true, S, false) := by
 have hbig : decide (((l.length : Nat) : Int) > 6) = false := decide_eq_false (by omega)
 have hbig2 : decide (((acts.length : Nat) : Int) > 40) = false := decide_eq_false (by omega)
 have hU : SlD 3 (usRows (ulOf l)) (appY 3 (useRows l)) := by rw [ulOf_rows]; exact appY_S 3 (useRows l)
 have hG := (appY_S 3 (ruRows o)).clip
 have hqf := fun (l : List ByteArray) (n : Nat) (i r : D) (wr : Bool) => ((appY_S 1 (strRows l)).clip).fpi n i r wr
 refine run_pure (F := F3) rfl (by simp only [LP, fnOf, snapVs, snaps, zs, zm, zv, hS.snapV, hS.freeV, hY.snapV, hY.freeV] <;> exact rfl) rfl (by simp only [LP, zf, zm, hS.snapV, hS.freeV, hY.snapV, hY.freeV]; try rfl) (by simp only [F3, zv] <;> exact rfl) (by omega) ?_
 rintro d rfl
 have zz35 := And.intro hS.len (And.intro @uRows_len (And.intro hY.len (And.intro @acRows_len (And.intro hbig (And.intro hbig2 (And.intro hf (And.intro @twD.eq_1 (And.intro @beq_self_eq_true.{0} (And.intro @bne_self_eq_false.{0} (And.intro @Bool.and_self (And.intro @Bool.not_true (And.intro @progD.eq_1 (And.intro hU.isCell (And.intro hU.val (And.intro hU.cells (And.intro @List.append_nil.{0} (And.intro @dkO.eq_1 (@drO.eq_1))))))))))))))))))
 refine cw_seq (cw_region ?_)
 refine ow_mc ?_
 refine ow_nil ?_
 refine sk_n (by simp only [ze] <;> exact rfl) ?_
 refine cw_seq (cw_seq (cw_region ?_))
 refine ow_me rfl ?_
 refine ow_op (by simp only [zo, lenD_str, lenD_nils, lenD_sl, lenD_msl, Int.reduceBNe, Nat.reduceAdd, zz35] <;> exact rfl) ?_
 refine ow_op (by simp only [zo, binD, zb, Int.reduceEq, Int.reduceToNat, Int.reduceLT, Int.reduceBNe, Nat.reduceAdd, zz35] <;> exact rfl) ?_
 refine ow_ml rfl ?_
 refine ow_know 0 (b := false) (by simp only [opd, zv, Int.reduceBNe, Nat.reduceAdd, zz35] <;> rfl) (by simp only [zn] <;> exact rfl) ?_
 refine ow_on rfl ?_
 refine ow_me rfl ?_
 refine ow_on rfl ?_
 refine ow_op (by simp only [zo, lenD_str, lenD_nils, lenD_sl, lenD_msl, Int.reduceBNe, Nat.reduceAdd, zz35] <;> exact rfl) ?_
 refine ow_on rfl ?_
 refine ow_op (by simp only [zo, binD, zb, Int.reduceEq, Int.reduceToNat, Int.reduceLT, Int.reduceBNe, Nat.reduceAdd, zz35] <;> exact rfl) ?_
 refine ow_op (by simp only [zo, Int.reduceBNe, Nat.reduceAdd, zz35] <;> exact rfl) ?_
 refine ow_nil ?_
 refine sk_n (by simp only [ze] <;> exact rfl) ?_
 skip
 refine cw_false (by simp only [opd, zv, Int.reduceBNe, Nat.reduceAdd, zz35] <;> rfl) ?_
 refine cw_skip (sk_n rfl (cw_seq (cw_region ?_)))
 refine ow_me rfl ?_
 refine ow_op (by simp only [zo, Int.reduceBNe, Nat.reduceAdd, zz35]; exact program_run (by omega) _ hS (by omega)) ?_
 refine ow_op (by simp only [zl, zm, Int.reduceBNe, Nat.reduceAdd, zz35] <;> exact rfl) ?_
 refine ow_op (by simp only [zl, zm, storeD, overlay, snapVs, snaps, zs, zc, zf, List.take, List.drop, Int.reduceBNe, Nat.reduceAdd, zz35] <;> exact rfl) ?_
 refine ow_nil ?_
 refine sk_n (by simp only [ze] <;> exact rfl) ?_
 refine cw_seq (cw_region ?_)
 refine ow_op (by simp only [zo, fillD, overlay, zc, List.take, List.drop, Nat.reduceAdd, Nat.reduceLeDiff, Nat.reduceBEq, zm, Int.reduceBNe, Nat.reduceAdd, zz35] <;> exact rfl) ?_
 refine ow_op (by simp only [zl, zm, zc, Int.reduceBNe, Nat.reduceAdd, zz35] <;> exact rfl) ?_
 refine ow_ml rfl ?_
 refine ow_nil ?_
 refine sk_n (by simp only [ze] <;> exact rfl) ?_
 refine cw_seq (cw_region ?_)
 refine ow_op (by simp only [zl, zm, zd, partD, List.take, List.drop, Int.reduceBNe, Nat.reduceAdd, zz35] <;> exact rfl) ?_
 refine ow_me rfl ?_
 refine ow_op (by simp only [opd, zv, exOp, LOp.loud, aop, pop, if_true, if_false, Bool.false_eq_true, Option.map_some, zc, zf, Int.reduceBNe, Nat.reduceAdd, zz35] <;> exact rfl) ?_
 refine ow_op (by simp only [zo, fillD, overlay, zc, List.take, List.drop, Nat.reduceAdd, Nat.reduceLeDiff, Nat.reduceBEq, zm, Int.reduceBNe, Nat.reduceAdd, zz35] <;> exact rfl) ?_
 refine ow_op (by simp only [opd, zv, exOp, LOp.loud, aop, pop, if_true, if_false, Bool.false_eq_true, Option.map_some, zc, zf, Int.reduceBNe, Nat.reduceAdd, zz35] <;> exact rfl) ?_
 refine ow_op (by simp only [zo, Int.reduceBNe, Nat.reduceAdd, zz35]; exact new_ok (by omega) (SlD.of 12 (fiRows theFiles) none) hU (by decide) (by simp only [ulOf, List.length_mapIdx]; omega) 1 o hR _) ?_
 refine ow_ml rfl ?_
 refine ow_op (by simp only [zo, List.getElem?_cons_zero, List.getElem?_cons_succ, Int.reduceBNe, Nat.reduceAdd, zz35] <;> exact rfl) ?_
 refine ow_op (by simp only [zo, List.getElem?_cons_zero, List.getElem?_cons_succ, Int.reduceBNe, Nat.reduceAdd, zz35] <;> exact rfl) ?_
 refine ow_op (by simp only [zl, zm, Int.reduceBNe, Nat.reduceAdd, zz35] <;> exact rfl) ?_
 refine ow_ml rfl ?_
 refine ow_op (by simp only [zl, zm, storeD, overlay, snapVs, snaps, zs, zc, zf, List.take, List.drop, Int.reduceBNe, Nat.reduceAdd, zz35] <;> exact rfl) ?_
 refine ow_nil ?_
 refine sk_n (by simp only [ze] <;> exact rfl) ?_
 refine cw_seq (cw_seq ?_)
 refine cw_drawn (by simp only [newsVals, zw, Nat.reduceAdd] <;> exact rfl) (by simp only [zw, newsObj, St.eta] <;> exact rfl) ?_
 refine dw_op (by simp only [zl, zm, zd, partD, List.take, List.drop, Int.reduceBNe, Nat.reduceAdd, zz35] <;> exact rfl) (by simp only [fpHere, zo, zq, hqf] <;> exact rfl) rfl ?_
 refine dw_me rfl rfl ?_
 refine dw_op (by simp only [zo, Int.reduceBNe, Nat.reduceAdd, zz35]; exact twice_run (by omega) _ hS (by omega)) (by simp only [fpHere, zo, zq, hqf] <;> exact rfl) rfl ?_
 refine dw_quiet (by simp only [zo, eqCells, eqCell, isKey, eq_self, if_true, Bool.and_true, Int.reduceBNe, Nat.reduceAdd, zz35] <;> exact rfl) rfl rfl ?_
 refine dw_ml rfl rfl ?_
 refine dw_know 0 (b := false) (by simp only [opd, zv, Int.reduceBNe, Nat.reduceAdd, zz35] <;> rfl) (by simp only [zn] <;> exact rfl) ?_
 refine dw_on rfl ?_
 refine dw_me rfl rfl ?_
 refine dw_on rfl ?_
 refine dw_op (by simp only [opd, zv, exOp, aop, LOp.loud, lop, if_true, Option.map_some, Int.reduceBNe, Nat.reduceAdd, zz35] <;> exact rfl) (by simp only [fpHere, zo, zq, hqf] <;> exact rfl) rfl ?_
 refine dw_on rfl ?_
 refine dw_quiet (by simp only [zo, faddrD_ptr, faddrD_cptr, zm, Int.reduceBNe, Nat.reduceAdd, zz35] <;> exact rfl) rfl rfl ?_
 refine dw_on rfl ?_
 refine dw_op (by simp only [zl, zm, zd, partD, List.take, List.drop, Int.reduceBNe, Nat.reduceAdd, zz35] <;> exact rfl) (by simp only [fpHere, zo, zq, hqf] <;> exact rfl) rfl ?_
 refine dw_on rfl ?_
 refine dw_quiet (by simp only [zo, binD, zb, Int.reduceEq, Int.reduceToNat, Int.reduceLT, Int.reduceBNe, Nat.reduceAdd, zz35] <;> exact rfl) rfl rfl ?_
 refine dw_on rfl ?_
 refine dw_quiet (by simp only [zo, Int.reduceBNe, Nat.reduceAdd, zz35] <;> exact rfl) rfl rfl ?_
 refine dw_quiet (by simp only [zo, Int.reduceBNe, Nat.reduceAdd, zz35] <;> exact rfl) rfl rfl ?_
 refine dw_nil ?_
 refine sk_n (by simp only [ze] <;> exact rfl) ?_
 skip
 refine cw_false (by simp only [opd, zv, Int.reduceBNe, Nat.reduceAdd, zz35] <;> rfl) ?_
 refine cw_skip (sk_n rfl (cw_seq (cw_seq (cw_region ?_))))
 refine ow_me rfl ?_
 refine ow_op (by simp only [opd, zv, exOp, aop, LOp.loud, lop, if_true, Option.map_some, Int.reduceBNe, Nat.reduceAdd, zz35] <;> exact rfl) ?_
 refine ow_nil ?_
 refine sk_n (by simp only [ze] <;> exact rfl) ?_
 skip
 refine cw_false (by simp only [opd, zv, Int.reduceBNe, Nat.reduceAdd, zz35] <;> rfl) ?_
 refine cw_skip (sk_n rfl (cw_seq (cw_region ?_)))
 refine ow_mc ?_
 refine ow_nil ?_
 refine sk_n (by simp only [ze] <;> exact rfl) ?_
 refine cw_seq (cw_region ?_)
 refine ow_mc ?_
 refine ow_nil ?_
 refine sk_n (by simp only [ze] <;> exact rfl) ?_
 refine cw_seq (cw_seq (cw_region ?_))
 refine ow_mc ?_
 refine ow_nil ?_
 refine sk_n (by simp only [ze] <;> exact rfl) ?_
 refine cw_block ?_
 refine cw_loop (fun n env S' => ∃ (i : Nat) (act : Bool) (dn : List ByteArray) (Hh : List AObj) (nm : ByteArray) (mode many : Nat) (r : Rp) (dx px : D) (g g2 : Option Nat) (u10 u11 u12 u13 u14 u15 u16 u17 u18 u19 u20 u21 u22 u23 u24 u25 u26 u27 u28 u29 u30 u31 u32 u33 u34 u35 u36 u37 u38 : D), S' = ⟨Hh, 0⟩ ∧ env = [x, y, .bool false, .ptr 0 0 0 0, .ptr 1 0 0 0, .ptr 5 0 0 0, .ptr 6 0 0 0, px, .bool act, .int .i64 i, u10, u11, u12, u13, u14, u15, u16, u17, u18, u19, u20, u21, u22, u23, u24, u25, u26, u27, u28, u29, u30, u31, u32, u33, u34, u35, u36, u37, u38] ∧ i ≤ acts.length ∧ n = acts.length - i ∧ LS Hh (.sl 12 (fiRows theFiles) none) (appY 3 (useRows l)) (clipD (appY 3 (ruRows o))) nm mode r many act dn dn dx g px g2 ∧ many ≤ i ∧ dn.length ≤ i) (acts.length) (by omega) (⟨0, false, [], _, ⟨#[]⟩, 0, 0, ⟨false, ⟨#[]⟩, 0⟩, _, _, none, none, _, _, _, _, _, _, _, _, _, _, _, _, _, _, _, _, _, _, _, _, _, _, _, _, _, _, _, _, _, rfl, rfl, by omega, by omega, ⟨rfl, rfl, .nil _ _ _, .nil _ _ _, by simp, by simp⟩, by omega, by simp⟩) ?_
 rintro n env S' ⟨i, act, dn, Hh, nm, mode, many, r, dx, px, g, g2, u10, u11, u12, u13, u14, u15, u16, u17, u18, u19, u20, u21, u22, u23, u24, u25, u26, u27, u28, u29, u30, u31, u32, u33, u34, u35, u36, u37, u38, rfl, rfl, hi, rfl, hL, hmi, hdi⟩
 refine cw_seq (cw_seq (cw_region ?_))
 refine ow_me rfl ?_
 refine ow_me rfl ?_
 refine ow_op (by simp only [zo, lenD_str, lenD_nils, lenD_sl, lenD_msl, Int.reduceBNe, Nat.reduceAdd, zz35] <;> exact rfl) ?_
 refine ow_op (by simp only [zo, binD, zb, Int.reduceEq, Int.reduceToNat, Int.reduceLT, Int.reduceBNe, Nat.reduceAdd, zz35] <;> exact rfl) ?_
 refine ow_nil ?_
 refine sk_n (by simp only [ze] <;> exact rfl) ?_
 refine cw_cond (by simp only [opd, zv, Int.reduceBNe, Nat.reduceAdd, zz35] <;> exact rfl) (fun hcA => ?_) (fun hcA => ?_)
 ·
  have hlt : i < acts.length := by have := of_decide_eq_true hcA; omega
  have hw := wrap_nat i (by omega)
  have hia := fun (S : St) => hY.iaddrN S .i64 (acRows_at hlt)
  have hf4 : (acts[i].fi : Int).tmod 4 = ((acts[i].fi % 4 : Nat) : Int) := tmod_nat _ 4
  have hf2 : (acts[i].fi : Int).tmod 2 = ((acts[i].fi % 2 : Nat) : Int) := tmod_nat _ 2
  have hw4 : IntKind.u8.wrap (((acts[i].fi % 4 : Nat) : Int) + 1) = ((acts[i].fi % 4 + 1 : Nat) : Int) := wrap_u8 (acts[i].fi % 4 + 1) (by omega)
  have hm5 : (acts[i].mo : Int).tmod 5 = ((acts[i].mo % 5 : Nat) : Int) := tmod_nat _ 5
  have hm4 : IntKind.u8.wrap (1 + (acts[i].mo : Int).tmod 4) = ((1 + acts[i].mo % 4 : Nat) : Int) := u8_mode _
  have hq4 : (acts[i].how : Int).tmod 4 = ((acts[i].how % 4 : Nat) : Int) := tmod_nat _ 4
  have hix := rp_at (acts[i].how % 4) (by omega)
  simp only [rpR] at hix
  have hh7 := hL.hlen
  have zz36 := And.intro hw (And.intro hia (And.intro hf4 (hw4)))
  refine cw_skip (sk_n rfl (cw_seq (cw_block (cw_seq (cw_region ?_)))))
  refine ow_me rfl ?_
  refine ow_me rfl ?_
  refine ow_op (by simp only [zl, zm, iaddrD_sl, iaddrD_msl, Int.toNat_natCast, Int.toNat_zero, List.getElem?_map, Option.map_some, Int.le_refl, Int.reduceBNe, Nat.reduceAdd, zz35, zz36] <;> exact rfl) ?_
  refine ow_op (by simp only [zl, zm, zd, partD, List.take, List.drop, Int.reduceBNe, Nat.reduceAdd, zz35, zz36] <;> exact rfl) ?_
  refine ow_op (by simp only [zl, zm, Int.reduceBNe, Nat.reduceAdd, zz35, zz36] <;> exact rfl) ?_
  refine ow_op (by simp only [zl, zm, storeD, overlay, snapVs, snaps, zs, zc, zf, List.take, List.drop, Int.reduceBNe, Nat.reduceAdd, zz35, zz36] <;> exact rfl) ?_
  refine ow_nil ?_
  refine sk_n (by simp only [ze] <;> exact rfl) ?_
  refine cw_seq (cw_region ?_)
  refine ow_op (by simp only [zo, faddrD_ptr, faddrD_cptr, zm, Int.reduceBNe, Nat.reduceAdd, zz35, zz36] <;> exact rfl) ?_
  refine ow_op (by simp only [zl, zm, zd, partD, List.take, List.drop, Int.reduceBNe, Nat.reduceAdd, zz35, zz36] <;> exact rfl) ?_
  refine ow_op (by simp only [zo, binD, zb, Int.reduceEq, Int.reduceToNat, Int.reduceLT, Int.reduceBNe, Nat.reduceAdd, zz35, zz36] <;> exact rfl) ?_
  refine ow_op (by simp only [zo, faddrD_ptr, faddrD_cptr, zm, Int.reduceBNe, Nat.reduceAdd, zz35, zz36] <;> exact rfl) ?_
  refine ow_op (by simp only [zl, zm, zd, partD, List.take, List.drop, Int.reduceBNe, Nat.reduceAdd, zz35, zz36] <;> exact rfl) ?_
  refine ow_op (by simp only [zo, binD, zb, Int.reduceEq, Int.reduceToNat, Int.reduceLT, Int.reduceBNe, Nat.reduceAdd, zz35, zz36] <;> exact rfl) ?_
  refine ow_op (by simp only [zo, binD, zb, Int.reduceEq, Int.reduceToNat, Int.reduceLT, Int.reduceBNe, Nat.reduceAdd, zz35, zz36] <;> exact rfl) ?_
  refine ow_op (by simp only [opd, zv, hf4, hw4]; exact x_strslice .u8 .u8 (by omega) (by show _ ≤ 4; omega)) ?_
  refine ow_op (by simp only [opd, zv]; exact x_stradd (by rw [ByteArray.size_extract]; show 1 + (min _ 4 - _) ≤ _; omega)) ?_
  refine ow_ml rfl ?_
  refine ow_nil ?_
  refine sk_n (by simp only [ze] <;> exact rfl) ?_
  refine cw_cut (fun env S' => ∃ (act' : Bool) (H1 : List AObj) (v12 v13 v14 v15 v16 v17 v18 v19 v20 v21 v22 v23 v24 v25 v26 v27 v28 v29 v30 v31 v32 v33 v34 v35 v36 v37 v38 : D), S' = ⟨H1, 0⟩ ∧ env = [x, y, .bool false, .ptr 0 0 0 0, .ptr 1 0 0 0, .ptr 5 0 0 0, .ptr 6 0 0 0, px, .bool act', .int .i64 i, .ptr Hh.length 0 0 0, .str (nameA acts[i].fi), v12, v13, v14, v15, v16, v17, v18, v19, v20, v21, v22, v23, v24, v25, v26, v27, v28, v29, v30, v31, v32, v33, v34, v35, v36, v37, v38] ∧ LS H1 (.sl 12 (fiRows theFiles) none) (appY 3 (useRows l)) (clipD (appY 3 (ruRows o))) nm mode r many act' dn dn dx g px g2 ∧ H1[Hh.length]? = some ⟨52, 4, [[.int .u8 acts[i].vb, .int .u8 acts[i].fi, .int .u8 acts[i].mo, .int .u8 acts[i].how]], 0, 0, false⟩) ?_ ?_
  ·
   refine cw_seq (cw_region ?_)
   refine ow_me rfl ?_
   refine ow_ml rfl ?_
   refine ow_split 0 (by simp only [opd, zv] <;> exact rfl) (by simp only [zn] <;> exact rfl) (by simp only [zn] <;> exact rfl) (fun hgAT => ?_) (fun hgAT => ?_)
   ·
    refine ow_on rfl ?_
    refine ow_op (by simp only [zo, faddrD_ptr, faddrD_cptr, zm, Int.reduceBNe, Nat.reduceAdd, zz35, zz36] <;> exact rfl) ?_
    refine ow_on rfl ?_
    refine ow_op (by simp only [zl, zm, zd, partD, List.take, List.drop, Int.reduceBNe, Nat.reduceAdd, zz35, zz36] <;> exact rfl) ?_
    refine ow_on rfl ?_
    refine ow_op (by simp only [zo, binD, zb, Int.reduceEq, Int.reduceToNat, Int.reduceLT, Int.reduceBNe, Nat.reduceAdd, zz35, zz36] <;> exact rfl) ?_
    refine ow_on rfl ?_
    refine ow_op (by simp only [zo, binD, zb, Int.reduceEq, Int.reduceToNat, Int.reduceLT, Int.reduceBNe, Nat.reduceAdd, zz35, zz36] <;> exact rfl) ?_
    refine ow_on rfl ?_
    refine ow_op (by simp only [zo, binD, zb, Int.reduceEq, Int.reduceToNat, Int.reduceLT, Int.reduceBNe, Nat.reduceAdd, zz35, zz36] <;> exact rfl) ?_
    refine ow_op (by simp only [zo, Int.reduceBNe, Nat.reduceAdd, zz35, zz36] <;> exact rfl) ?_
    refine ow_nil ?_
    refine sk_n (by simp only [ze] <;> exact rfl) ?_
    refine cw_cond (by simp only [opd, zv, Int.reduceBNe, Nat.reduceAdd, zz35, zz36] <;> exact rfl) (fun hcATT => ?_) (fun hcATT => ?_)
    ·
     have hLp := hL.push [⟨52, 4, [[.int .u8 acts[i].vb, .int .u8 acts[i].fi, .int .u8 acts[i].mo, .int .u8 acts[i].how]], 0, 0, false⟩]
     have hs := do_stage (d := d) (by omega) hLp.h5 hLp.hA.at ⟨_, .of 12 (fiRows theFiles) none⟩ ⟨_, appY_S 3 (useRows l)⟩ ⟨_, (appY_S 3 (ruRows o)).clip⟩ (vb := ⟨#[82, 69, 65, 68]⟩) (px := .nils) (.nil 2) (fileV_at 2 (by omega)) 0
     obtain ⟨H5, hH5⟩ : ∃ H5 : List AObj, H5 = (Hh ++ [(⟨52, 4, [[.int .u8 acts[i].vb, .int .u8 acts[i].fi, .int .u8 acts[i].mo, .int .u8 acts[i].how]], 0, 0, false⟩ : AObj)]).set 5 (dkO 1 (.sl 12 (fiRows theFiles) none) (appY 3 (useRows l)) (clipD (appY 3 (ruRows o))) false dx) ++ [⟨57, 5, [[.str ⟨#[82, 69, 65, 68]⟩, .int .i64 0, .int .i64 0, .nils, .nils]], 0, 0, false⟩, ⟨38, 5, [[.bool true, .nils, .str ⟨#[]⟩, .bool false, .int .i64 0]], 0, 0, false⟩] := ⟨_, rfl⟩
     rw [← hH5, Nat.zero_min] at hs
     have hL5 : LS H5 (.sl 12 (fiRows theFiles) none) (appY 3 (useRows l)) (clipD (appY 3 (ruRows o))) nm mode r many false dn dn dx g px g2 := by rw [hH5]; exact (hLp.desk false).push _
     have ha5 : H5[Hh.length]? = some ⟨52, 4, [[.int .u8 acts[i].vb, .int .u8 acts[i].fi, .int .u8 acts[i].mo, .int .u8 acts[i].how]], 0, 0, false⟩ := by rw [hH5]; exact get_app (get_set_ne (by rw [at_app0]; rfl) (by omega) _) _
     refine cw_seq (cw_region ?_)
     refine ow_me rfl ?_
     refine ow_op (by simp only [zo, fillD, overlay, zc, List.take, List.drop, Nat.reduceAdd, Nat.reduceLeDiff, Nat.reduceBEq, zm, Int.reduceBNe, Nat.reduceAdd, zz35, zz36] <;> exact rfl) ?_
     refine ow_op (by simp only [zo, Int.reduceBNe, Nat.reduceAdd, zz35, zz36]; exact hs) ?_
     refine ow_op (by simp only [zl, zm, Int.reduceBNe, Nat.reduceAdd, zz35, zz36] <;> exact rfl) ?_
     refine ow_op (by simp only [zl, zm, storeD, overlay, snapVs, snaps, zs, zc, zf, List.take, List.drop, Int.reduceBNe, Nat.reduceAdd, zz35, zz36] <;> exact rfl) ?_
     refine ow_nil ?_
     refine sk_n (by simp only [ze] <;> exact rfl) ?_
     refine cw_seq (cw_seq (cw_region ?_))
     refine ow_op (by simp only [zl, zm, zd, partD, List.take, List.drop, Int.reduceBNe, Nat.reduceAdd, zz35, zz36] <;> exact rfl) ?_
     refine ow_op (by simp only [zo, fillD, overlay, zc, List.take, List.drop, Nat.reduceAdd, Nat.reduceLeDiff, Nat.reduceBEq, zm, Int.reduceBNe, Nat.reduceAdd, zz35, zz36] <;> exact rfl) ?_
     refine ow_op (by simp only [zo, Int.reduceBNe, Nat.reduceAdd, zz35, zz36]; exact same_run (by omega) _ (List.mem_append_left _ (by simp))) ?_
     refine ow_op (by simp only [zo, unD, Int.reduceBNe, Nat.reduceAdd, zz35, zz36] <;> exact rfl) ?_
     refine ow_nil ?_
     refine sk_n (by simp only [ze] <;> exact rfl) ?_
     skip
     refine cw_false (by simp only [opd, zv, Int.reduceBNe, Nat.reduceAdd, zz35, zz36] <;> rfl) ?_
     refine cw_skip (sk_n rfl (cw_region ?_))
     refine ow_mc ?_
     refine ow_nil ?_
     refine ck_n (by simp only [ze] <;> exact rfl) ?_
     exact ⟨_, _, _, _, _, _, _, _, _, _, _, _, _, _, _, _, _, _, _, _, _, _, _, _, _, _, _, _, _, rfl, rfl, hL5.push _, get_app ha5 _⟩
    ·
     refine cw_skip ?_
     refine ck_n rfl ?_
     exact ⟨_, _, _, _, _, _, _, _, _, _, _, _, _, _, _, _, _, _, _, _, _, _, _, _, _, _, _, _, _, rfl, rfl, hL.push _, by rw [at_app0]; rfl⟩
   ·
    refine ow_off rfl rfl ?_
    refine ow_off rfl rfl ?_
    refine ow_off rfl rfl ?_
    refine ow_off rfl rfl ?_
    refine ow_off rfl rfl ?_
    refine ow_op (by simp only [zo, Int.reduceBNe, Nat.reduceAdd, zz35, zz36] <;> exact rfl) ?_
    refine ow_nil ?_
    refine sk_n (by simp only [ze] <;> exact rfl) ?_
    refine cw_false (by simp only [opd, zv, Int.reduceBNe, Nat.reduceAdd, zz35, zz36]) ?_
    refine cw_skip ?_
    refine ck_n rfl ?_
    exact ⟨_, _, _, _, _, _, _, _, _, _, _, _, _, _, _, _, _, _, _, _, _, _, _, _, _, _, _, _, _, rfl, rfl, hL.push _, by rw [at_app0]; rfl⟩
  rintro env S' ⟨act', H1, v12, v13, v14, v15, v16, v17, v18, v19, v20, v21, v22, v23, v24, v25, v26, v27, v28, v29, v30, v31, v32, v33, v34, v35, v36, v37, v38, rfl, rfl, hL1, ha1⟩
  have hh1 := lt_of hL1.h1
  have hga := lt_of ha1
  obtain ⟨qx, pr, hQ, hst, hqo⟩ := stmt_all acts[i].vb acts[i].fi acts[i].mo acts[i].how (nameA acts[i].fi)
  have hone := hL1.h1
  simp only [drO] at hone
  have hset1 := fun (X : AObj) => get_set_self hL1.h1 X
  have hseta := fun (X : AObj) => get_set_ne ha1 (show 1 ≠ Hh.length by omega) X
  have hsetaL := fun (X : AObj) (L : List AObj) => get_app (hseta X) L
  have zz37 := And.intro @at_S0 (And.intro @at_S (And.intro @set_S0 (And.intro @set_S (And.intro @List.getElem?_cons_zero.{0} (And.intro @List.getElem?_cons_succ.{0} (And.intro hone (And.intro hset1 (And.intro hseta (And.intro hsetaL (And.intro @List.set_set.{0} (And.intro hm5 (And.intro hm4 (And.intro @List.length_set.{0} (And.intro hQ.isCell (And.intro hQ.val (hQ.cells))))))))))))))))
  refine cw_seq (cw_region ?_)
  refine ow_me rfl ?_
  refine ow_me rfl ?_
  refine ow_op (by simp only [zo, Int.reduceBNe, Nat.reduceAdd, zz35, zz36, at_L hga, Nat.reduceAdd, zz37] <;> exact rfl) ?_
  refine ow_op (by simp only [zo, faddrD_ptr, faddrD_cptr, zm, Int.reduceBNe, Nat.reduceAdd, zz35, zz36, at_L hga, Nat.reduceAdd, zz37] <;> exact rfl) ?_
  refine ow_op (by simp only [zl, zm, storeD, overlay, snapVs, snaps, zs, zc, zf, List.take, List.drop, Int.reduceBNe, Nat.reduceAdd, zz35, zz36, at_L hga, Nat.reduceAdd, zz37] <;> exact rfl) ?_
  refine ow_nil ?_
  refine sk_n (by simp only [ze] <;> exact rfl) ?_
  refine cw_seq (cw_region ?_)
  refine ow_me rfl ?_
  refine ow_op (by simp only [zo, faddrD_ptr, faddrD_cptr, zm, Int.reduceBNe, Nat.reduceAdd, zz35, zz36, at_L hga, Nat.reduceAdd, zz37] <;> exact rfl) ?_
  refine ow_op (by simp only [zl, zm, zd, partD, List.take, List.drop, Int.reduceBNe, Nat.reduceAdd, zz35, zz36, at_L hga, Nat.reduceAdd, zz37] <;> exact rfl) ?_
  refine ow_op (by simp only [zo, binD, zb, Int.reduceEq, Int.reduceToNat, Int.reduceLT, Int.reduceBNe, Nat.reduceAdd, zz35, zz36, at_L hga, Nat.reduceAdd, zz37] <;> exact rfl) ?_
  refine ow_op (by simp only [zo, Int.reduceBNe, Nat.reduceAdd, zz35, zz36, at_L hga, Nat.reduceAdd, zz37] <;> exact rfl) ?_
  refine ow_op (by simp only [zo, faddrD_ptr, faddrD_cptr, zm, Int.reduceBNe, Nat.reduceAdd, zz35, zz36, at_L hga, Nat.reduceAdd, zz37] <;> exact rfl) ?_
  refine ow_op (by simp only [zl, zm, storeD, overlay, snapVs, snaps, zs, zc, zf, List.take, List.drop, Int.reduceBNe, Nat.reduceAdd, zz35, zz36, at_L hga, Nat.reduceAdd, zz37] <;> exact rfl) ?_
  refine ow_nil ?_
  refine sk_n (by simp only [ze] <;> exact rfl) ?_
  refine cw_seq (cw_region ?_)
  refine ow_me rfl ?_
  refine ow_op (by simp only [zo, Int.reduceBNe, Nat.reduceAdd, zz35, zz36, at_L hga, Nat.reduceAdd, zz37] <;> exact rfl) ?_
  refine ow_op (by simp only [zo, faddrD_ptr, faddrD_cptr, zm, Int.reduceBNe, Nat.reduceAdd, zz35, zz36, at_L hga, Nat.reduceAdd, zz37] <;> exact rfl) ?_
  refine ow_op (by simp only [zl, zm, zd, partD, List.take, List.drop, Int.reduceBNe, Nat.reduceAdd, zz35, zz36, at_L hga, Nat.reduceAdd, zz37] <;> exact rfl) ?_
  refine ow_ml rfl ?_
  refine ow_nil ?_
  refine sk_n (by simp only [ze] <;> exact rfl) ?_
  refine cw_seq (cw_region ?_)
  refine ow_op (by simp only [zl, zm, zd, partD, List.take, List.drop, Int.reduceBNe, Nat.reduceAdd, zz35, zz36, at_L hga, Nat.reduceAdd, zz37] <;> exact rfl) ?_
  refine ow_me rfl ?_
  refine ow_op (by simp only [zo, Int.reduceBNe, Nat.reduceAdd, zz35, zz36, at_L hga, Nat.reduceAdd, zz37]; exact hst _ _ (by omega)) ?_
  refine ow_op (by simp only [zl, zm, Int.reduceBNe, Nat.reduceAdd, zz35, zz36, at_L hga, Nat.reduceAdd, zz37] <;> exact rfl) ?_
  refine ow_op (by simp only [zl, zm, storeD, overlay, snapVs, snaps, zs, zc, zf, List.take, List.drop, Int.reduceBNe, Nat.reduceAdd, zz35, zz36, at_L hga, Nat.reduceAdd, zz37] <;> exact rfl) ?_
  refine ow_nil ?_
  refine sk_n (by simp only [ze] <;> exact rfl) ?_
  refine cw_cut (fun env S' => ∃ (mv gx : Nat) (H3 : List AObj) (v12 w15 w16 w17 w18 w19 w20 w21 w22 w23 w24 w25 w26 w27 w28 w29 w30 w31 w32 w33 w34 w35 w36 w37 w38 : D), S' = ⟨H3, 0⟩ ∧ env = [x, y, .bool false, .ptr 0 0 0 0, .ptr 1 0 0 0, .ptr 5 0 0 0, .ptr 6 0 0 0, px, .bool act', .int .i64 i, .ptr Hh.length 0 0 0, .str (nameA acts[i].fi), v12, .int .u8 mv, .ptr gx 0 0 0, w15, w16, w17, w18, w19, w20, w21, w22, w23, w24, w25, w26, w27, w28, w29, w30, w31, w32, w33, w34, w35, w36, w37, w38] ∧ LS H3 (.sl 12 (fiRows theFiles) none) (appY 3 (useRows l)) (clipD (appY 3 (ruRows o))) (nameA acts[i].fi) (acts[i].mo % 5) r many act' dn dn dx g px g2 ∧ H3[Hh.length]? = some ⟨52, 4, [[.int .u8 acts[i].vb, .int .u8 acts[i].fi, .int .u8 acts[i].mo, .int .u8 acts[i].how]], 0, 0, false⟩ ∧ H3[gx]? = some ⟨57, 5, [[.str (verbN (acts[i].vb % 8)), .int .i64 0, .int .i64 0, qx, .nils]], 0, 0, false⟩ ∧ 7 ≤ gx ∧ MODE (verbN (acts[i].vb % 8)) qx (nameA acts[i].fi) (acts[i].mo % 5) mv) ?_ ?_
  ·
   refine cw_seq (cw_region ?_)
   refine ow_op (by simp only [zo, faddrD_ptr, faddrD_cptr, zm, Int.reduceBNe, Nat.reduceAdd, zz35, zz36, at_L hga, Nat.reduceAdd, zz37] <;> exact rfl) ?_
   refine ow_op (by simp only [zl, zm, zd, partD, List.take, List.drop, Int.reduceBNe, Nat.reduceAdd, zz35, zz36, at_L hga, Nat.reduceAdd, zz37] <;> exact rfl) ?_
   refine ow_op (by simp only [zo, binD, zb, Int.reduceEq, Int.reduceToNat, Int.reduceLT, Int.reduceBNe, Nat.reduceAdd, zz35, zz36, at_L hga, Nat.reduceAdd, zz37] <;> exact rfl) ?_
   refine ow_nil ?_
   refine sk_n (by simp only [ze] <;> exact rfl) ?_
   refine cw_cond (by simp only [opd, zv, Int.reduceBNe, Nat.reduceAdd, zz35, zz36, at_L hga, Nat.reduceAdd, zz37] <;> exact rfl) (fun hcATC => ?_) (fun hcATC => ?_)
   ·
    refine cw_region ?_
    refine ow_op (by simp only [zo, faddrD_ptr, faddrD_cptr, zm, Int.reduceBNe, Nat.reduceAdd, zz35, zz36, at_L hga, Nat.reduceAdd, zz37] <;> exact rfl) ?_
    refine ow_op (by simp only [zl, zm, zd, partD, List.take, List.drop, Int.reduceBNe, Nat.reduceAdd, zz35, zz36, at_L hga, Nat.reduceAdd, zz37] <;> exact rfl) ?_
    refine ow_op (by simp only [zo, binD, zb, Int.reduceEq, Int.reduceToNat, Int.reduceLT, Int.reduceBNe, Nat.reduceAdd, zz35, zz36, at_L hga, Nat.reduceAdd, zz37] <;> exact rfl) ?_
    refine ow_op (by simp only [zo, binD, zb, Int.reduceEq, Int.reduceToNat, Int.reduceLT, Int.reduceBNe, Nat.reduceAdd, zz35, zz36, at_L hga, Nat.reduceAdd, zz37] <;> exact rfl) ?_
    refine ow_ml rfl ?_
    refine ow_nil ?_
    refine ck_n (by simp only [ze] <;> exact rfl) ?_
    have hv0 : acts[i].vb % 8 = 0 := by
     by_cases h : acts[i].vb % 8 = 0
     ·
      exact h
     ·
      have := verb_open _ (by omega) h
      rw [this] at hcATC; simp at hcATC
    exact ⟨_, _, _, _, _, _, _, _, _, _, _, _, _, _, _, _, _, _, _, _, _, _, _, _, _, _, _, _, rfl, rfl, (hL1.drive _ _ _ _).push _, get_app (hseta _) _, by rw [at_S0]; rfl, hL1.hlen, by have hmo := MODE.open (acts[i].mo % 4) (by omega) (nameA acts[i].fi) (acts[i].mo % 5); rw [Nat.add_comm] at hmo; rw [hv0, hqo hv0]; exact hmo⟩
   ·
    refine cw_skip ?_
    refine ck_n rfl ?_
    have hvo : ((verbN (acts[i].vb % 8)).toList == (⟨#[79, 80, 69, 78]⟩ : ByteArray).toList) = false := hcATC
    exact ⟨_, _, _, _, _, _, _, _, _, _, _, _, _, _, _, _, _, _, _, _, _, _, _, _, _, _, _, _, rfl, rfl, (hL1.drive _ _ _ _).push _, get_app (hseta _) _, by rw [at_S0]; rfl, hL1.hlen, MODE.other hQ hvo _ _⟩
  rintro env S' ⟨mv, gx, H3, v12, w15, w16, w17, w18, w19, w20, w21, w22, w23, w24, w25, w26, w27, w28, w29, w30, w31, w32, w33, w34, w35, w36, w37, w38, rfl, rfl, hL3, ha3, hx3, hgx, hMO⟩
  have hone := hL3.h1
  simp only [drO] at hone
  have hh1 := lt_of hL3.h1
  have hset1 := fun (X : AObj) => get_set_self hL3.h1 X
  have hsetx := fun (X : AObj) => get_set_ne hx3 (show 1 ≠ gx by omega) X
  have hseta := fun (X : AObj) => get_set_ne ha3 (show 1 ≠ Hh.length by omega) X
  have hsetaL := fun (X : AObj) (L : List AObj) => get_app (hseta X) L
  have hsetxL := fun (X : AObj) (L : List AObj) => get_app (hsetx X) L
  have hset1L := fun (X : AObj) (L : List AObj) => get_app (hset1 X) L
  have hga := lt_of ha3
  have hgxl := lt_of hx3
  have hL4 := hL3.drive (nameA acts[i].fi) (acts[i].mo % 5) (rpN (acts[i].how % 4)) many
  have hsf := sel_fit hok (nameA acts[i].fi) mv
  have hcase : acts[i].vb % 8 = 7 ∨ (acts[i].vb % 8 ≠ 7 ∧ acts[i].how % 4 ≠ 3) ∨ (acts[i].vb % 8 ≠ 7 ∧ acts[i].how % 4 = 3 ∧ decide (fitI l (nameA acts[i].fi) mv ≥ 0) = false ∧ acts[i].fi % 2 = 0) ∨ (acts[i].vb % 8 ≠ 7 ∧ acts[i].how % 4 = 3 ∧ decide (fitI l (nameA acts[i].fi) mv ≥ 0) = false ∧ acts[i].fi % 2 = 1) ∨ (acts[i].vb % 8 ≠ 7 ∧ acts[i].how % 4 = 3 ∧ decide (fitI l (nameA acts[i].fi) mv ≥ 0) = true ∧ act' = true ∧ acts[i].fi % 2 = 0) ∨ (acts[i].vb % 8 ≠ 7 ∧ acts[i].how % 4 = 3 ∧ decide (fitI l (nameA acts[i].fi) mv ≥ 0) = true ∧ act' = true ∧ acts[i].fi % 2 = 1) ∨ (acts[i].vb % 8 ≠ 7 ∧ acts[i].how % 4 = 3 ∧ decide (fitI l (nameA acts[i].fi) mv ≥ 0) = true ∧ act' = false) := by
   rcases Bool.eq_false_or_eq_true (decide (fitI l (nameA acts[i].fi) mv ≥ 0)) with h1 | h1 <;> rcases Bool.eq_false_or_eq_true act' with h2 | h2 <;> rw [h1, h2] <;> simp <;> omega
  rcases hcase with hD | ⟨h7, h3⟩ | ⟨h7, h3, hs, hev⟩ | ⟨h7, h3, hs, hev⟩ | ⟨h7, h3, hs, hact, hev⟩ | ⟨h7, h3, hs, hact, hev⟩ | ⟨h7, h3, hs, hact⟩
  ·
   have hdis : ((verbN (acts[i].vb % 8)).toList == (⟨#[68, 73, 83, 80, 76, 65, 89]⟩ : ByteArray).toList) = true := by rw [hD]; decide +kernel
   have hrun : ∀ lo, runF LP NN d 8 [.ptr 5 0 0 0, .nilp, (.agg [.str (verbN (acts[i].vb % 8)), .int .i64 0, .int .i64 0, qx, .nils]), .int .i64 0] ⟨(H3.set 1 (drO (nameA acts[i].fi) (acts[i].mo % 5) (rpN (acts[i].how % 4)) many)), lo⟩ = some (.agg [.bool true, .nils, .str ⟨#[]⟩, .bool false, .int .i64 9], ⟨(H3.set 1 (drO (nameA acts[i].fi) (acts[i].mo % 5) (rpN (acts[i].how % 4)) many)), lo⟩, false) := by
    intro lo
    rw [hD]
    exact do_display (by omega) hL4.h5 hL4.hA.at ⟨_, .of 12 (fiRows theFiles) none⟩ ⟨_, appY_S 3 (useRows l)⟩ ⟨_, (appY_S 3 (ruRows o)).clip⟩ hQ lo
   have zz38 := And.intro hone (And.intro ha3 (And.intro hx3 (And.intro hset1 (And.intro hsetx (And.intro hseta (And.intro hsetaL (And.intro hsetxL (And.intro hset1L (And.intro @List.set_set.{0} (And.intro @List.length_set.{0} (And.intro hix (And.intro hq4 (And.intro @Int.toNat_natCast (And.intro @at_S0 (And.intro @at_S (And.intro @set_S0 (And.intro @set_S (And.intro hdis (And.intro @beq_self_eq_true.{0} (And.intro @bne_self_eq_false.{0} (And.intro @Bool.not_true (And.intro hQ.isCell (And.intro hQ.val (hQ.cells))))))))))))))))))))))))
   refine cw_seq (cw_region ?_)
   refine ow_me rfl ?_
   refine ow_op (by simp only [zo, fillD, overlay, zc, List.take, List.drop, Nat.reduceAdd, Nat.reduceLeDiff, Nat.reduceBEq, zm, Int.reduceBNe, Nat.reduceAdd, zz35, zz36, at_L hga, Nat.reduceAdd, zz37, Int.natCast_nonneg, Nat.reduceAdd, zz38] <;> exact rfl) ?_
   refine ow_op (by simp only [zo, fillD, overlay, zc, List.take, List.drop, Nat.reduceAdd, Nat.reduceLeDiff, Nat.reduceBEq, zm, Int.reduceBNe, Nat.reduceAdd, zz35, zz36, at_L hga, Nat.reduceAdd, zz37, Int.natCast_nonneg, Nat.reduceAdd, zz38] <;> exact rfl) ?_
   refine ow_op (by simp only [zo, fillD, overlay, zc, List.take, List.drop, Nat.reduceAdd, Nat.reduceLeDiff, Nat.reduceBEq, zm, Int.reduceBNe, Nat.reduceAdd, zz35, zz36, at_L hga, Nat.reduceAdd, zz37, Int.natCast_nonneg, Nat.reduceAdd, zz38] <;> exact rfl) ?_
   refine ow_op (by simp only [zo, fillD, overlay, zc, List.take, List.drop, Nat.reduceAdd, Nat.reduceLeDiff, Nat.reduceBEq, zm, Int.reduceBNe, Nat.reduceAdd, zz35, zz36, at_L hga, Nat.reduceAdd, zz37, Int.natCast_nonneg, Nat.reduceAdd, zz38] <;> exact rfl) ?_
   refine ow_op (by simp only [zl, zm, fillRows, List.replicate, snapVs, snaps, zs, zc, zf, Int.reduceBNe, Nat.reduceAdd, zz35, zz36, at_L hga, Nat.reduceAdd, zz37, Int.natCast_nonneg, Nat.reduceAdd, zz38] <;> exact rfl) ?_
   refine ow_op (by simp only [zo, faddrD_ptr, faddrD_cptr, zm, Int.reduceBNe, Nat.reduceAdd, zz35, zz36, at_L hga, Nat.reduceAdd, zz37, Int.natCast_nonneg, Nat.reduceAdd, zz38] <;> exact rfl) ?_
   refine ow_op (by simp only [zl, zm, zd, partD, List.take, List.drop, Int.reduceBNe, Nat.reduceAdd, zz35, zz36, at_L hga, Nat.reduceAdd, zz37, Int.natCast_nonneg, Nat.reduceAdd, zz38] <;> exact rfl) ?_
   refine ow_op (by simp only [zo, binD, zb, Int.reduceEq, Int.reduceToNat, Int.reduceLT, Int.reduceBNe, Nat.reduceAdd, zz35, zz36, at_L hga, Nat.reduceAdd, zz37, Int.natCast_nonneg, Nat.reduceAdd, zz38] <;> exact rfl) ?_
   refine ow_op (by simp only [zl, zm, iaddrD_sl, iaddrD_msl, Int.toNat_natCast, Int.toNat_zero, List.getElem?_map, Option.map_some, Int.le_refl, Int.reduceBNe, Nat.reduceAdd, zz35, zz36, at_L hga, Nat.reduceAdd, zz37, Int.natCast_nonneg, Nat.reduceAdd, zz38] <;> exact rfl) ?_
   refine ow_op (by simp only [zl, zm, zd, partD, List.take, List.drop, Int.reduceBNe, Nat.reduceAdd, zz35, zz36, at_L hga, Nat.reduceAdd, zz37, Int.natCast_nonneg, Nat.reduceAdd, zz38] <;> exact rfl) ?_
   refine ow_op (by simp only [zo, Int.reduceBNe, Nat.reduceAdd, zz35, zz36, at_L hga, Nat.reduceAdd, zz37, Int.natCast_nonneg, Nat.reduceAdd, zz38] <;> exact rfl) ?_
   refine ow_op (by simp only [zo, faddrD_ptr, faddrD_cptr, zm, Int.reduceBNe, Nat.reduceAdd, zz35, zz36, at_L hga, Nat.reduceAdd, zz37, Int.natCast_nonneg, Nat.reduceAdd, zz38] <;> exact rfl) ?_
   refine ow_op (by simp only [zl, zm, storeD, overlay, snapVs, snaps, zs, zc, zf, List.take, List.drop, Int.reduceBNe, Nat.reduceAdd, zz35, zz36, at_L hga, Nat.reduceAdd, zz37, Int.natCast_nonneg, Nat.reduceAdd, zz38] <;> exact rfl) ?_
   refine ow_nil ?_
   refine sk_n (by simp only [ze] <;> exact rfl) ?_
   refine cw_seq (cw_region ?_)
   refine ow_me rfl ?_
   refine ow_op (by simp only [zo, Int.reduceBNe, Nat.reduceAdd, zz35, zz36, at_L hga, Nat.reduceAdd, zz37, Int.natCast_nonneg, Nat.reduceAdd, zz38] <;> exact rfl) ?_
   refine ow_op (by simp only [zo, faddrD_ptr, faddrD_cptr, zm, Int.reduceBNe, Nat.reduceAdd, zz35, zz36, at_L hga, Nat.reduceAdd, zz37, Int.natCast_nonneg, Nat.reduceAdd, zz38] <;> exact rfl) ?_
   refine ow_op (by simp only [zl, zm, zd, partD, List.take, List.drop, Int.reduceBNe, Nat.reduceAdd, zz35, zz36, at_L hga, Nat.reduceAdd, zz37, Int.natCast_nonneg, Nat.reduceAdd, zz38] <;> exact rfl) ?_
   refine ow_ml rfl ?_
   refine ow_nil ?_
   refine sk_n (by simp only [ze] <;> exact rfl) ?_
   refine cw_seq (cw_region ?_)
   refine ow_me rfl ?_
   refine ow_op (by simp only [zl, zm, zd, partD, List.take, List.drop, Int.reduceBNe, Nat.reduceAdd, zz35, zz36, at_L hga, Nat.reduceAdd, zz37, Int.natCast_nonneg, Nat.reduceAdd, zz38] <;> exact rfl) ?_
   refine ow_op (by simp only [zo, Int.reduceBNe, Nat.reduceAdd, zz35, zz36, at_L hga, Nat.reduceAdd, zz37, Int.natCast_nonneg, Nat.reduceAdd, zz38]; exact hrun _) ?_
   refine ow_op (by simp only [zl, zm, Int.reduceBNe, Nat.reduceAdd, zz35, zz36, at_L hga, Nat.reduceAdd, zz37, Int.natCast_nonneg, Nat.reduceAdd, zz38] <;> exact rfl) ?_
   refine ow_op (by simp only [zl, zm, storeD, overlay, snapVs, snaps, zs, zc, zf, List.take, List.drop, Int.reduceBNe, Nat.reduceAdd, zz35, zz36, at_L hga, Nat.reduceAdd, zz37, Int.natCast_nonneg, Nat.reduceAdd, zz38] <;> exact rfl) ?_
   refine ow_nil ?_
   refine sk_n (by simp only [ze] <;> exact rfl) ?_
   refine cw_seq (cw_region ?_)
   refine ow_me rfl ?_
   refine ow_op (by simp only [zo, Int.reduceBNe, Nat.reduceAdd, zz35, zz36, at_L hga, Nat.reduceAdd, zz37, Int.natCast_nonneg, Nat.reduceAdd, zz38] <;> exact rfl) ?_
   refine ow_op (by simp only [zo, faddrD_ptr, faddrD_cptr, zm, Int.reduceBNe, Nat.reduceAdd, zz35, zz36, at_L hga, Nat.reduceAdd, zz37, Int.natCast_nonneg, Nat.reduceAdd, zz38] <;> exact rfl) ?_
   refine ow_op (by simp only [zl, zm, zd, partD, List.take, List.drop, Int.reduceBNe, Nat.reduceAdd, zz35, zz36, at_L hga, Nat.reduceAdd, zz37, Int.natCast_nonneg, Nat.reduceAdd, zz38] <;> exact rfl) ?_
   refine ow_op (by simp only [zl, zm, Int.reduceBNe, Nat.reduceAdd, zz35, zz36, at_L hga, Nat.reduceAdd, zz37, Int.natCast_nonneg, Nat.reduceAdd, zz38] <;> exact rfl) ?_
   refine ow_op (by simp only [zl, zm, storeD, overlay, snapVs, snaps, zs, zc, zf, List.take, List.drop, Int.reduceBNe, Nat.reduceAdd, zz35, zz36, at_L hga, Nat.reduceAdd, zz37, Int.natCast_nonneg, Nat.reduceAdd, zz38] <;> exact rfl) ?_
   refine ow_nil ?_
   refine sk_n (by simp only [ze] <;> exact rfl) ?_
   refine cw_seq (cw_seq (cw_region ?_))
   refine ow_op (by simp only [zo, faddrD_ptr, faddrD_cptr, zm, Int.reduceBNe, Nat.reduceAdd, zz35, zz36, at_L hga, Nat.reduceAdd, zz37, Int.natCast_nonneg, Nat.reduceAdd, zz38] <;> exact rfl) ?_
   refine ow_op (by simp only [zl, zm, zd, partD, List.take, List.drop, Int.reduceBNe, Nat.reduceAdd, zz35, zz36, at_L hga, Nat.reduceAdd, zz37, Int.natCast_nonneg, Nat.reduceAdd, zz38] <;> exact rfl) ?_
   refine ow_op (by simp only [zo, binD, zb, Int.reduceEq, Int.reduceToNat, Int.reduceLT, Int.reduceBNe, Nat.reduceAdd, zz35, zz36, at_L hga, Nat.reduceAdd, zz37, Int.natCast_nonneg, Nat.reduceAdd, zz38] <;> exact rfl) ?_
   refine ow_nil ?_
   refine sk_n (by simp only [ze] <;> exact rfl) ?_
   skip
   refine cw_true (by simp only [opd, zv, Int.reduceBNe, Nat.reduceAdd, zz35, zz36, at_L hga, Nat.reduceAdd, zz37, Int.natCast_nonneg, Nat.reduceAdd, zz38] <;> rfl) ?_
   refine cw_seq (cw_seq (cw_region ?_))
   refine ow_op (by simp only [zl, zm, zd, partD, List.take, List.drop, Int.reduceBNe, Nat.reduceAdd, zz35, zz36, at_L hga, Nat.reduceAdd, zz37, Int.natCast_nonneg, Nat.reduceAdd, zz38] <;> exact rfl) ?_
   refine ow_op (by simp only [zo, fillD, overlay, zc, List.take, List.drop, Nat.reduceAdd, Nat.reduceLeDiff, Nat.reduceBEq, zm, Int.reduceBNe, Nat.reduceAdd, zz35, zz36, at_L hga, Nat.reduceAdd, zz37, Int.natCast_nonneg, Nat.reduceAdd, zz38] <;> exact rfl) ?_
   refine ow_op (by simp only [zo, Int.reduceBNe, Nat.reduceAdd, zz35, zz36, at_L hga, Nat.reduceAdd, zz37, Int.natCast_nonneg, Nat.reduceAdd, zz38]; exact same_run (by omega) _ (List.mem_append_left _ (by simp))) ?_
   refine ow_op (by simp only [zo, unD, Int.reduceBNe, Nat.reduceAdd, zz35, zz36, at_L hga, Nat.reduceAdd, zz37, Int.natCast_nonneg, Nat.reduceAdd, zz38] <;> exact rfl) ?_
   refine ow_ml rfl ?_
   refine ow_know 0 (b := false) (by simp only [opd, zv, Int.reduceBNe, Nat.reduceAdd, zz35, zz36, at_L hga, Nat.reduceAdd, zz37, Int.natCast_nonneg, Nat.reduceAdd, zz38] <;> rfl) (by simp only [zn] <;> exact rfl) ?_
   refine ow_on rfl ?_
   refine ow_me rfl ?_
   refine ow_on rfl ?_
   refine ow_op (by simp only [zo, Int.reduceBNe, Nat.reduceAdd, zz35, zz36, at_L hga, Nat.reduceAdd, zz37, Int.natCast_nonneg, Nat.reduceAdd, zz38] <;> exact rfl) ?_
   refine ow_on rfl ?_
   refine ow_op (by simp only [zo, faddrD_ptr, faddrD_cptr, zm, Int.reduceBNe, Nat.reduceAdd, zz35, zz36, at_L hga, Nat.reduceAdd, zz37, Int.natCast_nonneg, Nat.reduceAdd, zz38] <;> exact rfl) ?_
   refine ow_on rfl ?_
   refine ow_op (by simp only [zl, zm, zd, partD, List.take, List.drop, Int.reduceBNe, Nat.reduceAdd, zz35, zz36, at_L hga, Nat.reduceAdd, zz37, Int.natCast_nonneg, Nat.reduceAdd, zz38] <;> exact rfl) ?_
   refine ow_on rfl ?_
   refine ow_me rfl ?_
   refine ow_on rfl ?_
   refine ow_op (by simp only [zo, binD, zb, Int.reduceEq, Int.reduceToNat, Int.reduceLT, Int.reduceBNe, Nat.reduceAdd, zz35, zz36, at_L hga, Nat.reduceAdd, zz37, Int.natCast_nonneg, Nat.reduceAdd, zz38] <;> exact rfl) ?_
   refine ow_op (by simp only [zo, Int.reduceBNe, Nat.reduceAdd, zz35, zz36, at_L hga, Nat.reduceAdd, zz37, Int.natCast_nonneg, Nat.reduceAdd, zz38] <;> exact rfl) ?_
   refine ow_nil ?_
   refine sk_n (by simp only [ze] <;> exact rfl) ?_
   skip
   refine cw_false (by simp only [opd, zv, Int.reduceBNe, Nat.reduceAdd, zz35, zz36, at_L hga, Nat.reduceAdd, zz37, Int.natCast_nonneg, Nat.reduceAdd, zz38] <;> rfl) ?_
   refine cw_skip (sk_n rfl (cw_exit (sk_e (bk_e (sk_n rfl (cw_region ?_))))))
   refine ow_me rfl ?_
   refine ow_op (by simp only [zo, binD, zb, Int.reduceEq, Int.reduceToNat, Int.reduceLT, Int.reduceBNe, Nat.reduceAdd, zz35, zz36, at_L hga, Nat.reduceAdd, zz37, Int.natCast_nonneg, Nat.reduceAdd, zz38] <;> exact rfl) ?_
   refine ow_ml rfl ?_
   refine ow_nil ?_
   refine lk_n (by simp only [ze] <;> exact rfl) ?_
   exact ⟨acts.length - (i + 1), by omega, i + 1, _, _, _, _, _, _, _, _, _, _, _, _, _, _, _, _, _, _, _, _, _, _, _, _, _, _, _, _, _, _, _, _, _, _, _, _, _, _, _, _, rfl, rfl, by omega, rfl, hL4.push _, by omega, by omega⟩
  ·
   have hV := fileV_at (acts[i].vb % 8) (by omega)
   have hdis := verb_dis (acts[i].vb % 8) (by omega) h7
   have hwm := wrap_nat many (by omega)
   have hol : o.length = l.length := hok.1
   have hq3 : (((acts[i].how % 4 : Nat) : Int) == 3) = false := by rw [beq_eq_false_iff_ne]; omega
   obtain ⟨H5, lo5, hrun, hL5, hlen5, hk5⟩ := doK (d := d) (by omega) hL4 (by omega) hQ hV (rp_ok (acts[i].how % 4) (by omega)) 0
   rw [Nat.zero_min] at hrun
   have hone5 := hL5.h1
   simp only [drO] at hone5
   have ha5 := hk5 _ _ (hseta _) (by omega) (by omega) rfl
   have hx5 := hk5 _ _ (hsetx _) (by omega) (by omega) rfl
   have h15 := lt_of hone5
   have hga5 := lt_of ha5
   have hgx5 := lt_of hx5
   simp only [Rp.cs] at hrun
   have zz39 := And.intro hone (And.intro ha3 (And.intro hx3 (And.intro hset1 (And.intro hsetx (And.intro hseta (And.intro hsetaL (And.intro hsetxL (And.intro hset1L (And.intro @List.set_set.{0} (And.intro @List.length_set.{0} (And.intro hix (And.intro hq4 (And.intro @Int.toNat_natCast (And.intro @at_S0 (And.intro @at_S (And.intro @set_S0 (And.intro @set_S (And.intro hdis (And.intro @beq_self_eq_true.{0} (And.intro @bne_self_eq_false.{0} (And.intro @Bool.not_true (And.intro hQ.isCell (And.intro hQ.val (And.intro hQ.cells (And.intro hone5 (And.intro ha5 (And.intro hx5 (And.intro @at_app (And.intro @at_app0 (And.intro hq3 (And.intro hwm (And.intro @List.getElem?_cons_zero.{0} (@List.getElem?_cons_succ.{0})))))))))))))))))))))))))))))))))
   refine cw_seq (cw_region ?_)
   refine ow_me rfl ?_
   refine ow_op (by simp only [zo, fillD, overlay, zc, List.take, List.drop, Nat.reduceAdd, Nat.reduceLeDiff, Nat.reduceBEq, zm, Int.reduceBNe, Nat.reduceAdd, zz35, zz36, at_L hga, Nat.reduceAdd, zz37, Int.natCast_nonneg, Nat.reduceAdd, Rp.cs, at_L h15, at_L hga5, at_L hgx5, zz39] <;> exact rfl) ?_
   refine ow_op (by simp only [zo, fillD, overlay, zc, List.take, List.drop, Nat.reduceAdd, Nat.reduceLeDiff, Nat.reduceBEq, zm, Int.reduceBNe, Nat.reduceAdd, zz35, zz36, at_L hga, Nat.reduceAdd, zz37, Int.natCast_nonneg, Nat.reduceAdd, Rp.cs, at_L h15, at_L hga5, at_L hgx5, zz39] <;> exact rfl) ?_
   refine ow_op (by simp only [zo, fillD, overlay, zc, List.take, List.drop, Nat.reduceAdd, Nat.reduceLeDiff, Nat.reduceBEq, zm, Int.reduceBNe, Nat.reduceAdd, zz35, zz36, at_L hga, Nat.reduceAdd, zz37, Int.natCast_nonneg, Nat.reduceAdd, Rp.cs, at_L h15, at_L hga5, at_L hgx5, zz39] <;> exact rfl) ?_
   refine ow_op (by simp only [zo, fillD, overlay, zc, List.take, List.drop, Nat.reduceAdd, Nat.reduceLeDiff, Nat.reduceBEq, zm, Int.reduceBNe, Nat.reduceAdd, zz35, zz36, at_L hga, Nat.reduceAdd, zz37, Int.natCast_nonneg, Nat.reduceAdd, Rp.cs, at_L h15, at_L hga5, at_L hgx5, zz39] <;> exact rfl) ?_
   refine ow_op (by simp only [zl, zm, fillRows, List.replicate, snapVs, snaps, zs, zc, zf, Int.reduceBNe, Nat.reduceAdd, zz35, zz36, at_L hga, Nat.reduceAdd, zz37, Int.natCast_nonneg, Nat.reduceAdd, Rp.cs, at_L h15, at_L hga5, at_L hgx5, zz39] <;> exact rfl) ?_
   refine ow_op (by simp only [zo, faddrD_ptr, faddrD_cptr, zm, Int.reduceBNe, Nat.reduceAdd, zz35, zz36, at_L hga, Nat.reduceAdd, zz37, Int.natCast_nonneg, Nat.reduceAdd, Rp.cs, at_L h15, at_L hga5, at_L hgx5, zz39] <;> exact rfl) ?_
   refine ow_op (by simp only [zl, zm, zd, partD, List.take, List.drop, Int.reduceBNe, Nat.reduceAdd, zz35, zz36, at_L hga, Nat.reduceAdd, zz37, Int.natCast_nonneg, Nat.reduceAdd, Rp.cs, at_L h15, at_L hga5, at_L hgx5, zz39] <;> exact rfl) ?_
   refine ow_op (by simp only [zo, binD, zb, Int.reduceEq, Int.reduceToNat, Int.reduceLT, Int.reduceBNe, Nat.reduceAdd, zz35, zz36, at_L hga, Nat.reduceAdd, zz37, Int.natCast_nonneg, Nat.reduceAdd, Rp.cs, at_L h15, at_L hga5, at_L hgx5, zz39] <;> exact rfl) ?_
   refine ow_op (by simp only [zl, zm, iaddrD_sl, iaddrD_msl, Int.toNat_natCast, Int.toNat_zero, List.getElem?_map, Option.map_some, Int.le_refl, Int.reduceBNe, Nat.reduceAdd, zz35, zz36, at_L hga, Nat.reduceAdd, zz37, Int.natCast_nonneg, Nat.reduceAdd, Rp.cs, at_L h15, at_L hga5, at_L hgx5, zz39] <;> exact rfl) ?_
   refine ow_op (by simp only [zl, zm, zd, partD, List.take, List.drop, Int.reduceBNe, Nat.reduceAdd, zz35, zz36, at_L hga, Nat.reduceAdd, zz37, Int.natCast_nonneg, Nat.reduceAdd, Rp.cs, at_L h15, at_L hga5, at_L hgx5, zz39] <;> exact rfl) ?_
   refine ow_op (by simp only [zo, Int.reduceBNe, Nat.reduceAdd, zz35, zz36, at_L hga, Nat.reduceAdd, zz37, Int.natCast_nonneg, Nat.reduceAdd, Rp.cs, at_L h15, at_L hga5, at_L hgx5, zz39] <;> exact rfl) ?_
   refine ow_op (by simp only [zo, faddrD_ptr, faddrD_cptr, zm, Int.reduceBNe, Nat.reduceAdd, zz35, zz36, at_L hga, Nat.reduceAdd, zz37, Int.natCast_nonneg, Nat.reduceAdd, Rp.cs, at_L h15, at_L hga5, at_L hgx5, zz39] <;> exact rfl) ?_
   refine ow_op (by simp only [zl, zm, storeD, overlay, snapVs, snaps, zs, zc, zf, List.take, List.drop, Int.reduceBNe, Nat.reduceAdd, zz35, zz36, at_L hga, Nat.reduceAdd, zz37, Int.natCast_nonneg, Nat.reduceAdd, Rp.cs, at_L h15, at_L hga5, at_L hgx5, zz39] <;> exact rfl) ?_
   refine ow_nil ?_
   refine sk_n (by simp only [ze] <;> exact rfl) ?_
   refine cw_seq (cw_region ?_)
   refine ow_me rfl ?_
   refine ow_op (by simp only [zo, Int.reduceBNe, Nat.reduceAdd, zz35, zz36, at_L hga, Nat.reduceAdd, zz37, Int.natCast_nonneg, Nat.reduceAdd, Rp.cs, at_L h15, at_L hga5, at_L hgx5, zz39] <;> exact rfl) ?_
   refine ow_op (by simp only [zo, faddrD_ptr, faddrD_cptr, zm, Int.reduceBNe, Nat.reduceAdd, zz35, zz36, at_L hga, Nat.reduceAdd, zz37, Int.natCast_nonneg, Nat.reduceAdd, Rp.cs, at_L h15, at_L hga5, at_L hgx5, zz39] <;> exact rfl) ?_
   refine ow_op (by simp only [zl, zm, zd, partD, List.take, List.drop, Int.reduceBNe, Nat.reduceAdd, zz35, zz36, at_L hga, Nat.reduceAdd, zz37, Int.natCast_nonneg, Nat.reduceAdd, Rp.cs, at_L h15, at_L hga5, at_L hgx5, zz39] <;> exact rfl) ?_
   refine ow_ml rfl ?_
   refine ow_nil ?_
   refine sk_n (by simp only [ze] <;> exact rfl) ?_
   refine cw_seq (cw_region ?_)
   refine ow_me rfl ?_
   refine ow_op (by simp only [zl, zm, zd, partD, List.take, List.drop, Int.reduceBNe, Nat.reduceAdd, zz35, zz36, at_L hga, Nat.reduceAdd, zz37, Int.natCast_nonneg, Nat.reduceAdd, Rp.cs, at_L h15, at_L hga5, at_L hgx5, zz39] <;> exact rfl) ?_
   refine ow_op (by simp only [zo, Int.reduceBNe, Nat.reduceAdd, zz35, zz36, at_L hga, Nat.reduceAdd, zz37, Int.natCast_nonneg, Nat.reduceAdd, Rp.cs, at_L h15, at_L hga5, at_L hgx5, zz39]; exact hrun) ?_
   refine ow_op (by simp only [zl, zm, Int.reduceBNe, Nat.reduceAdd, zz35, zz36, at_L hga, Nat.reduceAdd, zz37, Int.natCast_nonneg, Nat.reduceAdd, Rp.cs, at_L h15, at_L hga5, at_L hgx5, zz39] <;> exact rfl) ?_
   refine ow_op (by simp only [zl, zm, storeD, overlay, snapVs, snaps, zs, zc, zf, List.take, List.drop, Int.reduceBNe, Nat.reduceAdd, zz35, zz36, at_L hga, Nat.reduceAdd, zz37, Int.natCast_nonneg, Nat.reduceAdd, Rp.cs, at_L h15, at_L hga5, at_L hgx5, zz39] <;> exact rfl) ?_
   refine ow_nil ?_
   refine sk_n (by simp only [ze] <;> exact rfl) ?_
   refine cw_seq (cw_region ?_)
   refine ow_me rfl ?_
   refine ow_op (by simp only [zo, Int.reduceBNe, Nat.reduceAdd, zz35, zz36, at_L hga, Nat.reduceAdd, zz37, Int.natCast_nonneg, Nat.reduceAdd, Rp.cs, at_L h15, at_L hga5, at_L hgx5, zz39] <;> exact rfl) ?_
   refine ow_op (by simp only [zo, faddrD_ptr, faddrD_cptr, zm, Int.reduceBNe, Nat.reduceAdd, zz35, zz36, at_L hga, Nat.reduceAdd, zz37, Int.natCast_nonneg, Nat.reduceAdd, Rp.cs, at_L h15, at_L hga5, at_L hgx5, zz39] <;> exact rfl) ?_
   refine ow_op (by simp only [zl, zm, zd, partD, List.take, List.drop, Int.reduceBNe, Nat.reduceAdd, zz35, zz36, at_L hga, Nat.reduceAdd, zz37, Int.natCast_nonneg, Nat.reduceAdd, Rp.cs, at_L h15, at_L hga5, at_L hgx5, zz39] <;> exact rfl) ?_
   refine ow_op (by simp only [zl, zm, Int.reduceBNe, Nat.reduceAdd, zz35, zz36, at_L hga, Nat.reduceAdd, zz37, Int.natCast_nonneg, Nat.reduceAdd, Rp.cs, at_L h15, at_L hga5, at_L hgx5, zz39] <;> exact rfl) ?_
   refine ow_op (by simp only [zl, zm, storeD, overlay, snapVs, snaps, zs, zc, zf, List.take, List.drop, Int.reduceBNe, Nat.reduceAdd, zz35, zz36, at_L hga, Nat.reduceAdd, zz37, Int.natCast_nonneg, Nat.reduceAdd, Rp.cs, at_L h15, at_L hga5, at_L hgx5, zz39] <;> exact rfl) ?_
   refine ow_nil ?_
   refine sk_n (by simp only [ze] <;> exact rfl) ?_
   refine cw_seq (cw_seq (cw_region ?_))
   refine ow_op (by simp only [zo, faddrD_ptr, faddrD_cptr, zm, Int.reduceBNe, Nat.reduceAdd, zz35, zz36, at_L hga, Nat.reduceAdd, zz37, Int.natCast_nonneg, Nat.reduceAdd, Rp.cs, at_L h15, at_L hga5, at_L hgx5, zz39] <;> exact rfl) ?_
   refine ow_op (by simp only [zl, zm, zd, partD, List.take, List.drop, Int.reduceBNe, Nat.reduceAdd, zz35, zz36, at_L hga, Nat.reduceAdd, zz37, Int.natCast_nonneg, Nat.reduceAdd, Rp.cs, at_L h15, at_L hga5, at_L hgx5, zz39] <;> exact rfl) ?_
   refine ow_op (by simp only [zo, binD, zb, Int.reduceEq, Int.reduceToNat, Int.reduceLT, Int.reduceBNe, Nat.reduceAdd, zz35, zz36, at_L hga, Nat.reduceAdd, zz37, Int.natCast_nonneg, Nat.reduceAdd, Rp.cs, at_L h15, at_L hga5, at_L hgx5, zz39] <;> exact rfl) ?_
   refine ow_nil ?_
   refine sk_n (by simp only [ze] <;> exact rfl) ?_
   skip
   refine cw_false (by simp only [opd, zv, Int.reduceBNe, Nat.reduceAdd, zz35, zz36, at_L hga, Nat.reduceAdd, zz37, Int.natCast_nonneg, Nat.reduceAdd, Rp.cs, at_L h15, at_L hga5, at_L hgx5, zz39] <;> rfl) ?_
   refine cw_skip (sk_n rfl (cw_seq (cw_seq (cw_region ?_))))
   refine ow_op (by simp only [zo, faddrD_ptr, faddrD_cptr, zm, Int.reduceBNe, Nat.reduceAdd, zz35, zz36, at_L hga, Nat.reduceAdd, zz37, Int.natCast_nonneg, Nat.reduceAdd, Rp.cs, at_L h15, at_L hga5, at_L hgx5, zz39] <;> exact rfl) ?_
   refine ow_op (by simp only [zl, zm, zd, partD, List.take, List.drop, Int.reduceBNe, Nat.reduceAdd, zz35, zz36, at_L hga, Nat.reduceAdd, zz37, Int.natCast_nonneg, Nat.reduceAdd, Rp.cs, at_L h15, at_L hga5, at_L hgx5, zz39] <;> exact rfl) ?_
   refine ow_op (by simp only [zo, binD, zb, Int.reduceEq, Int.reduceToNat, Int.reduceLT, Int.reduceBNe, Nat.reduceAdd, zz35, zz36, at_L hga, Nat.reduceAdd, zz37, Int.natCast_nonneg, Nat.reduceAdd, Rp.cs, at_L h15, at_L hga5, at_L hgx5, zz39] <;> exact rfl) ?_
   refine ow_op (by simp only [zo, binD, zb, Int.reduceEq, Int.reduceToNat, Int.reduceLT, Int.reduceBNe, Nat.reduceAdd, zz35, zz36, at_L hga, Nat.reduceAdd, zz37, Int.natCast_nonneg, Nat.reduceAdd, Rp.cs, at_L h15, at_L hga5, at_L hgx5, zz39] <;> exact rfl) ?_
   refine ow_nil ?_
   refine sk_n (by simp only [ze] <;> exact rfl) ?_
   skip
   refine cw_false (by simp only [opd, zv, Int.reduceBNe, Nat.reduceAdd, zz35, zz36, at_L hga, Nat.reduceAdd, zz37, Int.natCast_nonneg, Nat.reduceAdd, Rp.cs, at_L h15, at_L hga5, at_L hgx5, zz39] <;> rfl) ?_
   refine cw_skip (sk_n rfl (cw_seq (cw_region ?_)))
   refine ow_op (by simp only [zl, zm, zd, partD, List.take, List.drop, Int.reduceBNe, Nat.reduceAdd, zz35, zz36, at_L hga, Nat.reduceAdd, zz37, Int.natCast_nonneg, Nat.reduceAdd, Rp.cs, at_L h15, at_L hga5, at_L hgx5, zz39] <;> exact rfl) ?_
   refine ow_op (by simp only [zl, zm, zd, partD, List.take, List.drop, Int.reduceBNe, Nat.reduceAdd, zz35, zz36, at_L hga, Nat.reduceAdd, zz37, Int.natCast_nonneg, Nat.reduceAdd, Rp.cs, at_L h15, at_L hga5, at_L hgx5, zz39] <;> exact rfl) ?_
   refine ow_op (by simp only [zo, Int.reduceBNe, Nat.reduceAdd, zz35, zz36, at_L hga, Nat.reduceAdd, zz37, Int.natCast_nonneg, Nat.reduceAdd, Rp.cs, at_L h15, at_L hga5, at_L hgx5, zz39]; exact same_run (by omega) _ (rp_in (acts[i].how % 4) (by omega))) ?_
   refine ow_op (by simp only [zo, unD, Int.reduceBNe, Nat.reduceAdd, zz35, zz36, at_L hga, Nat.reduceAdd, zz37, Int.natCast_nonneg, Nat.reduceAdd, Rp.cs, at_L h15, at_L hga5, at_L hgx5, zz39] <;> exact rfl) ?_
   refine ow_ml rfl ?_
   refine ow_know 0 (b := false) (by simp only [opd, zv, Int.reduceBNe, Nat.reduceAdd, zz35, zz36, at_L hga, Nat.reduceAdd, zz37, Int.natCast_nonneg, Nat.reduceAdd, Rp.cs, at_L h15, at_L hga5, at_L hgx5, zz39] <;> rfl) (by simp only [zn] <;> exact rfl) ?_
   refine ow_on rfl ?_
   refine ow_me rfl ?_
   refine ow_on rfl ?_
   refine ow_op (by simp only [zo, Int.reduceBNe, Nat.reduceAdd, zz35, zz36, at_L hga, Nat.reduceAdd, zz37, Int.natCast_nonneg, Nat.reduceAdd, Rp.cs, at_L h15, at_L hga5, at_L hgx5, zz39] <;> exact rfl) ?_
   refine ow_on rfl ?_
   refine ow_op (by simp only [zo, faddrD_ptr, faddrD_cptr, zm, Int.reduceBNe, Nat.reduceAdd, zz35, zz36, at_L hga, Nat.reduceAdd, zz37, Int.natCast_nonneg, Nat.reduceAdd, Rp.cs, at_L h15, at_L hga5, at_L hgx5, zz39] <;> exact rfl) ?_
   refine ow_on rfl ?_
   refine ow_op (by simp only [zl, zm, zd, partD, List.take, List.drop, Int.reduceBNe, Nat.reduceAdd, zz35, zz36, at_L hga, Nat.reduceAdd, zz37, Int.natCast_nonneg, Nat.reduceAdd, Rp.cs, at_L h15, at_L hga5, at_L hgx5, zz39] <;> exact rfl) ?_
   refine ow_on rfl ?_
   refine ow_me rfl ?_
   refine ow_on rfl ?_
   refine ow_op (by simp only [zo, binD, zb, Int.reduceEq, Int.reduceToNat, Int.reduceLT, Int.reduceBNe, Nat.reduceAdd, zz35, zz36, at_L hga, Nat.reduceAdd, zz37, Int.natCast_nonneg, Nat.reduceAdd, Rp.cs, at_L h15, at_L hga5, at_L hgx5, zz39] <;> exact rfl) ?_
   refine ow_on rfl ?_
   refine ow_op (by simp only [zo, binD, zb, Int.reduceEq, Int.reduceToNat, Int.reduceLT, Int.reduceBNe, Nat.reduceAdd, zz35, zz36, at_L hga, Nat.reduceAdd, zz37, Int.natCast_nonneg, Nat.reduceAdd, Rp.cs, at_L h15, at_L hga5, at_L hgx5, zz39] <;> exact rfl) ?_
   refine ow_op (by simp only [zo, Int.reduceBNe, Nat.reduceAdd, zz35, zz36, at_L hga, Nat.reduceAdd, zz37, Int.natCast_nonneg, Nat.reduceAdd, Rp.cs, at_L h15, at_L hga5, at_L hgx5, zz39] <;> exact rfl) ?_
   refine ow_nil ?_
   refine sk_n (by simp only [ze] <;> exact rfl) ?_
   skip
   refine cw_false (by simp only [opd, zv, Int.reduceBNe, Nat.reduceAdd, zz35, zz36, at_L hga, Nat.reduceAdd, zz37, Int.natCast_nonneg, Nat.reduceAdd, Rp.cs, at_L h15, at_L hga5, at_L hgx5, zz39] <;> rfl) ?_
   refine cw_skip (bk_n (sk_n rfl (cw_region ?_)))
   refine ow_me rfl ?_
   refine ow_op (by simp only [zo, binD, zb, Int.reduceEq, Int.reduceToNat, Int.reduceLT, Int.reduceBNe, Nat.reduceAdd, zz35, zz36, at_L hga, Nat.reduceAdd, zz37, Int.natCast_nonneg, Nat.reduceAdd, Rp.cs, at_L h15, at_L hga5, at_L hgx5, zz39] <;> exact rfl) ?_
   refine ow_ml rfl ?_
   refine ow_nil ?_
   refine lk_n (by simp only [ze] <;> exact rfl) ?_
   exact ⟨acts.length - (i + 1), by omega, i + 1, _, _, _, _, _, _, _, _, _, _, _, _, _, _, _, _, _, _, _, _, _, _, _, _, _, _, _, _, _, _, _, _, _, _, _, _, _, _, _, _, rfl, rfl, by omega, rfl, hL5.push _, by omega, by omega⟩
  ·
   have hV := fileV_at (acts[i].vb % 8) (by omega)
   have hdis := verb_dis (acts[i].vb % 8) (by omega) h7
   have hwm := wrap_nat many (by omega)
   have hol : o.length = l.length := hok.1
   have hq3 : (((acts[i].how % 4 : Nat) : Int) == 3) = true := by rw [h3]; rfl
   have hrn : rpN (acts[i].how % 4) = ⟨true, ⟨#[]⟩, 6⟩ := by rw [h3]; rfl
   simp only [hrn] at hix hL4
   have hfb : (((acts[i].fi % 2 : Nat) : Int) == 0) = true := by rw [hev]; rfl
   obtain ⟨H5, lo5, hrun, hL5, hlen5, hk5⟩ := doM (d := d) (by omega) hL4 (by omega) (.of 12 (fiRows theFiles) none) (by decide) hU hG (by omega) hQ hV hMO (by rw [hsf]; exact .inl hs) 0
   rw [any_file, if_pos (by simp [hev])] at hrun
   rw [Nat.zero_min] at hrun
   have hone5 := hL5.h1
   simp only [drO] at hone5
   have ha5 := hk5 _ _ (hseta _) (by omega) (by omega) rfl
   have hx5 := hk5 _ _ (hsetx _) (by omega) (by omega) rfl
   have h15 := lt_of hone5
   have hga5 := lt_of ha5
   have hgx5 := lt_of hx5
   have zz40 := And.intro hone (And.intro ha3 (And.intro hx3 (And.intro hset1 (And.intro hsetx (And.intro hseta (And.intro hsetaL (And.intro hsetxL (And.intro hset1L (And.intro @List.set_set.{0} (And.intro @List.length_set.{0} (And.intro hix (And.intro hq4 (And.intro @Int.toNat_natCast (And.intro @at_S0 (And.intro @at_S (And.intro @set_S0 (And.intro @set_S (And.intro hdis (And.intro @beq_self_eq_true.{0} (And.intro @bne_self_eq_false.{0} (And.intro @Bool.not_true (And.intro hQ.isCell (And.intro hQ.val (And.intro hQ.cells (And.intro hone5 (And.intro ha5 (And.intro hx5 (And.intro @at_app (And.intro @at_app0 (And.intro hq3 (And.intro hwm (And.intro @List.getElem?_cons_zero.{0} (And.intro @List.getElem?_cons_succ.{0} (And.intro hs (And.intro hfb (hf2))))))))))))))))))))))))))))))))))))
   refine cw_seq (cw_region ?_)
   refine ow_me rfl ?_
   refine ow_op (by simp only [zo, fillD, overlay, zc, List.take, List.drop, Nat.reduceAdd, Nat.reduceLeDiff, Nat.reduceBEq, zm, Int.reduceBNe, Nat.reduceAdd, zz35, zz36, at_L hga, Nat.reduceAdd, zz37, Int.natCast_nonneg, Nat.reduceAdd, Rp.cs, at_L h15, at_L hga5, at_L hgx5, zz40] <;> exact rfl) ?_
   refine ow_op (by simp only [zo, fillD, overlay, zc, List.take, List.drop, Nat.reduceAdd, Nat.reduceLeDiff, Nat.reduceBEq, zm, Int.reduceBNe, Nat.reduceAdd, zz35, zz36, at_L hga, Nat.reduceAdd, zz37, Int.natCast_nonneg, Nat.reduceAdd, Rp.cs, at_L h15, at_L hga5, at_L hgx5, zz40] <;> exact rfl) ?_
   refine ow_op (by simp only [zo, fillD, overlay, zc, List.take, List.drop, Nat.reduceAdd, Nat.reduceLeDiff, Nat.reduceBEq, zm, Int.reduceBNe, Nat.reduceAdd, zz35, zz36, at_L hga, Nat.reduceAdd, zz37, Int.natCast_nonneg, Nat.reduceAdd, Rp.cs, at_L h15, at_L hga5, at_L hgx5, zz40] <;> exact rfl) ?_
   refine ow_op (by simp only [zo, fillD, overlay, zc, List.take, List.drop, Nat.reduceAdd, Nat.reduceLeDiff, Nat.reduceBEq, zm, Int.reduceBNe, Nat.reduceAdd, zz35, zz36, at_L hga, Nat.reduceAdd, zz37, Int.natCast_nonneg, Nat.reduceAdd, Rp.cs, at_L h15, at_L hga5, at_L hgx5, zz40] <;> exact rfl) ?_
   refine ow_op (by simp only [zl, zm, fillRows, List.replicate, snapVs, snaps, zs, zc, zf, Int.reduceBNe, Nat.reduceAdd, zz35, zz36, at_L hga, Nat.reduceAdd, zz37, Int.natCast_nonneg, Nat.reduceAdd, Rp.cs, at_L h15, at_L hga5, at_L hgx5, zz40] <;> exact rfl) ?_
   refine ow_op (by simp only [zo, faddrD_ptr, faddrD_cptr, zm, Int.reduceBNe, Nat.reduceAdd, zz35, zz36, at_L hga, Nat.reduceAdd, zz37, Int.natCast_nonneg, Nat.reduceAdd, Rp.cs, at_L h15, at_L hga5, at_L hgx5, zz40] <;> exact rfl) ?_
   refine ow_op (by simp only [zl, zm, zd, partD, List.take, List.drop, Int.reduceBNe, Nat.reduceAdd, zz35, zz36, at_L hga, Nat.reduceAdd, zz37, Int.natCast_nonneg, Nat.reduceAdd, Rp.cs, at_L h15, at_L hga5, at_L hgx5, zz40] <;> exact rfl) ?_
   refine ow_op (by simp only [zo, binD, zb, Int.reduceEq, Int.reduceToNat, Int.reduceLT, Int.reduceBNe, Nat.reduceAdd, zz35, zz36, at_L hga, Nat.reduceAdd, zz37, Int.natCast_nonneg, Nat.reduceAdd, Rp.cs, at_L h15, at_L hga5, at_L hgx5, zz40] <;> exact rfl) ?_
   refine ow_op (by simp only [zl, zm, iaddrD_sl, iaddrD_msl, Int.toNat_natCast, Int.toNat_zero, List.getElem?_map, Option.map_some, Int.le_refl, Int.reduceBNe, Nat.reduceAdd, zz35, zz36, at_L hga, Nat.reduceAdd, zz37, Int.natCast_nonneg, Nat.reduceAdd, Rp.cs, at_L h15, at_L hga5, at_L hgx5, zz40] <;> exact rfl) ?_
   refine ow_op (by simp only [zl, zm, zd, partD, List.take, List.drop, Int.reduceBNe, Nat.reduceAdd, zz35, zz36, at_L hga, Nat.reduceAdd, zz37, Int.natCast_nonneg, Nat.reduceAdd, Rp.cs, at_L h15, at_L hga5, at_L hgx5, zz40] <;> exact rfl) ?_
   refine ow_op (by simp only [zo, Int.reduceBNe, Nat.reduceAdd, zz35, zz36, at_L hga, Nat.reduceAdd, zz37, Int.natCast_nonneg, Nat.reduceAdd, Rp.cs, at_L h15, at_L hga5, at_L hgx5, zz40] <;> exact rfl) ?_
   refine ow_op (by simp only [zo, faddrD_ptr, faddrD_cptr, zm, Int.reduceBNe, Nat.reduceAdd, zz35, zz36, at_L hga, Nat.reduceAdd, zz37, Int.natCast_nonneg, Nat.reduceAdd, Rp.cs, at_L h15, at_L hga5, at_L hgx5, zz40] <;> exact rfl) ?_
   refine ow_op (by simp only [zl, zm, storeD, overlay, snapVs, snaps, zs, zc, zf, List.take, List.drop, Int.reduceBNe, Nat.reduceAdd, zz35, zz36, at_L hga, Nat.reduceAdd, zz37, Int.natCast_nonneg, Nat.reduceAdd, Rp.cs, at_L h15, at_L hga5, at_L hgx5, zz40] <;> exact rfl) ?_
   refine ow_nil ?_
   refine sk_n (by simp only [ze] <;> exact rfl) ?_
   refine cw_seq (cw_region ?_)
   refine ow_me rfl ?_
   refine ow_op (by simp only [zo, Int.reduceBNe, Nat.reduceAdd, zz35, zz36, at_L hga, Nat.reduceAdd, zz37, Int.natCast_nonneg, Nat.reduceAdd, Rp.cs, at_L h15, at_L hga5, at_L hgx5, zz40] <;> exact rfl) ?_
   refine ow_op (by simp only [zo, faddrD_ptr, faddrD_cptr, zm, Int.reduceBNe, Nat.reduceAdd, zz35, zz36, at_L hga, Nat.reduceAdd, zz37, Int.natCast_nonneg, Nat.reduceAdd, Rp.cs, at_L h15, at_L hga5, at_L hgx5, zz40] <;> exact rfl) ?_
   refine ow_op (by simp only [zl, zm, zd, partD, List.take, List.drop, Int.reduceBNe, Nat.reduceAdd, zz35, zz36, at_L hga, Nat.reduceAdd, zz37, Int.natCast_nonneg, Nat.reduceAdd, Rp.cs, at_L h15, at_L hga5, at_L hgx5, zz40] <;> exact rfl) ?_
   refine ow_ml rfl ?_
   refine ow_nil ?_
   refine sk_n (by simp only [ze] <;> exact rfl) ?_
   refine cw_seq (cw_region ?_)
   refine ow_me rfl ?_
   refine ow_op (by simp only [zl, zm, zd, partD, List.take, List.drop, Int.reduceBNe, Nat.reduceAdd, zz35, zz36, at_L hga, Nat.reduceAdd, zz37, Int.natCast_nonneg, Nat.reduceAdd, Rp.cs, at_L h15, at_L hga5, at_L hgx5, zz40] <;> exact rfl) ?_
   refine ow_op (by simp only [zo, Int.reduceBNe, Nat.reduceAdd, zz35, zz36, at_L hga, Nat.reduceAdd, zz37, Int.natCast_nonneg, Nat.reduceAdd, Rp.cs, at_L h15, at_L hga5, at_L hgx5, zz40]; exact hrun) ?_
   refine ow_op (by simp only [zl, zm, Int.reduceBNe, Nat.reduceAdd, zz35, zz36, at_L hga, Nat.reduceAdd, zz37, Int.natCast_nonneg, Nat.reduceAdd, Rp.cs, at_L h15, at_L hga5, at_L hgx5, zz40] <;> exact rfl) ?_
   refine ow_op (by simp only [zl, zm, storeD, overlay, snapVs, snaps, zs, zc, zf, List.take, List.drop, Int.reduceBNe, Nat.reduceAdd, zz35, zz36, at_L hga, Nat.reduceAdd, zz37, Int.natCast_nonneg, Nat.reduceAdd, Rp.cs, at_L h15, at_L hga5, at_L hgx5, zz40] <;> exact rfl) ?_
   refine ow_nil ?_
   refine sk_n (by simp only [ze] <;> exact rfl) ?_
   refine cw_seq (cw_region ?_)
   refine ow_me rfl ?_
   refine ow_op (by simp only [zo, Int.reduceBNe, Nat.reduceAdd, zz35, zz36, at_L hga, Nat.reduceAdd, zz37, Int.natCast_nonneg, Nat.reduceAdd, Rp.cs, at_L h15, at_L hga5, at_L hgx5, zz40] <;> exact rfl) ?_
   refine ow_op (by simp only [zo, faddrD_ptr, faddrD_cptr, zm, Int.reduceBNe, Nat.reduceAdd, zz35, zz36, at_L hga, Nat.reduceAdd, zz37, Int.natCast_nonneg, Nat.reduceAdd, Rp.cs, at_L h15, at_L hga5, at_L hgx5, zz40] <;> exact rfl) ?_
   refine ow_op (by simp only [zl, zm, zd, partD, List.take, List.drop, Int.reduceBNe, Nat.reduceAdd, zz35, zz36, at_L hga, Nat.reduceAdd, zz37, Int.natCast_nonneg, Nat.reduceAdd, Rp.cs, at_L h15, at_L hga5, at_L hgx5, zz40] <;> exact rfl) ?_
   refine ow_op (by simp only [zl, zm, Int.reduceBNe, Nat.reduceAdd, zz35, zz36, at_L hga, Nat.reduceAdd, zz37, Int.natCast_nonneg, Nat.reduceAdd, Rp.cs, at_L h15, at_L hga5, at_L hgx5, zz40] <;> exact rfl) ?_
   refine ow_op (by simp only [zl, zm, storeD, overlay, snapVs, snaps, zs, zc, zf, List.take, List.drop, Int.reduceBNe, Nat.reduceAdd, zz35, zz36, at_L hga, Nat.reduceAdd, zz37, Int.natCast_nonneg, Nat.reduceAdd, Rp.cs, at_L h15, at_L hga5, at_L hgx5, zz40] <;> exact rfl) ?_
   refine ow_nil ?_
   refine sk_n (by simp only [ze] <;> exact rfl) ?_
   refine cw_seq (cw_seq (cw_region ?_))
   refine ow_op (by simp only [zo, faddrD_ptr, faddrD_cptr, zm, Int.reduceBNe, Nat.reduceAdd, zz35, zz36, at_L hga, Nat.reduceAdd, zz37, Int.natCast_nonneg, Nat.reduceAdd, Rp.cs, at_L h15, at_L hga5, at_L hgx5, zz40] <;> exact rfl) ?_
   refine ow_op (by simp only [zl, zm, zd, partD, List.take, List.drop, Int.reduceBNe, Nat.reduceAdd, zz35, zz36, at_L hga, Nat.reduceAdd, zz37, Int.natCast_nonneg, Nat.reduceAdd, Rp.cs, at_L h15, at_L hga5, at_L hgx5, zz40] <;> exact rfl) ?_
   refine ow_op (by simp only [zo, binD, zb, Int.reduceEq, Int.reduceToNat, Int.reduceLT, Int.reduceBNe, Nat.reduceAdd, zz35, zz36, at_L hga, Nat.reduceAdd, zz37, Int.natCast_nonneg, Nat.reduceAdd, Rp.cs, at_L h15, at_L hga5, at_L hgx5, zz40] <;> exact rfl) ?_
   refine ow_nil ?_
   refine sk_n (by simp only [ze] <;> exact rfl) ?_
   skip
   refine cw_false (by simp only [opd, zv, Int.reduceBNe, Nat.reduceAdd, zz35, zz36, at_L hga, Nat.reduceAdd, zz37, Int.natCast_nonneg, Nat.reduceAdd, Rp.cs, at_L h15, at_L hga5, at_L hgx5, zz40] <;> rfl) ?_
   refine cw_skip (sk_n rfl (cw_seq (cw_seq (cw_region ?_))))
   refine ow_op (by simp only [zo, faddrD_ptr, faddrD_cptr, zm, Int.reduceBNe, Nat.reduceAdd, zz35, zz36, at_L hga, Nat.reduceAdd, zz37, Int.natCast_nonneg, Nat.reduceAdd, Rp.cs, at_L h15, at_L hga5, at_L hgx5, zz40] <;> exact rfl) ?_
   refine ow_op (by simp only [zl, zm, zd, partD, List.take, List.drop, Int.reduceBNe, Nat.reduceAdd, zz35, zz36, at_L hga, Nat.reduceAdd, zz37, Int.natCast_nonneg, Nat.reduceAdd, Rp.cs, at_L h15, at_L hga5, at_L hgx5, zz40] <;> exact rfl) ?_
   refine ow_op (by simp only [zo, binD, zb, Int.reduceEq, Int.reduceToNat, Int.reduceLT, Int.reduceBNe, Nat.reduceAdd, zz35, zz36, at_L hga, Nat.reduceAdd, zz37, Int.natCast_nonneg, Nat.reduceAdd, Rp.cs, at_L h15, at_L hga5, at_L hgx5, zz40] <;> exact rfl) ?_
   refine ow_op (by simp only [zo, binD, zb, Int.reduceEq, Int.reduceToNat, Int.reduceLT, Int.reduceBNe, Nat.reduceAdd, zz35, zz36, at_L hga, Nat.reduceAdd, zz37, Int.natCast_nonneg, Nat.reduceAdd, Rp.cs, at_L h15, at_L hga5, at_L hgx5, zz40] <;> exact rfl) ?_
   refine ow_nil ?_
   refine sk_n (by simp only [ze] <;> exact rfl) ?_
   skip
   refine cw_true (by simp only [opd, zv, Int.reduceBNe, Nat.reduceAdd, zz35, zz36, at_L hga, Nat.reduceAdd, zz37, Int.natCast_nonneg, Nat.reduceAdd, Rp.cs, at_L h15, at_L hga5, at_L hgx5, zz40] <;> rfl) ?_
   refine cw_seq (cw_region ?_)
   refine ow_me rfl ?_
   refine ow_me rfl ?_
   refine ow_me rfl ?_
   refine ow_op (by simp only [zo, Int.reduceBNe, Nat.reduceAdd, zz35, zz36, at_L hga, Nat.reduceAdd, zz37, Int.natCast_nonneg, Nat.reduceAdd, Rp.cs, at_L h15, at_L hga5, at_L hgx5, zz40]; exact fits_run (by omega) _ hS hl _ _) ?_
   refine ow_ml rfl ?_
   refine ow_op (by simp only [zo, List.getElem?_cons_zero, List.getElem?_cons_succ, Int.reduceBNe, Nat.reduceAdd, zz35, zz36, at_L hga, Nat.reduceAdd, zz37, Int.natCast_nonneg, Nat.reduceAdd, Rp.cs, at_L h15, at_L hga5, at_L hgx5, zz40] <;> exact rfl) ?_
   refine ow_op (by simp only [zo, List.getElem?_cons_zero, List.getElem?_cons_succ, Int.reduceBNe, Nat.reduceAdd, zz35, zz36, at_L hga, Nat.reduceAdd, zz37, Int.natCast_nonneg, Nat.reduceAdd, Rp.cs, at_L h15, at_L hga5, at_L hgx5, zz40] <;> exact rfl) ?_
   refine ow_ml rfl ?_
   refine ow_ml rfl ?_
   refine ow_nil ?_
   refine sk_n (by simp only [ze] <;> exact rfl) ?_
   refine cw_seq (cw_region ?_)
   refine ow_me rfl ?_
   refine ow_ml rfl ?_
   refine ow_know 0 (b := false) (by simp only [opd, zv, Int.reduceBNe, Nat.reduceAdd, zz35, zz36, at_L hga, Nat.reduceAdd, zz37, Int.natCast_nonneg, Nat.reduceAdd, Rp.cs, at_L h15, at_L hga5, at_L hgx5, zz40] <;> rfl) (by simp only [zn] <;> exact rfl) ?_
   refine ow_off rfl rfl ?_
   refine ow_off rfl rfl ?_
   refine ow_op (by simp only [zo, Int.reduceBNe, Nat.reduceAdd, zz35, zz36, at_L hga, Nat.reduceAdd, zz37, Int.natCast_nonneg, Nat.reduceAdd, Rp.cs, at_L h15, at_L hga5, at_L hgx5, zz40] <;> exact rfl) ?_
   refine ow_nil ?_
   refine sk_n (by simp only [ze] <;> exact rfl) ?_
   refine cw_false (by simp only [opd, zv, Int.reduceBNe, Nat.reduceAdd, zz35, zz36, at_L hga, Nat.reduceAdd, zz37, Int.natCast_nonneg, Nat.reduceAdd, Rp.cs, at_L h15, at_L hga5, at_L hgx5, zz40]) ?_
   refine cw_seq (cw_region ?_)
   refine ow_op (by simp only [zo, faddrD_ptr, faddrD_cptr, zm, Int.reduceBNe, Nat.reduceAdd, zz35, zz36, at_L hga, Nat.reduceAdd, zz37, Int.natCast_nonneg, Nat.reduceAdd, Rp.cs, at_L h15, at_L hga5, at_L hgx5, zz40] <;> exact rfl) ?_
   refine ow_op (by simp only [zl, zm, zd, partD, List.take, List.drop, Int.reduceBNe, Nat.reduceAdd, zz35, zz36, at_L hga, Nat.reduceAdd, zz37, Int.natCast_nonneg, Nat.reduceAdd, Rp.cs, at_L h15, at_L hga5, at_L hgx5, zz40] <;> exact rfl) ?_
   refine ow_op (by simp only [zo, binD, zb, Int.reduceEq, Int.reduceToNat, Int.reduceLT, Int.reduceBNe, Nat.reduceAdd, zz35, zz36, at_L hga, Nat.reduceAdd, zz37, Int.natCast_nonneg, Nat.reduceAdd, Rp.cs, at_L h15, at_L hga5, at_L hgx5, zz40] <;> exact rfl) ?_
   refine ow_op (by simp only [zo, binD, zb, Int.reduceEq, Int.reduceToNat, Int.reduceLT, Int.reduceBNe, Nat.reduceAdd, zz35, zz36, at_L hga, Nat.reduceAdd, zz37, Int.natCast_nonneg, Nat.reduceAdd, Rp.cs, at_L h15, at_L hga5, at_L hgx5, zz40] <;> exact rfl) ?_
   refine ow_nil ?_
   refine sk_n (by simp only [ze] <;> exact rfl) ?_
   skip
   refine cw_true (by simp only [opd, zv, Int.reduceBNe, Nat.reduceAdd, zz35, zz36, at_L hga, Nat.reduceAdd, zz37, Int.natCast_nonneg, Nat.reduceAdd, Rp.cs, at_L h15, at_L hga5, at_L hgx5, zz40] <;> rfl) ?_
   refine cw_region ?_
   refine ow_op (by simp only [zo, fillD, overlay, zc, List.take, List.drop, Nat.reduceAdd, Nat.reduceLeDiff, Nat.reduceBEq, zm, Int.reduceBNe, Nat.reduceAdd, zz35, zz36, at_L hga, Nat.reduceAdd, zz37, Int.natCast_nonneg, Nat.reduceAdd, Rp.cs, at_L h15, at_L hga5, at_L hgx5, zz40] <;> exact rfl) ?_
   refine ow_op (by simp only [zl, zm, storeD, overlay, snapVs, snaps, zs, zc, zf, List.take, List.drop, Int.reduceBNe, Nat.reduceAdd, zz35, zz36, at_L hga, Nat.reduceAdd, zz37, Int.natCast_nonneg, Nat.reduceAdd, Rp.cs, at_L h15, at_L hga5, at_L hgx5, zz40] <;> exact rfl) ?_
   refine ow_nil ?_
   refine sk_n (by simp only [ze] <;> exact rfl) ?_
   refine cw_seq (cw_region ?_)
   refine ow_op (by simp only [zl, zm, zd, partD, List.take, List.drop, Int.reduceBNe, Nat.reduceAdd, zz35, zz36, at_L hga, Nat.reduceAdd, zz37, Int.natCast_nonneg, Nat.reduceAdd, Rp.cs, at_L h15, at_L hga5, at_L hgx5, zz40] <;> exact rfl) ?_
   refine ow_op (by simp only [zl, zm, zd, partD, List.take, List.drop, Int.reduceBNe, Nat.reduceAdd, zz35, zz36, at_L hga, Nat.reduceAdd, zz37, Int.natCast_nonneg, Nat.reduceAdd, Rp.cs, at_L h15, at_L hga5, at_L hgx5, zz40] <;> exact rfl) ?_
   refine ow_op (by simp only [zo, Int.reduceBNe, Nat.reduceAdd, zz35, zz36, at_L hga, Nat.reduceAdd, zz37, Int.natCast_nonneg, Nat.reduceAdd, Rp.cs, at_L h15, at_L hga5, at_L hgx5, zz40]; exact same_run (by omega) _ (List.mem_append_left _ (by simp))) ?_
   refine ow_op (by simp only [zo, unD, Int.reduceBNe, Nat.reduceAdd, zz35, zz36, at_L hga, Nat.reduceAdd, zz37, Int.natCast_nonneg, Nat.reduceAdd, Rp.cs, at_L h15, at_L hga5, at_L hgx5, zz40] <;> exact rfl) ?_
   refine ow_ml rfl ?_
   refine ow_know 0 (b := false) (by simp only [opd, zv, Int.reduceBNe, Nat.reduceAdd, zz35, zz36, at_L hga, Nat.reduceAdd, zz37, Int.natCast_nonneg, Nat.reduceAdd, Rp.cs, at_L h15, at_L hga5, at_L hgx5, zz40] <;> rfl) (by simp only [zn] <;> exact rfl) ?_
   refine ow_on rfl ?_
   refine ow_me rfl ?_
   refine ow_on rfl ?_
   refine ow_op (by simp only [zo, Int.reduceBNe, Nat.reduceAdd, zz35, zz36, at_L hga, Nat.reduceAdd, zz37, Int.natCast_nonneg, Nat.reduceAdd, Rp.cs, at_L h15, at_L hga5, at_L hgx5, zz40] <;> exact rfl) ?_
   refine ow_on rfl ?_
   refine ow_op (by simp only [zo, faddrD_ptr, faddrD_cptr, zm, Int.reduceBNe, Nat.reduceAdd, zz35, zz36, at_L hga, Nat.reduceAdd, zz37, Int.natCast_nonneg, Nat.reduceAdd, Rp.cs, at_L h15, at_L hga5, at_L hgx5, zz40] <;> exact rfl) ?_
   refine ow_on rfl ?_
   refine ow_op (by simp only [zl, zm, zd, partD, List.take, List.drop, Int.reduceBNe, Nat.reduceAdd, zz35, zz36, at_L hga, Nat.reduceAdd, zz37, Int.natCast_nonneg, Nat.reduceAdd, Rp.cs, at_L h15, at_L hga5, at_L hgx5, zz40] <;> exact rfl) ?_
   refine ow_on rfl ?_
   refine ow_me rfl ?_
   refine ow_on rfl ?_
   refine ow_op (by simp only [zo, binD, zb, Int.reduceEq, Int.reduceToNat, Int.reduceLT, Int.reduceBNe, Nat.reduceAdd, zz35, zz36, at_L hga, Nat.reduceAdd, zz37, Int.natCast_nonneg, Nat.reduceAdd, Rp.cs, at_L h15, at_L hga5, at_L hgx5, zz40] <;> exact rfl) ?_
   refine ow_on rfl ?_
   refine ow_op (by simp only [zo, binD, zb, Int.reduceEq, Int.reduceToNat, Int.reduceLT, Int.reduceBNe, Nat.reduceAdd, zz35, zz36, at_L hga, Nat.reduceAdd, zz37, Int.natCast_nonneg, Nat.reduceAdd, Rp.cs, at_L h15, at_L hga5, at_L hgx5, zz40] <;> exact rfl) ?_
   refine ow_op (by simp only [zo, Int.reduceBNe, Nat.reduceAdd, zz35, zz36, at_L hga, Nat.reduceAdd, zz37, Int.natCast_nonneg, Nat.reduceAdd, Rp.cs, at_L h15, at_L hga5, at_L hgx5, zz40] <;> exact rfl) ?_
   refine ow_nil ?_
   refine sk_n (by simp only [ze] <;> exact rfl) ?_
   skip
   refine cw_false (by simp only [opd, zv, Int.reduceBNe, Nat.reduceAdd, zz35, zz36, at_L hga, Nat.reduceAdd, zz37, Int.natCast_nonneg, Nat.reduceAdd, Rp.cs, at_L h15, at_L hga5, at_L hgx5, zz40] <;> rfl) ?_
   refine cw_skip (bk_n (sk_n rfl (cw_region ?_)))
   refine ow_me rfl ?_
   refine ow_op (by simp only [zo, binD, zb, Int.reduceEq, Int.reduceToNat, Int.reduceLT, Int.reduceBNe, Nat.reduceAdd, zz35, zz36, at_L hga, Nat.reduceAdd, zz37, Int.natCast_nonneg, Nat.reduceAdd, Rp.cs, at_L h15, at_L hga5, at_L hgx5, zz40] <;> exact rfl) ?_
   refine ow_ml rfl ?_
   refine ow_nil ?_
   refine lk_n (by simp only [ze] <;> exact rfl) ?_
   exact ⟨acts.length - (i + 1), by omega, i + 1, _, _, _, _, _, _, _, _, _, _, _, _, _, _, _, _, _, _, _, _, _, _, _, _, _, _, _, _, _, _, _, _, _, _, _, _, _, _, _, _, rfl, rfl, by omega, rfl, hL5.push _, by omega, by omega⟩
  ·
   have hV := fileV_at (acts[i].vb % 8) (by omega)
   have hdis := verb_dis (acts[i].vb % 8) (by omega) h7
   have hwm := wrap_nat many (by omega)
   have hol : o.length = l.length := hok.1
   have hq3 : (((acts[i].how % 4 : Nat) : Int) == 3) = true := by rw [h3]; rfl
   have hrn : rpN (acts[i].how % 4) = ⟨true, ⟨#[]⟩, 6⟩ := by rw [h3]; rfl
   simp only [hrn] at hix hL4
   have hfb : (((acts[i].fi % 2 : Nat) : Int) == 0) = false := by rw [hev]; rfl
   obtain ⟨H5, lo5, hrun, hL5, hlen5, hk5⟩ := doM (d := d) (by omega) hL4 (by omega) (.of 12 (fiRows theFiles) none) (by decide) hU hG (by omega) hQ hV hMO (by rw [hsf]; exact .inl hs) 0
   rw [any_file, if_neg (by simp [hev])] at hrun
   rw [Nat.zero_min] at hrun
   have hone5 := hL5.h1
   simp only [drO] at hone5
   have ha5 := hk5 _ _ (hseta _) (by omega) (by omega) rfl
   have hx5 := hk5 _ _ (hsetx _) (by omega) (by omega) rfl
   have h15 := lt_of hone5
   have hga5 := lt_of ha5
   have hgx5 := lt_of hx5
   have zz41 := And.intro hone (And.intro ha3 (And.intro hx3 (And.intro hset1 (And.intro hsetx (And.intro hseta (And.intro hsetaL (And.intro hsetxL (And.intro hset1L (And.intro @List.set_set.{0} (And.intro @List.length_set.{0} (And.intro hix (And.intro hq4 (And.intro @Int.toNat_natCast (And.intro @at_S0 (And.intro @at_S (And.intro @set_S0 (And.intro @set_S (And.intro hdis (And.intro @beq_self_eq_true.{0} (And.intro @bne_self_eq_false.{0} (And.intro @Bool.not_true (And.intro hQ.isCell (And.intro hQ.val (And.intro hQ.cells (And.intro hone5 (And.intro ha5 (And.intro hx5 (And.intro @at_app (And.intro @at_app0 (And.intro hq3 (And.intro hwm (And.intro @List.getElem?_cons_zero.{0} (And.intro @List.getElem?_cons_succ.{0} (And.intro hs (And.intro hfb (hf2))))))))))))))))))))))))))))))))))))
   refine cw_seq (cw_region ?_)
   refine ow_me rfl ?_
   refine ow_op (by simp only [zo, fillD, overlay, zc, List.take, List.drop, Nat.reduceAdd, Nat.reduceLeDiff, Nat.reduceBEq, zm, Int.reduceBNe, Nat.reduceAdd, zz35, zz36, at_L hga, Nat.reduceAdd, zz37, Int.natCast_nonneg, Nat.reduceAdd, Rp.cs, at_L h15, at_L hga5, at_L hgx5, zz41] <;> exact rfl) ?_
   refine ow_op (by simp only [zo, fillD, overlay, zc, List.take, List.drop, Nat.reduceAdd, Nat.reduceLeDiff, Nat.reduceBEq, zm, Int.reduceBNe, Nat.reduceAdd, zz35, zz36, at_L hga, Nat.reduceAdd, zz37, Int.natCast_nonneg, Nat.reduceAdd, Rp.cs, at_L h15, at_L hga5, at_L hgx5, zz41] <;> exact rfl) ?_
   refine ow_op (by simp only [zo, fillD, overlay, zc, List.take, List.drop, Nat.reduceAdd, Nat.reduceLeDiff, Nat.reduceBEq, zm, Int.reduceBNe, Nat.reduceAdd, zz35, zz36, at_L hga, Nat.reduceAdd, zz37, Int.natCast_nonneg, Nat.reduceAdd, Rp.cs, at_L h15, at_L hga5, at_L hgx5, zz41] <;> exact rfl) ?_
   refine ow_op (by simp only [zo, fillD, overlay, zc, List.take, List.drop, Nat.reduceAdd, Nat.reduceLeDiff, Nat.reduceBEq, zm, Int.reduceBNe, Nat.reduceAdd, zz35, zz36, at_L hga, Nat.reduceAdd, zz37, Int.natCast_nonneg, Nat.reduceAdd, Rp.cs, at_L h15, at_L hga5, at_L hgx5, zz41] <;> exact rfl) ?_
   refine ow_op (by simp only [zl, zm, fillRows, List.replicate, snapVs, snaps, zs, zc, zf, Int.reduceBNe, Nat.reduceAdd, zz35, zz36, at_L hga, Nat.reduceAdd, zz37, Int.natCast_nonneg, Nat.reduceAdd, Rp.cs, at_L h15, at_L hga5, at_L hgx5, zz41] <;> exact rfl) ?_
   refine ow_op (by simp only [zo, faddrD_ptr, faddrD_cptr, zm, Int.reduceBNe, Nat.reduceAdd, zz35, zz36, at_L hga, Nat.reduceAdd, zz37, Int.natCast_nonneg, Nat.reduceAdd, Rp.cs, at_L h15, at_L hga5, at_L hgx5, zz41] <;> exact rfl) ?_
   refine ow_op (by simp only [zl, zm, zd, partD, List.take, List.drop, Int.reduceBNe, Nat.reduceAdd, zz35, zz36, at_L hga, Nat.reduceAdd, zz37, Int.natCast_nonneg, Nat.reduceAdd, Rp.cs, at_L h15, at_L hga5, at_L hgx5, zz41] <;> exact rfl) ?_
   refine ow_op (by simp only [zo, binD, zb, Int.reduceEq, Int.reduceToNat, Int.reduceLT, Int.reduceBNe, Nat.reduceAdd, zz35, zz36, at_L hga, Nat.reduceAdd, zz37, Int.natCast_nonneg, Nat.reduceAdd, Rp.cs, at_L h15, at_L hga5, at_L hgx5, zz41] <;> exact rfl) ?_
   refine ow_op (by simp only [zl, zm, iaddrD_sl, iaddrD_msl, Int.toNat_natCast, Int.toNat_zero, List.getElem?_map, Option.map_some, Int.le_refl, Int.reduceBNe, Nat.reduceAdd, zz35, zz36, at_L hga, Nat.reduceAdd, zz37, Int.natCast_nonneg, Nat.reduceAdd, Rp.cs, at_L h15, at_L hga5, at_L hgx5, zz41] <;> exact rfl) ?_
   refine ow_op (by simp only [zl, zm, zd, partD, List.take, List.drop, Int.reduceBNe, Nat.reduceAdd, zz35, zz36, at_L hga, Nat.reduceAdd, zz37, Int.natCast_nonneg, Nat.reduceAdd, Rp.cs, at_L h15, at_L hga5, at_L hgx5, zz41] <;> exact rfl) ?_
   refine ow_op (by simp only [zo, Int.reduceBNe, Nat.reduceAdd, zz35, zz36, at_L hga, Nat.reduceAdd, zz37, Int.natCast_nonneg, Nat.reduceAdd, Rp.cs, at_L h15, at_L hga5, at_L hgx5, zz41] <;> exact rfl) ?_
   refine ow_op (by simp only [zo, faddrD_ptr, faddrD_cptr, zm, Int.reduceBNe, Nat.reduceAdd, zz35, zz36, at_L hga, Nat.reduceAdd, zz37, Int.natCast_nonneg, Nat.reduceAdd, Rp.cs, at_L h15, at_L hga5, at_L hgx5, zz41] <;> exact rfl) ?_
   refine ow_op (by simp only [zl, zm, storeD, overlay, snapVs, snaps, zs, zc, zf, List.take, List.drop, Int.reduceBNe, Nat.reduceAdd, zz35, zz36, at_L hga, Nat.reduceAdd, zz37, Int.natCast_nonneg, Nat.reduceAdd, Rp.cs, at_L h15, at_L hga5, at_L hgx5, zz41] <;> exact rfl) ?_
   refine ow_nil ?_
   refine sk_n (by simp only [ze] <;> exact rfl) ?_
   refine cw_seq (cw_region ?_)
   refine ow_me rfl ?_
   refine ow_op (by simp only [zo, Int.reduceBNe, Nat.reduceAdd, zz35, zz36, at_L hga, Nat.reduceAdd, zz37, Int.natCast_nonneg, Nat.reduceAdd, Rp.cs, at_L h15, at_L hga5, at_L hgx5, zz41] <;> exact rfl) ?_
   refine ow_op (by simp only [zo, faddrD_ptr, faddrD_cptr, zm, Int.reduceBNe, Nat.reduceAdd, zz35, zz36, at_L hga, Nat.reduceAdd, zz37, Int.natCast_nonneg, Nat.reduceAdd, Rp.cs, at_L h15, at_L hga5, at_L hgx5, zz41] <;> exact rfl) ?_
   refine ow_op (by simp only [zl, zm, zd, partD, List.take, List.drop, Int.reduceBNe, Nat.reduceAdd, zz35, zz36, at_L hga, Nat.reduceAdd, zz37, Int.natCast_nonneg, Nat.reduceAdd, Rp.cs, at_L h15, at_L hga5, at_L hgx5, zz41] <;> exact rfl) ?_
   refine ow_ml rfl ?_
   refine ow_nil ?_
   refine sk_n (by simp only [ze] <;> exact rfl) ?_
   refine cw_seq (cw_region ?_)
   refine ow_me rfl ?_
   refine ow_op (by simp only [zl, zm, zd, partD, List.take, List.drop, Int.reduceBNe, Nat.reduceAdd, zz35, zz36, at_L hga, Nat.reduceAdd, zz37, Int.natCast_nonneg, Nat.reduceAdd, Rp.cs, at_L h15, at_L hga5, at_L hgx5, zz41] <;> exact rfl) ?_
   refine ow_op (by simp only [zo, Int.reduceBNe, Nat.reduceAdd, zz35, zz36, at_L hga, Nat.reduceAdd, zz37, Int.natCast_nonneg, Nat.reduceAdd, Rp.cs, at_L h15, at_L hga5, at_L hgx5, zz41]; exact hrun) ?_
   refine ow_op (by simp only [zl, zm, Int.reduceBNe, Nat.reduceAdd, zz35, zz36, at_L hga, Nat.reduceAdd, zz37, Int.natCast_nonneg, Nat.reduceAdd, Rp.cs, at_L h15, at_L hga5, at_L hgx5, zz41] <;> exact rfl) ?_
   refine ow_op (by simp only [zl, zm, storeD, overlay, snapVs, snaps, zs, zc, zf, List.take, List.drop, Int.reduceBNe, Nat.reduceAdd, zz35, zz36, at_L hga, Nat.reduceAdd, zz37, Int.natCast_nonneg, Nat.reduceAdd, Rp.cs, at_L h15, at_L hga5, at_L hgx5, zz41] <;> exact rfl) ?_
   refine ow_nil ?_
   refine sk_n (by simp only [ze] <;> exact rfl) ?_
   refine cw_seq (cw_region ?_)
   refine ow_me rfl ?_
   refine ow_op (by simp only [zo, Int.reduceBNe, Nat.reduceAdd, zz35, zz36, at_L hga, Nat.reduceAdd, zz37, Int.natCast_nonneg, Nat.reduceAdd, Rp.cs, at_L h15, at_L hga5, at_L hgx5, zz41] <;> exact rfl) ?_
   refine ow_op (by simp only [zo, faddrD_ptr, faddrD_cptr, zm, Int.reduceBNe, Nat.reduceAdd, zz35, zz36, at_L hga, Nat.reduceAdd, zz37, Int.natCast_nonneg, Nat.reduceAdd, Rp.cs, at_L h15, at_L hga5, at_L hgx5, zz41] <;> exact rfl) ?_
   refine ow_op (by simp only [zl, zm, zd, partD, List.take, List.drop, Int.reduceBNe, Nat.reduceAdd, zz35, zz36, at_L hga, Nat.reduceAdd, zz37, Int.natCast_nonneg, Nat.reduceAdd, Rp.cs, at_L h15, at_L hga5, at_L hgx5, zz41] <;> exact rfl) ?_
   refine ow_op (by simp only [zl, zm, Int.reduceBNe, Nat.reduceAdd, zz35, zz36, at_L hga, Nat.reduceAdd, zz37, Int.natCast_nonneg, Nat.reduceAdd, Rp.cs, at_L h15, at_L hga5, at_L hgx5, zz41] <;> exact rfl) ?_
   refine ow_op (by simp only [zl, zm, storeD, overlay, snapVs, snaps, zs, zc, zf, List.take, List.drop, Int.reduceBNe, Nat.reduceAdd, zz35, zz36, at_L hga, Nat.reduceAdd, zz37, Int.natCast_nonneg, Nat.reduceAdd, Rp.cs, at_L h15, at_L hga5, at_L hgx5, zz41] <;> exact rfl) ?_
   refine ow_nil ?_
   refine sk_n (by simp only [ze] <;> exact rfl) ?_
   refine cw_seq (cw_seq (cw_region ?_))
   refine ow_op (by simp only [zo, faddrD_ptr, faddrD_cptr, zm, Int.reduceBNe, Nat.reduceAdd, zz35, zz36, at_L hga, Nat.reduceAdd, zz37, Int.natCast_nonneg, Nat.reduceAdd, Rp.cs, at_L h15, at_L hga5, at_L hgx5, zz41] <;> exact rfl) ?_
   refine ow_op (by simp only [zl, zm, zd, partD, List.take, List.drop, Int.reduceBNe, Nat.reduceAdd, zz35, zz36, at_L hga, Nat.reduceAdd, zz37, Int.natCast_nonneg, Nat.reduceAdd, Rp.cs, at_L h15, at_L hga5, at_L hgx5, zz41] <;> exact rfl) ?_
   refine ow_op (by simp only [zo, binD, zb, Int.reduceEq, Int.reduceToNat, Int.reduceLT, Int.reduceBNe, Nat.reduceAdd, zz35, zz36, at_L hga, Nat.reduceAdd, zz37, Int.natCast_nonneg, Nat.reduceAdd, Rp.cs, at_L h15, at_L hga5, at_L hgx5, zz41] <;> exact rfl) ?_
   refine ow_nil ?_
   refine sk_n (by simp only [ze] <;> exact rfl) ?_
   skip
   refine cw_false (by simp only [opd, zv, Int.reduceBNe, Nat.reduceAdd, zz35, zz36, at_L hga, Nat.reduceAdd, zz37, Int.natCast_nonneg, Nat.reduceAdd, Rp.cs, at_L h15, at_L hga5, at_L hgx5, zz41] <;> rfl) ?_
   refine cw_skip (sk_n rfl (cw_seq (cw_seq (cw_region ?_))))
   refine ow_op (by simp only [zo, faddrD_ptr, faddrD_cptr, zm, Int.reduceBNe, Nat.reduceAdd, zz35, zz36, at_L hga, Nat.reduceAdd, zz37, Int.natCast_nonneg, Nat.reduceAdd, Rp.cs, at_L h15, at_L hga5, at_L hgx5, zz41] <;> exact rfl) ?_
   refine ow_op (by simp only [zl, zm, zd, partD, List.take, List.drop, Int.reduceBNe, Nat.reduceAdd, zz35, zz36, at_L hga, Nat.reduceAdd, zz37, Int.natCast_nonneg, Nat.reduceAdd, Rp.cs, at_L h15, at_L hga5, at_L hgx5, zz41] <;> exact rfl) ?_
   refine ow_op (by simp only [zo, binD, zb, Int.reduceEq, Int.reduceToNat, Int.reduceLT, Int.reduceBNe, Nat.reduceAdd, zz35, zz36, at_L hga, Nat.reduceAdd, zz37, Int.natCast_nonneg, Nat.reduceAdd, Rp.cs, at_L h15, at_L hga5, at_L hgx5, zz41] <;> exact rfl) ?_
   refine ow_op (by simp only [zo, binD, zb, Int.reduceEq, Int.reduceToNat, Int.reduceLT, Int.reduceBNe, Nat.reduceAdd, zz35, zz36, at_L hga, Nat.reduceAdd, zz37, Int.natCast_nonneg, Nat.reduceAdd, Rp.cs, at_L h15, at_L hga5, at_L hgx5, zz41] <;> exact rfl) ?_
   refine ow_nil ?_
   refine sk_n (by simp only [ze] <;> exact rfl) ?_
   skip
   refine cw_true (by simp only [opd, zv, Int.reduceBNe, Nat.reduceAdd, zz35, zz36, at_L hga, Nat.reduceAdd, zz37, Int.natCast_nonneg, Nat.reduceAdd, Rp.cs, at_L h15, at_L hga5, at_L hgx5, zz41] <;> rfl) ?_
   refine cw_seq (cw_region ?_)
   refine ow_me rfl ?_
   refine ow_me rfl ?_
   refine ow_me rfl ?_
   refine ow_op (by simp only [zo, Int.reduceBNe, Nat.reduceAdd, zz35, zz36, at_L hga, Nat.reduceAdd, zz37, Int.natCast_nonneg, Nat.reduceAdd, Rp.cs, at_L h15, at_L hga5, at_L hgx5, zz41]; exact fits_run (by omega) _ hS hl _ _) ?_
   refine ow_ml rfl ?_
   refine ow_op (by simp only [zo, List.getElem?_cons_zero, List.getElem?_cons_succ, Int.reduceBNe, Nat.reduceAdd, zz35, zz36, at_L hga, Nat.reduceAdd, zz37, Int.natCast_nonneg, Nat.reduceAdd, Rp.cs, at_L h15, at_L hga5, at_L hgx5, zz41] <;> exact rfl) ?_
   refine ow_op (by simp only [zo, List.getElem?_cons_zero, List.getElem?_cons_succ, Int.reduceBNe, Nat.reduceAdd, zz35, zz36, at_L hga, Nat.reduceAdd, zz37, Int.natCast_nonneg, Nat.reduceAdd, Rp.cs, at_L h15, at_L hga5, at_L hgx5, zz41] <;> exact rfl) ?_
   refine ow_ml rfl ?_
   refine ow_ml rfl ?_
   refine ow_nil ?_
   refine sk_n (by simp only [ze] <;> exact rfl) ?_
   refine cw_seq (cw_region ?_)
   refine ow_me rfl ?_
   refine ow_ml rfl ?_
   refine ow_know 0 (b := false) (by simp only [opd, zv, Int.reduceBNe, Nat.reduceAdd, zz35, zz36, at_L hga, Nat.reduceAdd, zz37, Int.natCast_nonneg, Nat.reduceAdd, Rp.cs, at_L h15, at_L hga5, at_L hgx5, zz41] <;> rfl) (by simp only [zn] <;> exact rfl) ?_
   refine ow_off rfl rfl ?_
   refine ow_off rfl rfl ?_
   refine ow_op (by simp only [zo, Int.reduceBNe, Nat.reduceAdd, zz35, zz36, at_L hga, Nat.reduceAdd, zz37, Int.natCast_nonneg, Nat.reduceAdd, Rp.cs, at_L h15, at_L hga5, at_L hgx5, zz41] <;> exact rfl) ?_
   refine ow_nil ?_
   refine sk_n (by simp only [ze] <;> exact rfl) ?_
   refine cw_false (by simp only [opd, zv, Int.reduceBNe, Nat.reduceAdd, zz35, zz36, at_L hga, Nat.reduceAdd, zz37, Int.natCast_nonneg, Nat.reduceAdd, Rp.cs, at_L h15, at_L hga5, at_L hgx5, zz41]) ?_
   refine cw_seq (cw_region ?_)
   refine ow_op (by simp only [zo, faddrD_ptr, faddrD_cptr, zm, Int.reduceBNe, Nat.reduceAdd, zz35, zz36, at_L hga, Nat.reduceAdd, zz37, Int.natCast_nonneg, Nat.reduceAdd, Rp.cs, at_L h15, at_L hga5, at_L hgx5, zz41] <;> exact rfl) ?_
   refine ow_op (by simp only [zl, zm, zd, partD, List.take, List.drop, Int.reduceBNe, Nat.reduceAdd, zz35, zz36, at_L hga, Nat.reduceAdd, zz37, Int.natCast_nonneg, Nat.reduceAdd, Rp.cs, at_L h15, at_L hga5, at_L hgx5, zz41] <;> exact rfl) ?_
   refine ow_op (by simp only [zo, binD, zb, Int.reduceEq, Int.reduceToNat, Int.reduceLT, Int.reduceBNe, Nat.reduceAdd, zz35, zz36, at_L hga, Nat.reduceAdd, zz37, Int.natCast_nonneg, Nat.reduceAdd, Rp.cs, at_L h15, at_L hga5, at_L hgx5, zz41] <;> exact rfl) ?_
   refine ow_op (by simp only [zo, binD, zb, Int.reduceEq, Int.reduceToNat, Int.reduceLT, Int.reduceBNe, Nat.reduceAdd, zz35, zz36, at_L hga, Nat.reduceAdd, zz37, Int.natCast_nonneg, Nat.reduceAdd, Rp.cs, at_L h15, at_L hga5, at_L hgx5, zz41] <;> exact rfl) ?_
   refine ow_nil ?_
   refine sk_n (by simp only [ze] <;> exact rfl) ?_
   skip
   refine cw_false (by simp only [opd, zv, Int.reduceBNe, Nat.reduceAdd, zz35, zz36, at_L hga, Nat.reduceAdd, zz37, Int.natCast_nonneg, Nat.reduceAdd, Rp.cs, at_L h15, at_L hga5, at_L hgx5, zz41] <;> rfl) ?_
   refine cw_skip (sk_n rfl (cw_seq (cw_region ?_)))
   refine ow_op (by simp only [zl, zm, zd, partD, List.take, List.drop, Int.reduceBNe, Nat.reduceAdd, zz35, zz36, at_L hga, Nat.reduceAdd, zz37, Int.natCast_nonneg, Nat.reduceAdd, Rp.cs, at_L h15, at_L hga5, at_L hgx5, zz41] <;> exact rfl) ?_
   refine ow_op (by simp only [zl, zm, zd, partD, List.take, List.drop, Int.reduceBNe, Nat.reduceAdd, zz35, zz36, at_L hga, Nat.reduceAdd, zz37, Int.natCast_nonneg, Nat.reduceAdd, Rp.cs, at_L h15, at_L hga5, at_L hgx5, zz41] <;> exact rfl) ?_
   refine ow_op (by simp only [zo, Int.reduceBNe, Nat.reduceAdd, zz35, zz36, at_L hga, Nat.reduceAdd, zz37, Int.natCast_nonneg, Nat.reduceAdd, Rp.cs, at_L h15, at_L hga5, at_L hgx5, zz41]; exact same_run (by omega) _ (List.mem_append_left _ (by simp))) ?_
   refine ow_op (by simp only [zo, unD, Int.reduceBNe, Nat.reduceAdd, zz35, zz36, at_L hga, Nat.reduceAdd, zz37, Int.natCast_nonneg, Nat.reduceAdd, Rp.cs, at_L h15, at_L hga5, at_L hgx5, zz41] <;> exact rfl) ?_
   refine ow_ml rfl ?_
   refine ow_know 0 (b := false) (by simp only [opd, zv, Int.reduceBNe, Nat.reduceAdd, zz35, zz36, at_L hga, Nat.reduceAdd, zz37, Int.natCast_nonneg, Nat.reduceAdd, Rp.cs, at_L h15, at_L hga5, at_L hgx5, zz41] <;> rfl) (by simp only [zn] <;> exact rfl) ?_
   refine ow_on rfl ?_
   refine ow_me rfl ?_
   refine ow_on rfl ?_
   refine ow_op (by simp only [zo, Int.reduceBNe, Nat.reduceAdd, zz35, zz36, at_L hga, Nat.reduceAdd, zz37, Int.natCast_nonneg, Nat.reduceAdd, Rp.cs, at_L h15, at_L hga5, at_L hgx5, zz41] <;> exact rfl) ?_
   refine ow_on rfl ?_
   refine ow_op (by simp only [zo, faddrD_ptr, faddrD_cptr, zm, Int.reduceBNe, Nat.reduceAdd, zz35, zz36, at_L hga, Nat.reduceAdd, zz37, Int.natCast_nonneg, Nat.reduceAdd, Rp.cs, at_L h15, at_L hga5, at_L hgx5, zz41] <;> exact rfl) ?_
   refine ow_on rfl ?_
   refine ow_op (by simp only [zl, zm, zd, partD, List.take, List.drop, Int.reduceBNe, Nat.reduceAdd, zz35, zz36, at_L hga, Nat.reduceAdd, zz37, Int.natCast_nonneg, Nat.reduceAdd, Rp.cs, at_L h15, at_L hga5, at_L hgx5, zz41] <;> exact rfl) ?_
   refine ow_on rfl ?_
   refine ow_me rfl ?_
   refine ow_on rfl ?_
   refine ow_op (by simp only [zo, binD, zb, Int.reduceEq, Int.reduceToNat, Int.reduceLT, Int.reduceBNe, Nat.reduceAdd, zz35, zz36, at_L hga, Nat.reduceAdd, zz37, Int.natCast_nonneg, Nat.reduceAdd, Rp.cs, at_L h15, at_L hga5, at_L hgx5, zz41] <;> exact rfl) ?_
   refine ow_on rfl ?_
   refine ow_op (by simp only [zo, binD, zb, Int.reduceEq, Int.reduceToNat, Int.reduceLT, Int.reduceBNe, Nat.reduceAdd, zz35, zz36, at_L hga, Nat.reduceAdd, zz37, Int.natCast_nonneg, Nat.reduceAdd, Rp.cs, at_L h15, at_L hga5, at_L hgx5, zz41] <;> exact rfl) ?_
   refine ow_op (by simp only [zo, Int.reduceBNe, Nat.reduceAdd, zz35, zz36, at_L hga, Nat.reduceAdd, zz37, Int.natCast_nonneg, Nat.reduceAdd, Rp.cs, at_L h15, at_L hga5, at_L hgx5, zz41] <;> exact rfl) ?_
   refine ow_nil ?_
   refine sk_n (by simp only [ze] <;> exact rfl) ?_
   skip
   refine cw_false (by simp only [opd, zv, Int.reduceBNe, Nat.reduceAdd, zz35, zz36, at_L hga, Nat.reduceAdd, zz37, Int.natCast_nonneg, Nat.reduceAdd, Rp.cs, at_L h15, at_L hga5, at_L hgx5, zz41] <;> rfl) ?_
   refine cw_skip (bk_n (sk_n rfl (cw_region ?_)))
   refine ow_me rfl ?_
   refine ow_op (by simp only [zo, binD, zb, Int.reduceEq, Int.reduceToNat, Int.reduceLT, Int.reduceBNe, Nat.reduceAdd, zz35, zz36, at_L hga, Nat.reduceAdd, zz37, Int.natCast_nonneg, Nat.reduceAdd, Rp.cs, at_L h15, at_L hga5, at_L hgx5, zz41] <;> exact rfl) ?_
   refine ow_ml rfl ?_
   refine ow_nil ?_
   refine lk_n (by simp only [ze] <;> exact rfl) ?_
   exact ⟨acts.length - (i + 1), by omega, i + 1, _, _, _, _, _, _, _, _, _, _, _, _, _, _, _, _, _, _, _, _, _, _, _, _, _, _, _, _, _, _, _, _, _, _, _, _, _, _, _, _, rfl, rfl, by omega, rfl, hL5.push _, by omega, by omega⟩
  ·
   have hV := fileV_at (acts[i].vb % 8) (by omega)
   have hdis := verb_dis (acts[i].vb % 8) (by omega) h7
   have hwm := wrap_nat many (by omega)
   have hol : o.length = l.length := hok.1
   have hq3 : (((acts[i].how % 4 : Nat) : Int) == 3) = true := by rw [h3]; rfl
   have hrn : rpN (acts[i].how % 4) = ⟨true, ⟨#[]⟩, 6⟩ := by rw [h3]; rfl
   simp only [hrn] at hix hL4
   subst hact
   have hfb : (((acts[i].fi % 2 : Nat) : Int) == 0) = true := by rw [hev]; rfl
   obtain ⟨H5, lo5, hrun, hL5, hlen5, hk5⟩ := doM (d := d) (by omega) hL4 (by omega) (.of 12 (fiRows theFiles) none) (by decide) hU hG (by omega) hQ hV hMO (by rw [hsf]; exact .inr rfl) 0
   rw [any_file, if_pos (by simp [hev])] at hrun
   rw [Nat.zero_min] at hrun
   have hone5 := hL5.h1
   simp only [drO] at hone5
   have ha5 := hk5 _ _ (hseta _) (by omega) (by omega) rfl
   have hx5 := hk5 _ _ (hsetx _) (by omega) (by omega) rfl
   have h15 := lt_of hone5
   have hga5 := lt_of ha5
   have hgx5 := lt_of hx5
   have zz42 := And.intro hone (And.intro ha3 (And.intro hx3 (And.intro hset1 (And.intro hsetx (And.intro hseta (And.intro hsetaL (And.intro hsetxL (And.intro hset1L (And.intro @List.set_set.{0} (And.intro @List.length_set.{0} (And.intro hix (And.intro hq4 (And.intro @Int.toNat_natCast (And.intro @at_S0 (And.intro @at_S (And.intro @set_S0 (And.intro @set_S (And.intro hdis (And.intro @beq_self_eq_true.{0} (And.intro @bne_self_eq_false.{0} (And.intro @Bool.not_true (And.intro hQ.isCell (And.intro hQ.val (And.intro hQ.cells (And.intro hone5 (And.intro ha5 (And.intro hx5 (And.intro @at_app (And.intro @at_app0 (And.intro hq3 (And.intro hwm (And.intro @List.getElem?_cons_zero.{0} (And.intro @List.getElem?_cons_succ.{0} (And.intro hs (And.intro hfb (hf2))))))))))))))))))))))))))))))))))))
   refine cw_seq (cw_region ?_)
   refine ow_me rfl ?_
   refine ow_op (by simp only [zo, fillD, overlay, zc, List.take, List.drop, Nat.reduceAdd, Nat.reduceLeDiff, Nat.reduceBEq, zm, Int.reduceBNe, Nat.reduceAdd, zz35, zz36, at_L hga, Nat.reduceAdd, zz37, Int.natCast_nonneg, Nat.reduceAdd, Rp.cs, at_L h15, at_L hga5, at_L hgx5, zz42] <;> exact rfl) ?_
   refine ow_op (by simp only [zo, fillD, overlay, zc, List.take, List.drop, Nat.reduceAdd, Nat.reduceLeDiff, Nat.reduceBEq, zm, Int.reduceBNe, Nat.reduceAdd, zz35, zz36, at_L hga, Nat.reduceAdd, zz37, Int.natCast_nonneg, Nat.reduceAdd, Rp.cs, at_L h15, at_L hga5, at_L hgx5, zz42] <;> exact rfl) ?_
   refine ow_op (by simp only [zo, fillD, overlay, zc, List.take, List.drop, Nat.reduceAdd, Nat.reduceLeDiff, Nat.reduceBEq, zm, Int.reduceBNe, Nat.reduceAdd, zz35, zz36, at_L hga, Nat.reduceAdd, zz37, Int.natCast_nonneg, Nat.reduceAdd, Rp.cs, at_L h15, at_L hga5, at_L hgx5, zz42] <;> exact rfl) ?_
   refine ow_op (by simp only [zo, fillD, overlay, zc, List.take, List.drop, Nat.reduceAdd, Nat.reduceLeDiff, Nat.reduceBEq, zm, Int.reduceBNe, Nat.reduceAdd, zz35, zz36, at_L hga, Nat.reduceAdd, zz37, Int.natCast_nonneg, Nat.reduceAdd, Rp.cs, at_L h15, at_L hga5, at_L hgx5, zz42] <;> exact rfl) ?_
   refine ow_op (by simp only [zl, zm, fillRows, List.replicate, snapVs, snaps, zs, zc, zf, Int.reduceBNe, Nat.reduceAdd, zz35, zz36, at_L hga, Nat.reduceAdd, zz37, Int.natCast_nonneg, Nat.reduceAdd, Rp.cs, at_L h15, at_L hga5, at_L hgx5, zz42] <;> exact rfl) ?_
   refine ow_op (by simp only [zo, faddrD_ptr, faddrD_cptr, zm, Int.reduceBNe, Nat.reduceAdd, zz35, zz36, at_L hga, Nat.reduceAdd, zz37, Int.natCast_nonneg, Nat.reduceAdd, Rp.cs, at_L h15, at_L hga5, at_L hgx5, zz42] <;> exact rfl) ?_
   refine ow_op (by simp only [zl, zm, zd, partD, List.take, List.drop, Int.reduceBNe, Nat.reduceAdd, zz35, zz36, at_L hga, Nat.reduceAdd, zz37, Int.natCast_nonneg, Nat.reduceAdd, Rp.cs, at_L h15, at_L hga5, at_L hgx5, zz42] <;> exact rfl) ?_
   refine ow_op (by simp only [zo, binD, zb, Int.reduceEq, Int.reduceToNat, Int.reduceLT, Int.reduceBNe, Nat.reduceAdd, zz35, zz36, at_L hga, Nat.reduceAdd, zz37, Int.natCast_nonneg, Nat.reduceAdd, Rp.cs, at_L h15, at_L hga5, at_L hgx5, zz42] <;> exact rfl) ?_
   refine ow_op (by simp only [zl, zm, iaddrD_sl, iaddrD_msl, Int.toNat_natCast, Int.toNat_zero, List.getElem?_map, Option.map_some, Int.le_refl, Int.reduceBNe, Nat.reduceAdd, zz35, zz36, at_L hga, Nat.reduceAdd, zz37, Int.natCast_nonneg, Nat.reduceAdd, Rp.cs, at_L h15, at_L hga5, at_L hgx5, zz42] <;> exact rfl) ?_
   refine ow_op (by simp only [zl, zm, zd, partD, List.take, List.drop, Int.reduceBNe, Nat.reduceAdd, zz35, zz36, at_L hga, Nat.reduceAdd, zz37, Int.natCast_nonneg, Nat.reduceAdd, Rp.cs, at_L h15, at_L hga5, at_L hgx5, zz42] <;> exact rfl) ?_
   refine ow_op (by simp only [zo, Int.reduceBNe, Nat.reduceAdd, zz35, zz36, at_L hga, Nat.reduceAdd, zz37, Int.natCast_nonneg, Nat.reduceAdd, Rp.cs, at_L h15, at_L hga5, at_L hgx5, zz42] <;> exact rfl) ?_
   refine ow_op (by simp only [zo, faddrD_ptr, faddrD_cptr, zm, Int.reduceBNe, Nat.reduceAdd, zz35, zz36, at_L hga, Nat.reduceAdd, zz37, Int.natCast_nonneg, Nat.reduceAdd, Rp.cs, at_L h15, at_L hga5, at_L hgx5, zz42] <;> exact rfl) ?_
   refine ow_op (by simp only [zl, zm, storeD, overlay, snapVs, snaps, zs, zc, zf, List.take, List.drop, Int.reduceBNe, Nat.reduceAdd, zz35, zz36, at_L hga, Nat.reduceAdd, zz37, Int.natCast_nonneg, Nat.reduceAdd, Rp.cs, at_L h15, at_L hga5, at_L hgx5, zz42] <;> exact rfl) ?_
   refine ow_nil ?_
   refine sk_n (by simp only [ze] <;> exact rfl) ?_
   refine cw_seq (cw_region ?_)
   refine ow_me rfl ?_
   refine ow_op (by simp only [zo, Int.reduceBNe, Nat.reduceAdd, zz35, zz36, at_L hga, Nat.reduceAdd, zz37, Int.natCast_nonneg, Nat.reduceAdd, Rp.cs, at_L h15, at_L hga5, at_L hgx5, zz42] <;> exact rfl) ?_
   refine ow_op (by simp only [zo, faddrD_ptr, faddrD_cptr, zm, Int.reduceBNe, Nat.reduceAdd, zz35, zz36, at_L hga, Nat.reduceAdd, zz37, Int.natCast_nonneg, Nat.reduceAdd, Rp.cs, at_L h15, at_L hga5, at_L hgx5, zz42] <;> exact rfl) ?_
   refine ow_op (by simp only [zl, zm, zd, partD, List.take, List.drop, Int.reduceBNe, Nat.reduceAdd, zz35, zz36, at_L hga, Nat.reduceAdd, zz37, Int.natCast_nonneg, Nat.reduceAdd, Rp.cs, at_L h15, at_L hga5, at_L hgx5, zz42] <;> exact rfl) ?_
   refine ow_ml rfl ?_
   refine ow_nil ?_
   refine sk_n (by simp only [ze] <;> exact rfl) ?_
   refine cw_seq (cw_region ?_)
   refine ow_me rfl ?_
   refine ow_op (by simp only [zl, zm, zd, partD, List.take, List.drop, Int.reduceBNe, Nat.reduceAdd, zz35, zz36, at_L hga, Nat.reduceAdd, zz37, Int.natCast_nonneg, Nat.reduceAdd, Rp.cs, at_L h15, at_L hga5, at_L hgx5, zz42] <;> exact rfl) ?_
   refine ow_op (by simp only [zo, Int.reduceBNe, Nat.reduceAdd, zz35, zz36, at_L hga, Nat.reduceAdd, zz37, Int.natCast_nonneg, Nat.reduceAdd, Rp.cs, at_L h15, at_L hga5, at_L hgx5, zz42]; exact hrun) ?_
   refine ow_op (by simp only [zl, zm, Int.reduceBNe, Nat.reduceAdd, zz35, zz36, at_L hga, Nat.reduceAdd, zz37, Int.natCast_nonneg, Nat.reduceAdd, Rp.cs, at_L h15, at_L hga5, at_L hgx5, zz42] <;> exact rfl) ?_
   refine ow_op (by simp only [zl, zm, storeD, overlay, snapVs, snaps, zs, zc, zf, List.take, List.drop, Int.reduceBNe, Nat.reduceAdd, zz35, zz36, at_L hga, Nat.reduceAdd, zz37, Int.natCast_nonneg, Nat.reduceAdd, Rp.cs, at_L h15, at_L hga5, at_L hgx5, zz42] <;> exact rfl) ?_
   refine ow_nil ?_
   refine sk_n (by simp only [ze] <;> exact rfl) ?_
   refine cw_seq (cw_region ?_)
   refine ow_me rfl ?_
   refine ow_op (by simp only [zo, Int.reduceBNe, Nat.reduceAdd, zz35, zz36, at_L hga, Nat.reduceAdd, zz37, Int.natCast_nonneg, Nat.reduceAdd, Rp.cs, at_L h15, at_L hga5, at_L hgx5, zz42] <;> exact rfl) ?_
   refine ow_op (by simp only [zo, faddrD_ptr, faddrD_cptr, zm, Int.reduceBNe, Nat.reduceAdd, zz35, zz36, at_L hga, Nat.reduceAdd, zz37, Int.natCast_nonneg, Nat.reduceAdd, Rp.cs, at_L h15, at_L hga5, at_L hgx5, zz42] <;> exact rfl) ?_
   refine ow_op (by simp only [zl, zm, zd, partD, List.take, List.drop, Int.reduceBNe, Nat.reduceAdd, zz35, zz36, at_L hga, Nat.reduceAdd, zz37, Int.natCast_nonneg, Nat.reduceAdd, Rp.cs, at_L h15, at_L hga5, at_L hgx5, zz42] <;> exact rfl) ?_
   refine ow_op (by simp only [zl, zm, Int.reduceBNe, Nat.reduceAdd, zz35, zz36, at_L hga, Nat.reduceAdd, zz37, Int.natCast_nonneg, Nat.reduceAdd, Rp.cs, at_L h15, at_L hga5, at_L hgx5, zz42] <;> exact rfl) ?_
   refine ow_op (by simp only [zl, zm, storeD, overlay, snapVs, snaps, zs, zc, zf, List.take, List.drop, Int.reduceBNe, Nat.reduceAdd, zz35, zz36, at_L hga, Nat.reduceAdd, zz37, Int.natCast_nonneg, Nat.reduceAdd, Rp.cs, at_L h15, at_L hga5, at_L hgx5, zz42] <;> exact rfl) ?_
   refine ow_nil ?_
   refine sk_n (by simp only [ze] <;> exact rfl) ?_
   refine cw_seq (cw_seq (cw_region ?_))
   refine ow_op (by simp only [zo, faddrD_ptr, faddrD_cptr, zm, Int.reduceBNe, Nat.reduceAdd, zz35, zz36, at_L hga, Nat.reduceAdd, zz37, Int.natCast_nonneg, Nat.reduceAdd, Rp.cs, at_L h15, at_L hga5, at_L hgx5, zz42] <;> exact rfl) ?_
   refine ow_op (by simp only [zl, zm, zd, partD, List.take, List.drop, Int.reduceBNe, Nat.reduceAdd, zz35, zz36, at_L hga, Nat.reduceAdd, zz37, Int.natCast_nonneg, Nat.reduceAdd, Rp.cs, at_L h15, at_L hga5, at_L hgx5, zz42] <;> exact rfl) ?_
   refine ow_op (by simp only [zo, binD, zb, Int.reduceEq, Int.reduceToNat, Int.reduceLT, Int.reduceBNe, Nat.reduceAdd, zz35, zz36, at_L hga, Nat.reduceAdd, zz37, Int.natCast_nonneg, Nat.reduceAdd, Rp.cs, at_L h15, at_L hga5, at_L hgx5, zz42] <;> exact rfl) ?_
   refine ow_nil ?_
   refine sk_n (by simp only [ze] <;> exact rfl) ?_
   skip
   refine cw_false (by simp only [opd, zv, Int.reduceBNe, Nat.reduceAdd, zz35, zz36, at_L hga, Nat.reduceAdd, zz37, Int.natCast_nonneg, Nat.reduceAdd, Rp.cs, at_L h15, at_L hga5, at_L hgx5, zz42] <;> rfl) ?_
   refine cw_skip (sk_n rfl (cw_seq (cw_seq (cw_region ?_))))
   refine ow_op (by simp only [zo, faddrD_ptr, faddrD_cptr, zm, Int.reduceBNe, Nat.reduceAdd, zz35, zz36, at_L hga, Nat.reduceAdd, zz37, Int.natCast_nonneg, Nat.reduceAdd, Rp.cs, at_L h15, at_L hga5, at_L hgx5, zz42] <;> exact rfl) ?_
   refine ow_op (by simp only [zl, zm, zd, partD, List.take, List.drop, Int.reduceBNe, Nat.reduceAdd, zz35, zz36, at_L hga, Nat.reduceAdd, zz37, Int.natCast_nonneg, Nat.reduceAdd, Rp.cs, at_L h15, at_L hga5, at_L hgx5, zz42] <;> exact rfl) ?_
   refine ow_op (by simp only [zo, binD, zb, Int.reduceEq, Int.reduceToNat, Int.reduceLT, Int.reduceBNe, Nat.reduceAdd, zz35, zz36, at_L hga, Nat.reduceAdd, zz37, Int.natCast_nonneg, Nat.reduceAdd, Rp.cs, at_L h15, at_L hga5, at_L hgx5, zz42] <;> exact rfl) ?_
   refine ow_op (by simp only [zo, binD, zb, Int.reduceEq, Int.reduceToNat, Int.reduceLT, Int.reduceBNe, Nat.reduceAdd, zz35, zz36, at_L hga, Nat.reduceAdd, zz37, Int.natCast_nonneg, Nat.reduceAdd, Rp.cs, at_L h15, at_L hga5, at_L hgx5, zz42] <;> exact rfl) ?_
   refine ow_nil ?_
   refine sk_n (by simp only [ze] <;> exact rfl) ?_
   skip
   refine cw_true (by simp only [opd, zv, Int.reduceBNe, Nat.reduceAdd, zz35, zz36, at_L hga, Nat.reduceAdd, zz37, Int.natCast_nonneg, Nat.reduceAdd, Rp.cs, at_L h15, at_L hga5, at_L hgx5, zz42] <;> rfl) ?_
   refine cw_seq (cw_region ?_)
   refine ow_me rfl ?_
   refine ow_me rfl ?_
   refine ow_me rfl ?_
   refine ow_op (by simp only [zo, Int.reduceBNe, Nat.reduceAdd, zz35, zz36, at_L hga, Nat.reduceAdd, zz37, Int.natCast_nonneg, Nat.reduceAdd, Rp.cs, at_L h15, at_L hga5, at_L hgx5, zz42]; exact fits_run (by omega) _ hS hl _ _) ?_
   refine ow_ml rfl ?_
   refine ow_op (by simp only [zo, List.getElem?_cons_zero, List.getElem?_cons_succ, Int.reduceBNe, Nat.reduceAdd, zz35, zz36, at_L hga, Nat.reduceAdd, zz37, Int.natCast_nonneg, Nat.reduceAdd, Rp.cs, at_L h15, at_L hga5, at_L hgx5, zz42] <;> exact rfl) ?_
   refine ow_op (by simp only [zo, List.getElem?_cons_zero, List.getElem?_cons_succ, Int.reduceBNe, Nat.reduceAdd, zz35, zz36, at_L hga, Nat.reduceAdd, zz37, Int.natCast_nonneg, Nat.reduceAdd, Rp.cs, at_L h15, at_L hga5, at_L hgx5, zz42] <;> exact rfl) ?_
   refine ow_ml rfl ?_
   refine ow_ml rfl ?_
   refine ow_nil ?_
   refine sk_n (by simp only [ze] <;> exact rfl) ?_
   refine cw_seq (cw_region ?_)
   refine ow_me rfl ?_
   refine ow_ml rfl ?_
   refine ow_know 0 (b := true) (by simp only [opd, zv, Int.reduceBNe, Nat.reduceAdd, zz35, zz36, at_L hga, Nat.reduceAdd, zz37, Int.natCast_nonneg, Nat.reduceAdd, Rp.cs, at_L h15, at_L hga5, at_L hgx5, zz42] <;> rfl) (by simp only [zn] <;> exact rfl) ?_
   refine ow_on rfl ?_
   refine ow_me rfl ?_
   refine ow_on rfl ?_
   refine ow_op (by simp only [zo, unD, Int.reduceBNe, Nat.reduceAdd, zz35, zz36, at_L hga, Nat.reduceAdd, zz37, Int.natCast_nonneg, Nat.reduceAdd, Rp.cs, at_L h15, at_L hga5, at_L hgx5, zz42] <;> exact rfl) ?_
   refine ow_op (by simp only [zo, Int.reduceBNe, Nat.reduceAdd, zz35, zz36, at_L hga, Nat.reduceAdd, zz37, Int.natCast_nonneg, Nat.reduceAdd, Rp.cs, at_L h15, at_L hga5, at_L hgx5, zz42] <;> exact rfl) ?_
   refine ow_nil ?_
   refine sk_n (by simp only [ze] <;> exact rfl) ?_
   skip
   refine cw_false (by simp only [opd, zv, Int.reduceBNe, Nat.reduceAdd, zz35, zz36, at_L hga, Nat.reduceAdd, zz37, Int.natCast_nonneg, Nat.reduceAdd, Rp.cs, at_L h15, at_L hga5, at_L hgx5, zz42] <;> rfl) ?_
   refine cw_seq (cw_region ?_)
   refine ow_op (by simp only [zo, faddrD_ptr, faddrD_cptr, zm, Int.reduceBNe, Nat.reduceAdd, zz35, zz36, at_L hga, Nat.reduceAdd, zz37, Int.natCast_nonneg, Nat.reduceAdd, Rp.cs, at_L h15, at_L hga5, at_L hgx5, zz42] <;> exact rfl) ?_
   refine ow_op (by simp only [zl, zm, zd, partD, List.take, List.drop, Int.reduceBNe, Nat.reduceAdd, zz35, zz36, at_L hga, Nat.reduceAdd, zz37, Int.natCast_nonneg, Nat.reduceAdd, Rp.cs, at_L h15, at_L hga5, at_L hgx5, zz42] <;> exact rfl) ?_
   refine ow_op (by simp only [zo, binD, zb, Int.reduceEq, Int.reduceToNat, Int.reduceLT, Int.reduceBNe, Nat.reduceAdd, zz35, zz36, at_L hga, Nat.reduceAdd, zz37, Int.natCast_nonneg, Nat.reduceAdd, Rp.cs, at_L h15, at_L hga5, at_L hgx5, zz42] <;> exact rfl) ?_
   refine ow_op (by simp only [zo, binD, zb, Int.reduceEq, Int.reduceToNat, Int.reduceLT, Int.reduceBNe, Nat.reduceAdd, zz35, zz36, at_L hga, Nat.reduceAdd, zz37, Int.natCast_nonneg, Nat.reduceAdd, Rp.cs, at_L h15, at_L hga5, at_L hgx5, zz42] <;> exact rfl) ?_
   refine ow_nil ?_
   refine sk_n (by simp only [ze] <;> exact rfl) ?_
   skip
   refine cw_true (by simp only [opd, zv, Int.reduceBNe, Nat.reduceAdd, zz35, zz36, at_L hga, Nat.reduceAdd, zz37, Int.natCast_nonneg, Nat.reduceAdd, Rp.cs, at_L h15, at_L hga5, at_L hgx5, zz42] <;> rfl) ?_
   refine cw_region ?_
   refine ow_op (by simp only [zo, fillD, overlay, zc, List.take, List.drop, Nat.reduceAdd, Nat.reduceLeDiff, Nat.reduceBEq, zm, Int.reduceBNe, Nat.reduceAdd, zz35, zz36, at_L hga, Nat.reduceAdd, zz37, Int.natCast_nonneg, Nat.reduceAdd, Rp.cs, at_L h15, at_L hga5, at_L hgx5, zz42] <;> exact rfl) ?_
   refine ow_op (by simp only [zl, zm, storeD, overlay, snapVs, snaps, zs, zc, zf, List.take, List.drop, Int.reduceBNe, Nat.reduceAdd, zz35, zz36, at_L hga, Nat.reduceAdd, zz37, Int.natCast_nonneg, Nat.reduceAdd, Rp.cs, at_L h15, at_L hga5, at_L hgx5, zz42] <;> exact rfl) ?_
   refine ow_nil ?_
   refine sk_n (by simp only [ze] <;> exact rfl) ?_
   refine cw_seq (cw_region ?_)
   refine ow_op (by simp only [zl, zm, zd, partD, List.take, List.drop, Int.reduceBNe, Nat.reduceAdd, zz35, zz36, at_L hga, Nat.reduceAdd, zz37, Int.natCast_nonneg, Nat.reduceAdd, Rp.cs, at_L h15, at_L hga5, at_L hgx5, zz42] <;> exact rfl) ?_
   refine ow_op (by simp only [zl, zm, zd, partD, List.take, List.drop, Int.reduceBNe, Nat.reduceAdd, zz35, zz36, at_L hga, Nat.reduceAdd, zz37, Int.natCast_nonneg, Nat.reduceAdd, Rp.cs, at_L h15, at_L hga5, at_L hgx5, zz42] <;> exact rfl) ?_
   refine ow_op (by simp only [zo, Int.reduceBNe, Nat.reduceAdd, zz35, zz36, at_L hga, Nat.reduceAdd, zz37, Int.natCast_nonneg, Nat.reduceAdd, Rp.cs, at_L h15, at_L hga5, at_L hgx5, zz42]; exact same_run (by omega) _ (List.mem_append_left _ (by simp))) ?_
   refine ow_op (by simp only [zo, unD, Int.reduceBNe, Nat.reduceAdd, zz35, zz36, at_L hga, Nat.reduceAdd, zz37, Int.natCast_nonneg, Nat.reduceAdd, Rp.cs, at_L h15, at_L hga5, at_L hgx5, zz42] <;> exact rfl) ?_
   refine ow_ml rfl ?_
   refine ow_know 0 (b := false) (by simp only [opd, zv, Int.reduceBNe, Nat.reduceAdd, zz35, zz36, at_L hga, Nat.reduceAdd, zz37, Int.natCast_nonneg, Nat.reduceAdd, Rp.cs, at_L h15, at_L hga5, at_L hgx5, zz42] <;> rfl) (by simp only [zn] <;> exact rfl) ?_
   refine ow_on rfl ?_
   refine ow_me rfl ?_
   refine ow_on rfl ?_
   refine ow_op (by simp only [zo, Int.reduceBNe, Nat.reduceAdd, zz35, zz36, at_L hga, Nat.reduceAdd, zz37, Int.natCast_nonneg, Nat.reduceAdd, Rp.cs, at_L h15, at_L hga5, at_L hgx5, zz42] <;> exact rfl) ?_
   refine ow_on rfl ?_
   refine ow_op (by simp only [zo, faddrD_ptr, faddrD_cptr, zm, Int.reduceBNe, Nat.reduceAdd, zz35, zz36, at_L hga, Nat.reduceAdd, zz37, Int.natCast_nonneg, Nat.reduceAdd, Rp.cs, at_L h15, at_L hga5, at_L hgx5, zz42] <;> exact rfl) ?_
   refine ow_on rfl ?_
   refine ow_op (by simp only [zl, zm, zd, partD, List.take, List.drop, Int.reduceBNe, Nat.reduceAdd, zz35, zz36, at_L hga, Nat.reduceAdd, zz37, Int.natCast_nonneg, Nat.reduceAdd, Rp.cs, at_L h15, at_L hga5, at_L hgx5, zz42] <;> exact rfl) ?_
   refine ow_on rfl ?_
   refine ow_me rfl ?_
   refine ow_on rfl ?_
   refine ow_op (by simp only [zo, binD, zb, Int.reduceEq, Int.reduceToNat, Int.reduceLT, Int.reduceBNe, Nat.reduceAdd, zz35, zz36, at_L hga, Nat.reduceAdd, zz37, Int.natCast_nonneg, Nat.reduceAdd, Rp.cs, at_L h15, at_L hga5, at_L hgx5, zz42] <;> exact rfl) ?_
   refine ow_on rfl ?_
   refine ow_op (by simp only [zo, binD, zb, Int.reduceEq, Int.reduceToNat, Int.reduceLT, Int.reduceBNe, Nat.reduceAdd, zz35, zz36, at_L hga, Nat.reduceAdd, zz37, Int.natCast_nonneg, Nat.reduceAdd, Rp.cs, at_L h15, at_L hga5, at_L hgx5, zz42] <;> exact rfl) ?_
   refine ow_op (by simp only [zo, Int.reduceBNe, Nat.reduceAdd, zz35, zz36, at_L hga, Nat.reduceAdd, zz37, Int.natCast_nonneg, Nat.reduceAdd, Rp.cs, at_L h15, at_L hga5, at_L hgx5, zz42] <;> exact rfl) ?_
   refine ow_nil ?_
   refine sk_n (by simp only [ze] <;> exact rfl) ?_
   skip
   refine cw_false (by simp only [opd, zv, Int.reduceBNe, Nat.reduceAdd, zz35, zz36, at_L hga, Nat.reduceAdd, zz37, Int.natCast_nonneg, Nat.reduceAdd, Rp.cs, at_L h15, at_L hga5, at_L hgx5, zz42] <;> rfl) ?_
   refine cw_skip (bk_n (sk_n rfl (cw_region ?_)))
   refine ow_me rfl ?_
   refine ow_op (by simp only [zo, binD, zb, Int.reduceEq, Int.reduceToNat, Int.reduceLT, Int.reduceBNe, Nat.reduceAdd, zz35, zz36, at_L hga, Nat.reduceAdd, zz37, Int.natCast_nonneg, Nat.reduceAdd, Rp.cs, at_L h15, at_L hga5, at_L hgx5, zz42] <;> exact rfl) ?_
   refine ow_ml rfl ?_
   refine ow_nil ?_
   refine lk_n (by simp only [ze] <;> exact rfl) ?_
   exact ⟨acts.length - (i + 1), by omega, i + 1, _, _, _, _, _, _, _, _, _, _, _, _, _, _, _, _, _, _, _, _, _, _, _, _, _, _, _, _, _, _, _, _, _, _, _, _, _, _, _, _, rfl, rfl, by omega, rfl, hL5.push _, by omega, by omega⟩
  ·
   have hV := fileV_at (acts[i].vb % 8) (by omega)
   have hdis := verb_dis (acts[i].vb % 8) (by omega) h7
   have hwm := wrap_nat many (by omega)
   have hol : o.length = l.length := hok.1
   have hq3 : (((acts[i].how % 4 : Nat) : Int) == 3) = true := by rw [h3]; rfl
   have hrn : rpN (acts[i].how % 4) = ⟨true, ⟨#[]⟩, 6⟩ := by rw [h3]; rfl
   simp only [hrn] at hix hL4
   subst hact
   have hfb : (((acts[i].fi % 2 : Nat) : Int) == 0) = false := by rw [hev]; rfl
   obtain ⟨H5, lo5, hrun, hL5, hlen5, hk5⟩ := doM (d := d) (by omega) hL4 (by omega) (.of 12 (fiRows theFiles) none) (by decide) hU hG (by omega) hQ hV hMO (by rw [hsf]; exact .inr rfl) 0
   rw [any_file, if_neg (by simp [hev])] at hrun
   rw [Nat.zero_min] at hrun
   have hone5 := hL5.h1
   simp only [drO] at hone5
   have ha5 := hk5 _ _ (hseta _) (by omega) (by omega) rfl
   have hx5 := hk5 _ _ (hsetx _) (by omega) (by omega) rfl
   have h15 := lt_of hone5
   have hga5 := lt_of ha5
   have hgx5 := lt_of hx5
   have zz43 := And.intro hone (And.intro ha3 (And.intro hx3 (And.intro hset1 (And.intro hsetx (And.intro hseta (And.intro hsetaL (And.intro hsetxL (And.intro hset1L (And.intro @List.set_set.{0} (And.intro @List.length_set.{0} (And.intro hix (And.intro hq4 (And.intro @Int.toNat_natCast (And.intro @at_S0 (And.intro @at_S (And.intro @set_S0 (And.intro @set_S (And.intro hdis (And.intro @beq_self_eq_true.{0} (And.intro @bne_self_eq_false.{0} (And.intro @Bool.not_true (And.intro hQ.isCell (And.intro hQ.val (And.intro hQ.cells (And.intro hone5 (And.intro ha5 (And.intro hx5 (And.intro @at_app (And.intro @at_app0 (And.intro hq3 (And.intro hwm (And.intro @List.getElem?_cons_zero.{0} (And.intro @List.getElem?_cons_succ.{0} (And.intro hs (And.intro hfb (hf2))))))))))))))))))))))))))))))))))))
   refine cw_seq (cw_region ?_)
   refine ow_me rfl ?_
   refine ow_op (by simp only [zo, fillD, overlay, zc, List.take, List.drop, Nat.reduceAdd, Nat.reduceLeDiff, Nat.reduceBEq, zm, Int.reduceBNe, Nat.reduceAdd, zz35, zz36, at_L hga, Nat.reduceAdd, zz37, Int.natCast_nonneg, Nat.reduceAdd, Rp.cs, at_L h15, at_L hga5, at_L hgx5, zz43] <;> exact rfl) ?_
   refine ow_op (by simp only [zo, fillD, overlay, zc, List.take, List.drop, Nat.reduceAdd, Nat.reduceLeDiff, Nat.reduceBEq, zm, Int.reduceBNe, Nat.reduceAdd, zz35, zz36, at_L hga, Nat.reduceAdd, zz37, Int.natCast_nonneg, Nat.reduceAdd, Rp.cs, at_L h15, at_L hga5, at_L hgx5, zz43] <;> exact rfl) ?_
   refine ow_op (by simp only [zo, fillD, overlay, zc, List.take, List.drop, Nat.reduceAdd, Nat.reduceLeDiff, Nat.reduceBEq, zm, Int.reduceBNe, Nat.reduceAdd, zz35, zz36, at_L hga, Nat.reduceAdd, zz37, Int.natCast_nonneg, Nat.reduceAdd, Rp.cs, at_L h15, at_L hga5, at_L hgx5, zz43] <;> exact rfl) ?_
   refine ow_op (by simp only [zo, fillD, overlay, zc, List.take, List.drop, Nat.reduceAdd, Nat.reduceLeDiff, Nat.reduceBEq, zm, Int.reduceBNe, Nat.reduceAdd, zz35, zz36, at_L hga, Nat.reduceAdd, zz37, Int.natCast_nonneg, Nat.reduceAdd, Rp.cs, at_L h15, at_L hga5, at_L hgx5, zz43] <;> exact rfl) ?_
   refine ow_op (by simp only [zl, zm, fillRows, List.replicate, snapVs, snaps, zs, zc, zf, Int.reduceBNe, Nat.reduceAdd, zz35, zz36, at_L hga, Nat.reduceAdd, zz37, Int.natCast_nonneg, Nat.reduceAdd, Rp.cs, at_L h15, at_L hga5, at_L hgx5, zz43] <;> exact rfl) ?_
   refine ow_op (by simp only [zo, faddrD_ptr, faddrD_cptr, zm, Int.reduceBNe, Nat.reduceAdd, zz35, zz36, at_L hga, Nat.reduceAdd, zz37, Int.natCast_nonneg, Nat.reduceAdd, Rp.cs, at_L h15, at_L hga5, at_L hgx5, zz43] <;> exact rfl) ?_
   refine ow_op (by simp only [zl, zm, zd, partD, List.take, List.drop, Int.reduceBNe, Nat.reduceAdd, zz35, zz36, at_L hga, Nat.reduceAdd, zz37, Int.natCast_nonneg, Nat.reduceAdd, Rp.cs, at_L h15, at_L hga5, at_L hgx5, zz43] <;> exact rfl) ?_
   refine ow_op (by simp only [zo, binD, zb, Int.reduceEq, Int.reduceToNat, Int.reduceLT, Int.reduceBNe, Nat.reduceAdd, zz35, zz36, at_L hga, Nat.reduceAdd, zz37, Int.natCast_nonneg, Nat.reduceAdd, Rp.cs, at_L h15, at_L hga5, at_L hgx5, zz43] <;> exact rfl) ?_
   refine ow_op (by simp only [zl, zm, iaddrD_sl, iaddrD_msl, Int.toNat_natCast, Int.toNat_zero, List.getElem?_map, Option.map_some, Int.le_refl, Int.reduceBNe, Nat.reduceAdd, zz35, zz36, at_L hga, Nat.reduceAdd, zz37, Int.natCast_nonneg, Nat.reduceAdd, Rp.cs, at_L h15, at_L hga5, at_L hgx5, zz43] <;> exact rfl) ?_
   refine ow_op (by simp only [zl, zm, zd, partD, List.take, List.drop, Int.reduceBNe, Nat.reduceAdd, zz35, zz36, at_L hga, Nat.reduceAdd, zz37, Int.natCast_nonneg, Nat.reduceAdd, Rp.cs, at_L h15, at_L hga5, at_L hgx5, zz43] <;> exact rfl) ?_
   refine ow_op (by simp only [zo, Int.reduceBNe, Nat.reduceAdd, zz35, zz36, at_L hga, Nat.reduceAdd, zz37, Int.natCast_nonneg, Nat.reduceAdd, Rp.cs, at_L h15, at_L hga5, at_L hgx5, zz43] <;> exact rfl) ?_
   refine ow_op (by simp only [zo, faddrD_ptr, faddrD_cptr, zm, Int.reduceBNe, Nat.reduceAdd, zz35, zz36, at_L hga, Nat.reduceAdd, zz37, Int.natCast_nonneg, Nat.reduceAdd, Rp.cs, at_L h15, at_L hga5, at_L hgx5, zz43] <;> exact rfl) ?_
   refine ow_op (by simp only [zl, zm, storeD, overlay, snapVs, snaps, zs, zc, zf, List.take, List.drop, Int.reduceBNe, Nat.reduceAdd, zz35, zz36, at_L hga, Nat.reduceAdd, zz37, Int.natCast_nonneg, Nat.reduceAdd, Rp.cs, at_L h15, at_L hga5, at_L hgx5, zz43] <;> exact rfl) ?_
   refine ow_nil ?_
   refine sk_n (by simp only [ze] <;> exact rfl) ?_
   refine cw_seq (cw_region ?_)
   refine ow_me rfl ?_
   refine ow_op (by simp only [zo, Int.reduceBNe, Nat.reduceAdd, zz35, zz36, at_L hga, Nat.reduceAdd, zz37, Int.natCast_nonneg, Nat.reduceAdd, Rp.cs, at_L h15, at_L hga5, at_L hgx5, zz43] <;> exact rfl) ?_
   refine ow_op (by simp only [zo, faddrD_ptr, faddrD_cptr, zm, Int.reduceBNe, Nat.reduceAdd, zz35, zz36, at_L hga, Nat.reduceAdd, zz37, Int.natCast_nonneg, Nat.reduceAdd, Rp.cs, at_L h15, at_L hga5, at_L hgx5, zz43] <;> exact rfl) ?_
   refine ow_op (by simp only [zl, zm, zd, partD, List.take, List.drop, Int.reduceBNe, Nat.reduceAdd, zz35, zz36, at_L hga, Nat.reduceAdd, zz37, Int.natCast_nonneg, Nat.reduceAdd, Rp.cs, at_L h15, at_L hga5, at_L hgx5, zz43] <;> exact rfl) ?_
   refine ow_ml rfl ?_
   refine ow_nil ?_
   refine sk_n (by simp only [ze] <;> exact rfl) ?_
   refine cw_seq (cw_region ?_)
   refine ow_me rfl ?_
   refine ow_op (by simp only [zl, zm, zd, partD, List.take, List.drop, Int.reduceBNe, Nat.reduceAdd, zz35, zz36, at_L hga, Nat.reduceAdd, zz37, Int.natCast_nonneg, Nat.reduceAdd, Rp.cs, at_L h15, at_L hga5, at_L hgx5, zz43] <;> exact rfl) ?_
   refine ow_op (by simp only [zo, Int.reduceBNe, Nat.reduceAdd, zz35, zz36, at_L hga, Nat.reduceAdd, zz37, Int.natCast_nonneg, Nat.reduceAdd, Rp.cs, at_L h15, at_L hga5, at_L hgx5, zz43]; exact hrun) ?_
   refine ow_op (by simp only [zl, zm, Int.reduceBNe, Nat.reduceAdd, zz35, zz36, at_L hga, Nat.reduceAdd, zz37, Int.natCast_nonneg, Nat.reduceAdd, Rp.cs, at_L h15, at_L hga5, at_L hgx5, zz43] <;> exact rfl) ?_
   refine ow_op (by simp only [zl, zm, storeD, overlay, snapVs, snaps, zs, zc, zf, List.take, List.drop, Int.reduceBNe, Nat.reduceAdd, zz35, zz36, at_L hga, Nat.reduceAdd, zz37, Int.natCast_nonneg, Nat.reduceAdd, Rp.cs, at_L h15, at_L hga5, at_L hgx5, zz43] <;> exact rfl) ?_
   refine ow_nil ?_
   refine sk_n (by simp only [ze] <;> exact rfl) ?_
   refine cw_seq (cw_region ?_)
   refine ow_me rfl ?_
   refine ow_op (by simp only [zo, Int.reduceBNe, Nat.reduceAdd, zz35, zz36, at_L hga, Nat.reduceAdd, zz37, Int.natCast_nonneg, Nat.reduceAdd, Rp.cs, at_L h15, at_L hga5, at_L hgx5, zz43] <;> exact rfl) ?_
   refine ow_op (by simp only [zo, faddrD_ptr, faddrD_cptr, zm, Int.reduceBNe, Nat.reduceAdd, zz35, zz36, at_L hga, Nat.reduceAdd, zz37, Int.natCast_nonneg, Nat.reduceAdd, Rp.cs, at_L h15, at_L hga5, at_L hgx5, zz43] <;> exact rfl) ?_
   refine ow_op (by simp only [zl, zm, zd, partD, List.take, List.drop, Int.reduceBNe, Nat.reduceAdd, zz35, zz36, at_L hga, Nat.reduceAdd, zz37, Int.natCast_nonneg, Nat.reduceAdd, Rp.cs, at_L h15, at_L hga5, at_L hgx5, zz43] <;> exact rfl) ?_
   refine ow_op (by simp only [zl, zm, Int.reduceBNe, Nat.reduceAdd, zz35, zz36, at_L hga, Nat.reduceAdd, zz37, Int.natCast_nonneg, Nat.reduceAdd, Rp.cs, at_L h15, at_L hga5, at_L hgx5, zz43] <;> exact rfl) ?_
   refine ow_op (by simp only [zl, zm, storeD, overlay, snapVs, snaps, zs, zc, zf, List.take, List.drop, Int.reduceBNe, Nat.reduceAdd, zz35, zz36, at_L hga, Nat.reduceAdd, zz37, Int.natCast_nonneg, Nat.reduceAdd, Rp.cs, at_L h15, at_L hga5, at_L hgx5, zz43] <;> exact rfl) ?_
   refine ow_nil ?_
   refine sk_n (by simp only [ze] <;> exact rfl) ?_
   refine cw_seq (cw_seq (cw_region ?_))
   refine ow_op (by simp only [zo, faddrD_ptr, faddrD_cptr, zm, Int.reduceBNe, Nat.reduceAdd, zz35, zz36, at_L hga, Nat.reduceAdd, zz37, Int.natCast_nonneg, Nat.reduceAdd, Rp.cs, at_L h15, at_L hga5, at_L hgx5, zz43] <;> exact rfl) ?_
   refine ow_op (by simp only [zl, zm, zd, partD, List.take, List.drop, Int.reduceBNe, Nat.reduceAdd, zz35, zz36, at_L hga, Nat.reduceAdd, zz37, Int.natCast_nonneg, Nat.reduceAdd, Rp.cs, at_L h15, at_L hga5, at_L hgx5, zz43] <;> exact rfl) ?_
   refine ow_op (by simp only [zo, binD, zb, Int.reduceEq, Int.reduceToNat, Int.reduceLT, Int.reduceBNe, Nat.reduceAdd, zz35, zz36, at_L hga, Nat.reduceAdd, zz37, Int.natCast_nonneg, Nat.reduceAdd, Rp.cs, at_L h15, at_L hga5, at_L hgx5, zz43] <;> exact rfl) ?_
   refine ow_nil ?_
   refine sk_n (by simp only [ze] <;> exact rfl) ?_
   skip
   refine cw_false (by simp only [opd, zv, Int.reduceBNe, Nat.reduceAdd, zz35, zz36, at_L hga, Nat.reduceAdd, zz37, Int.natCast_nonneg, Nat.reduceAdd, Rp.cs, at_L h15, at_L hga5, at_L hgx5, zz43] <;> rfl) ?_
   refine cw_skip (sk_n rfl (cw_seq (cw_seq (cw_region ?_))))
   refine ow_op (by simp only [zo, faddrD_ptr, faddrD_cptr, zm, Int.reduceBNe, Nat.reduceAdd, zz35, zz36, at_L hga, Nat.reduceAdd, zz37, Int.natCast_nonneg, Nat.reduceAdd, Rp.cs, at_L h15, at_L hga5, at_L hgx5, zz43] <;> exact rfl) ?_
   refine ow_op (by simp only [zl, zm, zd, partD, List.take, List.drop, Int.reduceBNe, Nat.reduceAdd, zz35, zz36, at_L hga, Nat.reduceAdd, zz37, Int.natCast_nonneg, Nat.reduceAdd, Rp.cs, at_L h15, at_L hga5, at_L hgx5, zz43] <;> exact rfl) ?_
   refine ow_op (by simp only [zo, binD, zb, Int.reduceEq, Int.reduceToNat, Int.reduceLT, Int.reduceBNe, Nat.reduceAdd, zz35, zz36, at_L hga, Nat.reduceAdd, zz37, Int.natCast_nonneg, Nat.reduceAdd, Rp.cs, at_L h15, at_L hga5, at_L hgx5, zz43] <;> exact rfl) ?_
   refine ow_op (by simp only [zo, binD, zb, Int.reduceEq, Int.reduceToNat, Int.reduceLT, Int.reduceBNe, Nat.reduceAdd, zz35, zz36, at_L hga, Nat.reduceAdd, zz37, Int.natCast_nonneg, Nat.reduceAdd, Rp.cs, at_L h15, at_L hga5, at_L hgx5, zz43] <;> exact rfl) ?_
   refine ow_nil ?_
   refine sk_n (by simp only [ze] <;> exact rfl) ?_
   skip
   refine cw_true (by simp only [opd, zv, Int.reduceBNe, Nat.reduceAdd, zz35, zz36, at_L hga, Nat.reduceAdd, zz37, Int.natCast_nonneg, Nat.reduceAdd, Rp.cs, at_L h15, at_L hga5, at_L hgx5, zz43] <;> rfl) ?_
   refine cw_seq (cw_region ?_)
   refine ow_me rfl ?_
   refine ow_me rfl ?_
   refine ow_me rfl ?_
   refine ow_op (by simp only [zo, Int.reduceBNe, Nat.reduceAdd, zz35, zz36, at_L hga, Nat.reduceAdd, zz37, Int.natCast_nonneg, Nat.reduceAdd, Rp.cs, at_L h15, at_L hga5, at_L hgx5, zz43]; exact fits_run (by omega) _ hS hl _ _) ?_
   refine ow_ml rfl ?_
   refine ow_op (by simp only [zo, List.getElem?_cons_zero, List.getElem?_cons_succ, Int.reduceBNe, Nat.reduceAdd, zz35, zz36, at_L hga, Nat.reduceAdd, zz37, Int.natCast_nonneg, Nat.reduceAdd, Rp.cs, at_L h15, at_L hga5, at_L hgx5, zz43] <;> exact rfl) ?_
   refine ow_op (by simp only [zo, List.getElem?_cons_zero, List.getElem?_cons_succ, Int.reduceBNe, Nat.reduceAdd, zz35, zz36, at_L hga, Nat.reduceAdd, zz37, Int.natCast_nonneg, Nat.reduceAdd, Rp.cs, at_L h15, at_L hga5, at_L hgx5, zz43] <;> exact rfl) ?_
   refine ow_ml rfl ?_
   refine ow_ml rfl ?_
   refine ow_nil ?_
   refine sk_n (by simp only [ze] <;> exact rfl) ?_
   refine cw_seq (cw_region ?_)
   refine ow_me rfl ?_
   refine ow_ml rfl ?_
   refine ow_know 0 (b := true) (by simp only [opd, zv, Int.reduceBNe, Nat.reduceAdd, zz35, zz36, at_L hga, Nat.reduceAdd, zz37, Int.natCast_nonneg, Nat.reduceAdd, Rp.cs, at_L h15, at_L hga5, at_L hgx5, zz43] <;> rfl) (by simp only [zn] <;> exact rfl) ?_
   refine ow_on rfl ?_
   refine ow_me rfl ?_
   refine ow_on rfl ?_
   refine ow_op (by simp only [zo, unD, Int.reduceBNe, Nat.reduceAdd, zz35, zz36, at_L hga, Nat.reduceAdd, zz37, Int.natCast_nonneg, Nat.reduceAdd, Rp.cs, at_L h15, at_L hga5, at_L hgx5, zz43] <;> exact rfl) ?_
   refine ow_op (by simp only [zo, Int.reduceBNe, Nat.reduceAdd, zz35, zz36, at_L hga, Nat.reduceAdd, zz37, Int.natCast_nonneg, Nat.reduceAdd, Rp.cs, at_L h15, at_L hga5, at_L hgx5, zz43] <;> exact rfl) ?_
   refine ow_nil ?_
   refine sk_n (by simp only [ze] <;> exact rfl) ?_
   skip
   refine cw_false (by simp only [opd, zv, Int.reduceBNe, Nat.reduceAdd, zz35, zz36, at_L hga, Nat.reduceAdd, zz37, Int.natCast_nonneg, Nat.reduceAdd, Rp.cs, at_L h15, at_L hga5, at_L hgx5, zz43] <;> rfl) ?_
   refine cw_seq (cw_region ?_)
   refine ow_op (by simp only [zo, faddrD_ptr, faddrD_cptr, zm, Int.reduceBNe, Nat.reduceAdd, zz35, zz36, at_L hga, Nat.reduceAdd, zz37, Int.natCast_nonneg, Nat.reduceAdd, Rp.cs, at_L h15, at_L hga5, at_L hgx5, zz43] <;> exact rfl) ?_
   refine ow_op (by simp only [zl, zm, zd, partD, List.take, List.drop, Int.reduceBNe, Nat.reduceAdd, zz35, zz36, at_L hga, Nat.reduceAdd, zz37, Int.natCast_nonneg, Nat.reduceAdd, Rp.cs, at_L h15, at_L hga5, at_L hgx5, zz43] <;> exact rfl) ?_
   refine ow_op (by simp only [zo, binD, zb, Int.reduceEq, Int.reduceToNat, Int.reduceLT, Int.reduceBNe, Nat.reduceAdd, zz35, zz36, at_L hga, Nat.reduceAdd, zz37, Int.natCast_nonneg, Nat.reduceAdd, Rp.cs, at_L h15, at_L hga5, at_L hgx5, zz43] <;> exact rfl) ?_
   refine ow_op (by simp only [zo, binD, zb, Int.reduceEq, Int.reduceToNat, Int.reduceLT, Int.reduceBNe, Nat.reduceAdd, zz35, zz36, at_L hga, Nat.reduceAdd, zz37, Int.natCast_nonneg, Nat.reduceAdd, Rp.cs, at_L h15, at_L hga5, at_L hgx5, zz43] <;> exact rfl) ?_
   refine ow_nil ?_
   refine sk_n (by simp only [ze] <;> exact rfl) ?_
   skip
   refine cw_false (by simp only [opd, zv, Int.reduceBNe, Nat.reduceAdd, zz35, zz36, at_L hga, Nat.reduceAdd, zz37, Int.natCast_nonneg, Nat.reduceAdd, Rp.cs, at_L h15, at_L hga5, at_L hgx5, zz43] <;> rfl) ?_
   refine cw_skip (sk_n rfl (cw_seq (cw_region ?_)))
   refine ow_op (by simp only [zl, zm, zd, partD, List.take, List.drop, Int.reduceBNe, Nat.reduceAdd, zz35, zz36, at_L hga, Nat.reduceAdd, zz37, Int.natCast_nonneg, Nat.reduceAdd, Rp.cs, at_L h15, at_L hga5, at_L hgx5, zz43] <;> exact rfl) ?_
   refine ow_op (by simp only [zl, zm, zd, partD, List.take, List.drop, Int.reduceBNe, Nat.reduceAdd, zz35, zz36, at_L hga, Nat.reduceAdd, zz37, Int.natCast_nonneg, Nat.reduceAdd, Rp.cs, at_L h15, at_L hga5, at_L hgx5, zz43] <;> exact rfl) ?_
   refine ow_op (by simp only [zo, Int.reduceBNe, Nat.reduceAdd, zz35, zz36, at_L hga, Nat.reduceAdd, zz37, Int.natCast_nonneg, Nat.reduceAdd, Rp.cs, at_L h15, at_L hga5, at_L hgx5, zz43]; exact same_run (by omega) _ (List.mem_append_left _ (by simp))) ?_
   refine ow_op (by simp only [zo, unD, Int.reduceBNe, Nat.reduceAdd, zz35, zz36, at_L hga, Nat.reduceAdd, zz37, Int.natCast_nonneg, Nat.reduceAdd, Rp.cs, at_L h15, at_L hga5, at_L hgx5, zz43] <;> exact rfl) ?_
   refine ow_ml rfl ?_
   refine ow_know 0 (b := false) (by simp only [opd, zv, Int.reduceBNe, Nat.reduceAdd, zz35, zz36, at_L hga, Nat.reduceAdd, zz37, Int.natCast_nonneg, Nat.reduceAdd, Rp.cs, at_L h15, at_L hga5, at_L hgx5, zz43] <;> rfl) (by simp only [zn] <;> exact rfl) ?_
   refine ow_on rfl ?_
   refine ow_me rfl ?_
   refine ow_on rfl ?_
   refine ow_op (by simp only [zo, Int.reduceBNe, Nat.reduceAdd, zz35, zz36, at_L hga, Nat.reduceAdd, zz37, Int.natCast_nonneg, Nat.reduceAdd, Rp.cs, at_L h15, at_L hga5, at_L hgx5, zz43] <;> exact rfl) ?_
   refine ow_on rfl ?_
   refine ow_op (by simp only [zo, faddrD_ptr, faddrD_cptr, zm, Int.reduceBNe, Nat.reduceAdd, zz35, zz36, at_L hga, Nat.reduceAdd, zz37, Int.natCast_nonneg, Nat.reduceAdd, Rp.cs, at_L h15, at_L hga5, at_L hgx5, zz43] <;> exact rfl) ?_
   refine ow_on rfl ?_
   refine ow_op (by simp only [zl, zm, zd, partD, List.take, List.drop, Int.reduceBNe, Nat.reduceAdd, zz35, zz36, at_L hga, Nat.reduceAdd, zz37, Int.natCast_nonneg, Nat.reduceAdd, Rp.cs, at_L h15, at_L hga5, at_L hgx5, zz43] <;> exact rfl) ?_
   refine ow_on rfl ?_
   refine ow_me rfl ?_
   refine ow_on rfl ?_
   refine ow_op (by simp only [zo, binD, zb, Int.reduceEq, Int.reduceToNat, Int.reduceLT, Int.reduceBNe, Nat.reduceAdd, zz35, zz36, at_L hga, Nat.reduceAdd, zz37, Int.natCast_nonneg, Nat.reduceAdd, Rp.cs, at_L h15, at_L hga5, at_L hgx5, zz43] <;> exact rfl) ?_
   refine ow_on rfl ?_
   refine ow_op (by simp only [zo, binD, zb, Int.reduceEq, Int.reduceToNat, Int.reduceLT, Int.reduceBNe, Nat.reduceAdd, zz35, zz36, at_L hga, Nat.reduceAdd, zz37, Int.natCast_nonneg, Nat.reduceAdd, Rp.cs, at_L h15, at_L hga5, at_L hgx5, zz43] <;> exact rfl) ?_
   refine ow_op (by simp only [zo, Int.reduceBNe, Nat.reduceAdd, zz35, zz36, at_L hga, Nat.reduceAdd, zz37, Int.natCast_nonneg, Nat.reduceAdd, Rp.cs, at_L h15, at_L hga5, at_L hgx5, zz43] <;> exact rfl) ?_
   refine ow_nil ?_
   refine sk_n (by simp only [ze] <;> exact rfl) ?_
   skip
   refine cw_false (by simp only [opd, zv, Int.reduceBNe, Nat.reduceAdd, zz35, zz36, at_L hga, Nat.reduceAdd, zz37, Int.natCast_nonneg, Nat.reduceAdd, Rp.cs, at_L h15, at_L hga5, at_L hgx5, zz43] <;> rfl) ?_
   refine cw_skip (bk_n (sk_n rfl (cw_region ?_)))
   refine ow_me rfl ?_
   refine ow_op (by simp only [zo, binD, zb, Int.reduceEq, Int.reduceToNat, Int.reduceLT, Int.reduceBNe, Nat.reduceAdd, zz35, zz36, at_L hga, Nat.reduceAdd, zz37, Int.natCast_nonneg, Nat.reduceAdd, Rp.cs, at_L h15, at_L hga5, at_L hgx5, zz43] <;> exact rfl) ?_
   refine ow_ml rfl ?_
   refine ow_nil ?_
   refine lk_n (by simp only [ze] <;> exact rfl) ?_
   exact ⟨acts.length - (i + 1), by omega, i + 1, _, _, _, _, _, _, _, _, _, _, _, _, _, _, _, _, _, _, _, _, _, _, _, _, _, _, _, _, _, _, _, _, _, _, _, _, _, _, _, _, rfl, rfl, by omega, rfl, hL5.push _, by omega, by omega⟩
  ·
   have hV := fileV_at (acts[i].vb % 8) (by omega)
   have hdis := verb_dis (acts[i].vb % 8) (by omega) h7
   have hwm := wrap_nat many (by omega)
   have hol : o.length = l.length := hok.1
   have hq3 : (((acts[i].how % 4 : Nat) : Int) == 3) = true := by rw [h3]; rfl
   have hrn : rpN (acts[i].how % 4) = ⟨true, ⟨#[]⟩, 6⟩ := by rw [h3]; rfl
   simp only [hrn] at hix hL4
   subst hact
   obtain ⟨iq, hiq, hfq, hsec⟩ := fit_lt hok (nameA acts[i].fi) mv (of_decide_eq_true hs)
   obtain ⟨H5, dx', g', lo5, hrun, hL5, hlen5, hk5⟩ := doH (d := d) (by omega) hL4 (by omega) (by omega) (.of 12 (fiRows theFiles) none) (by decide) hU hG (by omega) hQ hV hMO hiq (by rw [hsf]; exact hfq) 0
   rw [hsec hiq] at hrun hL5
   rw [Nat.zero_min] at hrun
   have hone5 := hL5.h1
   simp only [drO] at hone5
   have ha5 := hk5 _ _ (hseta _) (by omega) (by omega) rfl
   have hx5 := hk5 _ _ (hsetx _) (by omega) (by omega) rfl
   have h15 := lt_of hone5
   have hga5 := lt_of ha5
   have hgx5 := lt_of hx5
   have hmxq : max (iq : Int) 0 = (iq : Int) := by omega
   have hdq : decide ((iq : Int) ≥ 0) = true := decide_eq_true (by omega)
   have hL6 := hL5.push [⟨38, 5, [rpS (secF iq)], 0, 0, false⟩, ⟨38, 5, [rpS (secF iq)], 0, 0, false⟩]
   obtain ⟨px', H6, k6, hap, hP6, hg6, hlen6, hkeep6⟩ := hL6.hP.app 16 (new := [[.str (secF iq)]]) (c := some 1) rfl (by rw [strRows_len]; simp; omega)
   have hal : appLow g2 0 = 0 := by have := appLow_le g2 0; omega
   have hap0 := hap 0
   rw [hal] at hap0
   have hone6 := hkeep6 _ _ hL6.h1 (hL6.hP.ne hL6.h1 (by simp [drO]))
   have hr5 : (H5 ++ [⟨38, 5, [rpS (secF iq)], 0, 0, false⟩, ⟨38, 5, [rpS (secF iq)], 0, 0, false⟩])[H5.length]? = some ⟨38, 5, [rpS (secF iq)], 0, 0, false⟩ := by rw [at_app0]; rfl
   have hw5 : (H5 ++ [⟨38, 5, [rpS (secF iq)], 0, 0, false⟩, ⟨38, 5, [rpS (secF iq)], 0, 0, false⟩])[H5.length + 1]? = some ⟨38, 5, [rpS (secF iq)], 0, 0, false⟩ := by rw [at_app]; rfl
   have hr6 := hkeep6 _ _ hr5 (hL6.hP.ne hr5 (by simp))
   have hw6 := hkeep6 _ _ hw5 (hL6.hP.ne hw5 (by simp))
   have hL7 : LS H6 (.sl 12 (fiRows theFiles) none) (appY 3 (useRows l)) (clipD (appY 3 (ruRows o))) (nameA acts[i].fi) (acts[i].mo % 5) (⟨true, ⟨#[]⟩, 6⟩ : Rp) (many + 1) true (dn ++ [secF iq]) (dn ++ [secF iq]) dx' g' px' (some k6) :=
    ⟨hone6, hkeep6 _ _ hL6.h5 (hL6.hP.ne hL6.h5 (by simp [dkO])), hL6.hA.keep (fun k ob hk hob => hkeep6 k ob hob (hL6.hne k hk)), (by rw [strRows_snoc]; exact hP6), (by
     intro k hk hk6
     simp only [Option.some.injEq] at hk6
     subst hk6
     rcases hg6 with e | ⟨_, e⟩
     ·
      exact hL6.hne _ hk e
     ·
      have := hL6.hA.lt _ hk; omega), (by have := hL6.hlen; omega)⟩
   simp only [drO] at hone6
   simp only [rpS] at hrun hap0 hr6 hw6
   have zz44 := And.intro hone (And.intro ha3 (And.intro hx3 (And.intro hset1 (And.intro hsetx (And.intro hseta (And.intro hsetaL (And.intro hsetxL (And.intro hset1L (And.intro @List.set_set.{0} (And.intro @List.length_set.{0} (And.intro hix (And.intro hq4 (And.intro @Int.toNat_natCast (And.intro @at_S0 (And.intro @at_S (And.intro @set_S0 (And.intro @set_S (And.intro hdis (And.intro @beq_self_eq_true.{0} (And.intro hfq (And.intro hmxq (And.intro hdq (And.intro @bne_self_eq_false.{0} (And.intro @Bool.not_true (And.intro hQ.isCell (And.intro hQ.val (And.intro hQ.cells (And.intro hone5 (And.intro ha5 (And.intro hx5 (And.intro @at_app (And.intro @at_app0 (And.intro hq3 (And.intro hwm (And.intro @List.getElem?_cons_zero.{0} (And.intro @List.getElem?_cons_succ.{0} (And.intro hone6 (And.intro hr6 (hw6)))))))))))))))))))))))))))))))))))))))
   refine cw_seq (cw_region ?_)
   refine ow_me rfl ?_
   refine ow_op (by simp only [zo, fillD, overlay, zc, List.take, List.drop, Nat.reduceAdd, Nat.reduceLeDiff, Nat.reduceBEq, zm, Int.reduceBNe, Nat.reduceAdd, zz35, zz36, at_L hga, Nat.reduceAdd, zz37, Int.natCast_nonneg, Nat.reduceAdd, Rp.cs, at_L h15, at_L hga5, at_L hgx5, zz44] <;> exact rfl) ?_
   refine ow_op (by simp only [zo, fillD, overlay, zc, List.take, List.drop, Nat.reduceAdd, Nat.reduceLeDiff, Nat.reduceBEq, zm, Int.reduceBNe, Nat.reduceAdd, zz35, zz36, at_L hga, Nat.reduceAdd, zz37, Int.natCast_nonneg, Nat.reduceAdd, Rp.cs, at_L h15, at_L hga5, at_L hgx5, zz44] <;> exact rfl) ?_
   refine ow_op (by simp only [zo, fillD, overlay, zc, List.take, List.drop, Nat.reduceAdd, Nat.reduceLeDiff, Nat.reduceBEq, zm, Int.reduceBNe, Nat.reduceAdd, zz35, zz36, at_L hga, Nat.reduceAdd, zz37, Int.natCast_nonneg, Nat.reduceAdd, Rp.cs, at_L h15, at_L hga5, at_L hgx5, zz44] <;> exact rfl) ?_
   refine ow_op (by simp only [zo, fillD, overlay, zc, List.take, List.drop, Nat.reduceAdd, Nat.reduceLeDiff, Nat.reduceBEq, zm, Int.reduceBNe, Nat.reduceAdd, zz35, zz36, at_L hga, Nat.reduceAdd, zz37, Int.natCast_nonneg, Nat.reduceAdd, Rp.cs, at_L h15, at_L hga5, at_L hgx5, zz44] <;> exact rfl) ?_
   refine ow_op (by simp only [zl, zm, fillRows, List.replicate, snapVs, snaps, zs, zc, zf, Int.reduceBNe, Nat.reduceAdd, zz35, zz36, at_L hga, Nat.reduceAdd, zz37, Int.natCast_nonneg, Nat.reduceAdd, Rp.cs, at_L h15, at_L hga5, at_L hgx5, zz44] <;> exact rfl) ?_
   refine ow_op (by simp only [zo, faddrD_ptr, faddrD_cptr, zm, Int.reduceBNe, Nat.reduceAdd, zz35, zz36, at_L hga, Nat.reduceAdd, zz37, Int.natCast_nonneg, Nat.reduceAdd, Rp.cs, at_L h15, at_L hga5, at_L hgx5, zz44] <;> exact rfl) ?_
   refine ow_op (by simp only [zl, zm, zd, partD, List.take, List.drop, Int.reduceBNe, Nat.reduceAdd, zz35, zz36, at_L hga, Nat.reduceAdd, zz37, Int.natCast_nonneg, Nat.reduceAdd, Rp.cs, at_L h15, at_L hga5, at_L hgx5, zz44] <;> exact rfl) ?_
   refine ow_op (by simp only [zo, binD, zb, Int.reduceEq, Int.reduceToNat, Int.reduceLT, Int.reduceBNe, Nat.reduceAdd, zz35, zz36, at_L hga, Nat.reduceAdd, zz37, Int.natCast_nonneg, Nat.reduceAdd, Rp.cs, at_L h15, at_L hga5, at_L hgx5, zz44] <;> exact rfl) ?_
   refine ow_op (by simp only [zl, zm, iaddrD_sl, iaddrD_msl, Int.toNat_natCast, Int.toNat_zero, List.getElem?_map, Option.map_some, Int.le_refl, Int.reduceBNe, Nat.reduceAdd, zz35, zz36, at_L hga, Nat.reduceAdd, zz37, Int.natCast_nonneg, Nat.reduceAdd, Rp.cs, at_L h15, at_L hga5, at_L hgx5, zz44] <;> exact rfl) ?_
   refine ow_op (by simp only [zl, zm, zd, partD, List.take, List.drop, Int.reduceBNe, Nat.reduceAdd, zz35, zz36, at_L hga, Nat.reduceAdd, zz37, Int.natCast_nonneg, Nat.reduceAdd, Rp.cs, at_L h15, at_L hga5, at_L hgx5, zz44] <;> exact rfl) ?_
   refine ow_op (by simp only [zo, Int.reduceBNe, Nat.reduceAdd, zz35, zz36, at_L hga, Nat.reduceAdd, zz37, Int.natCast_nonneg, Nat.reduceAdd, Rp.cs, at_L h15, at_L hga5, at_L hgx5, zz44] <;> exact rfl) ?_
   refine ow_op (by simp only [zo, faddrD_ptr, faddrD_cptr, zm, Int.reduceBNe, Nat.reduceAdd, zz35, zz36, at_L hga, Nat.reduceAdd, zz37, Int.natCast_nonneg, Nat.reduceAdd, Rp.cs, at_L h15, at_L hga5, at_L hgx5, zz44] <;> exact rfl) ?_
   refine ow_op (by simp only [zl, zm, storeD, overlay, snapVs, snaps, zs, zc, zf, List.take, List.drop, Int.reduceBNe, Nat.reduceAdd, zz35, zz36, at_L hga, Nat.reduceAdd, zz37, Int.natCast_nonneg, Nat.reduceAdd, Rp.cs, at_L h15, at_L hga5, at_L hgx5, zz44] <;> exact rfl) ?_
   refine ow_nil ?_
   refine sk_n (by simp only [ze] <;> exact rfl) ?_
   refine cw_seq (cw_region ?_)
   refine ow_me rfl ?_
   refine ow_op (by simp only [zo, Int.reduceBNe, Nat.reduceAdd, zz35, zz36, at_L hga, Nat.reduceAdd, zz37, Int.natCast_nonneg, Nat.reduceAdd, Rp.cs, at_L h15, at_L hga5, at_L hgx5, zz44] <;> exact rfl) ?_
   refine ow_op (by simp only [zo, faddrD_ptr, faddrD_cptr, zm, Int.reduceBNe, Nat.reduceAdd, zz35, zz36, at_L hga, Nat.reduceAdd, zz37, Int.natCast_nonneg, Nat.reduceAdd, Rp.cs, at_L h15, at_L hga5, at_L hgx5, zz44] <;> exact rfl) ?_
   refine ow_op (by simp only [zl, zm, zd, partD, List.take, List.drop, Int.reduceBNe, Nat.reduceAdd, zz35, zz36, at_L hga, Nat.reduceAdd, zz37, Int.natCast_nonneg, Nat.reduceAdd, Rp.cs, at_L h15, at_L hga5, at_L hgx5, zz44] <;> exact rfl) ?_
   refine ow_ml rfl ?_
   refine ow_nil ?_
   refine sk_n (by simp only [ze] <;> exact rfl) ?_
   refine cw_seq (cw_region ?_)
   refine ow_me rfl ?_
   refine ow_op (by simp only [zl, zm, zd, partD, List.take, List.drop, Int.reduceBNe, Nat.reduceAdd, zz35, zz36, at_L hga, Nat.reduceAdd, zz37, Int.natCast_nonneg, Nat.reduceAdd, Rp.cs, at_L h15, at_L hga5, at_L hgx5, zz44] <;> exact rfl) ?_
   refine ow_op (by simp only [zo, Int.reduceBNe, Nat.reduceAdd, zz35, zz36, at_L hga, Nat.reduceAdd, zz37, Int.natCast_nonneg, Nat.reduceAdd, Rp.cs, at_L h15, at_L hga5, at_L hgx5, zz44]; exact hrun) ?_
   refine ow_op (by simp only [zl, zm, Int.reduceBNe, Nat.reduceAdd, zz35, zz36, at_L hga, Nat.reduceAdd, zz37, Int.natCast_nonneg, Nat.reduceAdd, Rp.cs, at_L h15, at_L hga5, at_L hgx5, zz44] <;> exact rfl) ?_
   refine ow_op (by simp only [zl, zm, storeD, overlay, snapVs, snaps, zs, zc, zf, List.take, List.drop, Int.reduceBNe, Nat.reduceAdd, zz35, zz36, at_L hga, Nat.reduceAdd, zz37, Int.natCast_nonneg, Nat.reduceAdd, Rp.cs, at_L h15, at_L hga5, at_L hgx5, zz44] <;> exact rfl) ?_
   refine ow_nil ?_
   refine sk_n (by simp only [ze] <;> exact rfl) ?_
   refine cw_seq (cw_region ?_)
   refine ow_me rfl ?_
   refine ow_op (by simp only [zo, Int.reduceBNe, Nat.reduceAdd, zz35, zz36, at_L hga, Nat.reduceAdd, zz37, Int.natCast_nonneg, Nat.reduceAdd, Rp.cs, at_L h15, at_L hga5, at_L hgx5, zz44] <;> exact rfl) ?_
   refine ow_op (by simp only [zo, faddrD_ptr, faddrD_cptr, zm, Int.reduceBNe, Nat.reduceAdd, zz35, zz36, at_L hga, Nat.reduceAdd, zz37, Int.natCast_nonneg, Nat.reduceAdd, Rp.cs, at_L h15, at_L hga5, at_L hgx5, zz44] <;> exact rfl) ?_
   refine ow_op (by simp only [zl, zm, zd, partD, List.take, List.drop, Int.reduceBNe, Nat.reduceAdd, zz35, zz36, at_L hga, Nat.reduceAdd, zz37, Int.natCast_nonneg, Nat.reduceAdd, Rp.cs, at_L h15, at_L hga5, at_L hgx5, zz44] <;> exact rfl) ?_
   refine ow_op (by simp only [zl, zm, Int.reduceBNe, Nat.reduceAdd, zz35, zz36, at_L hga, Nat.reduceAdd, zz37, Int.natCast_nonneg, Nat.reduceAdd, Rp.cs, at_L h15, at_L hga5, at_L hgx5, zz44] <;> exact rfl) ?_
   refine ow_op (by simp only [zl, zm, storeD, overlay, snapVs, snaps, zs, zc, zf, List.take, List.drop, Int.reduceBNe, Nat.reduceAdd, zz35, zz36, at_L hga, Nat.reduceAdd, zz37, Int.natCast_nonneg, Nat.reduceAdd, Rp.cs, at_L h15, at_L hga5, at_L hgx5, zz44] <;> exact rfl) ?_
   refine ow_nil ?_
   refine sk_n (by simp only [ze] <;> exact rfl) ?_
   refine cw_seq (cw_seq (cw_region ?_))
   refine ow_op (by simp only [zo, faddrD_ptr, faddrD_cptr, zm, Int.reduceBNe, Nat.reduceAdd, zz35, zz36, at_L hga, Nat.reduceAdd, zz37, Int.natCast_nonneg, Nat.reduceAdd, Rp.cs, at_L h15, at_L hga5, at_L hgx5, zz44] <;> exact rfl) ?_
   refine ow_op (by simp only [zl, zm, zd, partD, List.take, List.drop, Int.reduceBNe, Nat.reduceAdd, zz35, zz36, at_L hga, Nat.reduceAdd, zz37, Int.natCast_nonneg, Nat.reduceAdd, Rp.cs, at_L h15, at_L hga5, at_L hgx5, zz44] <;> exact rfl) ?_
   refine ow_op (by simp only [zo, binD, zb, Int.reduceEq, Int.reduceToNat, Int.reduceLT, Int.reduceBNe, Nat.reduceAdd, zz35, zz36, at_L hga, Nat.reduceAdd, zz37, Int.natCast_nonneg, Nat.reduceAdd, Rp.cs, at_L h15, at_L hga5, at_L hgx5, zz44] <;> exact rfl) ?_
   refine ow_nil ?_
   refine sk_n (by simp only [ze] <;> exact rfl) ?_
   skip
   refine cw_false (by simp only [opd, zv, Int.reduceBNe, Nat.reduceAdd, zz35, zz36, at_L hga, Nat.reduceAdd, zz37, Int.natCast_nonneg, Nat.reduceAdd, Rp.cs, at_L h15, at_L hga5, at_L hgx5, zz44] <;> rfl) ?_
   refine cw_skip (sk_n rfl (cw_seq (cw_seq (cw_region ?_))))
   refine ow_op (by simp only [zo, faddrD_ptr, faddrD_cptr, zm, Int.reduceBNe, Nat.reduceAdd, zz35, zz36, at_L hga, Nat.reduceAdd, zz37, Int.natCast_nonneg, Nat.reduceAdd, Rp.cs, at_L h15, at_L hga5, at_L hgx5, zz44] <;> exact rfl) ?_
   refine ow_op (by simp only [zl, zm, zd, partD, List.take, List.drop, Int.reduceBNe, Nat.reduceAdd, zz35, zz36, at_L hga, Nat.reduceAdd, zz37, Int.natCast_nonneg, Nat.reduceAdd, Rp.cs, at_L h15, at_L hga5, at_L hgx5, zz44] <;> exact rfl) ?_
   refine ow_op (by simp only [zo, binD, zb, Int.reduceEq, Int.reduceToNat, Int.reduceLT, Int.reduceBNe, Nat.reduceAdd, zz35, zz36, at_L hga, Nat.reduceAdd, zz37, Int.natCast_nonneg, Nat.reduceAdd, Rp.cs, at_L h15, at_L hga5, at_L hgx5, zz44] <;> exact rfl) ?_
   refine ow_op (by simp only [zo, binD, zb, Int.reduceEq, Int.reduceToNat, Int.reduceLT, Int.reduceBNe, Nat.reduceAdd, zz35, zz36, at_L hga, Nat.reduceAdd, zz37, Int.natCast_nonneg, Nat.reduceAdd, Rp.cs, at_L h15, at_L hga5, at_L hgx5, zz44] <;> exact rfl) ?_
   refine ow_nil ?_
   refine sk_n (by simp only [ze] <;> exact rfl) ?_
   skip
   refine cw_true (by simp only [opd, zv, Int.reduceBNe, Nat.reduceAdd, zz35, zz36, at_L hga, Nat.reduceAdd, zz37, Int.natCast_nonneg, Nat.reduceAdd, Rp.cs, at_L h15, at_L hga5, at_L hgx5, zz44] <;> rfl) ?_
   refine cw_seq (cw_region ?_)
   refine ow_me rfl ?_
   refine ow_me rfl ?_
   refine ow_me rfl ?_
   refine ow_op (by simp only [zo, Int.reduceBNe, Nat.reduceAdd, zz35, zz36, at_L hga, Nat.reduceAdd, zz37, Int.natCast_nonneg, Nat.reduceAdd, Rp.cs, at_L h15, at_L hga5, at_L hgx5, zz44]; exact fits_run (by omega) _ hS hl _ _) ?_
   refine ow_ml rfl ?_
   refine ow_op (by simp only [zo, List.getElem?_cons_zero, List.getElem?_cons_succ, Int.reduceBNe, Nat.reduceAdd, zz35, zz36, at_L hga, Nat.reduceAdd, zz37, Int.natCast_nonneg, Nat.reduceAdd, Rp.cs, at_L h15, at_L hga5, at_L hgx5, zz44] <;> exact rfl) ?_
   refine ow_op (by simp only [zo, List.getElem?_cons_zero, List.getElem?_cons_succ, Int.reduceBNe, Nat.reduceAdd, zz35, zz36, at_L hga, Nat.reduceAdd, zz37, Int.natCast_nonneg, Nat.reduceAdd, Rp.cs, at_L h15, at_L hga5, at_L hgx5, zz44] <;> exact rfl) ?_
   refine ow_ml rfl ?_
   refine ow_ml rfl ?_
   refine ow_nil ?_
   refine sk_n (by simp only [ze] <;> exact rfl) ?_
   refine cw_seq (cw_region ?_)
   refine ow_me rfl ?_
   refine ow_ml rfl ?_
   refine ow_know 0 (b := true) (by simp only [opd, zv, Int.reduceBNe, Nat.reduceAdd, zz35, zz36, at_L hga, Nat.reduceAdd, zz37, Int.natCast_nonneg, Nat.reduceAdd, Rp.cs, at_L h15, at_L hga5, at_L hgx5, zz44] <;> rfl) (by simp only [zn] <;> exact rfl) ?_
   refine ow_on rfl ?_
   refine ow_me rfl ?_
   refine ow_on rfl ?_
   refine ow_op (by simp only [zo, unD, Int.reduceBNe, Nat.reduceAdd, zz35, zz36, at_L hga, Nat.reduceAdd, zz37, Int.natCast_nonneg, Nat.reduceAdd, Rp.cs, at_L h15, at_L hga5, at_L hgx5, zz44] <;> exact rfl) ?_
   refine ow_op (by simp only [zo, Int.reduceBNe, Nat.reduceAdd, zz35, zz36, at_L hga, Nat.reduceAdd, zz37, Int.natCast_nonneg, Nat.reduceAdd, Rp.cs, at_L h15, at_L hga5, at_L hgx5, zz44] <;> exact rfl) ?_
   refine ow_nil ?_
   refine sk_n (by simp only [ze] <;> exact rfl) ?_
   skip
   refine cw_true (by simp only [opd, zv, Int.reduceBNe, Nat.reduceAdd, zz35, zz36, at_L hga, Nat.reduceAdd, zz37, Int.natCast_nonneg, Nat.reduceAdd, Rp.cs, at_L h15, at_L hga5, at_L hgx5, zz44] <;> rfl) ?_
   refine cw_seq (cw_region ?_)
   refine ow_me rfl ?_
   refine ow_op (by simp only [zo, Int.reduceBNe, Nat.reduceAdd, zz35, zz36, at_L hga, Nat.reduceAdd, zz37, Int.natCast_nonneg, Nat.reduceAdd, Rp.cs, at_L h15, at_L hga5, at_L hgx5, zz44]; exact section_run (by omega) _ iq (by omega)) ?_
   refine ow_me rfl ?_
   refine ow_op (by simp only [zo, Int.reduceBNe, Nat.reduceAdd, zz35, zz36, at_L hga, Nat.reduceAdd, zz37, Int.natCast_nonneg, Nat.reduceAdd, Rp.cs, at_L h15, at_L hga5, at_L hgx5, zz44]; exact section_run (by omega) _ iq (by omega)) ?_
   refine ow_op (by simp only [zl, zm, fillRows, List.replicate, snapVs, snaps, zs, zc, zf, Int.reduceBNe, Nat.reduceAdd, zz35, zz36, at_L hga, Nat.reduceAdd, zz37, Int.natCast_nonneg, Nat.reduceAdd, Rp.cs, at_L h15, at_L hga5, at_L hgx5, zz44] <;> exact rfl) ?_
   refine ow_op (by simp only [zo, fillD, overlay, zc, List.take, List.drop, Nat.reduceAdd, Nat.reduceLeDiff, Nat.reduceBEq, zm, Int.reduceBNe, Nat.reduceAdd, zz35, zz36, at_L hga, Nat.reduceAdd, zz37, Int.natCast_nonneg, Nat.reduceAdd, Rp.cs, at_L h15, at_L hga5, at_L hgx5, zz44] <;> exact rfl) ?_
   refine ow_op (by simp only [zl, zm, storeD, overlay, snapVs, snaps, zs, zc, zf, List.take, List.drop, Int.reduceBNe, Nat.reduceAdd, zz35, zz36, at_L hga, Nat.reduceAdd, zz37, Int.natCast_nonneg, Nat.reduceAdd, Rp.cs, at_L h15, at_L hga5, at_L hgx5, zz44] <;> exact rfl) ?_
   refine ow_nil ?_
   refine sk_n (by simp only [ze] <;> exact rfl) ?_
   refine cw_seq (cw_region ?_)
   refine ow_me rfl ?_
   refine ow_me rfl ?_
   refine ow_op (by simp only [zo, Int.reduceBNe, Nat.reduceAdd, zz35, zz36, at_L hga, Nat.reduceAdd, zz37, Int.natCast_nonneg, Nat.reduceAdd, Rp.cs, at_L h15, at_L hga5, at_L hgx5, zz44]; exact section_run (by omega) _ iq (by omega)) ?_
   refine ow_op (by simp only [zl, zm, fillRows, List.replicate, snapVs, snaps, zs, zc, zf, Int.reduceBNe, Nat.reduceAdd, zz35, zz36, at_L hga, Nat.reduceAdd, zz37, Int.natCast_nonneg, Nat.reduceAdd, Rp.cs, at_L h15, at_L hga5, at_L hgx5, zz44] <;> exact rfl) ?_
   refine ow_op (by simp only [opd, zv, exOp, aop, LOp.loud, lop, if_true]; exact hap0) ?_
   refine ow_ml rfl ?_
   refine ow_nil ?_
   refine sk_n (by simp only [ze] <;> exact rfl) ?_
   refine cw_region ?_
   refine ow_mc ?_
   refine ow_nil ?_
   refine sk_n (by simp only [ze] <;> exact rfl) ?_
   refine cw_seq (cw_region ?_)
   refine ow_op (by simp only [zl, zm, zd, partD, List.take, List.drop, Int.reduceBNe, Nat.reduceAdd, zz35, zz36, at_L hga, Nat.reduceAdd, zz37, Int.natCast_nonneg, Nat.reduceAdd, Rp.cs, at_L h15, at_L hga5, at_L hgx5, zz44] <;> exact rfl) ?_
   refine ow_op (by simp only [zl, zm, zd, partD, List.take, List.drop, Int.reduceBNe, Nat.reduceAdd, zz35, zz36, at_L hga, Nat.reduceAdd, zz37, Int.natCast_nonneg, Nat.reduceAdd, Rp.cs, at_L h15, at_L hga5, at_L hgx5, zz44] <;> exact rfl) ?_
   refine ow_op (by simp only [zo, Int.reduceBNe, Nat.reduceAdd, zz35, zz36, at_L hga, Nat.reduceAdd, zz37, Int.natCast_nonneg, Nat.reduceAdd, Rp.cs, at_L h15, at_L hga5, at_L hgx5, zz44]; exact same_run (by omega) _ (rpS_in iq (by omega))) ?_
   refine ow_op (by simp only [zo, unD, Int.reduceBNe, Nat.reduceAdd, zz35, zz36, at_L hga, Nat.reduceAdd, zz37, Int.natCast_nonneg, Nat.reduceAdd, Rp.cs, at_L h15, at_L hga5, at_L hgx5, zz44] <;> exact rfl) ?_
   refine ow_ml rfl ?_
   refine ow_know 0 (b := false) (by simp only [opd, zv, Int.reduceBNe, Nat.reduceAdd, zz35, zz36, at_L hga, Nat.reduceAdd, zz37, Int.natCast_nonneg, Nat.reduceAdd, Rp.cs, at_L h15, at_L hga5, at_L hgx5, zz44] <;> rfl) (by simp only [zn] <;> exact rfl) ?_
   refine ow_on rfl ?_
   refine ow_me rfl ?_
   refine ow_on rfl ?_
   refine ow_op (by simp only [zo, Int.reduceBNe, Nat.reduceAdd, zz35, zz36, at_L hga, Nat.reduceAdd, zz37, Int.natCast_nonneg, Nat.reduceAdd, Rp.cs, at_L h15, at_L hga5, at_L hgx5, zz44] <;> exact rfl) ?_
   refine ow_on rfl ?_
   refine ow_op (by simp only [zo, faddrD_ptr, faddrD_cptr, zm, Int.reduceBNe, Nat.reduceAdd, zz35, zz36, at_L hga, Nat.reduceAdd, zz37, Int.natCast_nonneg, Nat.reduceAdd, Rp.cs, at_L h15, at_L hga5, at_L hgx5, zz44] <;> exact rfl) ?_
   refine ow_on rfl ?_
   refine ow_op (by simp only [zl, zm, zd, partD, List.take, List.drop, Int.reduceBNe, Nat.reduceAdd, zz35, zz36, at_L hga, Nat.reduceAdd, zz37, Int.natCast_nonneg, Nat.reduceAdd, Rp.cs, at_L h15, at_L hga5, at_L hgx5, zz44] <;> exact rfl) ?_
   refine ow_on rfl ?_
   refine ow_me rfl ?_
   refine ow_on rfl ?_
   refine ow_op (by simp only [zo, binD, zb, Int.reduceEq, Int.reduceToNat, Int.reduceLT, Int.reduceBNe, Nat.reduceAdd, zz35, zz36, at_L hga, Nat.reduceAdd, zz37, Int.natCast_nonneg, Nat.reduceAdd, Rp.cs, at_L h15, at_L hga5, at_L hgx5, zz44] <;> exact rfl) ?_
   refine ow_on rfl ?_
   refine ow_op (by simp only [zo, binD, zb, Int.reduceEq, Int.reduceToNat, Int.reduceLT, Int.reduceBNe, Nat.reduceAdd, zz35, zz36, at_L hga, Nat.reduceAdd, zz37, Int.natCast_nonneg, Nat.reduceAdd, Rp.cs, at_L h15, at_L hga5, at_L hgx5, zz44] <;> exact rfl) ?_
   refine ow_op (by simp only [zo, Int.reduceBNe, Nat.reduceAdd, zz35, zz36, at_L hga, Nat.reduceAdd, zz37, Int.natCast_nonneg, Nat.reduceAdd, Rp.cs, at_L h15, at_L hga5, at_L hgx5, zz44] <;> exact rfl) ?_
   refine ow_nil ?_
   refine sk_n (by simp only [ze] <;> exact rfl) ?_
   skip
   refine cw_false (by simp only [opd, zv, Int.reduceBNe, Nat.reduceAdd, zz35, zz36, at_L hga, Nat.reduceAdd, zz37, Int.natCast_nonneg, Nat.reduceAdd, Rp.cs, at_L h15, at_L hga5, at_L hgx5, zz44] <;> rfl) ?_
   refine cw_skip (bk_n (sk_n rfl (cw_region ?_)))
   refine ow_me rfl ?_
   refine ow_op (by simp only [zo, binD, zb, Int.reduceEq, Int.reduceToNat, Int.reduceLT, Int.reduceBNe, Nat.reduceAdd, zz35, zz36, at_L hga, Nat.reduceAdd, zz37, Int.natCast_nonneg, Nat.reduceAdd, Rp.cs, at_L h15, at_L hga5, at_L hgx5, zz44] <;> exact rfl) ?_
   refine ow_ml rfl ?_
   refine ow_nil ?_
   refine lk_n (by simp only [ze] <;> exact rfl) ?_
   exact ⟨acts.length - (i + 1), by omega, i + 1, _, _, _, _, _, _, _, _, _, _, _, _, _, _, _, _, _, _, _, _, _, _, _, _, _, _, _, _, _, _, _, _, _, _, _, _, _, _, _, _, rfl, rfl, by omega, rfl, hL7, by omega, by simp only [List.length_append, List.length_cons, List.length_nil]; omega⟩
 ·
  have hq := (appY_S 1 (strRows dn)).clip
  have hcap := (appY_S 1 (strRows dn)).cap_clip
  have hpl := hL.hP.at.len
  have zz45 := And.intro hq.len (And.intro @strRows_len (And.intro hcap (And.intro hpl (@bne_self_eq_false.{0}))))
  refine cw_exit (sk_e (lk_e (bk_e (sk_n rfl (cw_seq (cw_region ?_))))))
  refine ow_me rfl ?_
  refine ow_op (by simp only [zo, Int.reduceBNe, Nat.reduceAdd, zz35, zz45]; exact perf_run (by omega) hL.h5 hL.hA.at (by omega) _) ?_
  refine ow_ml rfl ?_
  refine ow_nil ?_
  refine sk_n (by simp only [ze] <;> exact rfl) ?_
  refine cw_seq (cw_seq (cw_region ?_))
  refine ow_me rfl ?_
  refine ow_op (by simp only [zo, lenD_str, lenD_nils, lenD_sl, lenD_msl, Int.reduceBNe, Nat.reduceAdd, zz35, zz45] <;> exact rfl) ?_
  refine ow_me rfl ?_
  refine ow_op (by simp only [zo, lenD_str, lenD_nils, lenD_sl, lenD_msl, Int.reduceBNe, Nat.reduceAdd, zz35, zz45] <;> exact rfl) ?_
  refine ow_op (by simp only [zo, binD, zb, Int.reduceEq, Int.reduceToNat, Int.reduceLT, Int.reduceBNe, Nat.reduceAdd, zz35, zz45] <;> exact rfl) ?_
  refine ow_ml rfl ?_
  refine ow_know 0 (b := false) (by simp only [opd, zv, Int.reduceBNe, Nat.reduceAdd, zz35, zz45] <;> rfl) (by simp only [zn] <;> exact rfl) ?_
  refine ow_on rfl ?_
  refine ow_me rfl ?_
  refine ow_on rfl ?_
  refine ow_op (by simp only [zo, capD_nils, capD_sl, capD_msl, Int.reduceBNe, Nat.reduceAdd, zz35, zz45] <;> exact rfl) ?_
  refine ow_on rfl ?_
  refine ow_me rfl ?_
  refine ow_on rfl ?_
  refine ow_op (by simp only [zo, lenD_str, lenD_nils, lenD_sl, lenD_msl, Int.reduceBNe, Nat.reduceAdd, zz35, zz45] <;> exact rfl) ?_
  refine ow_on rfl ?_
  refine ow_op (by simp only [zo, binD, zb, Int.reduceEq, Int.reduceToNat, Int.reduceLT, Int.reduceBNe, Nat.reduceAdd, zz35, zz45] <;> exact rfl) ?_
  refine ow_op (by simp only [zo, Int.reduceBNe, Nat.reduceAdd, zz35, zz45] <;> exact rfl) ?_
  refine ow_nil ?_
  refine sk_n (by simp only [ze] <;> exact rfl) ?_
  skip
  refine cw_false (by simp only [opd, zv, Int.reduceBNe, Nat.reduceAdd, zz35, zz45] <;> rfl) ?_
  refine cw_skip (sk_n rfl (cw_seq (cw_seq (cw_region ?_))))
  refine ow_mc ?_
  refine ow_nil ?_
  refine sk_n (by simp only [ze] <;> exact rfl) ?_
  refine cw_block ?_
  refine cw_loop (fun n env S' => ∃ (k : Nat) (t10 t11 t12 t13 t14 t15 t16 t17 t18 t19 t22 t23 t24 t25 t26 t27 t28 t29 t30 t31 t32 t33 t34 t35 t36 t37 t38 : D), S' = ⟨Hh, 0⟩ ∧ env = [x, y, .bool false, .ptr 0 0 0 0, .ptr 1 0 0 0, .ptr 5 0 0 0, .ptr 6 0 0 0, px, .bool act, .int .i64 i, t10, t11, t12, t13, t14, t15, t16, t17, t18, t19, clipD (appY 1 (strRows dn)), .int .i64 k, t22, t23, t24, t25, t26, t27, t28, t29, t30, t31, t32, t33, t34, t35, t36, t37, t38] ∧ k ≤ dn.length ∧ n = dn.length - k) (dn.length) (by omega) (⟨0, _, _, _, _, _, _, _, _, _, _, _, _, _, _, _, _, _, _, _, _, _, _, _, _, _, _, _, rfl, rfl, by omega, by omega⟩) ?_
  rintro n env S' ⟨k, t10, t11, t12, t13, t14, t15, t16, t17, t18, t19, t22, t23, t24, t25, t26, t27, t28, t29, t30, t31, t32, t33, t34, t35, t36, t37, t38, rfl, rfl, hk, rfl⟩
  refine cw_seq (cw_seq (cw_region ?_))
  refine ow_me rfl ?_
  refine ow_me rfl ?_
  refine ow_op (by simp only [zo, lenD_str, lenD_nils, lenD_sl, lenD_msl, Int.reduceBNe, Nat.reduceAdd, zz35, zz45] <;> exact rfl) ?_
  refine ow_op (by simp only [zo, binD, zb, Int.reduceEq, Int.reduceToNat, Int.reduceLT, Int.reduceBNe, Nat.reduceAdd, zz35, zz45] <;> exact rfl) ?_
  refine ow_nil ?_
  refine sk_n (by simp only [ze] <;> exact rfl) ?_
  refine cw_cond (by simp only [opd, zv, Int.reduceBNe, Nat.reduceAdd, zz35, zz45] <;> exact rfl) (fun hcAFB => ?_) (fun hcAFB => ?_)
  ·
   have hkl : k < dn.length := by have := of_decide_eq_true hcAFB; omega
   have hwk := wrap_nat k (by omega)
   have hsk := strRows_at hkl
   have hqi := fun (S : St) => hq.iaddrN S .i64 hsk
   have hka : (0 : Int) ≤ (k : Int) := by omega
   have hkb : (k : Int) < (dn.length : Int) := by omega
   rcases hL.hP with ⟨h0, _⟩ | ⟨_, kk, vv, _, rfl, hpk⟩
   ·
    exfalso; simp [strRows] at h0; subst h0; simp at hkl
   have zz46 := And.intro hwk (And.intro hqi (And.intro hpk (And.intro hsk (And.intro hka (hkb)))))
   refine cw_skip (sk_n rfl (cw_seq (cw_block (cw_seq ?_))))
   refine cw_drawn (by simp only [newsVals, zw, Nat.reduceAdd] <;> exact rfl) (by simp only [zw, newsObj, St.eta] <;> exact rfl) ?_
   refine dw_me rfl rfl ?_
   refine dw_me rfl rfl ?_
   refine dw_op (by simp only [zl, zm, iaddrD_sl, iaddrD_msl, Int.toNat_natCast, Int.toNat_zero, List.getElem?_map, Option.map_some, Int.le_refl, Int.reduceBNe, Nat.reduceAdd, zz35, zz45, zz46] <;> exact rfl) (by simp only [fpHere, zo, zq, hqf] <;> exact rfl) rfl ?_
   refine dw_op (by simp only [zl, zm, zd, partD, List.take, List.drop, Int.reduceBNe, Nat.reduceAdd, zz35, zz45, zz46] <;> exact rfl) (by simp only [fpHere, zo, zq, hqf] <;> exact rfl) rfl ?_
   refine dw_me rfl rfl ?_
   refine dw_me rfl rfl ?_
   refine dw_op (by simp only [zl, zm, iaddrD_sl, iaddrD_msl, Int.toNat_natCast, Int.toNat_zero, List.getElem?_map, Option.map_some, Int.le_refl, Int.reduceBNe, Nat.reduceAdd, zz35, zz45, zz46] <;> exact rfl) (by simp only [fpHere, zo, zq, hqf] <;> exact rfl) rfl ?_
   refine dw_op (by simp only [zl, zm, zd, partD, List.take, List.drop, Int.reduceBNe, Nat.reduceAdd, zz35, zz45, zz46] <;> exact rfl) (by simp only [fpHere, zo, zq, hqf] <;> exact rfl) rfl ?_
   refine dw_quiet (by simp only [zo, binD, zb, Int.reduceEq, Int.reduceToNat, Int.reduceLT, Int.reduceBNe, Nat.reduceAdd, zz35, zz45, zz46] <;> exact rfl) rfl rfl ?_
   refine dw_nil ?_
   refine sk_n (by simp only [ze] <;> exact rfl) ?_
   skip
   refine cw_false (by simp only [opd, zv, Int.reduceBNe, Nat.reduceAdd, zz35, zz45, zz46] <;> rfl) ?_
   refine cw_skip (bk_n (sk_n rfl (cw_region ?_)))
   refine ow_me rfl ?_
   refine ow_op (by simp only [zo, binD, zb, Int.reduceEq, Int.reduceToNat, Int.reduceLT, Int.reduceBNe, Nat.reduceAdd, zz35, zz45, zz46] <;> exact rfl) ?_
   refine ow_ml rfl ?_
   refine ow_nil ?_
   refine lk_n (by simp only [ze] <;> exact rfl) ?_
   exact ⟨dn.length - (k + 1), by omega, k + 1, _, _, _, _, _, _, _, _, _, _, _, _, _, _, _, _, _, _, _, _, _, _, _, _, _, _, _, rfl, rfl, by omega, rfl⟩
  ·
   refine cw_exit (sk_e (lk_e (bk_e (sk_n rfl (cw_seq (cw_region ?_))))))
   refine ow_mc ?_
   refine ow_nil ?_
   refine sk_n (by simp only [ze] <;> exact rfl) ?_
   refine cw_seq (cw_region ?_)
   refine ow_me rfl ?_
   refine ow_op (by simp only [zo, fillD, overlay, zc, List.take, List.drop, Nat.reduceAdd, Nat.reduceLeDiff, Nat.reduceBEq, zm, Int.reduceBNe, Nat.reduceAdd, zz35, zz45] <;> exact rfl) ?_
   refine ow_op (by simp only [zo, Int.reduceBNe, Nat.reduceAdd, zz35, zz45]; exact nilDo_run (by omega) _) ?_
   refine ow_op (by simp only [zo, partD, List.take, List.drop, zm, Int.reduceBNe, Nat.reduceAdd, zz35, zz45] <;> exact rfl) ?_
   refine ow_op (by simp only [zo, unD, Int.reduceBNe, Nat.reduceAdd, zz35, zz45] <;> exact rfl) ?_
   refine ow_ml rfl ?_
   refine ow_know 0 (b := true) (by simp only [opd, zv, Int.reduceBNe, Nat.reduceAdd, zz35, zz45] <;> rfl) (by simp only [zn] <;> exact rfl) ?_
   refine ow_on rfl ?_
   refine ow_me rfl ?_
   refine ow_on rfl ?_
   refine ow_op (by simp only [zo, Int.reduceBNe, Nat.reduceAdd, zz35, zz45]; exact nilPerf_run (by omega) _) ?_
   refine ow_on rfl ?_
   refine ow_op (by simp only [zo, lenD_str, lenD_nils, lenD_sl, lenD_msl, Int.reduceBNe, Nat.reduceAdd, zz35, zz45] <;> exact rfl) ?_
   refine ow_on rfl ?_
   refine ow_op (by simp only [zo, binD, zb, Int.reduceEq, Int.reduceToNat, Int.reduceLT, Int.reduceBNe, Nat.reduceAdd, zz35, zz45] <;> exact rfl) ?_
   refine ow_op (by simp only [zo, Int.reduceBNe, Nat.reduceAdd, zz35, zz45] <;> exact rfl) ?_
   refine ow_ml rfl ?_
   refine ow_know 0 (b := true) (by simp only [opd, zv, Int.reduceBNe, Nat.reduceAdd, zz35, zz45] <;> rfl) (by simp only [zn] <;> exact rfl) ?_
   refine ow_on rfl ?_
   refine ow_op (by simp only [zo, Int.reduceBNe, Nat.reduceAdd, zz35, zz45]; exact lives_run (by omega) _) ?_
   refine ow_op (by simp only [zo, Int.reduceBNe, Nat.reduceAdd, zz35, zz45] <;> exact rfl) ?_
   refine ow_ml rfl ?_
   refine ow_nil ?_
   refine sk_n (by simp only [ze] <;> exact rfl) ?_
   refine cw_ret ?_
   refine ⟨_, by simp only [F3, resultD, resDs, resD, zg, zd, rowsOf, partD, List.take, List.drop, zm] <;> exact rfl, ?_⟩
   rfl

end Go.Proofs.YtcogjcplldpkaaaGreat

namespace Go.Proofs.YtcogjcplldpkaaaGreat
theorem lawDo_run {d : Nat} (hd : 12 ≤ d) (S : St) {x y : D} {l : List Uu} {acts : List Ac} (hS : SlD 3 (uRows l) x) (hY : SlD 4 (acRows acts) y) : runF LP NN d 3 [x, y] S = some (.bool true, S, false) := by
  by_cases hl : l.length ≤ 6
  · by_cases ha : acts.length ≤ 40
    · have h := rules_law l
      cases hf : firstDup l with
      | none =>
        rw [hf] at h
        obtain ⟨o, h1, h2⟩ := h
        exact lawDo_ok hd S hS hY hl ha o hf h1 h2
      | some p =>
        obtain ⟨i, c⟩ := p
        rw [hf] at h
        exact lawDo_dup hd S hS hY hl ha i c hf h
    · exact lawDo_biga hd S hS hY hl ha
  · exact lawDo_bigl hd S hS hY hl
end Go.Proofs.YtcogjcplldpkaaaGreat

/- Proved here: parts of the proof, joined (K28, K29, K30, K31, K32, K33, K34, K35, K36, K37, ScP): an abstract machine, its soundness, what functions of the program compute in it; no condition. -/
import Derived.Test.YtkaedpmmopigkaaGreatDoorTie
import Derived.WalkKit
import Derived.ProofKit
import Derived.OpenShut
import Derived.ShutString
import Derived.ChangeOld
import Derived.Below
import Derived.LaidMore
import Derived.Lay
import Derived.SevenTiedAt
import Derived.Stop.Joined
import Derived.Test.YtkaedpmmopigkaaGreatDoorM5
namespace Go.Proofs.YtkaedpmmopigkaaGreatDoor
set_option linter.unusedSimpArgs false
set_option linter.unusedVariables false
set_option maxRecDepth 100000
set_option maxHeartbeats 4000000

def N8 (n0 i : Nat) : List (List D) := (List.range 24).map fun r => if r < i then [.msl (n0 + (3 + 2 * r)) 0 0 80 (some 80)] else [.Tt]
def GLi (n0 i : Nat) : Sr := ⟨42, 1, N8 n0 i, 0, 0, false⟩
theorem Ho {n0 i r : Nat} (h : r < 24) : (N8 n0 i)[r]? = some (if r < i then [.msl (n0 + (3 + 2 * r)) 0 0 80 (some 80)] else [.Tt]) := by simp [N8, h]
theorem Ko (n0 i : Nat) : (N8 n0 i).length = 24 := by simp [N8]
theorem glRows_set {n0 i : Nat} (h : i < 24) : (N8 n0 i).set i [.msl (n0 + (3 + 2 * i)) 0 0 80 (some 80)] = N8 n0 (i + 1) := by
 refine List.ext_getElem? fun j => ?_
 rw [List.getElem?_set]
 by_cases hj : i = j
 ·
  subst hj
  rw [if_pos rfl, if_pos (by rw [Ko]; exact h), Ho h, if_pos (by omega)]
 ·
  rw [if_neg hj]
  by_cases h24 : j < 24
  ·
   rw [Ho h24, Ho h24]
   by_cases hi : j < i
   ·
    rw [if_pos hi, if_pos (by omega)]
   ·
    rw [if_neg hi, if_neg (by omega)]
  ·
   rw [List.getElem?_eq_none (by rw [Ko]; omega), List.getElem?_eq_none (by rw [Ko]; omega)]
def HB (sb : Sr) (n0 : Nat) (G : G9) : List Sr := sb :: GLi n0 24 :: LNi G 24
theorem Ms (sb : Sr) (n0 : Nat) (G : G9) : (HB sb n0 G).length = 50 := by simp [HB, I9]
section
variable (H : List Sr) (sb : Sr) (G : G9) (t : List Sr)
theorem HB_sb : (H ++ (HB sb H.length G ++ t))[H.length]? = some sb := by rw [Du]; rfl
theorem HB_gl : (H ++ (HB sb H.length G ++ t))[H.length + 1]? = some (GLi H.length 24) := by rw [Cu]; rfl
theorem HB_ln {r : Nat} (h : r < 24) : (H ++ (HB sb H.length G ++ t))[H.length + (3 + 2 * r)]? = some (lnO (Ep G r)) := by
 rw [Cu, La_ (by rw [Ms]; omega), show 3 + 2 * r = (2 * r + 1) + 1 + 1 from by omega]
 exact LNi_at G h
theorem HB_set {G' : G9} {r : Nat} {L : List UInt8} (h : r < 24) (hG : ∀ j, Ep G' j = if j = r then L else Ep G j) : (H ++ (HB sb H.length G ++ t)).set (H.length + (3 + 2 * r)) (lnO L) = H ++ (HB sb H.length G' ++ t) := by
 rw [Ez, List.set_append_left _ _ (by rw [Ms]; omega), show 3 + 2 * r = (2 * r + 1) + 1 + 1 from by omega]
 unfold HB
 rw [List.set_cons_succ, List.set_cons_succ, LNi_set G G' h hG]
theorem HB_new (o : Sr) (m : List Sr) : (H ++ (HB sb H.length G ++ (t ++ o :: m)))[H.length + (50 + t.length)]? = some o := by
 rw [Cu, ← Lo_, Lr_ (by simp [Ms]), Ll_, Ms]; simp
theorem HB_newS (o y : Sr) (m : List Sr) : (H ++ (HB sb H.length G ++ (t ++ o :: m))).set (H.length + (50 + t.length)) y = H ++ (HB sb H.length G ++ (t ++ y :: m)) := by
 rw [Ez, ← Lo_, List.set_append_right _ _ (by simp [Ms]), Ll_, Ms]; simp
end
theorem bR_set (L : List UInt8) (c : Nat) (b : UInt8) : (bR L).set c [.int .u8 b.toNat] = bR (L.set c b) := by simp [bR, List.map_set]
theorem spR_blank (r : Nat) : spR 80 = bR (Ep G0 r) := by
 have : Ep G0 r = List.replicate 80 32 := by
  show (List.range 80).map (fun _ => (32 : UInt8)) = _
  rw [List.map_const', List.length_range]
 rw [this]
 simp [spR, bR]
structure SrcV (H : List Sr) (x : D) (vals : List D) (gv vv : Nat) : Prop where
 len : I1 false x = some (.int .i64 (vals.length : Nat))
 cell : x.Ti = true
 Tc : ∀ m l, Tc m (H ++ l) x = some x
 ia : ∀ l lo i, i < vals.length → Fx ⟨H ++ l, lo⟩ 1 x (.int .i64 (i : Nat)) = some (.ptr gv vv i 0)
 ld : ∀ l lo i v, vals[i]? = some v → G5 1 false ⟨H ++ l, lo⟩ (.ptr gv vv i 0) = some v
structure RdB (H : List Sr) (w : D) (bs : List UInt8) : Prop where
 len : I1 false w = some (.int .i64 (bs.length : Nat))
 cell : w.Ti = true
 rd : ∀ (k : Nat) (b : UInt8), bs[k]? = some b → ∃ A, ∀ l lo, Fx ⟨H ++ l, lo⟩ 1 w (.int .i64 (k : Nat)) = some A ∧ G5 1 false ⟨H ++ l, lo⟩ A = some (.int .u8 (b.toNat : Nat))
theorem SlD.rdb {w : D} {bs : List UInt8} (h : SlD 1 (bR bs) w) (H : List Sr) : RdB H w bs := by
 refine ⟨by rw [h.len, Oh], h.Ti, fun k b hb => ⟨.Tv [.int .u8 (b.toNat : Nat)] 0, fun l lo => ⟨h.iaddrN _ .i64 (bR_at hb), rfl⟩⟩⟩
def Fits (H : List Sr) (f : FM) (bs : List UInt8) (v : D) : Prop := bs.length = f.size ∧ if f.kind = 1 then bs = f.text.data.toList else RdB H v bs
def trS (G : G9) (r : Nat) : ByteArray := ⟨((Ep G r).take (tn (Ep G r))).toArray⟩
def En (G : G9) (i : Nat) : List (List D) := (List.range 24).map fun r => if r < i then [.str (trS G r)] else [.str ⟨#[]⟩]
theorem Io {G : G9} {i r : Nat} (h : r < 24) : (En G i)[r]? = some (if r < i then [.str (trS G r)] else [.str ⟨#[]⟩]) := by simp [En, h]
theorem Gt (G : G9) (i : Nat) : (En G i).length = 24 := by simp [En]
theorem outRows_set {G : G9} {i : Nat} (h : i < 24) : (En G i).set i [.str (trS G i)] = En G (i + 1) := by
 refine List.ext_getElem? fun j => ?_
 rw [List.getElem?_set]
 by_cases hj : i = j
 ·
  subst hj
  rw [if_pos rfl, if_pos (by rw [Gt]; exact h), Io h, if_pos (by omega)]
 ·
  rw [if_neg hj]
  by_cases h24 : j < 24
  ·
   rw [Io h24, Io h24]
   by_cases hi : j < i
   ·
    rw [if_pos hi, if_pos (by omega)]
   ·
    rw [if_neg hi, if_neg (by omega)]
  ·
   rw [List.getElem?_eq_none (by rw [Gt]; omega), List.getElem?_eq_none (by rw [Gt]; omega)]

theorem SrcF.mono {H : List Sr} {x : D} {rows : List (List D)} {gs v : Nat} (h : SrcF H x rows gs v) (l : List Sr) : SrcF (H ++ l) x rows gs v :=
 ⟨h.len, h.cell, fun m l' => by rw [Lo_]; exact h.snap m _, h.fpi, fun l' lo i hi => by rw [Lo_]; exact h.ia _ lo i hi, fun l' lo i r hr h16 => by rw [Lo_]; exact h.ld _ lo i r hr h16⟩
abbrev sbO (nm : ByteArray) (x : D) (p0 c0 : Nat) : Sr := ⟨36, 4, [[.str nm, x, .int .i64 (p0 : Nat), .int .i64 (c0 : Nat)]], 0, 0, false⟩

theorem show_run {d : Nat} (hd : 24 ≤ d) {H : List Sr} {x xv : D} {rows : List (List D)} {vals : List D} {gs v gv vv : Nat} {P : List (FM × List UInt8)} (hS : SrcF H x rows gs v) (hR : RW (P.map (·.1)) rows) (hv : SrcV H xv vals gv vv) (hlen : P.length ≤ 256) (hvl : vals.length = P.length) (hfit : ∀ (i : Nat) (p : FM × List UInt8) (w : D), P[i]? = some p → vals[i]? = some w → Fits H p.1 p.2 w) (nm : ByteArray) (p0 c0 : Nat) (lo : Nat) :
  Bc LP NN d 20 [.agg [.str nm, x, .int .i64 (p0 : Nat), .int .i64 (c0 : Nat)], xv] ⟨H, lo⟩ = some (.tup [.sl 1 (En (Cz P) 24) (some 24), .int .i64 0], ⟨H, lo⟩, false) := by
 have hvz : ∀ m, Go.Proofs.YtkaedpmmopigkaaGreatDoor.Tc m H xv = some xv := fun m => by have := hv.Tc m []; rwa [List.append_nil] at this
 have hrl := hR.len
 rw [List.length_map] at hrl
 have hE : (((vals.length : Nat) : Int) != ((rows.length : Nat) : Int)) = false := by rw [hvl, hrl, bne_self_eq_false]
 have hchk : ∀ d', d = d' + 1 → ∀ l lo, Bc LP NN d' 13 [.agg [.str nm, x, .int .i64 (p0 : Nat), .int .i64 (c0 : Nat)]] ⟨H ++ l, lo⟩ = some (.int .i64 0, ⟨H ++ l, lo⟩, false) := fun d' e l lo => check_run (l0 := P.map (·.1)) (by omega) (hS.mono l) hR (by rw [List.length_map]; omega) nm p0 c0 lo
 refine Dt (F := F20) rfl (by simp only [LP, Aq, Cf, zs, zm, hS.zero, hvz] <;> exact rfl) rfl (by simp only [LP, zf, zm]; try rfl) (by simp only [F20, zv] <;> exact rfl) (by omega) ?_
 rintro d rfl
 refine Ae (Ab (by simp only [zl, zm, zc, hS.cell] <;> exact rfl) ?_)
 refine Bi (Bi ?_)
 refine Aa (Af ?_)
 refine Ag (Ae ?_)
 refine xo4 ?_
 refine Ab (by simp only [zo]; exact hchk d rfl _ _) ?_
 refine Ah rfl (Aa ?_)
 refine Af ?_
 refine Ae (Ad rfl ?_)
 refine xo2 ?_
 refine Aa (Af ?_)
 skip
 refine Cv ?_
 refine Aj (Bo rfl (Ag (Ae ?_)))
 refine Ad rfl (Ab (by simp only [zo, hv.len] <;> exact rfl) ?_)
 refine xo0 ?_
 refine xo4 ?_
 refine Ab (by simp only [zo, hS.len] <;> exact rfl) ?_
 refine Ab (by simp only [zo, Bl, hE] <;> exact rfl) ?_
 refine Aa (Af ?_)
 skip
 refine Cv ?_
 refine Aj (Bo rfl (Ae ?_))
 refine Ab (by simp only [zl, zm, Int.reduceToNat] <;> exact rfl) ?_
 refine Ah rfl (Aa ?_)
 refine Af ?_
 refine Ag (Ae ?_)
 refine Ad rfl (xo9 ?_)
 refine Bi (Aa ?_)
 refine Af ?_
 refine Aw ?_
 refine Dq (fun n env S' => ∃ (i : Nat) (u7 u20 : D), i ≤ 24 ∧ n = 24 - i ∧ S' = ⟨H ++ (sbO nm x p0 c0 :: GLi H.length i :: LNi G0 i), H.length⟩ ∧ env = [.agg [.str nm, x, .int .i64 (p0 : Nat), .int .i64 (c0 : Nat)], xv, .ptr H.length 0 0 0, .Tt, .int .i64 0, .int .i64 0, .msl (H.length + 1) 0 0 24 none, u7, .undef, .undef, .undef, .undef, .undef, .undef, .undef, .undef, .bool false, .bool false, .int .i64 24, .int .i64 (i : Nat), u20, .undef, .undef, .undef, .undef, .undef, .undef, .undef, .undef, .undef, .undef, .undef, .undef, .undef, .undef, .undef]) (24) (by omega) (⟨0, _, _, by omega, by omega, rfl, rfl⟩) ?_
 rintro n env S' ⟨i, u7, u20, hi, hnk, rfl, rfl⟩
 refine Ae (xo2 ?_)
 refine Aa (Af ?_)
 refine Ag ?_
 refine Bv (by simp only [opd, zv] <;> exact rfl) (fun hcA => ?_) (fun hcA => ?_)
 ·
  have hlt : i < 24 := by have := of_decide_eq_true hcA; omega
  have hw := Dh i (by omega)
  have hga := (Ho (n0 := H.length) (i := i) hlt).trans (by rw [if_neg (by omega)])
  have hgs := glRows_set (n0 := H.length) hlt
  have hgl := Ko H.length i
  have h0 : (0 : Int) ≤ (i : Int) := by omega
  have h24 : (i : Int) < ((24 : Nat) : Int) := by omega
  have hll := I9 G0 i
  have hb32 : (H ++ (sbO nm x p0 c0 :: GLi H.length i :: (LNi G0 i ++ [⟨5, 1, [[.int .u8 32]], 0, 2, false⟩])))[H.length + (2 * i + 1 + 1)]? = some ⟨5, 1, [[.int .u8 32]], 0, 2, false⟩ := by
   rw [Cu, Ls_, Ls_, Lr_ (by rw [hll]; omega), hll]; simp
  have hrep := fun lo => repeat_run (d := d) (by omega) hb32 lo
  have hlen : (H ++ (sbO nm x p0 c0 :: GLi H.length i :: (LNi G0 i ++ [⟨5, 1, [[.int .u8 32]], 0, 2, false⟩]))).length = H.length + (3 + 2 * i) := by
   simp [hll]; omega
  have hmin : min H.length (H.length + (3 + 2 * i)) = H.length := by omega
  have hLN : LNi G0 (i + 1) = LNi G0 i ++ [⟨5, 1, [[.int .u8 32]], 0, 2, false⟩, ⟨5, 1, spR 80, 0, 2, true⟩] := by rw [Pv, spR_blank i]; rfl
  rw [hlen] at hrep
  refine Aj (Bo rfl (Ag (Aw (Ae ?_))))
  refine Ad rfl (Ah rfl ?_)
  refine Aa (Af ?_)
  refine Ak (Ad rfl ?_)
  refine Ad rfl (Ab (by simp only [zl, zm, Cy, List.replicate, Aq, zs, zc, zf, hll, GLi] <;> exact rfl) ?_)
  refine Ab (by simp only [zo]; exact (hrep _)) ?_
  refine Ab (by simp only [zl, zm, Ch, Int.toNat_natCast, h0, h24, GLi, hmin] <;> exact rfl) ?_
  refine Ab (by simp only [zl, zm, Bt, overlay, zs, zc, zf, List.take, List.drop, hga, hgs, hll] <;> exact rfl) ?_
  refine Aa (Em ?_)
  refine Af ?_
  refine Ak (Ab (by simp only [zo, Bl, hw] <;> exact rfl) ?_)
  refine Ah rfl (Aa ?_)
  refine Et (by simp only [ze] <;> exact rfl) ?_
  exact ⟨24 - (i + 1), by omega, i + 1, _, _, by omega, rfl, by rw [hLN]; rfl, rfl⟩
 ·
  have hi' : i = 24 := by have := of_decide_eq_false hcA; omega
  subst hi'
  refine Da (Gm (Ie (Gq (Bo rfl (Ag (Ae ?_))))))
  refine xo0 ?_
  refine xo4 ?_
  refine Ab (by simp only [zo, hS.len] <;> exact rfl) ?_
  refine Bi (Aa ?_)
  refine Af ?_
  refine Aw ?_
  refine Dq (fun n env S' => ∃ (i : Nat) (t : List Sr) (u7 u8 u9 u10 u11 u12 u19 u20 u24 u25 u26 u27 u28 u29 u30 u31 : D), i ≤ P.length ∧ n = P.length - i ∧ S' = ⟨H ++ (HB (sbO nm x p0 c0) H.length (Cz (P.take i)) ++ t), H.length⟩ ∧ env = [.agg [.str nm, x, .int .i64 (p0 : Nat), .int .i64 (c0 : Nat)], xv, .ptr H.length 0 0 0, .Tt, .int .i64 0, .int .i64 0, .msl (H.length + 1) 0 0 24 none, u7, u8, u9, u10, u11, u12, .undef, .undef, .undef, .bool false, .bool false, .int .i64 24, u19, u20, x, .int .i64 rows.length, .int .i64 (i : Nat), u24, u25, u26, u27, u28, u29, u30, u31, .undef, .undef, .undef, .undef]) (P.length) (by omega) (⟨0, [], _, _, _, _, _, _, _, _, _, _, _, _, _, _, _, _, by omega, by omega, by rw [List.append_nil, List.take_zero]; rfl, rfl⟩) ?_
  rintro n env S' ⟨i, t, u7, u8, u9, u10, u11, u12, u19, u20, u24, u25, u26, u27, u28, u29, u30, u31, hi, hnk, rfl, rfl⟩
  refine Ae (xo2 ?_)
  refine Aa (Af ?_)
  refine Ag ?_
  refine Bv (by simp only [opd, zv] <;> exact rfl) (fun hcAFB => ?_) (fun hcAFB => ?_)
  ·
   have hlt : i < P.length := by have := of_decide_eq_true hcAFB; omega
   have hw := Dh i (by omega)
   obtain ⟨f, bs, hPe⟩ : ∃ f bs, P[i] = (f, bs) := ⟨_, _, rfl⟩
   have hPi : P[i]? = some (f, bs) := by rw [Lg hlt, hPe]
   obtain ⟨w, hwi⟩ : ∃ w, vals[i]? = some w := ⟨_, Lg (by omega)⟩
   obtain ⟨hbl, hbf⟩ := hfit i _ w hPi hwi
   simp only at hbl hbf
   have hltr : i < rows.length := by omega
   have hia := fun l lo => hS.ia l lo i hltr
   have hiv := fun l lo => hv.ia l lo i (by omega)
   have hlv := fun l lo => hv.ld l lo i w hwi
   obtain ⟨p, hrow⟩ := hR.at_ (i := i) (by rw [List.length_map]; exact hlt)
   have hfe : (P.map (·.1))[i]'(by rw [List.length_map]; exact hlt) = f := by rw [List.getElem_map, hPe]
   rw [hfe] at hrow
   have hld := fun (l : List Sr) lo => hS.ld l lo i _ hrow (by rw [Oy]; exact Nat.le_refl _)
   rw [P6] at hld
   obtain ⟨tx, op, nu, r1, r2, hrf, htx, hop, hk1, hk2⟩ := P7 f p
   rw [hrf] at hld
   obtain ⟨G, hG⟩ : ∃ G, G = Cz (P.take i) := ⟨_, rfl⟩
   rw [← hG]
   have hsz := f.size_le
   have hkd := f.kind_le
   have hnw := fun G o m => HB_new H (sbO nm x p0 c0) G t o m
   have hns := fun G o y m => HB_newS H (sbO nm x p0 c0) G t o y m
   have hBl := fun G => Ms (sbO nm x p0 c0) H.length G
   have hsbo := fun G t => HB_sb H (sbO nm x p0 c0) G t
   by_cases hk1' : f.kind = 1
   ·
    obtain ⟨rfl, rfl, rfl, rfl⟩ := hk1 hk1'
    rw [if_pos hk1'] at hbf
    have e1 : (((f.kind : Nat) : Int) == 1) = true := by rw [beq_iff_eq]; omega
    have hb : RdB H (.sl 1 (Bf f.text) none) bs := by rw [hbf]; exact SlD.rdb (.of _ _ _) H
    have hbl2 : (Bf f.text).length = f.size := by rw [Kz, Mv]
    refine Aj (Bo rfl (Ag (Aw (Ae ?_))))
    refine Ad rfl (Ab (by simp only [zl, zm, hia] <;> exact rfl) ?_)
    refine Ab (by simp only [zl, zm, hld] <;> exact rfl) ?_
    refine Ab (by simp only [zl, zm, hBl] <;> exact rfl) ?_
    refine Ah rfl (Ab (by simp only [zl, zm, Bt, overlay, Cf, zs, zc, zf, List.take, List.drop, hnw, hns, hBl, htx.Ti, hop.Ti] <;> exact rfl) ?_)
    refine Aa (Af ?_)
    refine Ae (Ad rfl ?_)
    refine Ad rfl (Ab (by simp only [zl, zm, hiv] <;> exact rfl) ?_)
    refine Ab (by simp only [zl, zm, hlv] <;> exact rfl) ?_
    refine Ah rfl (Aa ?_)
    refine Af ?_
    refine Ag (Ae ?_)
    refine xo0 ?_
    refine Ab (by simp only [zl, zm, zd, Az, List.take, List.drop, hnw] <;> exact rfl) ?_
    refine Ab (by simp only [zo, Bl, e1] <;> exact rfl) ?_
    refine Aa (Af ?_)
    skip
    refine I8 ?_
    refine Ak (xo0 ?_)
    refine Ab (by simp only [zl, zm, zd, Az, List.take, List.drop, hnw] <;> exact rfl) ?_
    refine Ah rfl (Aa ?_)
    refine Af ?_
    refine Ag (Ae ?_)
    refine Ad rfl (Ab (by simp only [zo, Nb, hbl2] <;> exact rfl) ?_)
    refine xo0 ?_
    refine xo0 ?_
    refine Ab (by simp only [zl, zm, zd, Az, List.take, List.drop, hnw] <;> exact rfl) ?_
    refine xo22 ?_
    refine Aa (Af ?_)
    skip
    refine Cv ?_
    refine Aj (Bo rfl (Ae ?_))
    refine Ad rfl (Ab (by simp only [zo, Nb, hbl2] <;> exact rfl) ?_)
    refine Bi (Aa ?_)
    refine Af ?_
    refine Aw ?_
    refine Dq (fun n env S' => ∃ (k : Nat) (t2 : List Sr) (v11 v12 v30 v31 : D), k ≤ f.size ∧ n = f.size - k ∧ S' = ⟨H ++ (HB (sbO nm x p0 c0) H.length (Ei G f bs k) ++ (t ++ FO [.int .i64 (f.line : Nat), .int .i64 (f.column : Nat), .int .u8 (f.kind : Nat), .sl 1 (Bf f.text) none, .int .u8 (if false then (if f.size = 1 then 4 else 5) else 2), .int .u8 0, .str (Jc false f.size), .int .i64 (if false then (f.size : Nat) else 0), .int .i64 0, .bool false, .bool false, .bool false, .bool false, .bool false, .int .i64 (f.size : Nat), .Tt] :: t2)), H.length⟩ ∧ env = [.agg [.str nm, x, .int .i64 (p0 : Nat), .int .i64 (c0 : Nat)], xv, .ptr H.length 0 0 0, .Tt, .int .i64 0, .int .i64 0, .msl (H.length + 1) 0 0 24 none, u7, .int .i64 (i : Nat), .ptr (H.length + (50 + t.length)) 0 0 0, (.sl 1 (Bf f.text) none), v11, v12, .undef, .undef, .undef, .bool false, .bool false, .int .i64 24, u19, u20, x, .int .i64 rows.length, .int .i64 (i : Nat), .bool (decide (((i : Nat) : Int) < ((rows.length : Nat) : Int))), .bool true, .bool false, (.sl 1 (Bf f.text) none), .int .i64 (f.size : Nat), .int .i64 (k : Nat), v30, v31, .undef, .undef, .undef, .undef]) (f.size) (by omega) (⟨0, [], _, _, _, _, by omega, by omega, by rw [paintK_0]; rfl, rfl⟩) ?_
    rintro n env S' ⟨k, t2, v11, v12, v30, v31, hk, hnk2, rfl, rfl⟩
    refine Ae (Ab (by simp only [zo, Bl, FO] <;> exact rfl) ?_)
    refine Aa (Af ?_)
    refine Ag ?_
    refine Bv (by simp only [opd, zv] <;> exact rfl) (fun hcAFBT1C => ?_) (fun hcAFBT1C => ?_)
    ·
     have hkl : k < f.size := by have := of_decide_eq_true hcAFBT1C; omega
     have hwk := Dh k (by omega)
     have hbk : bs[k]? = some (bs[k]'(by omega)) := Lg _
     obtain ⟨c, hc⟩ : ∃ c, c = bs[k]'(by omega) := ⟨_, rfl⟩
     rw [← hc] at hbk
     obtain ⟨A, hA⟩ := hb.rd k c hbk
     have hiab := fun l lo => (hA l lo).1
     have hlab := fun l lo => (hA l lo).2
     have hln := f.line_le
     have hcn := f.column_le
     have hwl : IntKind.i64.wrap (((f.line : Nat) : Int) - 1) = ((f.line - 1 : Nat) : Int) := by rw [IntKind.wrap_i64]; omega
     have hwc : IntKind.i64.wrap (((f.column : Nat) : Int) - 1) = ((f.column - 1 : Nat) : Int) := by rw [IntKind.wrap_i64]; omega
     have hwa : IntKind.i64.wrap (((f.column - 1 : Nat) : Int) + ((k : Nat) : Int)) = ((f.column - 1 + k : Nat) : Int) := by rw [IntKind.wrap_i64]; omega
     have hr24 : f.line - 1 < 24 := by omega
     have hc80 : f.column - 1 + k < 80 := by omega
     have hgl := fun G t => HB_gl H (sbO nm x p0 c0) G t
     have hgr := (Ho (n0 := H.length) (i := 24) hr24).trans (by rw [if_pos hr24])
     have hgn := fun G t => HB_ln H (sbO nm x p0 c0) G t hr24
     have hnw2 : ∀ (G : G9) (fo o : Sr), (H ++ (HB (sbO nm x p0 c0) H.length G ++ (t ++ fo :: (t2 ++ [o]))))[H.length + (50 + (t.length + (t2.length + 1)))]? = some o := fun G fo o => by
      have := HB_new H (sbO nm x p0 c0) G (t ++ fo :: t2) o []
      simpa using this
     have hbo : bytesOf [[D.int .u8 (c.toNat : Nat)]] = some [c] := by simp [bytesOf]
     have hp := fun S => prn_run (d := d) (by omega) S c
     have hcc : UInt8.ofNat (((c.toNat : Nat) : Int)).toNat = c := by simp
     have hp2 : ∀ S, Bc LP NN d 46 [.str ⟨#[UInt8.ofNat (((c.toNat : Nat) : Int)).toNat]⟩] S = some (.bool (decide (32 ≤ c.toNat) && decide (c.toNat ≤ 126)), S, false) := fun S => by rw [hcc]; exact hp S
     have hold := bR_at (Lg (l := Ep (Ei G f bs k) (f.line - 1)) (i := f.column - 1 + k) (by rw [M9]; exact hc80))
     have hst : ∀ (v : UInt8) m, v = prn c → (H ++ (HB (sbO nm x p0 c0) H.length (Ei G f bs k) ++ m)).set (H.length + (3 + 2 * (f.line - 1))) ⟨5, 1, (bR (Ep (Ei G f bs k) (f.line - 1))).set (f.column - 1 + k) [.int .u8 (v.toNat : Nat)], 0, 2, true⟩ = H ++ (HB (sbO nm x p0 c0) H.length (Ei G f bs (k + 1)) ++ m) := fun v m e => by
      subst e
      rw [bR_set]
      refine HB_set H _ (Ei G f bs k) m hr24 fun j => ?_
      rw [Q8 G f bs hkl j]
      have : bs.getD k 0 = c := by rw [List.getD_eq_getElem?_getD, hbk]; rfl
      rw [this]
      split
      ·
       rename_i e; rw [e]
      ·
       rfl
     have z1 : (0 : Int) ≤ ((f.line - 1 : Nat) : Int) := by omega
     have z2 : ((f.line - 1 : Nat) : Int) < ((24 : Nat) : Int) := by omega
     have z3 : (0 : Int) ≤ ((f.column - 1 + k : Nat) : Int) := by omega
     have z4 : ((f.column - 1 + k : Nat) : Int) < ((80 : Nat) : Int) := by omega
     refine Aj (Bo rfl (Ag (Aw (Ae ?_))))
     refine Ad rfl (Ab (by simp only [zl, zm, hiab] <;> exact rfl) ?_)
     refine Ab (by simp only [zl, zm, hlab] <;> exact rfl) ?_
     refine Ah rfl (Ah rfl ?_)
     refine Aa (Af ?_)
     refine Ag (Ae ?_)
     refine Ad rfl (Ab (by simp only [zl, zm, Cy, List.replicate, Aq, zs, zc, zf, hBl] <;> exact rfl) ?_)
     refine Ab (by simp only [zl, zm, Ik, hnw2] <;> exact rfl) ?_
     first
      | refine Ab (by simp only [zo]; exact hp _) ?_
      | refine Ab (by simp only [zo]; exact hp2 _) ?_
     refine Pw ?_
     refine Aa (Af ?_)
     refine Bv (by simp only [opd, zv] <;> exact rfl) (fun hcAFBT1CT => ?_) (fun hcAFBT1CT => ?_)
     ·
      have hv46 : (46 : UInt8) = prn c := by
       have h := hcAFBT1CT
       unfold prn
       rw [if_neg (by intro h2; rw [h2] at h; cases h)]
      have hst2 := fun m => hst 46 m hv46
      simp only [show ((((46 : UInt8).toNat : Nat) : Int)) = 46 from rfl] at hst2
      have hst3 := fun m => List.append_cancel_left ((Ez H _ _ _).symm.trans (hst2 m))
      refine Ak (Bi ?_)
      refine Aa (Af ?_)
      refine Fb ?_
      refine Bq rfl rfl (xo3 rfl rfl ?_)
      refine Ce (by simp only [zl, zm, zd, Az, List.take, List.drop, hnw] <;> exact rfl) rfl ?_
      refine Bp (by simp only [zo, Bl, hwl] <;> exact rfl) rfl rfl ?_
      refine Ce (by simp only [zl, zm, Ch, Int.toNat_natCast, hgl, z1, z2, GLi] <;> exact rfl) rfl ?_
      refine Ce (by simp only [zl, zm, zd, Az, List.take, List.drop, hgl, hgr, GLi] <;> exact rfl) rfl ?_
      refine xo3 rfl rfl ?_
      refine Ce (by simp only [zl, zm, zd, Az, List.take, List.drop, hnw] <;> exact rfl) rfl ?_
      refine Bp (by simp only [zo, Bl, hwc] <;> exact rfl) rfl rfl ?_
      refine Bq rfl rfl (Bp (by simp only [zo, Bl, hwa] <;> exact rfl) rfl rfl ?_)
      refine Bq rfl rfl (Ce (by simp only [zl, zm, Ch, Int.toNat_natCast, hgn, z3, z4, lnO] <;> exact rfl) rfl ?_)
      refine Ce (by simp only [zl, zm, Bt, overlay, zs, List.take, hBl, hgn, hold, lnO] <;> exact rfl) rfl ?_
      refine Dc (Em ?_)
      refine Af ?_
      refine Ak (Ab (by simp only [zo, Bl, hwk] <;> exact rfl) ?_)
      refine Ah rfl (Aa ?_)
      refine Et (by simp only [ze] <;> exact rfl) ?_
      exact ⟨f.size - (k + 1), by omega, k + 1, _, _, _, _, _, by omega, rfl, by rw [← hst3]; rfl, rfl⟩
     ·
      have hvc : c = prn c := by
       have h := hcAFBT1CT
       unfold prn
       rw [if_pos (by simpa using h)]
      have hst2 := fun m => hst c m hvc
      have hst3 := fun m => List.append_cancel_left ((Ez H _ _ _).symm.trans (hst2 m))
      refine Aj (Bo rfl ?_)
      refine Fb ?_
      refine Bq rfl rfl (xo3 rfl rfl ?_)
      refine Ce (by simp only [zl, zm, zd, Az, List.take, List.drop, hnw] <;> exact rfl) rfl ?_
      refine Bp (by simp only [zo, Bl, hwl] <;> exact rfl) rfl rfl ?_
      refine Ce (by simp only [zl, zm, Ch, Int.toNat_natCast, hgl, z1, z2, GLi] <;> exact rfl) rfl ?_
      refine Ce (by simp only [zl, zm, zd, Az, List.take, List.drop, hgl, hgr, GLi] <;> exact rfl) rfl ?_
      refine xo3 rfl rfl ?_
      refine Ce (by simp only [zl, zm, zd, Az, List.take, List.drop, hnw] <;> exact rfl) rfl ?_
      refine Bp (by simp only [zo, Bl, hwc] <;> exact rfl) rfl rfl ?_
      refine Bq rfl rfl (Bp (by simp only [zo, Bl, hwa] <;> exact rfl) rfl rfl ?_)
      refine Bq rfl rfl (Ce (by simp only [zl, zm, Ch, Int.toNat_natCast, hgn, z3, z4, lnO] <;> exact rfl) rfl ?_)
      refine Ce (by simp only [zl, zm, Bt, overlay, zs, List.take, hBl, hgn, hold, lnO] <;> exact rfl) rfl ?_
      refine Dc (Em ?_)
      refine Af ?_
      refine Ak (Ab (by simp only [zo, Bl, hwk] <;> exact rfl) ?_)
      refine Ah rfl (Aa ?_)
      refine Et (by simp only [ze] <;> exact rfl) ?_
      exact ⟨f.size - (k + 1), by omega, k + 1, _, _, _, _, _, by omega, rfl, by rw [← hst3]; rfl, rfl⟩
    ·
     have hk' : k = f.size := by have := of_decide_eq_false hcAFBT1C; omega
     subst hk'
     refine Da (Gm (Ie (Gq (Em (Bo rfl (Ak ?_))))))
     refine Ab (by simp only [zo, Bl, hw] <;> exact rfl) ?_
     refine Ah rfl (Aa ?_)
     refine Et (by simp only [ze] <;> exact rfl) ?_
     exact ⟨P.length - (i + 1), by omega, i + 1, _, _, _, _, _, _, _, _, _, _, _, _, _, _, _, _, _, by omega, rfl, by rw [Rp hlt, hPe, ← hG], rfl⟩
   ·
    rw [if_neg hk1'] at hbf
    have e1 : (((f.kind : Nat) : Int) == 1) = false := by rw [beq_eq_false_iff_ne]; omega
    have hb := hbf
    have hbl2 := hb.len
    rw [hbl] at hbl2
    refine Aj (Bo rfl (Ag (Aw (Ae ?_))))
    refine Ad rfl (Ab (by simp only [zl, zm, hia] <;> exact rfl) ?_)
    refine Ab (by simp only [zl, zm, hld] <;> exact rfl) ?_
    refine Ab (by simp only [zl, zm, hBl] <;> exact rfl) ?_
    refine Ah rfl (Ab (by simp only [zl, zm, Bt, overlay, Cf, zs, zc, zf, List.take, List.drop, hnw, hns, hBl, htx.Ti, hop.Ti] <;> exact rfl) ?_)
    refine Aa (Af ?_)
    refine Ae (Ad rfl ?_)
    refine Ad rfl (Ab (by simp only [zl, zm, hiv] <;> exact rfl) ?_)
    refine Ab (by simp only [zl, zm, hlv] <;> exact rfl) ?_
    refine Ah rfl (Aa ?_)
    refine Af ?_
    refine Ag (Ae ?_)
    refine xo0 ?_
    refine Ab (by simp only [zl, zm, zd, Az, List.take, List.drop, hnw] <;> exact rfl) ?_
    refine Ab (by simp only [zo, Bl, e1] <;> exact rfl) ?_
    refine Aa (Af ?_)
    skip
    refine Cv ?_
    refine Aj (Bo rfl (Ag (Ae ?_)))
    refine Ad rfl (Ab (by simp only [zo, hbl2] <;> exact rfl) ?_)
    refine xo0 ?_
    refine xo0 ?_
    refine Ab (by simp only [zl, zm, zd, Az, List.take, List.drop, hnw] <;> exact rfl) ?_
    refine xo22 ?_
    refine Aa (Af ?_)
    skip
    refine Cv ?_
    refine Aj (Bo rfl (Ae ?_))
    refine Ad rfl (Ab (by simp only [zo, hbl2] <;> exact rfl) ?_)
    refine Bi (Aa ?_)
    refine Af ?_
    refine Aw ?_
    refine Dq (fun n env S' => ∃ (k : Nat) (t2 : List Sr) (v11 v12 v30 v31 : D), k ≤ f.size ∧ n = f.size - k ∧ S' = ⟨H ++ (HB (sbO nm x p0 c0) H.length (Ei G f bs k) ++ (t ++ FO [.int .i64 (f.line : Nat), .int .i64 (f.column : Nat), .int .u8 (f.kind : Nat), tx, .int .u8 (if nu then (if f.size = 1 then 4 else 5) else 2), .int .u8 0, .str (Jc nu f.size), .int .i64 (if nu then (f.size : Nat) else 0), .int .i64 0, .bool false, .bool false, .bool false, .bool false, .bool false, .int .i64 (f.size : Nat), op] :: t2)), H.length⟩ ∧ env = [.agg [.str nm, x, .int .i64 (p0 : Nat), .int .i64 (c0 : Nat)], xv, .ptr H.length 0 0 0, .Tt, .int .i64 0, .int .i64 0, .msl (H.length + 1) 0 0 24 none, u7, .int .i64 (i : Nat), .ptr (H.length + (50 + t.length)) 0 0 0, w, v11, v12, .undef, .undef, .undef, .bool false, .bool false, .int .i64 24, u19, u20, x, .int .i64 rows.length, .int .i64 (i : Nat), .bool (decide (((i : Nat) : Int) < ((rows.length : Nat) : Int))), .bool false, .bool false, w, .int .i64 (f.size : Nat), .int .i64 (k : Nat), v30, v31, .undef, .undef, .undef, .undef]) (f.size) (by omega) (⟨0, [], _, _, _, _, by omega, by omega, by rw [paintK_0]; rfl, rfl⟩) ?_
    rintro n env S' ⟨k, t2, v11, v12, v30, v31, hk, hnk2, rfl, rfl⟩
    refine Ae (Ab (by simp only [zo, Bl, FO] <;> exact rfl) ?_)
    refine Aa (Af ?_)
    refine Ag ?_
    refine Bv (by simp only [opd, zv] <;> exact rfl) (fun hcAFBT2C => ?_) (fun hcAFBT2C => ?_)
    ·
     have hkl : k < f.size := by have := of_decide_eq_true hcAFBT2C; omega
     have hwk := Dh k (by omega)
     have hbk : bs[k]? = some (bs[k]'(by omega)) := Lg _
     obtain ⟨c, hc⟩ : ∃ c, c = bs[k]'(by omega) := ⟨_, rfl⟩
     rw [← hc] at hbk
     obtain ⟨A, hA⟩ := hb.rd k c hbk
     have hiab := fun l lo => (hA l lo).1
     have hlab := fun l lo => (hA l lo).2
     have hln := f.line_le
     have hcn := f.column_le
     have hwl : IntKind.i64.wrap (((f.line : Nat) : Int) - 1) = ((f.line - 1 : Nat) : Int) := by rw [IntKind.wrap_i64]; omega
     have hwc : IntKind.i64.wrap (((f.column : Nat) : Int) - 1) = ((f.column - 1 : Nat) : Int) := by rw [IntKind.wrap_i64]; omega
     have hwa : IntKind.i64.wrap (((f.column - 1 : Nat) : Int) + ((k : Nat) : Int)) = ((f.column - 1 + k : Nat) : Int) := by rw [IntKind.wrap_i64]; omega
     have hr24 : f.line - 1 < 24 := by omega
     have hc80 : f.column - 1 + k < 80 := by omega
     have hgl := fun G t => HB_gl H (sbO nm x p0 c0) G t
     have hgr := (Ho (n0 := H.length) (i := 24) hr24).trans (by rw [if_pos hr24])
     have hgn := fun G t => HB_ln H (sbO nm x p0 c0) G t hr24
     have hnw2 : ∀ (G : G9) (fo o : Sr), (H ++ (HB (sbO nm x p0 c0) H.length G ++ (t ++ fo :: (t2 ++ [o]))))[H.length + (50 + (t.length + (t2.length + 1)))]? = some o := fun G fo o => by
      have := HB_new H (sbO nm x p0 c0) G (t ++ fo :: t2) o []
      simpa using this
     have hbo : bytesOf [[D.int .u8 (c.toNat : Nat)]] = some [c] := by simp [bytesOf]
     have hp := fun S => prn_run (d := d) (by omega) S c
     have hcc : UInt8.ofNat (((c.toNat : Nat) : Int)).toNat = c := by simp
     have hp2 : ∀ S, Bc LP NN d 46 [.str ⟨#[UInt8.ofNat (((c.toNat : Nat) : Int)).toNat]⟩] S = some (.bool (decide (32 ≤ c.toNat) && decide (c.toNat ≤ 126)), S, false) := fun S => by rw [hcc]; exact hp S
     have hold := bR_at (Lg (l := Ep (Ei G f bs k) (f.line - 1)) (i := f.column - 1 + k) (by rw [M9]; exact hc80))
     have hst : ∀ (v : UInt8) m, v = prn c → (H ++ (HB (sbO nm x p0 c0) H.length (Ei G f bs k) ++ m)).set (H.length + (3 + 2 * (f.line - 1))) ⟨5, 1, (bR (Ep (Ei G f bs k) (f.line - 1))).set (f.column - 1 + k) [.int .u8 (v.toNat : Nat)], 0, 2, true⟩ = H ++ (HB (sbO nm x p0 c0) H.length (Ei G f bs (k + 1)) ++ m) := fun v m e => by
      subst e
      rw [bR_set]
      refine HB_set H _ (Ei G f bs k) m hr24 fun j => ?_
      rw [Q8 G f bs hkl j]
      have : bs.getD k 0 = c := by rw [List.getD_eq_getElem?_getD, hbk]; rfl
      rw [this]
      split
      ·
       rename_i e; rw [e]
      ·
       rfl
     have z1 : (0 : Int) ≤ ((f.line - 1 : Nat) : Int) := by omega
     have z2 : ((f.line - 1 : Nat) : Int) < ((24 : Nat) : Int) := by omega
     have z3 : (0 : Int) ≤ ((f.column - 1 + k : Nat) : Int) := by omega
     have z4 : ((f.column - 1 + k : Nat) : Int) < ((80 : Nat) : Int) := by omega
     refine Aj (Bo rfl (Ag (Aw (Ae ?_))))
     refine Ad rfl (Ab (by simp only [zl, zm, hiab] <;> exact rfl) ?_)
     refine Ab (by simp only [zl, zm, hlab] <;> exact rfl) ?_
     refine Ah rfl (Ah rfl ?_)
     refine Aa (Af ?_)
     refine Ag (Ae ?_)
     refine Ad rfl (Ab (by simp only [zl, zm, Cy, List.replicate, Aq, zs, zc, zf, hBl] <;> exact rfl) ?_)
     refine Ab (by simp only [zl, zm, Ik, hnw2] <;> exact rfl) ?_
     first
      | refine Ab (by simp only [zo]; exact hp _) ?_
      | refine Ab (by simp only [zo]; exact hp2 _) ?_
     refine Pw ?_
     refine Aa (Af ?_)
     refine Bv (by simp only [opd, zv] <;> exact rfl) (fun hcAFBT2CT => ?_) (fun hcAFBT2CT => ?_)
     ·
      have hv46 : (46 : UInt8) = prn c := by
       have h := hcAFBT2CT
       unfold prn
       rw [if_neg (by intro h2; rw [h2] at h; cases h)]
      have hst2 := fun m => hst 46 m hv46
      simp only [show ((((46 : UInt8).toNat : Nat) : Int)) = 46 from rfl] at hst2
      have hst3 := fun m => List.append_cancel_left ((Ez H _ _ _).symm.trans (hst2 m))
      refine Ak (Bi ?_)
      refine Aa (Af ?_)
      refine Fb ?_
      refine Bq rfl rfl (xo3 rfl rfl ?_)
      refine Ce (by simp only [zl, zm, zd, Az, List.take, List.drop, hnw] <;> exact rfl) rfl ?_
      refine Bp (by simp only [zo, Bl, hwl] <;> exact rfl) rfl rfl ?_
      refine Ce (by simp only [zl, zm, Ch, Int.toNat_natCast, hgl, z1, z2, GLi] <;> exact rfl) rfl ?_
      refine Ce (by simp only [zl, zm, zd, Az, List.take, List.drop, hgl, hgr, GLi] <;> exact rfl) rfl ?_
      refine xo3 rfl rfl ?_
      refine Ce (by simp only [zl, zm, zd, Az, List.take, List.drop, hnw] <;> exact rfl) rfl ?_
      refine Bp (by simp only [zo, Bl, hwc] <;> exact rfl) rfl rfl ?_
      refine Bq rfl rfl (Bp (by simp only [zo, Bl, hwa] <;> exact rfl) rfl rfl ?_)
      refine Bq rfl rfl (Ce (by simp only [zl, zm, Ch, Int.toNat_natCast, hgn, z3, z4, lnO] <;> exact rfl) rfl ?_)
      refine Ce (by simp only [zl, zm, Bt, overlay, zs, List.take, hBl, hgn, hold, lnO] <;> exact rfl) rfl ?_
      refine Dc (Em ?_)
      refine Af ?_
      refine Ak (Ab (by simp only [zo, Bl, hwk] <;> exact rfl) ?_)
      refine Ah rfl (Aa ?_)
      refine Et (by simp only [ze] <;> exact rfl) ?_
      exact ⟨f.size - (k + 1), by omega, k + 1, _, _, _, _, _, by omega, rfl, by rw [← hst3]; rfl, rfl⟩
     ·
      have hvc : c = prn c := by
       have h := hcAFBT2CT
       unfold prn
       rw [if_pos (by simpa using h)]
      have hst2 := fun m => hst c m hvc
      have hst3 := fun m => List.append_cancel_left ((Ez H _ _ _).symm.trans (hst2 m))
      refine Aj (Bo rfl ?_)
      refine Fb ?_
      refine Bq rfl rfl (xo3 rfl rfl ?_)
      refine Ce (by simp only [zl, zm, zd, Az, List.take, List.drop, hnw] <;> exact rfl) rfl ?_
      refine Bp (by simp only [zo, Bl, hwl] <;> exact rfl) rfl rfl ?_
      refine Ce (by simp only [zl, zm, Ch, Int.toNat_natCast, hgl, z1, z2, GLi] <;> exact rfl) rfl ?_
      refine Ce (by simp only [zl, zm, zd, Az, List.take, List.drop, hgl, hgr, GLi] <;> exact rfl) rfl ?_
      refine xo3 rfl rfl ?_
      refine Ce (by simp only [zl, zm, zd, Az, List.take, List.drop, hnw] <;> exact rfl) rfl ?_
      refine Bp (by simp only [zo, Bl, hwc] <;> exact rfl) rfl rfl ?_
      refine Bq rfl rfl (Bp (by simp only [zo, Bl, hwa] <;> exact rfl) rfl rfl ?_)
      refine Bq rfl rfl (Ce (by simp only [zl, zm, Ch, Int.toNat_natCast, hgn, z3, z4, lnO] <;> exact rfl) rfl ?_)
      refine Ce (by simp only [zl, zm, Bt, overlay, zs, List.take, hBl, hgn, hold, lnO] <;> exact rfl) rfl ?_
      refine Dc (Em ?_)
      refine Af ?_
      refine Ak (Ab (by simp only [zo, Bl, hwk] <;> exact rfl) ?_)
      refine Ah rfl (Aa ?_)
      refine Et (by simp only [ze] <;> exact rfl) ?_
      exact ⟨f.size - (k + 1), by omega, k + 1, _, _, _, _, _, by omega, rfl, by rw [← hst3]; rfl, rfl⟩
    ·
     have hk' : k = f.size := by have := of_decide_eq_false hcAFBT2C; omega
     subst hk'
     refine Da (Gm (Ie (Gq (Em (Bo rfl (Ak ?_))))))
     refine Ab (by simp only [zo, Bl, hw] <;> exact rfl) ?_
     refine Ah rfl (Aa ?_)
     refine Et (by simp only [ze] <;> exact rfl) ?_
     exact ⟨P.length - (i + 1), by omega, i + 1, _, _, _, _, _, _, _, _, _, _, _, _, _, _, _, _, _, by omega, rfl, by rw [Rp hlt, hPe, ← hG], rfl⟩
  ·
   have hi' : i = P.length := by have := of_decide_eq_false hcAFB; omega
   subst hi'
   have hnw := fun G o m => HB_new H (sbO nm x p0 c0) G t o m
   have hns := fun G o y m => HB_newS H (sbO nm x p0 c0) G t o y m
   have hBl := fun G => Ms (sbO nm x p0 c0) H.length G
   have hsbo := fun G t => HB_sb H (sbO nm x p0 c0) G t
   refine Da (Gm (Ie (Gq (Bo rfl (Ae ?_)))))
   refine Ab (by simp only [zl, zm, Int.reduceToNat, hBl] <;> exact rfl) ?_
   refine Ah rfl (Aa ?_)
   refine Af ?_
   refine Ag (Ae ?_)
   refine Ad rfl (xo9 ?_)
   refine Bi (Aa ?_)
   refine Af ?_
   refine Aw ?_
   refine Dq (fun n env S' => ∃ (i : Nat) (w14 w15 w24 w35 : D), i ≤ 24 ∧ n = 24 - i ∧ S' = ⟨H ++ (HB (sbO nm x p0 c0) H.length (Cz P) ++ (t ++ [⟨9, 1, En (Cz P) i, 0, 2, false⟩])), H.length⟩ ∧ env = [.agg [.str nm, x, .int .i64 (p0 : Nat), .int .i64 (c0 : Nat)], xv, .ptr H.length 0 0 0, .Tt, .int .i64 0, .int .i64 0, .msl (H.length + 1) 0 0 24 none, u7, u8, u9, u10, u11, u12, .msl (H.length + (50 + t.length)) 0 0 24 none, w14, w15, .bool false, .bool false, .int .i64 24, u19, u20, x, .int .i64 rows.length, .int .i64 (P.length : Nat), w24, u25, u26, u27, u28, u29, u30, u31, .msl (H.length + 1) 0 0 24 none, .int .i64 24, .int .i64 (i : Nat), w35]) (24) (by omega) (⟨0, _, _, _, _, by omega, by omega, by rw [List.take_length]; rfl, rfl⟩) ?_
   rintro n env S' ⟨i, w14, w15, w24, w35, hi2, hnk3, rfl, rfl⟩
   refine Ae (xo2 ?_)
   refine Aa (Af ?_)
   refine Ag ?_
   refine Bv (by simp only [opd, zv] <;> exact rfl) (fun hcAFBFD => ?_) (fun hcAFBFD => ?_)
   ·
    have hlt : i < 24 := by have := of_decide_eq_true hcAFBFD; omega
    have hw := Dh i (by omega)
    have h0 : (0 : Int) ≤ (i : Int) := by omega
    have h24 : (i : Int) < ((24 : Nat) : Int) := by omega
    have hgl := fun G t => HB_gl H (sbO nm x p0 c0) G t
    have hgr := (Ho (n0 := H.length) (i := 24) hlt).trans (by rw [if_pos hlt])
    have hgn := fun G t => HB_ln H (sbO nm x p0 c0) G t hlt
    have hTr : ∀ m lo, Bc LP NN d 47 [.msl (H.length + (3 + 2 * i)) 0 0 80 (some 80)] ⟨H ++ (HB (sbO nm x p0 c0) H.length (Cz P) ++ m), lo⟩ = some (.sl 1 (bR ((Ep (Cz P) i).take (tn (Ep (Cz P) i)))) (some (tn (Ep (Cz P) i))), ⟨H ++ (HB (sbO nm x p0 c0) H.length (Cz P) ++ m), lo⟩, false) := fun m lo => by
     have := trim_run (d := d) (cap := some 80) (by omega) (hgn (Cz P) m) (by rw [M9]; omega) lo
     rwa [M9] at this
    have hbb := bytesOf_bR ((Ep (Cz P) i).take (tn (Ep (Cz P) i)))
    have hoa := (Io (G := Cz P) (i := i) hlt).trans (by rw [if_neg (by omega)])
    have hos := outRows_set (G := Cz P) hlt
    rw [show trS (Cz P) i = ⟨((Ep (Cz P) i).take (tn (Ep (Cz P) i))).toArray⟩ from rfl] at hos
    refine Aj (Bo rfl (Ag (Aw (Ae ?_))))
    refine Ad rfl (Ab (by simp only [zl, zm, Ch, Int.toNat_natCast, h0, h24, hgl, GLi] <;> exact rfl) ?_)
    refine Ab (by simp only [zl, zm, zd, Az, List.take, List.drop, hgl, hgr, GLi] <;> exact rfl) ?_
    refine Ah rfl (Ah rfl ?_)
    refine Aa (Af ?_)
    refine Ak (Ad rfl ?_)
    refine Ad rfl (Ad rfl ?_)
    refine Ab (by simp only [zo]; exact hTr _ _) ?_
    refine Ab (by simp only [zl, zm, F7, hbb] <;> exact rfl) ?_
    refine Ab (by simp only [zl, zm, Ch, Int.toNat_natCast, hnw, h0, h24] <;> exact rfl) ?_
    refine Ab (by simp only [zl, zm, Bt, overlay, zs, List.take, hnw, hns, hBl, hoa] <;> exact rfl) ?_
    refine Aa (Em ?_)
    refine Af ?_
    refine Ak (Ab (by simp only [zo, Bl, hw] <;> exact rfl) ?_)
    refine Ah rfl (Aa ?_)
    refine Et (by simp only [ze] <;> exact rfl) ?_
    exact ⟨24 - (i + 1), by omega, i + 1, _, _, _, _, by omega, rfl, by rw [← hos]; rfl, rfl⟩
   ·
    have hi' : i = 24 := by have := of_decide_eq_false hcAFBFD; omega
    subst hi'
    have hto : (En (Cz P) 24).take 24 = En (Cz P) 24 := List.take_of_length_le (by rw [Gt]; exact Nat.le_refl _)
    have hol := Gt (Cz P) 24
    have hge : H.length ≤ H.length + (50 + t.length) := by omega
    refine Da (Gm (Ie (Gq (Bo rfl (Ae ?_)))))
    refine Ad rfl (Ah rfl ?_)
    refine Bi (Aa ?_)
    refine Af ?_
    refine Bw ?_
    refine ⟨_, by simp only [F20, Ay, Cb, Dx, zg] <;> exact rfl, ?_⟩
    simp [leave, LP, Tf, Tc, snap, D.Te, D.Td, D.free, D.Tj, Aq, hnw, hto, hol, hge]

def OL (l : List Sr) (n0 q : Nat) (x : D) (rows : List (List D)) : Prop := (x = .Tt ∧ rows = []) ∨ ∃ vs, x = .msl (n0 + q) vs 0 rows.length none ∧ l[q]? = some ⟨74, 2, rows, vs, 0, true⟩
theorem OL.app {H l : List Sr} {q n0 : Nat} {x : D} {rows : List (List D)} {row : List D} (hn : H.length = n0) (h : OL l n0 q x rows) (hq : 0 < q) (hl : rows.length < 1000) (hpos : 0 < l.length) :
  ∃ x' l' q', Bu 74 2 32 0 x (.msl (n0 + l.length) 0 0 1 none) ⟨H ++ (l ++ [⟨74, 2, [row], 0, 0, false⟩]), n0⟩ = some (x', ⟨H ++ l', n0⟩, true) ∧ OL l' n0 q' x' (rows ++ [row]) ∧ 0 < q' ∧ l.length + 1 ≤ l'.length ∧ l'[0]? = l[0]? ∧ x'.Ti = true ∧ ∀ (k : Nat) (o : Sr), l[k]? = some o → o.elem ≠ 74 → l'[k]? = some o := by
 subst hn
 have hr : (H ++ (l ++ [(⟨74, 2, [row], 0, 0, false⟩ : Sr)]))[H.length + l.length]? = some ⟨74, 2, [row], 0, 0, false⟩ := by rw [Cu, Du]; rfl
 have hread : Dl ⟨H ++ (l ++ [⟨74, 2, [row], 0, 0, false⟩]), H.length⟩ 2 (.msl (H.length + l.length) 0 0 1 none) = some [row] := by simp [Dl, rowsOf]
 rcases h with ⟨rfl, rfl⟩ | ⟨vs, rfl, ho⟩
 ·
  refine ⟨.msl (H.length + (l.length + 1)) 0 0 1 none, l ++ [⟨74, 2, [row], 0, 0, false⟩, ⟨74, 2, [row], 0, 0, true⟩], l.length + 1, ?_, .inr ⟨0, rfl, by simp⟩, by omega, by simp, by rw [La_ hpos], rfl, fun k o h _ => by rw [Cg (Bd h)]; exact h⟩
  simp [Bu, hread, Bb, newAt]
 ·
  have hql := Bd ho
  have hz : (H ++ (l ++ [(⟨74, 2, [row], 0, 0, false⟩ : Sr)]))[H.length + q]? = some ⟨74, 2, rows, vs, 0, true⟩ := by rw [Cu, Cg hql]; exact ho
  refine ⟨.msl (H.length + q) (vs + 1) 0 (rows.length + 1) none, l.set q ⟨74, 2, rows ++ [row], vs + 1, 0, true⟩ ++ [⟨74, 2, [row], 0, 0, false⟩], q, ?_, .inr ⟨vs + 1, by simp, by rw [Cg (by simpa using hql)]; exact Ef hql _⟩, hq, by simp, ?_, rfl, fun k o h he => ?_⟩
  ·
   have hb : (rows.length + 1) * 32 ≤ 140737488355328 := by omega
   have hmin : min H.length (H.length + q) = H.length := by omega
   simp [Bu, hread, Bb, rowsOf, hz, setAt, hb, hmin, Hd hql]
  ·
   rw [La_ (by simpa using hpos), Ln_ (by omega)]
  ·
   rw [Cg (by simpa using Bd h), Ln_ ?_]
   ·
    exact h
   ·
    intro e
    subst e
    rw [ho] at h
    cases h
    exact he rfl
theorem OL.len {l : List Sr} {n0 q : Nat} {x : D} {rows : List (List D)} (h : OL l n0 q x rows) : I1 false x = some (.int .i64 (rows.length : Nat)) := by
 rcases h with ⟨rfl, rfl⟩ | ⟨vs, rfl, _⟩ <;> rfl
theorem OL.more {l : List Sr} {n0 q : Nat} {x : D} {rows : List (List D)} (h : OL l n0 q x rows) (m : List Sr) : OL (l ++ m) n0 q x rows := by
 rcases h with h | ⟨vs, h1, h2⟩
 ·
  exact .inl h
 ·
  exact .inr ⟨vs, h1, by rw [Cg (Bd h2)]; exact h2⟩
def Gi (T : Nat → D × Bool) (m j : Nat) : Option (Nat × D) := if j < m then (if (T j).2 then some (j + 1, (T j).1) else Gi T m (j + 1)) else none
termination_by m - j
def K8 (T : Nat → Nat → D × Bool) (m : Nat) : List FM → Nat → Nat → List (Nat × D) → Option (Nat × List (Nat × D))
 | [], _, used, out => some (used, out)
 | f :: l, i, used, out => if f.kind < 3 then K8 T m l (i + 1) used out else match Gi (T i) m used with
  | none => none
  | some (j, b) => K8 T m l (i + 1) j (out ++ [(i, b)])
def Ic (l : List (Nat × D)) : List (List D) := l.map fun p => [.int .i64 (p.1 : Nat), p.2]
theorem Qv (l : List (Nat × D)) (i : Nat) (b : D) : Ic (l ++ [(i, b)]) = Ic l ++ [[.int .i64 (i : Nat), b]] := by simp [Ic]
theorem tyRows_len (l : List (Nat × D)) : (Ic l).length = l.length := by simp [Ic]
theorem clip49_msl {d : Nat} (hd : 1 ≤ d) {H : List Sr} {gs vs : Nat} {rows : List (List D)} (h2 : H[gs]? = some ⟨74, 2, rows, vs, 0, true⟩) (lo : Nat) : Bc LP NN d 49 [.msl gs vs 0 rows.length none] ⟨H, lo⟩ = some (.msl gs vs 0 rows.length (some rows.length), ⟨H, lo⟩, false) := by
 have hb : ∀ (n : Nat), (0 : Int) ≤ (n : Int) := fun n => by omega
 refine Dt (F := F49) rfl (by simp only [LP, Aq, zs, zm, h2, show ((0 : Nat) = 1) = False from by decide, show ((0 : Nat) = 2) = False from by decide, and_false, or_self] <;> exact rfl) rfl (by simp only [LP, zf, zm, Bool.and_false]; try rfl) (by simp only [F49, zv] <;> exact rfl) (by omega) ?_
 rintro d rfl
 refine Ae (Bi ?_)
 refine Aa (Af ?_)
 refine Ae (Ad rfl ?_)
 refine Ad rfl (xo9 ?_)
 refine Ad rfl (xo9 ?_)
 refine Ab (by simp only [zl, zm, Br, D6, Fv, Co, Eo, Dw, h2, hb, Int.toNat_natCast, Nat.zero_le, Nat.le_refl, Nat.sub_zero] <;> exact rfl) ?_
 refine Ah rfl (Aa ?_)
 refine Af ?_
 refine Bw ?_
 refine ⟨_, by simp only [F49, Ay, Cb, Dx, zg] <;> exact rfl, ?_⟩
 simp [leave, LP, Tf, Tc, snap, D.Te, D.Td, D.free, D.Tj, h2]

theorem clip49_nil {d : Nat} (hd : 1 ≤ d) (H : List Sr) (lo : Nat) : Bc LP NN d 49 [.Tt] ⟨H, lo⟩ = some (.Tt, ⟨H, lo⟩, false) := by
 refine Dt (F := F49) rfl (by simp only [LP, Aq, zs] <;> exact rfl) rfl (by simp only [LP, zf, zm]; try rfl) (by simp only [F49, zv] <;> exact rfl) (by omega) ?_
 rintro d rfl
 refine Ae (Bi ?_)
 refine Aa (Af ?_)
 refine Ae (Ad rfl ?_)
 refine Ad rfl (Ab (by simp only [zo, Nc] <;> exact rfl) ?_)
 refine Ad rfl (Ab (by simp only [zo, Nc] <;> exact rfl) ?_)
 refine Ab (by simp only [zl, Br, D6, Co, Eo, Dw] <;> exact rfl) ?_
 refine Ah rfl (Aa ?_)
 refine Af ?_
 refine Bw ?_
 refine ⟨_, by simp only [F49, Ay, Cb, Dx, zg] <;> exact rfl, ?_⟩
 simp [leave, LP, Tf, Tc, snap, D.Te, D.Td, D.free, D.Tj]

theorem clip49_run {d : Nat} (hd : 1 ≤ d) {H l : List Sr} {q : Nat} {x : D} {rows : List (List D)} (h : OL l H.length q x rows) (lo : Nat) : Bc LP NN d 49 [x] ⟨H ++ l, lo⟩ = some (De x, ⟨H ++ l, lo⟩, false) := by
 rcases h with ⟨rfl, rfl⟩ | ⟨vs, rfl, h2⟩
 ·
  exact clip49_nil hd _ lo
 ·
  exact clip49_msl hd (by rw [Cu]; exact h2) lo

def TL (H : List Sr) (go : Nat) (y : D) (rows : List (List D)) : Prop := (y = .Tt ∧ rows = []) ∨ ∃ vs, y = .msl go vs 0 rows.length (some rows.length) ∧ H[go]? = some ⟨74, 2, rows, vs, 0, true⟩
def AccR (H : List Sr) (lo : Nat) : Option (Nat × List (Nat × D)) → D × St × Bool → Prop
 | none, x => x = (.tup [.Tt, .int .i64 0, .int .i64 7], ⟨H, lo⟩, false)
 | some (u, out), x => ∃ y H' go wr, x = (.tup [y, .int .i64 (u : Nat), .int .i64 0], ⟨H', lo⟩, wr) ∧ TL H' go y (Ic out) ∧ H.length ≤ H'.length ∧ (∀ k, k < H.length → H'[k]? = H[k]?) ∧ u ≤ 1000000
theorem accept_run {d : Nat} (hd : 24 ≤ d) {H : List Sr} {x xl : D} {rows : List (List D)} {gs v : Nat} {l0 : List FM} {ls : List ByteArray} {T : Nat → Nat → D × Bool} (hS : SrcF H x rows gs v) (hR : RW l0 rows) (hl0 : SlD 1 (Dz ls) xl) (hlen : l0.length ≤ 256) (hls : ls.length ≤ 1000)
  (hT : ∀ i j p (hi : i < l0.length) (hj : j < ls.length), 3 ≤ l0[i].kind → (∀ d', d = d' + 1 → ∀ S, Bc LP NN d' 48 [.agg (H7 l0[i] p), .str ls[j]] S = some (.tup [(T i j).1, .bool (T i j).2], S, false)) ∧ ∃ ys, SlD 1 ys (T i j).1) (nm : ByteArray) (p0 c0 : Nat) (lo : Nat) (hlo : lo ≤ H.length) :
  ∃ r, AccR H lo (K8 T ls.length l0 0 0 []) r ∧ Bc LP NN d 23 [.agg [.str nm, x, .int .i64 (p0 : Nat), .int .i64 (c0 : Nat)], xl] ⟨H, lo⟩ = some r := by
 have hrl := hR.len
 have hchk : ∀ d', d = d' + 1 → ∀ l lo, Bc LP NN d' 13 [.agg [.str nm, x, .int .i64 (p0 : Nat), .int .i64 (c0 : Nat)]] ⟨H ++ l, lo⟩ = some (.int .i64 0, ⟨H ++ l, lo⟩, false) := fun d' e l lo => check_run (l0 := l0) (by omega) (hS.mono l) hR (by omega) nm p0 c0 lo
 refine run_at_ex (F := F23) (P := fun r => AccR H lo (K8 T ls.length l0 0 0 []) r) rfl (by simp only [LP, Aq, Cf, zs, zm, hS.zero, hl0.Tc] <;> exact rfl) rfl (by simp only [LP, zf, zm]; try rfl) (by simp only [F23, zv] <;> exact rfl) (by omega) ?_
 rintro d rfl
 have zz9 := And.intro hl0.len (And.intro hS.len (And.intro hS.cell (And.intro @Cu (@Du))))
 refine Ae (Ab (by simp only [zl, zm, zc, zz9] <;> exact rfl) ?_)
 refine Bi (Bi ?_)
 refine Bi (Aa ?_)
 refine Af ?_
 refine Ag (Ae ?_)
 refine xo21 ?_
 refine Ab (by simp only [zo]; exact hchk d rfl _ _) ?_
 refine Ah rfl (Aa ?_)
 refine Af ?_
 refine Ae (Ad rfl ?_)
 refine Go.Proofs.YtkaedpmmopigkaaGreatDoor.xo2 ?_
 refine Aa (Af ?_)
 skip
 refine Cv ?_
 refine Aj (Bo rfl (Ae ?_))
 refine Bi (Aa ?_)
 refine Af ?_
 refine Ae (Bi ?_)
 refine Aa (Af ?_)
 refine Ag (Ae ?_)
 refine xo0 ?_
 refine xo21 ?_
 refine Ab (by simp only [zo, zz9] <;> exact rfl) ?_
 refine Bi (Aa ?_)
 refine Af ?_
 refine Aw ?_
 refine Dq (fun n env S' => ∃ (i used q : Nat) (out : List (Nat × D)) (l : List Sr) (xo u9 u10 u11 u12 u13 u18 u19 u20 u21 u22 : D), i ≤ l0.length ∧ n = l0.length - i ∧ S' = ⟨H ++ l, H.length⟩ ∧ env = [.agg [.str nm, x, .int .i64 (p0 : Nat), .int .i64 (c0 : Nat)], xl, .ptr H.length 0 0 0, .Tt, .int .i64 0, .int .i64 0, .int .i64 0, xo, .int .i64 (used : Nat), u9, u10, u11, u12, u13, .bool false, x, .int .i64 rows.length, .int .i64 (i : Nat), u18, u19, u20, u21, u22] ∧ OL l H.length q xo (Ic out) ∧ 0 < q ∧ l[0]? = some (sbO nm x p0 c0) ∧ used ≤ ls.length ∧ out.length ≤ i ∧ K8 T ls.length l0 0 0 [] = K8 T ls.length (l0.drop i) i used out) (l0.length) (by omega) (⟨0, 0, 1, [], [sbO nm x p0 c0], .Tt, _, _, _, _, _, _, _, _, _, _, by omega, by omega, rfl, rfl, .inl ⟨rfl, rfl⟩, by omega, rfl, by omega, by simp, by rw [List.drop_zero]⟩) ?_
 rintro n env S' ⟨i, used, q, out, l, xo, u9, u10, u11, u12, u13, u18, u19, u20, u21, u22, hi, hnk, rfl, rfl, hO, hq, hsb, hu, hou, hacc⟩
 refine Ae (Go.Proofs.YtkaedpmmopigkaaGreatDoor.xo2 ?_)
 refine Aa (Af ?_)
 refine Ag ?_
 refine Bv (by simp only [opd, zv] <;> exact rfl) (fun hcA => ?_) (fun hcA => ?_)
 ·
  have hlt : i < rows.length := by have := of_decide_eq_true hcA; omega
  have hlt0 : i < l0.length := by omega
  have hw := Dh i (by omega)
  have hdr := List.drop_eq_getElem_cons hlt0
  obtain ⟨f, hf0⟩ : ∃ f, f = l0[i] := ⟨_, rfl⟩
  rw [← hf0] at hdr
  have hia := fun l lo => hS.ia l lo i hlt
  obtain ⟨p, hrow⟩ := hR.at_ hlt0
  rw [← hf0] at hrow
  have hld := fun (l : List Sr) lo => hS.ld l lo i _ hrow (by rw [Oy]; exact Nat.le_refl _)
  rw [P6] at hld
  have hTy := fun j hj hk => hT i j p hlt0 hj (by rw [← hf0]; exact hk)
  rw [← hf0] at hTy
  obtain ⟨tx, op, nu, r1, r2, hrf, htx, hop, hk1, hk2⟩ := P7 f p
  rw [hrf] at hld hTy
  have hkd := f.kind_le
  have hsb1 := Bd hsb
  have hll0 : ∀ o : Sr, (l ++ [o])[l.length]? = some o := fun o => by simp
  have hlls : ∀ o y : Sr, (l ++ [o]).set l.length y = l ++ [y] := fun o y => by simp
  have zz10 := And.intro hw (And.intro hia (And.intro hld (And.intro hll0 (And.intro hlls (And.intro htx.Ti (And.intro hop.Ti (And.intro htx.cells (And.intro hop.cells (And.intro htx.val (hop.val))))))))))
  rcases (by omega : f.kind < 3 ∨ f.kind = 3 ∨ f.kind = 4) with hkk | hkk | hkk
  ·
   have e3 : (((f.kind : Nat) : Int) != 3) = true := by rw [bne_iff_ne]; omega
   have e4 : (((f.kind : Nat) : Int) != 4) = true := by rw [bne_iff_ne]; omega
   refine Aj (Bo rfl (Ag (Aw (Ae ?_))))
   refine Ad rfl (Ab (by simp only [zl, zm, zz10] <;> exact rfl) ?_)
   refine Ab (by simp only [zl, zm, zz10] <;> exact rfl) ?_
   refine xo8 ?_
   refine Ah rfl (xo27 ?_)
   refine Aa (Af ?_)
   refine Ag (Ae ?_)
   refine xo0 ?_
   refine xo21 ?_
   refine Ab (by simp only [zo, Bl, e3] <;> exact rfl) ?_
   refine Ah rfl (Ec 0 (b := true) ?_)
   refine Am rfl (xo0 ?_)
   refine Am rfl (xo21 ?_)
   refine Am rfl (Ab (by simp only [zo, Bl, e4] <;> exact rfl) ?_)
   refine xo1 ?_
   refine Aa (Af ?_)
   skip
   refine I8 ?_
   refine Da (Gm (Gq (Bo rfl (Ak ?_))))
   refine Ab (by simp only [zo, Bl, zz10] <;> exact rfl) ?_
   refine Ah rfl (Aa ?_)
   refine Et (by simp only [ze] <;> exact rfl) ?_
   exact ⟨l0.length - (i + 1), by omega, i + 1, used, q, out, _, xo, _, _, _, _, _, _, _, _, _, _, by omega, rfl, rfl, rfl, hO.more _, hq, by rw [Cg (Bd hsb)]; exact hsb, hu, by omega, by rw [hacc, hdr, K8, if_pos (by omega)]⟩
  ·
   have e3 : (((f.kind : Nat) : Int) != 3) = false := by rw [hkk]; rfl
   have hk3 : 3 ≤ f.kind := by omega
   refine Aj (Bo rfl (Ag (Aw (Ae ?_))))
   refine Ad rfl (Ab (by simp only [zl, zm, zz10] <;> exact rfl) ?_)
   refine Ab (by simp only [zl, zm, zz10] <;> exact rfl) ?_
   refine xo8 ?_
   refine Ah rfl (xo27 ?_)
   refine Aa (Af ?_)
   refine Ag (Ae ?_)
   refine xo0 ?_
   refine xo21 ?_
   refine Ab (by simp only [zo, Bl, e3] <;> exact rfl) ?_
   refine Ah rfl (Ec 0 (b := false) ?_)
   refine Ck rfl rfl ?_
   refine Ck rfl rfl ?_
   refine Ck rfl rfl ?_
   refine xo1 ?_
   refine Aa (Af ?_)
   refine Iy (by simp only [opd, zv]) ?_
   refine Aj (Bo rfl (Ae ?_))
   refine Bi (Aa ?_)
   refine Af ?_
   refine Aw ?_
   refine Dq (fun n env S' => ∃ (j q2 : Nat) (done : Bool) (out2 : List (Nat × D)) (l2 : List Sr) (xo2 v12 v13 v20 v21 v22 : D), S' = ⟨H ++ l2, H.length⟩ ∧ env = [.agg [.str nm, x, .int .i64 (p0 : Nat), .int .i64 (c0 : Nat)], xl, .ptr H.length 0 0 0, .Tt, .int .i64 0, .int .i64 0, .int .i64 0, xo2, .int .i64 (j : Nat), .int .i64 (i : Nat), .ptr (H.length + l.length) 0 0 0, .bool done, v12, v13, .bool false, x, .int .i64 rows.length, .int .i64 (i : Nat), .bool (decide (((i : Nat) : Int) < ((rows.length : Nat) : Int))), .bool false, v20, v21, v22] ∧ OL l2 H.length q2 xo2 (Ic out2) ∧ 0 < q2 ∧ l2[0]? = some (sbO nm x p0 c0) ∧ l2[l.length]? = some (FO [.int .i64 (f.line : Nat), .int .i64 (f.column : Nat), .int .u8 (f.kind : Nat), tx, .int .u8 (if nu then (if f.size = 1 then 4 else 5) else 2), .int .u8 0, .str (Jc nu f.size), .int .i64 (if nu then (f.size : Nat) else 0), .int .i64 0, .bool false, .bool false, .bool false, .bool false, .bool false, .int .i64 (f.size : Nat), op]) ∧ j ≤ ls.length ∧ n = 2 * (ls.length - j) + (if done then 0 else 1) ∧ ((done = false ∧ Gi (T i) ls.length used = Gi (T i) ls.length j ∧ out2 = out) ∨ (done = true ∧ ∃ b, Gi (T i) ls.length used = some (j, b) ∧ out2 = out ++ [(i, b)]))) (2 * (ls.length - used) + 1) (by omega) (⟨used, q, false, out, _, xo, _, _, _, _, _, rfl, rfl, hO.more _, hq, by rw [Cg hsb1]; exact hsb, hll0 _, hu, rfl, .inl ⟨rfl, rfl, rfl⟩⟩) ?_
   rintro n env S' ⟨j, q2, done, out2, l2, xo2, v12, v13, v20, v21, v22, rfl, rfl, hO2, hq2, hsb2, hfo, hj, hnB, hdone⟩
   rcases hdone with ⟨rfl, hf, rfl⟩ | ⟨rfl, b0, hf, rfl⟩
   ·
    refine Ag (Ae ?_)
    refine Ad rfl (Pw ?_)
    refine Aa (Af ?_)
    skip
    refine I8 ?_
    refine Aj (Bo rfl (Aw (Ag (Ae ?_))))
    refine Ad rfl (Ad rfl ?_)
    refine Ab (by simp only [zo, H5, zz9] <;> exact rfl) ?_
    refine Go.Proofs.YtkaedpmmopigkaaGreatDoor.xo2 ?_
    refine Aa (Af ?_)
    refine Bv (by simp only [opd, zv] <;> exact rfl) (fun hcAT3Bn => ?_) (fun hcAT3Bn => ?_)
    ·
     have hjm : ls.length ≤ j := by have := of_decide_eq_true hcAT3Bn; omega
     have hnone : K8 T ls.length l0 0 0 [] = none := by
      rw [hacc, hdr, K8, if_neg (by omega), hf, Gi, if_neg (by omega)]
     refine Ae (Bi ?_)
     refine Bi (Bi ?_)
     refine Aa (Af ?_)
     refine Bw (Jh (Sd (lk_r (Sd (Sd (Jh (lk_r (Sd (Jh ?_)))))))))
     refine ⟨_, by rw [hnone]; exact rfl, ?_⟩
     refine ⟨_, by simp only [F23, Ay, Cb, Dx, zg] <;> exact rfl, ?_⟩
     simp [leave, LP, Tf, Tc, snap, D.Te, D.Td, D.free, D.Tj, Aq]
    ·
     have hjl : j < ls.length := by have := of_decide_eq_false hcAT3Bn; omega
     have hwj := Dh j (by omega)
     have hil := fun (S : St) => hl0.iaddrN S .i64 (J7 hjl)
     obtain ⟨hty, ys, hyc⟩ := hTy j hjl (by omega)
     have hfr : Dy [[D.int .i64 0, D.Tt]] 2 [0] [D.agg [D.int .i64 (i : Nat), (T i j).1]] = some [[D.int .i64 (i : Nat), (T i j).1]] := by simp [Dy, D.val, D.cells, hyc.Ti, Kl]
     have zz11 := And.intro hwj (And.intro hil (And.intro hyc.Ti (And.intro hyc.val (And.intro hyc.cells (hfr)))))
     refine Aj (Bo rfl (Ag ?_))
     refine Fb ?_
     refine Ce (by simp only [zl, zm, zd, Az, List.take, List.drop, zz9, FO, hfo] <;> exact rfl) rfl ?_
     refine Bq rfl rfl (Bq rfl rfl ?_)
     refine Ca (by simp only [zl, zm, zz11] <;> exact rfl) (by simp only [Ba, zo, hl0.fpi] <;> exact rfl) rfl ?_
     refine xo6 rfl ?_
     refine Ce (by simp only [zo]; exact (hty d rfl _)) rfl ?_
     refine Ey rfl rfl (Bp (by simp only [zo, Lz] <;> exact rfl) rfl rfl ?_)
     refine Bp (by simp only [zo, Lz, Ls_] <;> exact rfl) rfl rfl ?_
     refine Ey rfl rfl (Ey rfl rfl ?_)
     refine Dc ?_
     refine Af ?_
     refine Ae (Ad rfl ?_)
     refine Ab (by simp only [zo, Bl, zz11] <;> exact rfl) ?_
     refine Ah rfl (Aa ?_)
     refine Af ?_
     refine Ae (Ad rfl ?_)
     refine Aa (Af ?_)
     refine Bv (by simp only [opd, zv] <;> exact rfl) (fun hcAT3BnF => ?_) (fun hcAT3BnF => ?_)
     ·
      have hok : (T i j).2 = true := hcAT3BnF
      obtain ⟨x3, l3, q3, hap, hO3, hq3, hl3, h30, hx3, hkp⟩ := hO2.app (H := H) (row := [.int .i64 (i : Nat), (T i j).1]) rfl hq2 (by rw [tyRows_len]; omega) (by have := Bd hsb2; omega)
      rw [← Qv] at hO3
      have hfo3 := hkp _ _ hfo (by simp [FO])
      refine Ae (Ad rfl ?_)
      refine Ad rfl (Ad rfl ?_)
      refine Ab (by simp only [zo, G7, overlay, zc, List.take, List.drop, Nat.reduceAdd, Nat.reduceLeDiff, zm, zz11] <;> exact rfl) ?_
      refine Ab (by simp only [zl, zm, List.replicate, Aq, Cf, zs, zz11] <;> exact rfl) ?_
      refine Ab (by simp only [Ar, aop, LOp.loud, lop, if_true, opd, zv]; exact hap) ?_
      refine Ah rfl (Aa ?_)
      refine Af ?_
      refine Ak (Bi ?_)
      refine Aa (Em ?_)
      refine Et (by simp only [ze] <;> exact rfl) ?_
      exact ⟨2 * (ls.length - (j + 1)) + 0, by simp at hnB; omega, j + 1, q3, true, _, l3, x3, _, _, _, _, _, rfl, rfl, hO3, hq3, by rw [h30]; exact hsb2, hfo3, by omega, rfl, .inr ⟨rfl, _, by rw [hf, Gi, if_pos hjl, if_pos hok], rfl⟩⟩
     ·
      have hok : (T i j).2 = false := hcAT3BnF
      refine Aj (Em ?_)
      refine Et rfl ?_
      exact ⟨2 * (ls.length - (j + 1)) + 1, by simp at hnB; omega, j + 1, q2, false, _, l2, xo2, _, _, _, _, _, rfl, rfl, hO2, hq2, hsb2, hfo, by omega, rfl, .inl ⟨rfl, by rw [hf, Gi, if_pos hjl, if_neg (by rw [hok]; simp)], rfl⟩⟩
   ·
    refine Ag (Ae ?_)
    refine Ad rfl (Pw ?_)
    refine Aa (Af ?_)
    skip
    refine Cv ?_
    refine Da (Gm (Ie (Gq (Em (Bo rfl (Ak ?_))))))
    refine Ab (by simp only [zo, Bl, zz10] <;> exact rfl) ?_
    refine Ah rfl (Aa ?_)
    refine Et (by simp only [ze] <;> exact rfl) ?_
    exact ⟨l0.length - (i + 1), by omega, i + 1, j, q2, _, _, xo2, _, _, _, _, _, _, _, _, _, _, by omega, rfl, rfl, rfl, hO2, hq2, hsb2, hj, by rw [Ll_, List.length_cons, List.length_nil]; omega, by rw [hacc, hdr, K8, if_neg (by omega), hf]⟩
  ·
   have e3 : (((f.kind : Nat) : Int) != 3) = true := by rw [hkk]; rfl
   have e4 : (((f.kind : Nat) : Int) != 4) = false := by rw [hkk]; rfl
   have hk3 : 3 ≤ f.kind := by omega
   refine Aj (Bo rfl (Ag (Aw (Ae ?_))))
   refine Ad rfl (Ab (by simp only [zl, zm, zz10] <;> exact rfl) ?_)
   refine Ab (by simp only [zl, zm, zz10] <;> exact rfl) ?_
   refine xo8 ?_
   refine Ah rfl (xo27 ?_)
   refine Aa (Af ?_)
   refine Ag (Ae ?_)
   refine xo0 ?_
   refine xo21 ?_
   refine Ab (by simp only [zo, Bl, e3] <;> exact rfl) ?_
   refine Ah rfl (Ec 0 (b := true) ?_)
   refine Am rfl (xo0 ?_)
   refine Am rfl (xo21 ?_)
   refine Am rfl (Ab (by simp only [zo, Bl, e4] <;> exact rfl) ?_)
   refine xo1 ?_
   refine Aa (Af ?_)
   skip
   refine Cv ?_
   refine Aj (Bo rfl (Ae ?_))
   refine Bi (Aa ?_)
   refine Af ?_
   refine Aw ?_
   refine Dq (fun n env S' => ∃ (j q2 : Nat) (done : Bool) (out2 : List (Nat × D)) (l2 : List Sr) (xo2 v12 v13 v20 v21 v22 : D), S' = ⟨H ++ l2, H.length⟩ ∧ env = [.agg [.str nm, x, .int .i64 (p0 : Nat), .int .i64 (c0 : Nat)], xl, .ptr H.length 0 0 0, .Tt, .int .i64 0, .int .i64 0, .int .i64 0, xo2, .int .i64 (j : Nat), .int .i64 (i : Nat), .ptr (H.length + l.length) 0 0 0, .bool done, v12, v13, .bool false, x, .int .i64 rows.length, .int .i64 (i : Nat), .bool (decide (((i : Nat) : Int) < ((rows.length : Nat) : Int))), .bool false, v20, v21, v22] ∧ OL l2 H.length q2 xo2 (Ic out2) ∧ 0 < q2 ∧ l2[0]? = some (sbO nm x p0 c0) ∧ l2[l.length]? = some (FO [.int .i64 (f.line : Nat), .int .i64 (f.column : Nat), .int .u8 (f.kind : Nat), tx, .int .u8 (if nu then (if f.size = 1 then 4 else 5) else 2), .int .u8 0, .str (Jc nu f.size), .int .i64 (if nu then (f.size : Nat) else 0), .int .i64 0, .bool false, .bool false, .bool false, .bool false, .bool false, .int .i64 (f.size : Nat), op]) ∧ j ≤ ls.length ∧ n = 2 * (ls.length - j) + (if done then 0 else 1) ∧ ((done = false ∧ Gi (T i) ls.length used = Gi (T i) ls.length j ∧ out2 = out) ∨ (done = true ∧ ∃ b, Gi (T i) ls.length used = some (j, b) ∧ out2 = out ++ [(i, b)]))) (2 * (ls.length - used) + 1) (by omega) (⟨used, q, false, out, _, xo, _, _, _, _, _, rfl, rfl, hO.more _, hq, by rw [Cg hsb1]; exact hsb, hll0 _, hu, rfl, .inl ⟨rfl, rfl, rfl⟩⟩) ?_
   rintro n env S' ⟨j, q2, done, out2, l2, xo2, v12, v13, v20, v21, v22, rfl, rfl, hO2, hq2, hsb2, hfo, hj, hnB, hdone⟩
   rcases hdone with ⟨rfl, hf, rfl⟩ | ⟨rfl, b0, hf, rfl⟩
   ·
    refine Ag (Ae ?_)
    refine Ad rfl (Pw ?_)
    refine Aa (Af ?_)
    skip
    refine I8 ?_
    refine Aj (Bo rfl (Aw (Ag (Ae ?_))))
    refine Ad rfl (Ad rfl ?_)
    refine Ab (by simp only [zo, H5, zz9] <;> exact rfl) ?_
    refine Go.Proofs.YtkaedpmmopigkaaGreatDoor.xo2 ?_
    refine Aa (Af ?_)
    refine Bv (by simp only [opd, zv] <;> exact rfl) (fun hcAT4Bn => ?_) (fun hcAT4Bn => ?_)
    ·
     have hjm : ls.length ≤ j := by have := of_decide_eq_true hcAT4Bn; omega
     have hnone : K8 T ls.length l0 0 0 [] = none := by
      rw [hacc, hdr, K8, if_neg (by omega), hf, Gi, if_neg (by omega)]
     refine Ae (Bi ?_)
     refine Bi (Bi ?_)
     refine Aa (Af ?_)
     refine Bw (Jh (Sd (lk_r (Sd (Sd (Jh (lk_r (Sd (Jh ?_)))))))))
     refine ⟨_, by rw [hnone]; exact rfl, ?_⟩
     refine ⟨_, by simp only [F23, Ay, Cb, Dx, zg] <;> exact rfl, ?_⟩
     simp [leave, LP, Tf, Tc, snap, D.Te, D.Td, D.free, D.Tj, Aq]
    ·
     have hjl : j < ls.length := by have := of_decide_eq_false hcAT4Bn; omega
     have hwj := Dh j (by omega)
     have hil := fun (S : St) => hl0.iaddrN S .i64 (J7 hjl)
     obtain ⟨hty, ys, hyc⟩ := hTy j hjl (by omega)
     have hfr : Dy [[D.int .i64 0, D.Tt]] 2 [0] [D.agg [D.int .i64 (i : Nat), (T i j).1]] = some [[D.int .i64 (i : Nat), (T i j).1]] := by simp [Dy, D.val, D.cells, hyc.Ti, Kl]
     have zz12 := And.intro hwj (And.intro hil (And.intro hyc.Ti (And.intro hyc.val (And.intro hyc.cells (hfr)))))
     refine Aj (Bo rfl (Ag ?_))
     refine Fb ?_
     refine Ce (by simp only [zl, zm, zd, Az, List.take, List.drop, zz9, FO, hfo] <;> exact rfl) rfl ?_
     refine Bq rfl rfl (Bq rfl rfl ?_)
     refine Ca (by simp only [zl, zm, zz12] <;> exact rfl) (by simp only [Ba, zo, hl0.fpi] <;> exact rfl) rfl ?_
     refine xo6 rfl ?_
     refine Ce (by simp only [zo]; exact (hty d rfl _)) rfl ?_
     refine Ey rfl rfl (Bp (by simp only [zo, Lz] <;> exact rfl) rfl rfl ?_)
     refine Bp (by simp only [zo, Lz, Ls_] <;> exact rfl) rfl rfl ?_
     refine Ey rfl rfl (Ey rfl rfl ?_)
     refine Dc ?_
     refine Af ?_
     refine Ae (Ad rfl ?_)
     refine Ab (by simp only [zo, Bl, zz12] <;> exact rfl) ?_
     refine Ah rfl (Aa ?_)
     refine Af ?_
     refine Ae (Ad rfl ?_)
     refine Aa (Af ?_)
     refine Bv (by simp only [opd, zv] <;> exact rfl) (fun hcAT4BnF => ?_) (fun hcAT4BnF => ?_)
     ·
      have hok : (T i j).2 = true := hcAT4BnF
      obtain ⟨x3, l3, q3, hap, hO3, hq3, hl3, h30, hx3, hkp⟩ := hO2.app (H := H) (row := [.int .i64 (i : Nat), (T i j).1]) rfl hq2 (by rw [tyRows_len]; omega) (by have := Bd hsb2; omega)
      rw [← Qv] at hO3
      have hfo3 := hkp _ _ hfo (by simp [FO])
      refine Ae (Ad rfl ?_)
      refine Ad rfl (Ad rfl ?_)
      refine Ab (by simp only [zo, G7, overlay, zc, List.take, List.drop, Nat.reduceAdd, Nat.reduceLeDiff, zm, zz12] <;> exact rfl) ?_
      refine Ab (by simp only [zl, zm, List.replicate, Aq, Cf, zs, zz12] <;> exact rfl) ?_
      refine Ab (by simp only [Ar, aop, LOp.loud, lop, if_true, opd, zv]; exact hap) ?_
      refine Ah rfl (Aa ?_)
      refine Af ?_
      refine Ak (Bi ?_)
      refine Aa (Em ?_)
      refine Et (by simp only [ze] <;> exact rfl) ?_
      exact ⟨2 * (ls.length - (j + 1)) + 0, by simp at hnB; omega, j + 1, q3, true, _, l3, x3, _, _, _, _, _, rfl, rfl, hO3, hq3, by rw [h30]; exact hsb2, hfo3, by omega, rfl, .inr ⟨rfl, _, by rw [hf, Gi, if_pos hjl, if_pos hok], rfl⟩⟩
     ·
      have hok : (T i j).2 = false := hcAT4BnF
      refine Aj (Em ?_)
      refine Et rfl ?_
      exact ⟨2 * (ls.length - (j + 1)) + 1, by simp at hnB; omega, j + 1, q2, false, _, l2, xo2, _, _, _, _, _, rfl, rfl, hO2, hq2, hsb2, hfo, by omega, rfl, .inl ⟨rfl, by rw [hf, Gi, if_pos hjl, if_neg (by rw [hok]; simp)], rfl⟩⟩
   ·
    refine Ag (Ae ?_)
    refine Ad rfl (Pw ?_)
    refine Aa (Af ?_)
    skip
    refine Cv ?_
    refine Da (Gm (Ie (Gq (Em (Bo rfl (Ak ?_))))))
    refine Ab (by simp only [zo, Bl, zz10] <;> exact rfl) ?_
    refine Ah rfl (Aa ?_)
    refine Et (by simp only [ze] <;> exact rfl) ?_
    exact ⟨l0.length - (i + 1), by omega, i + 1, j, q2, _, _, xo2, _, _, _, _, _, _, _, _, _, _, by omega, rfl, rfl, rfl, hO2, hq2, hsb2, hj, by rw [Ll_, List.length_cons, List.length_nil]; omega, by rw [hacc, hdr, K8, if_neg (by omega), hf]⟩
 ·
  have hi' : i = l0.length := by have := of_decide_eq_false hcA; omega
  subst hi'
  refine Da (Gm (Ie (Gq (Bo rfl (Ae ?_)))))
  refine Ad rfl (Ab (by simp only [zo]; exact (clip49_run (by omega) hO _)) ?_)
  refine Ad rfl (Ah rfl ?_)
  refine Ah rfl (Bi ?_)
  refine Aa (Af ?_)
  refine Bw ?_
  rw [List.drop_length] at hacc
  rw [K8] at hacc
  rcases hO with ⟨rfl, hto⟩ | ⟨vs, rfl, ho⟩
  ·
   refine ⟨(.tup [.Tt, .int .i64 (used : Nat), .int .i64 0], ⟨H, lo⟩, false), by rw [hacc]; exact ⟨_, _, 0, _, rfl, .inl ⟨rfl, hto⟩, Nat.le_refl _, fun _ _ => rfl, by omega⟩, ?_⟩
   refine ⟨_, by simp only [F23, Ay, Cb, Dx, zg] <;> exact rfl, ?_⟩
   simp [leave, LP, Tf, Tc, snap, D.Te, D.Td, D.free, D.Tj, Aq, De]
  ·
   have hHl : min lo H.length = lo := by omega
   have hne : ¬ l = [] := by intro e; rw [e] at hsb; cases hsb
   have ho' : (H ++ l)[H.length + q]? = some ⟨74, 2, Ic out, vs, 0, true⟩ := by rw [Cu]; exact ho
   refine ⟨(.tup [.msl (H.length + q) vs 0 (Ic out).length (some (Ic out).length), .int .i64 (used : Nat), .int .i64 0], ⟨H ++ l, lo⟩, true), by rw [hacc]; exact ⟨_, _, H.length + q, _, rfl, .inr ⟨vs, rfl, ho'⟩, by rw [Ll_]; omega, fun k hk => Cg hk, by omega⟩, ?_⟩
   refine ⟨_, by simp only [F23, Ay, Cb, Dx, zg] <;> exact rfl, ?_⟩
   simp [leave, LP, Tf, Tc, snap, D.Te, D.Td, D.free, D.Tj, Aq, De, ho', hHl, hne]

def fm1 : FM := ⟨1, 2, 0, 1, false, false, by decide⟩
def fm2 : FM := ⟨1, 3, 3, 2, true, false, by decide⟩
section
variable (d : Nat) (S : St) (p : Nat)
theorem typed_x : Df LP NN (d + 20) 48 [.agg [.int .i64 2, .int .i64 4, .int .u8 4, .Tt, .int .u8 5, .int .u8 0, .str ⟨#[90, 90, 57]⟩, .int .i64 3, .int .i64 0, .bool false, .bool false, .bool false, .bool false, .bool false, .int .i64 3, .sl 5 [[.int .u8 1, .str ⟨#[78]⟩, .int .i64 (p : Nat), .int .i64 12, .bool false]] (some 1)], .str ⟨#[120]⟩] S = some (.tup [.Tt, .bool false], S, false) := by kernel_rfl
theorem typed_7 : Df LP NN (d + 20) 48 [.agg [.int .i64 2, .int .i64 4, .int .u8 4, .Tt, .int .u8 5, .int .u8 0, .str ⟨#[90, 90, 57]⟩, .int .i64 3, .int .i64 0, .bool false, .bool false, .bool false, .bool false, .bool false, .int .i64 3, .sl 5 [[.int .u8 1, .str ⟨#[78]⟩, .int .i64 (p : Nat), .int .i64 12, .bool false]] (some 1)], .str ⟨#[55]⟩] S = some (.tup [.sl 1 [[.int .u8 32], [.int .u8 32], [.int .u8 55]] (some 3), .bool true], S, false) := by kernel_rfl
end
def P0v : List (FM × List UInt8) := [(fm1, [65, 66]), (fm2, [32, 49, 50])]
theorem out_cl : En (Cz P0v) 24 = [.str ⟨#[]⟩] :: [.str ⟨#[32, 32, 65, 32, 49, 50]⟩] :: List.replicate 22 [.str ⟨#[]⟩] := by kernel_rfl

def T2 : Nat → Nat → D × Bool := fun _ j => if j = 0 then (.Tt, false) else ((.sl 1 [[.int .u8 32], [.int .u8 32], [.int .u8 55]] (some 3)), true)
theorem acc_cl : K8 T2 2 [fm1, fm2] 0 0 [] = some (2, [(1, (.sl 1 [[.int .u8 32], [.int .u8 32], [.int .u8 55]] (some 3)))]) := by
 have h1 : fm1.kind = 1 := rfl
 have h2 : fm2.kind = 4 := rfl
 rw [K8, if_pos (by rw [h1]; omega), K8, if_neg (by rw [h2]; omega), Gi, if_pos (by omega), if_neg (by simp [T2]), Gi, if_pos (by omega), if_pos (by simp [T2])]
 simp [K8, T2]
theorem SrcV.of {H : List Sr} {gv n vv : Nat} {vals : List D} {gr : Bool} (hg : H[gv]? = some ⟨42, 1, vals.map fun v => [v], vv, 0, gr⟩) (hn : n = vals.length) : SrcV H (.msl gv vv 0 n none) vals gv vv := by
 subst hn
 refine ⟨rfl, rfl, fun m l => ?_, fun l lo i hi => ?_, fun l lo i v hv => ?_⟩
 ·
  rw [Jf, H6, Cg (Bd hg), hg]; simp
 ·
  simp [Fx, rowsOf, Cg (Bd hg), hg, hi]
 ·
  simp [G5, rowsOf, Cg (Bd hg), hg, hv, Az]
theorem lives_T (d : Nat) (hd : 20 ≤ d) : ∀ i j p (hi : i < [fm1, fm2].length) (hj : j < ([⟨#[120]⟩, ⟨#[55]⟩] : List ByteArray).length), 3 ≤ ([fm1, fm2][i]).kind → (∀ d', d = d' → ∀ S, Bc LP NN d' 48 [.agg (H7 [fm1, fm2][i] p), .str ([⟨#[120]⟩, ⟨#[55]⟩] : List ByteArray)[j]] S = some (.tup [(T2 i j).1, .bool (T2 i j).2], S, false)) ∧ ∃ ys, SlD 1 ys (T2 i j).1 := by
 intro i j p hi hj hk
 match i, hi, hk with
 | 0, _, hk => exact absurd hk (show ¬ 3 ≤ fm1.kind from by decide)
 | 1, _, _ =>
  match j, hj with
  | 0, _ => exact ⟨fun d' e S => by subst e; obtain ⟨d, rfl⟩ : ∃ d', d = d' + 20 := ⟨d - 20, by omega⟩; exact fast_ok (typed_x d S p), [], .nil 1⟩
  | 1, _ => exact ⟨fun d' e S => by subst e; obtain ⟨d, rfl⟩ : ∃ d', d = d' + 20 := ⟨d - 20, by omega⟩; exact fast_ok (typed_7 d S p), _, .of _ _ _⟩
  | j + 2, h => exact absurd h (by simp)
 | i + 2, h, _ => exact absurd h (by simp)

theorem Qe {d : Nat} (hd : 26 ≤ d) (S : St) : Bc LP NN d 8 [] S = some (.bool true, S, false) := by
 obtain ⟨H', x0, gs, rows, wr, hof, -, -, hFL, hRW, -⟩ := of_run (d := d - 1) (by omega) [] 0 (by simp) (lx := .sl 6 [[.int .u8 1, .int .u8 2, .int .u8 0, .int .u8 1, .bool false, .bool false], [.int .u8 1, .int .u8 3, .int .u8 3, .int .u8 2, .bool true, .bool false]] (some 2)) (l := [fm1, fm2]) (SlD.of 6 (Hq [fm1, fm2]) (some 2)) (by decide)
 obtain ⟨v, hS⟩ := hFL.src
 have hrl : rows.length = 2 := hRW.len
 have hS2 := hS.mono [⟨36, 4, [[.str nmA, De x0, .int .i64 ((1 : Nat) : Int), .int .i64 ((12 : Nat) : Int)]], 0, 0, false⟩, ⟨5, 1, [[.int .u8 32], [.int .u8 49], [.int .u8 50]], 1, 2, false⟩, ⟨42, 1, [[.Tt], [.sl 1 [[.int .u8 32], [.int .u8 49], [.int .u8 50]] (some 3)]], 0, 0, false⟩]
 have hxl := hS.len
 rw [hrl] at hxl
 have hcl := hS.cell
 have hv : SrcV (H' ++ [⟨36, 4, [[.str nmA, De x0, .int .i64 ((1 : Nat) : Int), .int .i64 ((12 : Nat) : Int)]], 0, 0, false⟩, ⟨5, 1, [[.int .u8 32], [.int .u8 49], [.int .u8 50]], 1, 2, false⟩, ⟨42, 1, [[.Tt], [.sl 1 [[.int .u8 32], [.int .u8 49], [.int .u8 50]] (some 3)]], 0, 0, false⟩]) (.msl (H'.length + 2) 0 0 2 none) [.Tt, .sl 1 [[.int .u8 32], [.int .u8 49], [.int .u8 50]] (some 3)] (H'.length + 2) 0 := .of (gr := false) (by rw [Cu]; rfl) rfl
 have hshow := fun lo => show_run (d := d - 1) (by omega) (P := P0v) hS2 hRW hv (by decide) rfl (fun i p w hp hw => by
  match i with
  | 0 => cases hp; cases hw; exact ⟨rfl, rfl⟩
  | 1 => cases hp; cases hw; exact ⟨rfl, by rw [if_neg (by decide)]; exact SlD.rdb (SlD.of 1 (bR [32, 49, 50]) (some 3)) _⟩
  | i + 2 => simp [P0v] at hp) nmA 1 12 lo
 rw [out_cl] at hshow
 have hacc := accept_run (d := d - 1) (by omega) (T := T2) (ls := [⟨#[120]⟩, ⟨#[55]⟩]) (xl := .sl 1 [[.str ⟨#[120]⟩], [.str ⟨#[55]⟩]] (some 2)) (lo := 0) hS2 hRW (SlD.of 1 _ _) (by decide) (by simp) (fun i j p hi hj hk => by
  obtain ⟨h1, h2⟩ := lives_T (d - 1 - 1) (by omega) i j p hi hj hk
  exact ⟨fun d' e S => h1 d' (by omega) S, h2⟩) nmA 1 12 (by omega)
 rw [show ([⟨#[120]⟩, ⟨#[55]⟩] : List ByteArray).length = 2 from rfl, acc_cl] at hacc
 obtain ⟨_, ⟨y, H3, go, wr2, rfl, hTL, -, -, -⟩, hacc⟩ := hacc
 rcases hTL with ⟨-, hbad⟩ | ⟨vs, rfl, h3⟩
 ·
  cases hbad
 have h3' : H3[go]? = some ⟨74, 2, [[.int .i64 1, (.sl 1 [[.int .u8 32], [.int .u8 32], [.int .u8 55]] (some 3))]], vs, 0, true⟩ := h3
 have hol : ∀ i : Nat, 2 ≤ i → i < 24 → (([.str ⟨#[]⟩] :: [.str ⟨#[32, 32, 65, 32, 49, 50]⟩] :: List.replicate 22 [.str ⟨#[]⟩] : List (List D)))[i]? = some [.str ⟨#[]⟩] := fun i h1 h2 => by
  obtain ⟨j, rfl⟩ : ∃ j, i = j + 2 := ⟨i - 2, by omega⟩
  rw [Ls_, Ls_, List.getElem?_replicate, if_pos (by omega)]
 have h3p := h3'
 have h24l : ((⟨#[UInt8.ofNat 32, UInt8.ofNat 32, UInt8.ofNat 55]⟩ : ByteArray).toList == (⟨#[32, 32, 55]⟩ : ByteArray).toList) = true := by decide +kernel
 refine run_pure (F := F8) rfl (by simp only [LP, Aq] <;> exact rfl) rfl (by simp only [LP, zm]; try rfl) (by simp only [F8, zv] <;> exact rfl) (by omega) ?_
 rintro d rfl
 have zz2 := And.intro @beq_self_eq_true.{0} (And.intro @Bool.not_true (And.intro hxl (And.intro hcl (And.intro @Cu (And.intro @Du (And.intro h3p (h24l)))))))
 refine Ae (Bi ?_)
 refine Aa (Af ?_)
 refine Ae (xo25 ?_)
 refine xo25 ?_
 refine xo23 ?_
 refine Ah rfl (Aa ?_)
 refine Af ?_
 refine Ae (Ad rfl ?_)
 refine Ab (by simp only [zo]; exact hof) ?_
 refine Ah rfl (xo20 ?_)
 refine xo16 ?_
 refine xo8 ?_
 refine xo26 ?_
 refine Ah rfl (Aa ?_)
 refine Af ?_
 refine Ag (Ae ?_)
 refine Ad rfl (Ab (by simp only [zo, unD, zz2] <;> exact rfl) ?_)
 refine Ah rfl (Ec 0 (b := false) ?_)
 refine Am rfl (xo0 ?_)
 refine Am rfl (xo13 ?_)
 refine Am rfl (Ab (by simp only [zo, zz2] <;> exact rfl) ?_)
 refine Am rfl (xo2 ?_)
 refine xo1 ?_
 refine Aa (Af ?_)
 skip
 refine Cv ?_
 refine Aj (Bo rfl (Ae ?_))
 refine xo13 ?_
 refine xo7 ?_
 refine Ab (by simp only [zl, zm, Py, zz2] <;> exact rfl) ?_
 refine xo7 ?_
 refine Ab (by simp only [zo]; exact (hshow _)) ?_
 refine Ah rfl (xo20 ?_)
 refine xo16 ?_
 refine Ah rfl (Ah rfl ?_)
 refine Aa (Af ?_)
 refine Ae (xo13 ?_)
 refine xo7 ?_
 refine Ab (by simp only [zo]; exact hacc) ?_
 refine Ah rfl (xo20 ?_)
 refine xo16 ?_
 refine xo16 ?_
 refine Ah rfl (Ah rfl ?_)
 refine Ah rfl (Aa ?_)
 refine Af ?_
 refine Ag (Ae ?_)
 refine Ad rfl (xo2 ?_)
 refine Ah rfl (Ec 0 (b := false) ?_)
 refine Am rfl (Ad rfl ?_)
 refine Am rfl (xo2 ?_)
 refine xo1 ?_
 refine Ah rfl (Ec 0 (b := false) ?_)
 refine Am rfl (Ad rfl ?_)
 refine Am rfl (Ab (by simp only [zo, Nb] <;> exact rfl) ?_)
 refine Am rfl (xo2 ?_)
 refine xo1 ?_
 refine Ah rfl (Ec 0 (b := false) ?_)
 refine Am rfl (Ad rfl ?_)
 refine Am rfl (xo9 ?_)
 refine Am rfl (xo2 ?_)
 refine xo1 ?_
 refine Aa (Af ?_)
 skip
 refine Cv ?_
 refine Aj (Bo rfl (Ag (Ae ?_)))
 refine Bi (Aa ?_)
 refine Af ?_
 refine Aw ?_
 refine Dq (fun n env S' => ∃ (i : Nat) (u12 u13 : D), 2 ≤ i ∧ i ≤ 24 ∧ n = 24 - i ∧ S' = ⟨H3, 0⟩ ∧ env = [.bool false, .sl 6 [[.int .u8 1, .int .u8 2, .int .u8 0, .int .u8 1, .bool false, .bool false], [.int .u8 1, .int .u8 3, .int .u8 3, .int .u8 2, .bool true, .bool false]] (some 2), .ptr H'.length 0 0 0, .bool true, .sl 1 ([.str ⟨#[]⟩] :: [.str ⟨#[32, 32, 65, 32, 49, 50]⟩] :: List.replicate 22 [.str ⟨#[]⟩]) (some 24), .int .i64 0, .msl go vs 0 1 (some 1), .int .i64 2, .int .i64 0, .int .i64 (i : Nat), .bool false, .bool false, u12, u13]) (22) (by omega) (⟨2, _, _, by omega, by omega, by omega, rfl, rfl⟩) ?_
 rintro n env S' ⟨i, u12, u13, hi2, hi, hnk, rfl, rfl⟩
 refine Ag (Ae ?_)
 refine Ad rfl (xo2 ?_)
 refine Aa (Af ?_)
 refine Bv (by simp only [opd, zv] <;> exact rfl) (fun hcA => ?_) (fun hcA => ?_)
 ·
  have hlt : i < 24 := by have := of_decide_eq_true hcA; omega
  have hw := Dh i (by omega)
  have hii := hol i hi2 hlt
  have h0 : (0 : Int) ≤ (i : Int) := by omega
  refine Aj (Bo rfl (Ag (Aw (Ae ?_))))
  refine Ad rfl (Ad rfl ?_)
  refine Ab (by simp only [zl, zm, Hm, Int.toNat_natCast, hii, h0] <;> exact rfl) ?_
  refine xo4 ?_
  refine xo14 ?_
  refine Aa (Af ?_)
  skip
  refine Cv ?_
  refine Aj (Em (Bo rfl (Ak ?_)))
  refine Ad rfl (Ab (by simp only [zo, Bl, hw] <;> exact rfl) ?_)
  refine Ah rfl (Aa ?_)
  refine Et (by simp only [ze] <;> exact rfl) ?_
  exact ⟨24 - (i + 1), by omega, i + 1, _, _, by omega, by omega, rfl, rfl, rfl⟩
 ·
  have hlt : i = 24 := by have := of_decide_eq_false hcA; omega
  subst hlt
  refine Da (Gm (Ie (Gq (Bo rfl (Ae ?_)))))
  refine Ad rfl (Ab (by simp only [zl, zm, Hm, Int.toNat_zero, Int.le_refl] <;> exact rfl) ?_)
  refine xo4 ?_
  refine xo14 ?_
  refine Ah rfl (Ec 0 (b := true) ?_)
  refine Am rfl (Ad rfl ?_)
  refine Am rfl (Ab (by simp only [zl, zm, Hm] <;> exact rfl) ?_)
  refine Am rfl (xo4 ?_)
  refine Am rfl (xo14 ?_)
  refine xo1 ?_
  refine Ah rfl (Ec 0 (b := true) ?_)
  refine Am rfl (Ad rfl ?_)
  refine Am rfl (Ab (by simp only [zl, zm, Ch, Int.toNat_zero, Int.le_refl, zz2] <;> exact rfl) ?_)
  refine Am rfl (xo0 ?_)
  refine Am rfl (xo13 ?_)
  refine Am rfl (xo14 ?_)
  refine xo1 ?_
  refine Ah rfl (Ec 0 (b := true) ?_)
  refine Am rfl (Ad rfl ?_)
  refine Am rfl (Ab (by simp only [zl, zm, Ch, Int.toNat_zero, Int.le_refl, zz2] <;> exact rfl) ?_)
  refine Am rfl (xo0 ?_)
  refine Am rfl (xo13 ?_)
  refine Am rfl (Ab (by simp only [zl, zm, F7] <;> exact rfl) ?_)
  refine Am rfl (Ab (by simp only [zo, Bl, Int.reduceToNat, zz2] <;> exact rfl) ?_)
  refine xo1 ?_
  refine Ah rfl (Ec 0 (b := true) ?_)
  refine Am rfl (Ad rfl ?_)
  refine Am rfl (Ab (by simp only [zo, Bl, Int.reduceToNat, zz2] <;> exact rfl) ?_)
  refine xo1 ?_
  refine Ah rfl (Aa ?_)
  refine Af ?_
  refine Bw ?_
  refine ⟨_, by simp only [F8, Ay, Cb, Dx, zg] <;> exact rfl, ?_⟩
  simp only [D8, leave, zs, zf, zk]

def nmC : ByteArray := ⟨#[67]⟩

def cstep (r c : Nat) (acc : UInt8) (p : FM × List UInt8) : UInt8 := if r + 1 = p.1.line ∧ p.1.column ≤ c + 1 ∧ c + 1 < p.1.column + p.1.size then prn (p.2.getD (c + 1 - p.1.column) 0) else acc
def Gh (P : List (FM × List UInt8)) (r c k : Nat) : UInt8 := (P.take k).foldl (cstep r c) 32
theorem gridOf_at (P : List (FM × List UInt8)) (r c : Nat) : Cz P r c = Gh P r c P.length := by
 unfold Gh Cz
 rw [List.take_length]
 have key : ∀ (P : List (FM × List UInt8)) (G : G9), (P.foldl (fun G p => Ei G p.1 p.2 p.1.size) G) r c = P.foldl (cstep r c) (G r c) := by
  intro P
  induction P with
  | nil => intro G; rfl
  | cons p P ih => intro G; rw [List.foldl_cons, List.foldl_cons, ih]; rfl
 exact key P G0
theorem cellT_succ {P : List (FM × List UInt8)} {r c k : Nat} (h : k < P.length) : Gh P r c (k + 1) = cstep r c (Gh P r c k) P[k] := by
 unfold Gh
 rw [List.take_succ_eq_append_getElem h, List.foldl_append]; rfl
def Nq (P : List (FM × List UInt8)) (r j : Nat) : List UInt8 := (List.range j).map (Cz P r)
theorem Oz (P : List (FM × List UInt8)) (r j : Nat) : (Nq P r j).length = j := by simp [Nq]
theorem preG_succ (P : List (FM × List UInt8)) (r j : Nat) : Nq P r (j + 1) = Nq P r j ++ [Cz P r j] := by simp [Nq, List.range_succ]
theorem sadd (a b : List UInt8) (h : a.length + b.length ≤ 1000) : Bl .add (.str (mkS a)) (.str (mkS b)) = some (.str (mkS (a ++ b))) := by
 simp only [Bl, mkS_app, Jr]
 rw [if_neg (by rw [show IntKind.i64.max = 9223372036854775807 from rfl]; omega)]
def RLi (l : List Sr) (q : Nat) (x : D) (rows : List (List D)) : Prop := (x = .Tt ∧ rows = []) ∨ ∃ vs, x = .msl q vs 0 rows.length none ∧ l[q]? = some ⟨9, 1, rows, vs, 1, true⟩
theorem RLi.app {l : List Sr} {q lo : Nat} {x : D} {rows : List (List D)} {row : List D} (h : RLi l q x rows) (hlo : lo ≤ q ∨ x = .Tt) (hl : rows.length < 1000) :
  ∃ x' l' q', Bu 9 1 16 1 x (.sl 1 [row] (some 1)) ⟨l, lo⟩ = some (x', ⟨l', lo⟩, true) ∧ RLi l' q' x' (rows ++ [row]) ∧ (q' = q ∨ q' = l.length) ∧ l.length ≤ l'.length ∧ ∀ (k : Nat) (o : Sr), l[k]? = some o → o.elem ≠ 9 → l'[k]? = some o := by
 rcases h with ⟨rfl, rfl⟩ | ⟨vs, rfl, ho⟩
 ·
  refine ⟨.msl l.length 0 0 1 none, l ++ [⟨9, 1, [row], 0, 1, true⟩], l.length, ?_, .inr ⟨0, rfl, by simp⟩, .inr rfl, by simp, fun k o h _ => by rw [Cg (Bd h)]; exact h⟩
  simp [Bu, Cw, Bb, newAt]
 ·
  have hql := Bd ho
  have hlo' : lo ≤ q := by
   rcases hlo with h | h
   ·
    exact h
   ·
    cases h
  refine ⟨.msl q (vs + 1) 0 (rows.length + 1) none, l.set q ⟨9, 1, rows ++ [row], vs + 1, 1, true⟩, q, ?_, .inr ⟨vs + 1, by simp, Ef hql _⟩, .inl rfl, by simp, fun k o h he => ?_⟩
  ·
   have hb : (rows.length + 1) * 16 ≤ 140737488355328 := by omega
   have hmin : min lo q = lo := by omega
   simp [Bu, Cw, Bb, rowsOf, ho, setAt, hb, hmin]
  ·
   rw [Ln_ ?_]
   ·
    exact h
   ·
    intro e
    subst e
    rw [ho] at h
    cases h
    exact he rfl
theorem RLi.more {l : List Sr} {q : Nat} {x : D} {rows : List (List D)} (h : RLi l q x rows) (m : List Sr) : RLi (l ++ m) q x rows := by
 rcases h with h | ⟨vs, h1, h2⟩
 ·
  exact .inl h
 ·
  exact .inr ⟨vs, h1, by rw [Cg (Bd h2)]; exact h2⟩
theorem RLi.len {l : List Sr} {q : Nat} {x : D} {rows : List (List D)} (h : RLi l q x rows) : I1 false x = some (.int .i64 (rows.length : Nat)) := by
 rcases h with ⟨rfl, rfl⟩ | ⟨vs, rfl, _⟩ <;> rfl
def orow (G : G9) (i : Nat) : List (List D) := (List.range i).map fun r => [.str (trS G r)]
theorem orow_len (G : G9) (i : Nat) : (orow G i).length = i := by simp [orow]
theorem orow_succ (G : G9) (i : Nat) : orow G (i + 1) = orow G i ++ [[.str (trS G i)]] := by simp [orow, List.range_succ]
theorem orow_24 (G : G9) : orow G 24 = En G 24 := by
 unfold orow En
 refine List.map_congr_left fun r hr => ?_
 rw [if_pos (List.mem_range.1 hr)]

theorem grid_run {d : Nat} (hd : 12 ≤ d) (S : St) {P : List (FM × List UInt8)} {vs : List ByteArray} {lx vx : D} (hlx : SlD 6 (Hq (P.map (·.1))) lx) (hvx : SlD 1 (Dz vs) vx) (hP : P.length ≤ 256) (hvn : vs.length = P.length)
  (hfit : ∀ (i : Nat) (p : FM × List UInt8), P[i]? = some p → p.2.length = p.1.size ∧ (if p.1.kind = 1 then p.2 = p.1.text.data.toList else vs[i]? = some (mkS p.2))) :
  Bc LP NN d 21 [lx, vx] S = some (.sl 1 (En (Cz P) 24) none, S, false) := by
 refine run_pure (F := F21) rfl (by simp only [LP, Aq, hlx.Tc, hvx.Tc] <;> exact rfl) rfl (by simp only [LP, zm, hlx.Td, hvx.Td]; try rfl) (by simp only [F21, zv] <;> exact rfl) (by omega) ?_
 rintro d rfl
 have zz2 := And.intro hlx.len (And.intro hvx.len (And.intro @Cu (@Du)))
 refine Ae (Bi ?_)
 refine Aa (Af ?_)
 refine Ae (Bi ?_)
 refine Aa (Af ?_)
 refine Ag (Ae ?_)
 refine Bi (Aa ?_)
 refine Af ?_
 refine Aw ?_
 refine Dq (fun n env S' => ∃ (i q : Nat) (l : List Sr) (xo u13 u5 u6 u7 u8 u9 u10 u11 u12 u14 u15 u16 u17 u18 u19 : D), i ≤ 24 ∧ n = 24 - i ∧ S' = ⟨l, 0⟩ ∧ env = [lx, vx, .Tt, xo, .int .i64 ((i + 1 : Nat) : Int), u5, u6, u7, u8, u9, u10, u11, u12, u13, u14, u15, u16, u17, u18, u19] ∧ RLi l q xo (orow (Cz P) i)) (24) (by omega) (⟨0, 0, [], .Tt, _, _, _, _, _, _, _, _, _, _, _, _, _, _, _, by omega, by omega, rfl, rfl, .inl ⟨rfl, rfl⟩⟩) ?_
 rintro n env S' ⟨i, q, l, xo, u13, u5, u6, u7, u8, u9, u10, u11, u12, u14, u15, u16, u17, u18, u19, hi, hnk, rfl, rfl, hO⟩
 refine Ag (Ae ?_)
 refine Ad rfl (xo2 ?_)
 refine Aa (Af ?_)
 refine Bv (by simp only [opd, zv] <;> exact rfl) (fun hcA => ?_) (fun hcA => ?_)
 ·
  have hi24 : i < 24 := by have := of_decide_eq_true hcA; omega
  have hwi := Dh (i + 1) (by omega)
  refine Aj (Bo rfl (Ag (Aw (Ae ?_))))
  refine Bi (Aa ?_)
  refine Af ?_
  refine Ae (Bi ?_)
  refine Aa (Af ?_)
  refine Ag (Ae ?_)
  refine Bi (Aa ?_)
  refine Af ?_
  refine Aw ?_
  refine Dq (fun n env S' => ∃ (j : Nat) (l2 : List Sr) (v8 v9 v10 v11 v12 v14 v15 v16 v17 v18 v19 : D), j ≤ 80 ∧ n = 80 - j ∧ S' = ⟨l2, 0⟩ ∧ env = [lx, vx, .Tt, xo, .int .i64 ((i + 1 : Nat) : Int), .str (mkS (Nq P i j)), .int .i64 (tn (Nq P i j) : Nat), .int .i64 ((j + 1 : Nat) : Int), v8, v9, v10, v11, v12, .bool (decide (((i + 1 : Nat) : Int) ≤ 24)), v14, v15, v16, v17, v18, v19] ∧ RLi l2 q xo (orow (Cz P) i)) (80) (by omega) (⟨0, l, _, _, _, _, _, _, _, _, _, _, _, by omega, by omega, rfl, rfl, hO⟩) ?_
  rintro n env S' ⟨j, l2, v8, v9, v10, v11, v12, v14, v15, v16, v17, v18, v19, hj, hnj, rfl, rfl, hO2⟩
  refine Ag (Ae ?_)
  refine Ad rfl (xo2 ?_)
  refine Aa (Af ?_)
  refine Bv (by simp only [opd, zv] <;> exact rfl) (fun hcATB => ?_) (fun hcATB => ?_)
  ·
   have hj80 : j < 80 := by have := of_decide_eq_true hcATB; omega
   have hwj := Dh (j + 1) (by omega)
   refine Aj (Bo rfl (Ag (Aw (Ae ?_))))
   refine Bi (Aa ?_)
   refine Af ?_
   refine Ag (Ae ?_)
   refine Bi (Aa ?_)
   refine Af ?_
   refine Aw ?_
   refine Dq (fun n env S' => ∃ (k : Nat) (l4 : List Sr) (w10 w11 w12 w15 w16 w17 w18 : D), k ≤ P.length ∧ n = P.length - k ∧ S' = ⟨l4, 0⟩ ∧ env = [lx, vx, .Tt, xo, .int .i64 ((i + 1 : Nat) : Int), .str (mkS (Nq P i j)), .int .i64 (tn (Nq P i j) : Nat), .int .i64 ((j + 1 : Nat) : Int), .str (mkS [Gh P i j k]), .int .i64 (k : Nat), w10, w11, w12, .bool (decide (((i + 1 : Nat) : Int) ≤ 24)), .bool (decide (((j + 1 : Nat) : Int) ≤ 80)), w15, w16, w17, w18, v19] ∧ RLi l4 q xo (orow (Cz P) i)) (P.length) (by omega) (⟨0, l2, _, _, _, _, _, _, _, by omega, by omega, rfl, rfl, hO2⟩) ?_
   rintro n env S' ⟨k, l4, w10, w11, w12, w15, w16, w17, w18, hk, hnk2, rfl, rfl, hO4⟩
   refine Ag (Ae ?_)
   refine Ad rfl (Ad rfl ?_)
   refine Ab (by simp only [zo, Gn, List.length_map, zz2] <;> exact rfl) ?_
   refine xo2 ?_
   refine Aa (Af ?_)
   refine Bv (by simp only [opd, zv] <;> exact rfl) (fun hcATBTC => ?_) (fun hcATBTC => ?_)
   ·
    have hlt : k < P.length := by have := of_decide_eq_true hcATBTC; omega
    have hwk := Dh k (by omega)
    obtain ⟨f, bs, hPe⟩ : ∃ f bs, P[k] = (f, bs) := ⟨_, _, rfl⟩
    have hPk : P[k]? = some (f, bs) := by rw [Lg hlt, hPe]
    have hfe : (P.map (·.1))[k]'(by rw [List.length_map]; exact hlt) = f := by rw [List.getElem_map, hPe]
    have hia := fun (S : St) => hlx.iaddrN S .i64 (Nj (l := P.map (·.1)) (i := k) (by rw [List.length_map]; exact hlt))
    rw [hfe] at hia
    have hbl : bs.length = f.size := (hfit k _ hPk).1
    have hcs := cellT_succ (r := i) (c := j) hlt
    rw [hPe] at hcs
    simp only [cstep] at hcs
    have hln := f.line_le
    have hcn := f.column_le
    have hsz := f.size_le
    have hkd := f.kind_le
    have hw1 : IntKind.i64.wrap (((f.column : Nat) : Int) + ((f.size : Nat) : Int)) = ((f.column + f.size : Nat) : Int) := by rw [IntKind.wrap_i64]; omega
    refine Aj (Bo rfl (Ag (Aw (Ae ?_))))
    refine Ad rfl (Ad rfl ?_)
    refine Ab (by simp only [zl, zm, FM.row, hia] <;> exact rfl) ?_
    refine xo4 ?_
    refine xo8 ?_
    refine xo26 ?_
    refine Aa (Af ?_)
    refine Ag (Ag ?_)
    refine Ga (by simp only [Cx, zw, Nat.reduceAdd] <;> exact rfl) (by simp only [zw] <;> exact rfl) ?_
    refine xo24 rfl ?_
    refine Ce (by simp only [zo]; exact line_run (by omega) _ f) rfl ?_
    refine Bq rfl rfl (Bp (by simp only [zo, Bl] <;> exact rfl) rfl rfl ?_)
    refine Ey rfl rfl ?_
    refine dw_split 0 (by simp only [zv] <;> exact rfl) (by simp only [zn] <;> exact rfl) (by simp only [zn] <;> exact rfl) (fun hgATBTCT => ?_) (fun hgATBTCT => ?_)
    ·
     have hcell : Gh P i j (k + 1) = Gh P i j k := by
      rw [hcs, if_neg]
      rintro ⟨h1, h2, h3⟩
      have h := hgATBTCT
      rw [bne_iff_ne] at h; omega
     refine Fy rfl rfl ?_
     refine Fy rfl rfl ?_
     refine Fy rfl rfl ?_
     refine Fy rfl rfl ?_
     refine xo5 rfl rfl ?_
     refine Ey rfl rfl (Fy rfl rfl ?_)
     refine Fy rfl rfl ?_
     refine Fy rfl rfl ?_
     refine Fy rfl rfl ?_
     refine Fy rfl rfl ?_
     refine Fy rfl rfl ?_
     refine Fy rfl rfl ?_
     refine xo5 rfl rfl ?_
     refine Dc ?_
     refine Af ?_
     refine Kw (by simp only [opd, zv]) ?_
     refine Da (Gm (Gq (Bo rfl (Ak ?_))))
     refine Ad rfl (Ab (by simp only [zo, Bl, hwk] <;> exact rfl) ?_)
     refine Ah rfl (Aa ?_)
     refine Et (by simp only [ze] <;> exact rfl) ?_
     exact ⟨P.length - (k + 1), by omega, k + 1, _, _, _, _, _, _, _, _, by omega, rfl, rfl, by rw [hcell] <;> exact rfl, hO4.more _⟩
    ·
     refine Ml rfl (Bq rfl rfl ?_)
     refine Ml rfl (xo24 rfl ?_)
     refine Ml rfl (Ce (by simp only [zo]; exact Hr (by omega) _ f) rfl ?_)
     refine Ml rfl (Bp (by simp only [zo, Bl] <;> exact rfl) rfl rfl ?_)
     refine xo5 rfl rfl ?_
     refine Ey rfl rfl ?_
     refine dw_split 0 (by simp only [zv] <;> exact rfl) (by simp only [zn] <;> exact rfl) (by simp only [zn] <;> exact rfl) (fun hgATBTCTF => ?_) (fun hgATBTCTF => ?_)
     ·
      have hcell : Gh P i j (k + 1) = Gh P i j k := by
       rw [hcs, if_neg]
       rintro ⟨h1, h2, h3⟩
       have := of_decide_eq_true hgATBTCTF; omega
      refine Fy rfl rfl ?_
      refine Fy rfl rfl ?_
      refine Fy rfl rfl ?_
      refine Fy rfl rfl ?_
      refine Fy rfl rfl ?_
      refine Fy rfl rfl ?_
      refine Fy rfl rfl ?_
      refine xo5 rfl rfl ?_
      refine Dc ?_
      refine Af ?_
      refine Kw (by simp only [opd, zv]) ?_
      refine Da (Gm (Gq (Bo rfl (Ak ?_))))
      refine Ad rfl (Ab (by simp only [zo, Bl, hwk] <;> exact rfl) ?_)
      refine Ah rfl (Aa ?_)
      refine Et (by simp only [ze] <;> exact rfl) ?_
      exact ⟨P.length - (k + 1), by omega, k + 1, _, _, _, _, _, _, _, _, by omega, rfl, rfl, by rw [hcell] <;> exact rfl, hO4.more _⟩
     ·
      refine Ml rfl (Bq rfl rfl ?_)
      refine Ml rfl (xo24 rfl ?_)
      refine Ml rfl (Ce (by simp only [zo]; exact Hr (by omega) _ f) rfl ?_)
      refine Ml rfl (xo24 rfl ?_)
      refine Ml rfl (Ce (by simp only [zo]; exact size_run (by omega) _ f) rfl ?_)
      refine Ml rfl (Bp (by simp only [zo, Bl, hw1] <;> exact rfl) rfl rfl ?_)
      refine Ml rfl (Bp (by simp only [zo, Bl] <;> exact rfl) rfl rfl ?_)
      refine xo5 rfl rfl ?_
      refine Dc ?_
      refine Af ?_
      refine Bv (by simp only [opd, zv] <;> exact rfl) (fun hcATBTCTFF => ?_) (fun hcATBTCTFF => ?_)
      ·
       have hcell : Gh P i j (k + 1) = Gh P i j k := by
        rw [hcs, if_neg]
        rintro ⟨h1, h2, h3⟩
        have := of_decide_eq_true hcATBTCTFF; omega
       refine Da (Gm (Gq (Bo rfl (Ak ?_))))
       refine Ad rfl (Ab (by simp only [zo, Bl, hwk] <;> exact rfl) ?_)
       refine Ah rfl (Aa ?_)
       refine Et (by simp only [ze] <;> exact rfl) ?_
       exact ⟨P.length - (k + 1), by omega, k + 1, _, _, _, _, _, _, _, _, by omega, rfl, rfl, by rw [hcell] <;> exact rfl, hO4.more _⟩
      ·
       have hli : f.line = i + 1 := by
        have h := hgATBTCT
        rw [bne_eq_false_iff_eq] at h; omega
       have hc1 : f.column ≤ j + 1 := by have := of_decide_eq_false hgATBTCTF; omega
       have hc2 : j + 1 < f.column + f.size := by have := of_decide_eq_false hcATBTCTFF; omega
       have hvl : k < vs.length := by omega
       have hiv := fun (S : St) => hvx.iaddrN S .i64 (J7 hvl)
       have hw2 : IntKind.i64.wrap (((j + 1 : Nat) : Int) - ((f.column : Nat) : Int)) = ((j + 1 - f.column : Nat) : Int) := by rw [IntKind.wrap_i64]; omega
       have hw3 := Dh (j + 1 - f.column) (by omega)
       obtain ⟨b, hb⟩ : ∃ b, b = bs[j + 1 - f.column]'(by omega) := ⟨_, rfl⟩
       have hdt : (bs.drop (j + 1 - f.column)).take (j + 1 - f.column + 1 - (j + 1 - f.column)) = [b] := by
        rw [show j + 1 - f.column + 1 - (j + 1 - f.column) = 1 from by omega, List.drop_eq_getElem_cons (by omega), hb]; rfl
       have hz1 : ((0 : Int) ≤ ((j + 1 - f.column + 1 : Nat) : Int)) = True := eq_true (by omega)
       have hz2 : ((0 : Int) ≤ ((j + 1 - f.column : Nat) : Int)) = True := eq_true (by omega)
       have hz3 : (j + 1 - f.column ≤ j + 1 - f.column + 1 ∧ j + 1 - f.column + 1 ≤ bs.length) = True := eq_true ⟨by omega, by omega⟩
       have hgd : bs.getD (j + 1 - f.column) 0 = b := by rw [List.getD_eq_getElem?_getD, Lg (by omega), hb]; rfl
       have hcell0 : Gh P i j (k + 1) = prn b := by
        rw [hcs, if_pos ⟨by omega, by omega, by omega⟩, hgd]
       have hfk := (hfit k _ hPk).2
       simp only at hfk
       have zz3 := And.intro hiv (And.intro hw2 (And.intro hw3 (And.intro hdt (And.intro hz1 (And.intro hz2 (And.intro hz3 (@Int.toNat_natCast)))))))
       by_cases hk1 : f.kind = 1
       ·
        rw [if_pos hk1] at hfk
        have hft : f.text = mkS bs := by rw [hfk]; exact (str_rows f.text).symm
        have e1 : (((f.kind : Nat) : Int) == 1) = true := by rw [beq_iff_eq]; omega
        refine Aj (Bo rfl (Ae ?_))
        refine Ad rfl (Ad rfl ?_)
        refine Ab (by simp only [zl, zm, zz3] <;> exact rfl) ?_
        refine xo4 ?_
        refine Ah rfl (Aa ?_)
        refine Af ?_
        refine Ag (Ae ?_)
        refine xo13 ?_
        refine Ab (by simp only [zo]; exact Ip (by omega) _ f) ?_
        refine Ab (by simp only [zo, Bl, e1] <;> exact rfl) ?_
        refine Aa (Af ?_)
        skip
        refine I8 ?_
        refine Ak (xo13 ?_)
        refine Ab (by simp only [zo]; exact Lb (by omega) _ f) ?_
        refine Ah rfl (Aa ?_)
        refine Af ?_
        refine Ae (Ad rfl ?_)
        refine Ab (by simp only [zl, zm, zd, Az, List.take, List.drop, zz2, hft] <;> exact rfl) ?_
        refine Ab (by simp only [zo, hft]; exact Hr (by omega) _ f) ?_
        refine Ab (by simp only [zo, Bl, zz3, hft] <;> exact rfl) ?_
        refine Ah rfl (Aa ?_)
        refine Af ?_
        refine Ae (Ad rfl ?_)
        refine Ad rfl (Ad rfl ?_)
        refine Ab (by simp only [zo, Bl, zz3, hft] <;> exact rfl) ?_
        refine Ab (by simp only [zo, Br, Co, Eo, Dw, zm, Jr, Lv, zz3, hft] <;> exact rfl) ?_
        refine Ah rfl (Aa ?_)
        refine Af ?_
        refine Ae (Ad rfl ?_)
        refine Ab (by simp only [zo, Km, Sm, hft] <;> exact rfl) ?_
        refine Ab (by simp only [zo, Bl, hft] <;> exact rfl) ?_
        refine Ah rfl ?_
        refine Im 0 (by simp only [zv] <;> exact rfl) (by simp only [zn] <;> exact rfl) (by simp only [zn] <;> exact rfl) (fun hgATBTCTFFF1 => ?_) (fun hgATBTCTFFF1 => ?_)
        ·
         have hcell : Gh P i j (k + 1) = 46 := by
          have := of_decide_eq_true hgATBTCTFFF1
          rw [hcell0, prn, if_neg]
          intro h
          rw [Bool.and_eq_true] at h
          have := of_decide_eq_true h.1; omega
         refine Ck rfl rfl ?_
         refine Ck rfl rfl ?_
         refine Ck rfl rfl ?_
         refine Ab (by simp only [zo, hft] <;> exact rfl) ?_
         refine Aa (Af ?_)
         refine Kw (by simp only [opd, zv, hft]) ?_
         refine Ak (Bi ?_)
         refine Aa (Em ?_)
         refine Af ?_
         refine Ak (Ad rfl ?_)
         refine Ab (by simp only [zo, Bl, hwk, hft] <;> exact rfl) ?_
         refine Ah rfl (Aa ?_)
         refine Et (by simp only [ze] <;> exact rfl) ?_
         exact ⟨P.length - (k + 1), by omega, k + 1, _, _, _, _, _, _, _, _, by omega, rfl, rfl, by rw [hcell] <;> exact rfl, hO4.more _⟩
        ·
         refine Am rfl (Ad rfl ?_)
         refine Am rfl (Ab (by simp only [zo, Km, Sm, hft] <;> exact rfl) ?_)
         refine Am rfl (Ab (by simp only [zo, Bl, hft] <;> exact rfl) ?_)
         refine Ab (by simp only [zo, hft] <;> exact rfl) ?_
         refine Aa (Af ?_)
         refine Bv (by simp only [opd, zv, hft] <;> exact rfl) (fun hcATBTCTFFF1F => ?_) (fun hcATBTCTFFF1F => ?_)
         ·
          have hcell : Gh P i j (k + 1) = 46 := by
           have := of_decide_eq_true hcATBTCTFFF1F
           rw [hcell0, prn, if_neg]
           intro h
           rw [Bool.and_eq_true] at h
           have := of_decide_eq_true h.2; omega
          refine Ak (Bi ?_)
          refine Aa (Em ?_)
          refine Af ?_
          refine Ak (Ad rfl ?_)
          refine Ab (by simp only [zo, Bl, hwk, hft] <;> exact rfl) ?_
          refine Ah rfl (Aa ?_)
          refine Et (by simp only [ze] <;> exact rfl) ?_
          exact ⟨P.length - (k + 1), by omega, k + 1, _, _, _, _, _, _, _, _, by omega, rfl, rfl, by rw [hcell] <;> exact rfl, hO4.more _⟩
         ·
          have hcell : Gh P i j (k + 1) = b := by
           have := of_decide_eq_false hgATBTCTFFF1
           have := of_decide_eq_false hcATBTCTFFF1F
           rw [hcell0, prn, if_pos]
           rw [Bool.and_eq_true]
           exact ⟨decide_eq_true (by omega), decide_eq_true (by omega)⟩
          refine Aj (Em (Bo rfl (Ak ?_)))
          refine Ad rfl (Ab (by simp only [zo, Bl, hwk, hft] <;> exact rfl) ?_)
          refine Ah rfl (Aa ?_)
          refine Et (by simp only [ze] <;> exact rfl) ?_
          exact ⟨P.length - (k + 1), by omega, k + 1, _, _, _, _, _, _, _, _, by omega, rfl, rfl, by rw [hcell] <;> exact rfl, hO4.more _⟩
       ·
        rw [if_neg hk1] at hfk
        have hvk : vs[k] = mkS bs := by rw [Lg hvl] at hfk; exact Option.some.inj hfk
        have e1 : (((f.kind : Nat) : Int) == 1) = false := by rw [beq_eq_false_iff_ne]; omega
        refine Aj (Bo rfl (Ae ?_))
        refine Ad rfl (Ad rfl ?_)
        refine Ab (by simp only [zl, zm, zz3, hvk] <;> exact rfl) ?_
        refine xo4 ?_
        refine Ah rfl (Aa ?_)
        refine Af ?_
        refine Ag (Ae ?_)
        refine xo13 ?_
        refine Ab (by simp only [zo]; exact Ip (by omega) _ f) ?_
        refine Ab (by simp only [zo, Bl, e1] <;> exact rfl) ?_
        refine Aa (Af ?_)
        skip
        refine Cv ?_
        refine Aj (Bo rfl (Ae ?_))
        refine Ad rfl (xo13 ?_)
        refine Ab (by simp only [zo]; exact Hr (by omega) _ f) ?_
        refine Ab (by simp only [zo, Bl, zz3] <;> exact rfl) ?_
        refine Ah rfl (Aa ?_)
        refine Af ?_
        refine Ae (Ad rfl ?_)
        refine Ad rfl (Ad rfl ?_)
        refine Ab (by simp only [zo, Bl, zz3] <;> exact rfl) ?_
        refine Ab (by simp only [zo, Br, Co, Eo, Dw, zm, Jr, Lv, zz3] <;> exact rfl) ?_
        refine Ah rfl (Aa ?_)
        refine Af ?_
        refine Ae (Ad rfl ?_)
        refine Ab (by simp only [zo, Km, Sm] <;> exact rfl) ?_
        refine xo2 ?_
        refine Ah rfl ?_
        refine Im 0 (by simp only [zv] <;> exact rfl) (by simp only [zn] <;> exact rfl) (by simp only [zn] <;> exact rfl) (fun hgATBTCTFFF2 => ?_) (fun hgATBTCTFFF2 => ?_)
        ·
         have hcell : Gh P i j (k + 1) = 46 := by
          have := of_decide_eq_true hgATBTCTFFF2
          rw [hcell0, prn, if_neg]
          intro h
          rw [Bool.and_eq_true] at h
          have := of_decide_eq_true h.1; omega
         refine Ck rfl rfl ?_
         refine Ck rfl rfl ?_
         refine Ck rfl rfl ?_
         refine xo1 ?_
         refine Aa (Af ?_)
         refine Kw (by simp only [opd, zv]) ?_
         refine Ak (Bi ?_)
         refine Aa (Em ?_)
         refine Af ?_
         refine Ak (Ad rfl ?_)
         refine Ab (by simp only [zo, Bl, hwk] <;> exact rfl) ?_
         refine Ah rfl (Aa ?_)
         refine Et (by simp only [ze] <;> exact rfl) ?_
         exact ⟨P.length - (k + 1), by omega, k + 1, _, _, _, _, _, _, _, _, by omega, rfl, rfl, by rw [hcell] <;> exact rfl, hO4.more _⟩
        ·
         refine Am rfl (Ad rfl ?_)
         refine Am rfl (Ab (by simp only [zo, Km, Sm] <;> exact rfl) ?_)
         refine Am rfl (xo2 ?_)
         refine xo1 ?_
         refine Aa (Af ?_)
         refine Bv (by simp only [opd, zv] <;> exact rfl) (fun hcATBTCTFFF2F => ?_) (fun hcATBTCTFFF2F => ?_)
         ·
          have hcell : Gh P i j (k + 1) = 46 := by
           have := of_decide_eq_true hcATBTCTFFF2F
           rw [hcell0, prn, if_neg]
           intro h
           rw [Bool.and_eq_true] at h
           have := of_decide_eq_true h.2; omega
          refine Ak (Bi ?_)
          refine Aa (Em ?_)
          refine Af ?_
          refine Ak (Ad rfl ?_)
          refine Ab (by simp only [zo, Bl, hwk] <;> exact rfl) ?_
          refine Ah rfl (Aa ?_)
          refine Et (by simp only [ze] <;> exact rfl) ?_
          exact ⟨P.length - (k + 1), by omega, k + 1, _, _, _, _, _, _, _, _, by omega, rfl, rfl, by rw [hcell] <;> exact rfl, hO4.more _⟩
         ·
          have hcell : Gh P i j (k + 1) = b := by
           have := of_decide_eq_false hgATBTCTFFF2
           have := of_decide_eq_false hcATBTCTFFF2F
           rw [hcell0, prn, if_pos]
           rw [Bool.and_eq_true]
           exact ⟨decide_eq_true (by omega), decide_eq_true (by omega)⟩
          refine Aj (Em (Bo rfl (Ak ?_)))
          refine Ad rfl (Ab (by simp only [zo, Bl, hwk] <;> exact rfl) ?_)
          refine Ah rfl (Aa ?_)
          refine Et (by simp only [ze] <;> exact rfl) ?_
          exact ⟨P.length - (k + 1), by omega, k + 1, _, _, _, _, _, _, _, _, by omega, rfl, rfl, by rw [hcell] <;> exact rfl, hO4.more _⟩
   ·
    have hk' : k = P.length := by have := of_decide_eq_false hcATBTC; omega
    subst hk'
    have hsadd := sadd (Nq P i j) [Gh P i j P.length] (by rw [Oz]; simp; omega)
    have h32 : (⟨#[32]⟩ : ByteArray).toList = [32] := mkS_toList [32]
    refine Da (Gm (Ie (Gq (Bo rfl (Ae ?_)))))
    refine Ad rfl (Ad rfl ?_)
    refine Ab (by simp only [Ar, aop, LOp.loud, pop, if_false, Bool.false_eq_true, opd, zv, hsadd, Option.map_some] <;> exact rfl) ?_
    refine Ah rfl (Aa ?_)
    refine Af ?_
    refine Ae (Ad rfl ?_)
    refine Ab (by simp only [zo, Bl, mkS_toList, h32] <;> exact rfl) ?_
    refine Aa (Af ?_)
    refine Bv (by simp only [opd, zv] <;> exact rfl) (fun hcATBTCF => ?_) (fun hcATBTCF => ?_)
    ·
     have hx32 : ¬ Gh P i j P.length = 32 := by
      intro e; have h := hcATBTCF; rw [e] at h; simp at h
     refine Ak (Ad rfl ?_)
     refine Ah rfl ?_
     refine Aa (Em ?_)
     refine Af ?_
     refine Ak (Ad rfl ?_)
     refine Ab (by simp only [zo, Bl, hwj] <;> exact rfl) ?_
     refine Ah rfl (Aa ?_)
     refine Et (by simp only [ze] <;> exact rfl) ?_
     exact ⟨80 - (j + 1), by omega, j + 1, _, _, _, _, _, _, _, _, _, _, _, _, by omega, rfl, rfl, by rw [preG_succ, gridOf_at, Ol, if_neg hx32, Oz] <;> exact rfl, hO4⟩
    ·
     have hx32 : Gh P i j P.length = 32 := by
      have h := hcATBTCF
      simpa using h
     refine Aj (Em (Bo rfl (Ak ?_)))
     refine Ad rfl (Ab (by simp only [zo, Bl, hwj] <;> exact rfl) ?_)
     refine Ah rfl (Aa ?_)
     refine Et (by simp only [ze] <;> exact rfl) ?_
     exact ⟨80 - (j + 1), by omega, j + 1, _, _, _, _, _, _, _, _, _, _, _, _, by omega, rfl, rfl, by rw [preG_succ, gridOf_at, Ol, if_pos hx32] <;> exact rfl, hO4⟩
  ·
   have hj80 : j = 80 := by have := of_decide_eq_false hcATB; omega
   subst hj80
   have htl := tn_le (Nq P i 80)
   rw [Oz] at htl
   have hz1 : ((0 : Int) ≤ ((tn (Nq P i 80) : Nat) : Int)) = True := eq_true (by omega)
   have hz2 : (0 ≤ tn (Nq P i 80) ∧ tn (Nq P i 80) ≤ 80) = True := eq_true ⟨by omega, htl⟩
   obtain ⟨x3, l3, q3, hap, hO3, -, -, -⟩ := hO2.app (lo := 0) (row := [.str (mkS ((Nq P i 80).take (tn (Nq P i 80))))]) (.inl (by omega)) (by rw [orow_len]; omega)
   refine Da (Gm (Ie (Gq (Bo rfl (Ak ?_)))))
   refine Ad rfl (Ad rfl ?_)
   refine Ad rfl (Ab (by simp only [zo, Br, Co, Eo, Dw, zm, hz1, hz2, Jr, Lv, Oz, Int.toNat_natCast, Nat.sub_zero] <;> exact rfl) ?_)
   refine xo7 ?_
   refine Ab (by simp only [Ar, aop, LOp.loud, lop, if_true, opd, zv]; exact hap) ?_
   refine Ah rfl ?_
   refine Aa (Em ?_)
   refine Af ?_
   refine Ak (Ad rfl ?_)
   refine Ab (by simp only [zo, Bl, hwi] <;> exact rfl) ?_
   refine Ah rfl (Aa ?_)
   refine Et (by simp only [ze] <;> exact rfl) ?_
   exact ⟨24 - (i + 1), by omega, i + 1, q3, l3, x3, _, _, _, _, _, _, _, _, _, _, _, _, _, _, _, by omega, rfl, rfl, rfl, by rw [orow_succ]; exact hO3⟩
 ·
  have hi24 : i = 24 := by have := of_decide_eq_false hcA; omega
  subst hi24
  refine Da (Gm (Ie (Gq (Bo rfl (Ae ?_)))))
  refine Ad rfl (Ah rfl ?_)
  refine Aa (Af ?_)
  refine Bw ?_
  rcases hO with ⟨rfl, hbad⟩ | ⟨vs2, rfl, ho⟩
  ·
   have := congrArg List.length hbad
   rw [orow_len] at this; cases this
  ·
   refine ⟨_, by simp only [F21, Ay, Cb, Dx, zg] <;> exact rfl, ?_⟩
   simp [D8, leave, Tf, Tc, snap, D.Te, D.Td, D.free, D.Tj, ho, orow_24]

def RG (e kind : Nat) (l : List Sr) (n0 q : Nat) (x : D) (rows : List (List D)) : Prop := (x = .Tt ∧ rows = []) ∨ ∃ vs, x = .msl (n0 + q) vs 0 rows.length none ∧ l[q]? = some ⟨e, 1, rows, vs, kind, true⟩
theorem RG.more {e kind n0 q : Nat} {l : List Sr} {x : D} {rows : List (List D)} (h : RG e kind l n0 q x rows) (m : List Sr) : RG e kind (l ++ m) n0 q x rows := by
 rcases h with h | ⟨vs, h1, h2⟩
 ·
  exact .inl h
 ·
  exact .inr ⟨vs, h1, by rw [Cg (Bd h2)]; exact h2⟩
theorem RG.keep {e kind n0 q : Nat} {l l' : List Sr} {x : D} {rows : List (List D)} (h : RG e kind l n0 q x rows) (hk : ∀ (k : Nat) (o : Sr), l[k]? = some o → o.elem = e → l'[k]? = some o) : RG e kind l' n0 q x rows := by
 rcases h with h | ⟨vs, h1, h2⟩
 ·
  exact .inl h
 ·
  exact .inr ⟨vs, h1, hk _ _ h2 rfl⟩
theorem RG.app1 {H l : List Sr} {e b q lo : Nat} {x : D} {rows : List (List D)} {row : List D} (h : RG e 1 l H.length q x rows) (hq : 0 < q) (hlo : lo ≤ H.length) (hl : rows.length < 1000) (hb : b ≤ 1000) (hpos : 0 < l.length) :
  ∃ x' l' q', Bu e 1 b 1 x (.sl 1 [row] (some 1)) ⟨H ++ l, lo⟩ = some (x', ⟨H ++ l', lo⟩, true) ∧ RG e 1 l' H.length q' x' (rows ++ [row]) ∧ 0 < q' ∧ l.length ≤ l'.length ∧ l'[0]? = l[0]? ∧ ∀ (k : Nat) (o : Sr), l[k]? = some o → o.elem ≠ e → l'[k]? = some o := by
 rcases h with ⟨rfl, rfl⟩ | ⟨vs, rfl, ho⟩
 ·
  have hbb : b ≤ 140737488355328 := by omega
  refine ⟨.msl (H.length + l.length) 0 0 1 none, l ++ [⟨e, 1, [row], 0, 1, true⟩], l.length, ?_, .inr ⟨0, rfl, by simp⟩, hpos, by simp, by rw [La_ hpos], fun k o h _ => by rw [Cg (Bd h)]; exact h⟩
  simp [Bu, Cw, Bb, newAt, hbb]
 ·
  have hql := Bd ho
  have hz : (H ++ l)[H.length + q]? = some ⟨e, 1, rows, vs, 1, true⟩ := by rw [Cu]; exact ho
  refine ⟨.msl (H.length + q) (vs + 1) 0 (rows.length + 1) none, l.set q ⟨e, 1, rows ++ [row], vs + 1, 1, true⟩, q, ?_, .inr ⟨vs + 1, by simp, Ef hql _⟩, hq, by simp, by rw [Ln_ (by omega)], fun k o h he => ?_⟩
  ·
   have hbb : (rows.length + 1) * b ≤ 140737488355328 := by
    have := Nat.mul_le_mul (show rows.length + 1 ≤ 1000 by omega) hb
    omega
   have hmin : min lo (H.length + q) = lo := by omega
   simp [Bu, Cw, Bb, rowsOf, hz, setAt, hbb, hmin]
  ·
   rw [Ln_ ?_]
   ·
    exact h
   ·
    intro e'
    subst e'
    rw [ho] at h
    cases h
    exact he rfl
theorem RG.app0 {H l : List Sr} {e b q lo : Nat} {x : D} {rows : List (List D)} {row : List D} (h : RG e 0 l H.length q x rows) (hq : 0 < q) (hlo : lo ≤ H.length) (hl : rows.length < 1000) (hb : b ≤ 1000) (hpos : 0 < l.length) :
  ∃ x' l' q', Bu e 1 b 0 x (.msl (H.length + l.length) 0 0 1 none) ⟨H ++ (l ++ [⟨e, 1, [row], 0, 0, false⟩]), lo⟩ = some (x', ⟨H ++ l', lo⟩, true) ∧ RG e 0 l' H.length q' x' (rows ++ [row]) ∧ 0 < q' ∧ l.length ≤ l'.length ∧ l'[0]? = l[0]? ∧ ∀ (k : Nat) (o : Sr), l[k]? = some o → o.elem ≠ e → l'[k]? = some o := by
 have hr : (H ++ (l ++ [(⟨e, 1, [row], 0, 0, false⟩ : Sr)]))[H.length + l.length]? = some ⟨e, 1, [row], 0, 0, false⟩ := by rw [Cu, Du]; rfl
 have hread : Dl ⟨H ++ (l ++ [⟨e, 1, [row], 0, 0, false⟩]), lo⟩ 1 (.msl (H.length + l.length) 0 0 1 none) = some [row] := by simp [Dl, rowsOf]
 rcases h with ⟨rfl, rfl⟩ | ⟨vs, rfl, ho⟩
 ·
  have hbb : b ≤ 140737488355328 := by omega
  refine ⟨.msl (H.length + (l.length + 1)) 0 0 1 none, l ++ [⟨e, 1, [row], 0, 0, false⟩, ⟨e, 1, [row], 0, 0, true⟩], l.length + 1, ?_, .inr ⟨0, rfl, by simp⟩, by omega, by simp, by rw [La_ hpos], fun k o h _ => by rw [Cg (Bd h)]; exact h⟩
  simp [Bu, hread, Bb, newAt, hbb]
 ·
  have hql := Bd ho
  have hz : (H ++ (l ++ [(⟨e, 1, [row], 0, 0, false⟩ : Sr)]))[H.length + q]? = some ⟨e, 1, rows, vs, 0, true⟩ := by rw [Cu, Cg hql]; exact ho
  refine ⟨.msl (H.length + q) (vs + 1) 0 (rows.length + 1) none, l.set q ⟨e, 1, rows ++ [row], vs + 1, 0, true⟩ ++ [⟨e, 1, [row], 0, 0, false⟩], q, ?_, .inr ⟨vs + 1, by simp, by rw [Cg (by simpa using hql)]; exact Ef hql _⟩, hq, by simp, ?_, fun k o h he => ?_⟩
  ·
   have hbb : (rows.length + 1) * b ≤ 140737488355328 := by
    have := Nat.mul_le_mul (show rows.length + 1 ≤ 1000 by omega) hb
    omega
   have hmin : min lo (H.length + q) = lo := by omega
   simp [Bu, hread, Bb, rowsOf, hz, setAt, hbb, hmin, Hd hql]
  ·
   rw [La_ (by simpa using hpos), Ln_ (by omega)]
  ·
   rw [Cg (by simpa using Bd h), Ln_ ?_]
   ·
    exact h
   ·
    intro e'
    subst e'
    rw [ho] at h
    cases h
    exact he rfl
def atN (l : List FM) (i : Nat) : Nat := ((l.take i).map FM.size).sum
theorem Mq {l : List FM} {i : Nat} (h : i < l.length) : atN l (i + 1) = atN l i + l[i].size := by
 unfold atN
 rw [List.take_succ_eq_append_getElem h, List.map_append, List.sum_append]
 simp only [List.map_cons, List.map_nil, List.sum_cons, List.sum_nil, Nat.add_zero]
theorem atN_le (l : List FM) (i : Nat) : atN l i ≤ 6 * i := by
 unfold atN
 induction l generalizing i with
 | nil => simp
 | cons f l ih =>
  cases i with
  | zero => simp
  | succ i =>
   have := ih i
   have := f.size_le
   simp only [List.take_succ_cons, List.map_cons, List.sum_cons]; omega
def plB (raw : List UInt8) (a n : Nat) : List UInt8 := (List.range n).map fun k => raw.getD (a + k) 97
theorem Sl (raw : List UInt8) (a n : Nat) : (plB raw a n).length = n := by simp [plB]
theorem plB_succ (raw : List UInt8) (a n : Nat) : plB raw a (n + 1) = plB raw a n ++ [raw.getD (a + n) 97] := by simp [plB, List.range_succ]
def plR (l : List FM) (raw : List UInt8) (i : Nat) : List ByteArray := (List.range i).map fun j => mkS (plB raw (atN l j) ((l[j]?.map FM.size).getD 0))
def vlR (l : List FM) (raw : List UInt8) (i : Nat) : List D := (List.range i).map fun j => .sl 1 (Bf (if (l[j]?.map FM.kind).getD 0 = 1 ∧ atN l (j + 1) % 2 = 0 then ⟨#[]⟩ else mkS (plB raw (atN l j) ((l[j]?.map FM.size).getD 0)))) none
theorem plR_succ {l : List FM} {raw : List UInt8} {i : Nat} (h : i < l.length) : plR l raw (i + 1) = plR l raw i ++ [mkS (plB raw (atN l i) l[i].size)] := by simp [plR, List.range_succ, h]
theorem vlR_succ {l : List FM} {raw : List UInt8} {i : Nat} (h : i < l.length) : vlR l raw (i + 1) = vlR l raw i ++ [.sl 1 (Bf (if l[i].kind = 1 ∧ atN l (i + 1) % 2 = 0 then ⟨#[]⟩ else mkS (plB raw (atN l i) l[i].size))) none] := by simp [vlR, List.range_succ, h]
theorem plR_len (l : List FM) (raw : List UInt8) (i : Nat) : (plR l raw i).length = i := by simp [plR]
theorem Sg (l : List FM) (raw : List UInt8) (i : Nat) : (vlR l raw i).length = i := by simp [vlR]
def PLs (l : List FM) (raw : List UInt8) : List (FM × List UInt8) := l.mapIdx fun i f => (f, if f.kind = 1 then f.text.data.toList else plB raw (atN l i) f.size)
theorem PLs_len (l : List FM) (raw : List UInt8) : (PLs l raw).length = l.length := by simp [PLs]
theorem PLs_fst (l : List FM) (raw : List UInt8) : (PLs l raw).map (·.1) = l := by
 refine List.ext_getElem? fun i => ?_
 simp only [PLs, Lp_, List.getElem?_mapIdx]
 cases l[i]? <;> rfl
theorem PLs_at {l : List FM} {raw : List UInt8} {i : Nat} {p : FM × List UInt8} (h : (PLs l raw)[i]? = some p) : ∃ hi : i < l.length, p = (l[i], if l[i].kind = 1 then l[i].text.data.toList else plB raw (atN l i) l[i].size) := by
 have hi : i < l.length := by have := (List.getElem?_eq_some_iff.1 h).1; rwa [PLs_len] at this
 refine ⟨hi, ?_⟩
 simp only [PLs, List.getElem?_mapIdx, Lg hi, Option.map_some, Oi] at h
 exact h.symm
theorem SrcV.nil (H : List Sr) : SrcV H .Tt [] 0 0 := ⟨rfl, rfl, fun _ _ => rfl, fun _ _ i h => absurd h (by simp), fun _ _ i v h => by simp at h⟩
theorem plB_text (f : FM) : f.text.data.toList.length = f.size := Mv f

theorem law5_run {d : Nat} (hd : 30 ≤ d) (S : St) {l : List FM} {raw : List UInt8} {lx rx : D} (hlx : SlD 6 (Hq l) lx) (hrx : SlD 1 (bR raw) rx) : Bc LP NN d 5 [lx, rx] S = some (.bool true, S, false) := by
 refine run_pure (F := F5) rfl (by simp only [LP, Aq, hlx.Tc, hrx.Tc] <;> exact rfl) rfl (by simp only [LP, zm, hlx.Td, hrx.Td]; try rfl) (by simp only [F5, zv] <;> exact rfl) (by omega) ?_
 rintro d rfl
 refine Ae (Bi ?_)
 refine Aa (Af ?_)
 refine Ag (Ae ?_)
 refine Ad rfl (Ab (by simp only [zo, hlx.len, Gn] <;> exact rfl) ?_)
 refine xo2 ?_
 refine Ah rfl ?_
 refine Im 0 (by simp only [zv] <;> exact rfl) (by simp only [zn] <;> exact rfl) (by simp only [zn] <;> exact rfl) (fun hg => ?_) (fun hg => ?_)
 ·
  refine Ck rfl rfl ?_
  refine Ck rfl rfl ?_
  refine Ck rfl rfl ?_
  refine xo1 ?_
  refine Aa (Af ?_)
  refine Kw (by simp only [opd, zv]) ?_
  refine Ae (Ab (by simp only [zo]; exact Qe (by omega) _) ?_)
  refine Ah rfl (Aa ?_)
  refine Af ?_
  refine Bw (Jh ?_)
  refine ⟨_, by simp only [F5, Ay, Cb, Dx, zg] <;> exact rfl, ?_⟩
  simp only [D8, leave, zs, zf, zk]
 ·
  refine Am rfl (Ad rfl ?_)
  refine Am rfl (Ab (by simp only [zo, hrx.len, Oh] <;> exact rfl) ?_)
  refine Am rfl (xo2 ?_)
  refine xo1 ?_
  refine Aa (Af ?_)
  refine Bv (by simp only [opd, zv] <;> exact rfl) (fun hcF => ?_) (fun hcF => ?_)
  ·
   refine Ae (Ab (by simp only [zo]; exact Qe (by omega) _) ?_)
   refine Ah rfl (Aa ?_)
   refine Af ?_
   refine Bw (Jh ?_)
   refine ⟨_, by simp only [F5, Ay, Cb, Dx, zg] <;> exact rfl, ?_⟩
   simp only [D8, leave, zs, zf, zk]
  ·
   have hll : l.length ≤ 20 := by have := of_decide_eq_false hg; omega
   have hrl : raw.length ≤ 200 := by have := of_decide_eq_false hcF; omega
   obtain ⟨H', x0, gs, rows, wr, hof, -, -, hFL, hRW, -⟩ := of_run (d := d) (by omega) [] 0 (by simp) hlx hll
   obtain ⟨v, hS⟩ := hFL.src
   have hcl := hS.cell
   refine Aj (Bo rfl (Ae ?_))
   refine Ad rfl (Ab (by simp only [zo]; exact hof) ?_)
   refine Ah rfl (xo20 ?_)
   refine xo16 ?_
   refine xo8 ?_
   refine Ab (by simp only [zl, zm, Bt, overlay, Cf, zs, zc, zf, List.take, List.drop, hcl] <;> exact rfl) ?_
   refine Ah rfl (Aa ?_)
   refine Af ?_
   refine Ag (Ae ?_)
   refine Ad rfl (Pw ?_)
   refine Aa (Af ?_)
   skip
   refine Cv ?_
   refine Aj (Bo rfl (Ae ?_))
   refine Bi (Aa ?_)
   refine Af ?_
   refine Ae (Bi ?_)
   refine Aa (Af ?_)
   refine Ae (Bi ?_)
   refine Aa (Af ?_)
   refine Ag (Ae ?_)
   refine Bi (Aa ?_)
   refine Af ?_
   refine Aw ?_
   refine Dq (fun n env S' => ∃ (i qv qp : Nat) (l2 : List Sr) (xv xp u9 u10 u11 u18 u19 u20 u21 : D), i ≤ l.length ∧ n = l.length - i ∧ S' = ⟨H' ++ l2, 0⟩ ∧ env = [lx, rx, .bool false, .ptr H'.length 0 0 0, .bool true, xv, xp, .int .i64 (atN l i : Nat), .int .i64 (i : Nat), u9, u10, u11, .undef, .undef, .undef, .undef, .bool (decide (((raw.length : Nat) : Int) > 200)), .bool false, u18, u19, u20, u21, .undef, .undef, .undef] ∧ RG 42 0 l2 H'.length qv xv ((vlR l raw i).map fun v => [v]) ∧ RG 9 1 l2 H'.length qp xp (Dz (plR l raw i)) ∧ 0 < qv ∧ 0 < qp ∧ l2[0]? = some ⟨36, 4, [[.str nmA, De x0, .int .i64 ((1 : Nat) : Int), .int .i64 ((12 : Nat) : Int)]], 0, 0, false⟩) (l.length) (by omega) (⟨0, 1, 1, [⟨36, 4, [[.str nmA, De x0, .int .i64 ((1 : Nat) : Int), .int .i64 ((12 : Nat) : Int)]], 0, 0, false⟩], .Tt, .Tt, _, _, _, _, _, _, _, by omega, by omega, rfl, rfl, .inl ⟨rfl, rfl⟩, .inl ⟨rfl, rfl⟩, by omega, by omega, rfl⟩) ?_
   rintro n env S' ⟨i, qv, qp, l2, xv, xp, u9, u10, u11, u18, u19, u20, u21, hi, hnk, rfl, rfl, hV, hPl, hqv, hqp, hsb⟩
   refine Ag (Ae ?_)
   refine Ad rfl (Ad rfl ?_)
   refine Ab (by simp only [zo, hlx.len, Gn] <;> exact rfl) ?_
   refine xo2 ?_
   refine Aa (Af ?_)
   refine Bv (by simp only [opd, zv] <;> exact rfl) (fun hcFFA => ?_) (fun hcFFA => ?_)
   ·
    have hlt : i < l.length := by have := of_decide_eq_true hcFFA; omega
    have hwi := Dh i (by omega)
    have hia := fun (S : St) => hlx.iaddrN S .i64 (Nj hlt)
    have hat := atN_le l i
    have hsz := l[i].size_le
    have hkd := l[i].kind_le
    refine Aj (Bo rfl (Ag (Aw (Ae ?_))))
    refine Bi (Aa ?_)
    refine Af ?_
    refine Ag (Ae ?_)
    refine Bi (Aa ?_)
    refine Af ?_
    refine Aw ?_
    refine Dq (fun n env S' => ∃ (k : Nat) (v11 v19 v20 : D), k ≤ l[i].size ∧ n = l[i].size - k ∧ S' = ⟨H' ++ l2, 0⟩ ∧ env = [lx, rx, .bool false, .ptr H'.length 0 0 0, .bool true, xv, xp, .int .i64 ((atN l i + k : Nat) : Int), .int .i64 (i : Nat), .str (mkS (plB raw (atN l i) k)), .int .i64 (k : Nat), v11, .undef, .undef, .undef, .undef, .bool (decide (((raw.length : Nat) : Int) > 200)), .bool false, .bool (decide (((i : Nat) : Int) < ((l.length : Nat) : Int))), v19, v20, u21, .undef, .undef, .undef]) (l[i].size) (by omega) (⟨0, _, _, _, by omega, by omega, rfl, rfl⟩) ?_
    rintro n env S' ⟨k, v11, v19, v20, hk, hnk2, rfl, rfl⟩
    refine Ag (Ae ?_)
    refine Ad rfl (Ad rfl ?_)
    refine Ad rfl (Ab (by simp only [zl, zm, hia, FM.row] <;> exact rfl) ?_)
    refine xo4 ?_
    refine Ab (by simp only [zo]; exact size_run (by omega) _ _) ?_
    refine xo2 ?_
    refine Aa (Af ?_)
    refine Bv (by simp only [opd, zv] <;> exact rfl) (fun hcFFATB => ?_) (fun hcFFATB => ?_)
    ·
     have hkl : k < l[i].size := by have := of_decide_eq_true hcFFATB; omega
     have hwk := Dh k (by omega)
     have hwa := Dh (atN l i + k) (by omega)
     refine Aj (Bo rfl (Ag (Aw (Ae ?_))))
     refine Bi (Aa ?_)
     refine Af ?_
     refine Ag (Ae ?_)
     refine Ad rfl (Ad rfl ?_)
     refine Ab (by simp only [zo, hrx.len, Oh] <;> exact rfl) ?_
     refine xo2 ?_
     refine Aa (Af ?_)
     refine Bv (by simp only [opd, zv] <;> exact rfl) (fun hcFFATBT => ?_) (fun hcFFATBT => ?_)
     ·
      have har : atN l i + k < raw.length := by have := of_decide_eq_true hcFFATBT; omega
      have hbk := Lg har
      obtain ⟨b, hb⟩ : ∃ b, b = raw[atN l i + k] := ⟨_, rfl⟩
      rw [← hb] at hbk
      have hgd : raw.getD (atN l i + k) 97 = b := by rw [List.getD_eq_getElem?_getD, hbk]; rfl
      have hir := fun (S : St) => hrx.iaddrN S .i64 (bR_at hbk)
      have hsadd : Bl .add (.str (mkS (plB raw (atN l i) k))) (.str ⟨#[b]⟩) = some (.str (mkS (plB raw (atN l i) k ++ [b]))) := sadd (plB raw (atN l i) k) [b] (by rw [Sl]; simp; omega)
      have hbo : bytesOf [[D.int .u8 (b.toNat : Nat)]] = some [b] := by simp [bytesOf]
      refine Ak (Ad rfl ?_)
      refine Ad rfl (Ab (by simp only [zl, zm, hir] <;> exact rfl) ?_)
      refine xo4 ?_
      refine Ah rfl (Aa ?_)
      refine Af ?_
      refine Ae (Ad rfl ?_)
      refine Ab (by simp only [zo, Bl, hwa] <;> exact rfl) ?_
      refine Ah rfl (Aa ?_)
      refine Af ?_
      refine Ak (Ad rfl ?_)
      refine Ad rfl (xo7 ?_)
      refine Ab (by simp only [zl, zm, F7, hbo] <;> exact rfl) ?_
      refine Ab (by simp only [Ar, aop, LOp.loud, pop, if_false, Bool.false_eq_true, opd, zv, hsadd, Option.map_some] <;> exact rfl) ?_
      refine Ah rfl ?_
      refine Aa (Em ?_)
      refine Af ?_
      refine Ak (Ad rfl ?_)
      refine Ab (by simp only [zo, Bl, hwk] <;> exact rfl) ?_
      refine Ah rfl (Aa ?_)
      refine Et (by simp only [ze] <;> exact rfl) ?_
      exact ⟨l[i].size - (k + 1), by omega, k + 1, _, _, _, by omega, rfl, rfl, by rw [plB_succ, hgd] <;> exact rfl⟩
     ·
      have har : raw.length ≤ atN l i + k := by have := of_decide_eq_false hcFFATBT; omega
      have hgd : raw.getD (atN l i + k) 97 = 97 := by rw [List.getD_eq_getElem?_getD, List.getElem?_eq_none har]; rfl
      have hsadd : Bl .add (.str (mkS (plB raw (atN l i) k))) (.str ⟨#[97]⟩) = some (.str (mkS (plB raw (atN l i) k ++ [97]))) := sadd (plB raw (atN l i) k) [97] (by rw [Sl]; simp; omega)
      have hbo : bytesOf [[D.int .u8 97]] = some [97] := rfl
      refine Aj (Bo rfl (Ae ?_))
      refine Ad rfl (Ab (by simp only [zo, Bl, hwa] <;> exact rfl) ?_)
      refine Ah rfl (Aa ?_)
      refine Af ?_
      refine Ak (Ad rfl ?_)
      refine Ad rfl (xo7 ?_)
      refine Ab (by simp only [zl, zm, F7, hbo] <;> exact rfl) ?_
      refine Ab (by simp only [Ar, aop, LOp.loud, pop, if_false, Bool.false_eq_true, opd, zv, hsadd, Option.map_some] <;> exact rfl) ?_
      refine Ah rfl ?_
      refine Aa (Em ?_)
      refine Af ?_
      refine Ak (Ad rfl ?_)
      refine Ab (by simp only [zo, Bl, hwk] <;> exact rfl) ?_
      refine Ah rfl (Aa ?_)
      refine Et (by simp only [ze] <;> exact rfl) ?_
      exact ⟨l[i].size - (k + 1), by omega, k + 1, _, _, _, by omega, rfl, rfl, by rw [plB_succ, hgd] <;> exact rfl⟩
    ·
     have hk' : k = l[i].size := by have := of_decide_eq_false hcFFATB; omega
     subst hk'
     have hpos : 0 < l2.length := Bd hsb
     obtain ⟨x5, l5, q5, hap1, hP5, hq5, hl5, h50, hk5⟩ := hPl.app1 (row := [.str (mkS (plB raw (atN l i) l[i].size))]) (b := 16) (lo := 0) hqp (by omega) (by rw [H5, plR_len]; omega) (by omega) hpos
     have hV5 := hV.keep (l' := l5) fun k o h he => hk5 k o h (by rw [he]; decide)
     have htm : ((atN l i + l[i].size : Nat) : Int).tmod 2 = (((atN l i + l[i].size) % 2 : Nat) : Int) := tmod_nat _ 2
     refine Da (Gm (Ie (Gq (Bo rfl (Ae ?_)))))
     refine Ad rfl (Ad rfl ?_)
     refine xo7 ?_
     refine Ab (by simp only [Ar, aop, LOp.loud, lop, if_true, opd, zv]; exact hap1) ?_
     refine Ah rfl (Aa ?_)
     refine Af ?_
     refine Ag (Ae ?_)
     refine Ad rfl (Ad rfl ?_)
     refine Ab (by simp only [zl, zm, hia, FM.row] <;> exact rfl) ?_
     refine xo4 ?_
     refine Ab (by simp only [zo]; exact Ip (by omega) _ _) ?_
     refine xo2 ?_
     refine Ah rfl ?_
     refine Im 0 (by simp only [zv] <;> exact rfl) (by simp only [zn] <;> exact rfl) (by simp only [zn] <;> exact rfl) (fun hgFFATBF => ?_) (fun hgFFATBF => ?_)
     ·
      refine Am rfl (Ad rfl ?_)
      refine Am rfl (Ab (by simp only [zo, Bl, zb, Int.reduceEq, htm] <;> exact rfl) ?_)
      refine Am rfl (xo2 ?_)
      refine xo1 ?_
      refine Aa (Af ?_)
      refine Bv (by simp only [opd, zv] <;> exact rfl) (fun hcFFATBFT => ?_) (fun hcFFATBFT => ?_)
      ·
       have hk1 : l[i].kind = 1 := by have h := hgFFATBF; rw [beq_iff_eq] at h; omega
       have hm2 : atN l (i + 1) % 2 = 0 := by have h := hcFFATBFT; rw [beq_iff_eq] at h; rw [Mq hlt]; omega
       have hvif : (if l[i].kind = 1 ∧ atN l (i + 1) % 2 = 0 then (⟨#[]⟩ : ByteArray) else mkS (plB raw (atN l i) l[i].size)) = ⟨#[]⟩ := if_pos ⟨hk1, hm2⟩
       obtain ⟨x6, l6, q6, hap0, hV6, hq6, hl6, h60, hk6⟩ := hV5.app0 (row := [.sl 1 (Bf (⟨#[]⟩)) none]) (b := 24) (lo := 0) hqv (by omega) (by rw [List.length_map, Sg]; omega) (by omega) (by omega)
       refine Ak (Bi ?_)
       refine Aa (Af ?_)
       refine Ak (Ad rfl ?_)
       refine Ad rfl (Ab (by simp only [zl] <;> exact rfl) ?_)
       refine xo7 ?_
       refine Ab (by simp only [Ar, aop, LOp.loud, lop, if_true, opd, zv]; exact hap0) ?_
       refine Ah rfl ?_
       refine Aa (Em ?_)
       refine Af ?_
       refine Ak (Ad rfl ?_)
       refine Ab (by simp only [zo, Bl, hwi] <;> exact rfl) ?_
       refine Ah rfl (Aa ?_)
       refine Et (by simp only [ze] <;> exact rfl) ?_
       exact ⟨l.length - (i + 1), by omega, i + 1, q6, q5, l6, x6, x5, _, _, _, _, _, _, _, by omega, rfl, rfl, by rw [Mq hlt] <;> exact rfl, by rw [vlR_succ hlt, List.map_append, hvif]; exact hV6, by rw [plR_succ hlt, Dz, List.map_append]; exact hP5.keep (fun k o h he => hk6 k o h (by rw [he]; decide)), hq6, hq5, by rw [h60, h50]; exact hsb⟩
      ·
       have hm2 : ¬ atN l (i + 1) % 2 = 0 := by have h := hcFFATBFT; rw [beq_eq_false_iff_ne] at h; rw [Mq hlt]; omega
       have hvif : (if l[i].kind = 1 ∧ atN l (i + 1) % 2 = 0 then (⟨#[]⟩ : ByteArray) else mkS (plB raw (atN l i) l[i].size)) = mkS (plB raw (atN l i) l[i].size) := if_neg (fun h => hm2 h.2)
       obtain ⟨x6, l6, q6, hap0, hV6, hq6, hl6, h60, hk6⟩ := hV5.app0 (row := [.sl 1 (Bf (mkS (plB raw (atN l i) l[i].size))) none]) (b := 24) (lo := 0) hqv (by omega) (by rw [List.length_map, Sg]; omega) (by omega) (by omega)
       refine Aj (Bo rfl (Ak ?_))
       refine Ad rfl (Ad rfl ?_)
       refine Ab (by simp only [zl] <;> exact rfl) ?_
       refine xo7 ?_
       refine Ab (by simp only [Ar, aop, LOp.loud, lop, if_true, opd, zv]; exact hap0) ?_
       refine Ah rfl ?_
       refine Aa (Em ?_)
       refine Af ?_
       refine Ak (Ad rfl ?_)
       refine Ab (by simp only [zo, Bl, hwi] <;> exact rfl) ?_
       refine Ah rfl (Aa ?_)
       refine Et (by simp only [ze] <;> exact rfl) ?_
       exact ⟨l.length - (i + 1), by omega, i + 1, q6, q5, l6, x6, x5, _, _, _, _, _, _, _, by omega, rfl, rfl, by rw [Mq hlt] <;> exact rfl, by rw [vlR_succ hlt, List.map_append, hvif]; exact hV6, by rw [plR_succ hlt, Dz, List.map_append]; exact hP5.keep (fun k o h he => hk6 k o h (by rw [he]; decide)), hq6, hq5, by rw [h60, h50]; exact hsb⟩
     ·
      have hk1 : ¬ l[i].kind = 1 := by have h := hgFFATBF; rw [beq_eq_false_iff_ne] at h; omega
      have hvif : (if l[i].kind = 1 ∧ atN l (i + 1) % 2 = 0 then (⟨#[]⟩ : ByteArray) else mkS (plB raw (atN l i) l[i].size)) = mkS (plB raw (atN l i) l[i].size) := if_neg (fun h => hk1 h.1)
      obtain ⟨x6, l6, q6, hap0, hV6, hq6, hl6, h60, hk6⟩ := hV5.app0 (row := [.sl 1 (Bf (mkS (plB raw (atN l i) l[i].size))) none]) (b := 24) (lo := 0) hqv (by omega) (by rw [List.length_map, Sg]; omega) (by omega) (by omega)
      refine Ck rfl rfl ?_
      refine Ck rfl rfl ?_
      refine Ck rfl rfl ?_
      refine xo1 ?_
      refine Aa (Af ?_)
      refine Iy (by simp only [opd, zv]) ?_
      refine Aj (Bo rfl (Ak ?_))
      refine Ad rfl (Ad rfl ?_)
      refine Ab (by simp only [zl] <;> exact rfl) ?_
      refine xo7 ?_
      refine Ab (by simp only [Ar, aop, LOp.loud, lop, if_true, opd, zv]; exact hap0) ?_
      refine Ah rfl ?_
      refine Aa (Em ?_)
      refine Af ?_
      refine Ak (Ad rfl ?_)
      refine Ab (by simp only [zo, Bl, hwi] <;> exact rfl) ?_
      refine Ah rfl (Aa ?_)
      refine Et (by simp only [ze] <;> exact rfl) ?_
      exact ⟨l.length - (i + 1), by omega, i + 1, q6, q5, l6, x6, x5, _, _, _, _, _, _, _, by omega, rfl, rfl, by rw [Mq hlt] <;> exact rfl, by rw [vlR_succ hlt, List.map_append, hvif]; exact hV6, by rw [plR_succ hlt, Dz, List.map_append]; exact hP5.keep (fun k o h he => hk6 k o h (by rw [he]; decide)), hq6, hq5, by rw [h60, h50]; exact hsb⟩
   ·
    have hi' : i = l.length := by have := of_decide_eq_false hcFFA; omega
    subst hi'
    have hPn := PLs_len l raw
    have hRW2 : RW ((PLs l raw).map (·.1)) rows := by rw [PLs_fst]; exact hRW
    have hv : ∃ gv vv, SrcV (H' ++ l2) xv (vlR l raw l.length) gv vv := by
     rcases hV with ⟨rfl, h2⟩ | ⟨vs, rfl, h2⟩
     ·
      have h0 : vlR l raw l.length = [] := by simpa using h2
      rw [h0]
      exact ⟨0, 0, .nil _⟩
     ·
      exact ⟨_, _, .of (gr := true) (by rw [Cu]; exact h2) (by simp)⟩
    obtain ⟨gv, vv, hv⟩ := hv
    have hshow := show_run (d := d) (by omega) (hS.mono l2) hRW2 hv (by rw [hPn]; omega) (by rw [Sg, hPn]) (fun i p w hp hw => by
     obtain ⟨hi, rfl⟩ := PLs_at hp
     have hw' : w = .sl 1 (Bf (if l[i].kind = 1 ∧ atN l (i + 1) % 2 = 0 then ⟨#[]⟩ else mkS (plB raw (atN l i) l[i].size))) none := by
      simp only [vlR, Lp_, List.getElem?_range hi, Option.map_some, Oi, Lg hi, Option.getD_some] at hw
      exact hw.symm
     refine ⟨?_, ?_⟩
     ·
      simp only
      split
      ·
       exact plB_text _
      ·
       exact Sl _ _ _
     ·
      by_cases hk : l[i].kind = 1
      ·
       simp only [hk, if_true]
      ·
       simp only [hk, if_false]
       rw [hw', if_neg (by intro h; exact hk h.1)]
       exact SlD.rdb (.of _ _ _) _) nmA 1 12 0
    have hgrid : Bc LP NN d 21 [lx, xp] ⟨H' ++ l2, 0⟩ = some (.sl 1 (En (Cz (PLs l raw)) 24) none, ⟨H' ++ l2, 0⟩, false) := by
     have key : ∀ y, SlD 1 (Dz (plR l raw l.length)) y → Bc LP NN d 21 [lx, y] ⟨H' ++ l2, 0⟩ = some (.sl 1 (En (Cz (PLs l raw)) 24) none, ⟨H' ++ l2, 0⟩, false) := fun y hy =>
      grid_run (by omega) _ (P := PLs l raw) (by rw [PLs_fst]; exact hlx) hy (by rw [hPn]; omega) (by rw [plR_len, hPn]) (fun i p hp => by
       obtain ⟨hi, rfl⟩ := PLs_at hp
       refine ⟨?_, ?_⟩
       ·
        simp only
        split
        ·
         exact plB_text _
        ·
         exact Sl _ _ _
       ·
        by_cases hk : l[i].kind = 1
        ·
         simp only [hk, if_true]
        ·
         simp only [hk, if_false]
         simp only [plR, Lp_, List.getElem?_range hi, Option.map_some, Lg hi, Option.getD_some])
     rcases hPl with ⟨rfl, h2⟩ | ⟨vs, rfl, h2⟩
     ·
      rw [h2] at key
      exact key .Tt (.nil 1)
     ·
      rw [run_snap (args' := [lx, .sl 1 (Dz (plR l raw l.length)) none]) rfl (by simp [Aq, hlx.Tc, Jf, H6, Cu, h2]) (by simp [Aq, hlx.Tc, snapV_sl])]
      exact key _ (.of _ _ _)
    have hol := Gt (Cz (PLs l raw)) 24
    refine Da (Gm (Ie (Gq (Bo rfl (Ae ?_)))))
    refine Ab (by simp only [zl, zm, zd, Az, List.take, List.drop, hsb] <;> exact rfl) ?_
    refine Ad rfl (Ab (by simp only [zo]; exact hshow) ?_)
    refine Ah rfl (xo20 ?_)
    refine xo16 ?_
    refine Ah rfl (Ah rfl ?_)
    refine Aa (Af ?_)
    refine Ae (Ad rfl ?_)
    refine Ad rfl (Ab (by simp only [zo]; exact hgrid) ?_)
    refine Ah rfl (Aa ?_)
    refine Af ?_
    refine Ag (Ae ?_)
    refine Ad rfl (xo22 ?_)
    refine Ah rfl (Ec 0 (b := false) ?_)
    refine Am rfl (Ad rfl ?_)
    refine Am rfl (Ab (by simp only [zo, Nb, hol] <;> exact rfl) ?_)
    refine Am rfl (xo2 ?_)
    refine xo1 ?_
    refine Ah rfl (Ec 0 (b := false) ?_)
    refine Am rfl (Ad rfl ?_)
    refine Am rfl (Ab (by simp only [zo, capD_sl] <;> exact rfl) ?_)
    refine Am rfl (xo2 ?_)
    refine xo1 ?_
    refine Aa (Af ?_)
    skip
    refine Cv ?_
    refine Aj (Bo rfl (Ag (Ae ?_)))
    refine Bi (Aa ?_)
    refine Af ?_
    refine Aw ?_
    refine Dq (fun n env S' => ∃ (j : Nat) (w18 w23 w24 : D), j ≤ 24 ∧ n = 24 - j ∧ S' = ⟨H' ++ l2, 0⟩ ∧ env = [lx, rx, .bool false, .ptr H'.length 0 0 0, .bool true, xv, xp, .int .i64 (atN l l.length : Nat), .int .i64 (l.length : Nat), u9, u10, u11, .sl 1 (En (Cz (PLs l raw)) 24) (some 24), .int .i64 0, .sl 1 (En (Cz (PLs l raw)) 24) none, .int .i64 (j : Nat), .bool (decide (((raw.length : Nat) : Int) > 200)), .bool false, w18, u19, u20, u21, .bool false, w23, w24]) (24) (by omega) (⟨0, _, _, _, by omega, by omega, rfl, rfl⟩) ?_
    rintro n env S' ⟨j, w18, w23, w24, hj, hnj, rfl, rfl⟩
    refine Ag (Ae ?_)
    refine Ad rfl (xo2 ?_)
    refine Aa (Af ?_)
    refine Bv (by simp only [opd, zv] <;> exact rfl) (fun hcFFAFC => ?_) (fun hcFFAFC => ?_)
    ·
     have hj24 : j < 24 := by have := of_decide_eq_true hcFFAFC; omega
     have hwj := Dh j (by omega)
     have hoa := (Io (G := Cz (PLs l raw)) (i := 24) hj24).trans (by rw [if_pos hj24])
     have h0 : (0 : Int) ≤ (j : Int) := by omega
     have zz2 := And.intro hwj (And.intro hoa (And.intro h0 (And.intro @beq_self_eq_true.{0} (@Bool.not_true))))
     refine Aj (Bo rfl (Ag (Aw (Ag ?_))))
     refine Fb ?_
     refine Bq rfl rfl (Bq rfl rfl ?_)
     refine Ce (by simp only [zl, zm, Hm, Int.toNat_natCast, zz2] <;> exact rfl) rfl ?_
     refine xo6 rfl ?_
     refine Bq rfl rfl (Bq rfl rfl ?_)
     refine Ce (by simp only [zl, zm, Hm, Int.toNat_natCast, zz2] <;> exact rfl) rfl ?_
     refine xo6 rfl ?_
     refine Bp (by simp only [zo, Bl, zz2] <;> exact rfl) rfl rfl ?_
     refine Dc ?_
     refine Af ?_
     skip
     refine Cv ?_
     refine Aj (Em (Bo rfl (Ak ?_)))
     refine Ad rfl (xo14 ?_)
     refine Ah rfl (Aa ?_)
     refine Et (by simp only [ze] <;> exact rfl) ?_
     exact ⟨24 - (j + 1), by omega, j + 1, _, _, _, by omega, rfl, rfl, rfl⟩
    ·
     refine Da (Gm (Ie (Gq (Bo rfl (Ae ?_)))))
     refine Ab (by simp only [zo]; exact Qe (by omega) _) ?_
     refine Ah rfl (Aa ?_)
     refine Af ?_
     refine Bw ?_
     refine ⟨_, by simp only [F5, Ay, Cb, Dx, zg] <;> exact rfl, ?_⟩
     simp only [D8, leave, zs, zf, zk]

end Go.Proofs.YtkaedpmmopigkaaGreatDoor
namespace Go.Proofs.YtkaedpmmopigkaaGreatDoor
set_option linter.unusedSimpArgs false
open Go.ChangeShapes Go.WideShapes Go.ChangeAt Go.RowKit
set_option linter.unusedVariables false
set_option maxRecDepth 100000

theorem own : ownKnob Tryz.prog.godebug = none := by kernel_rfl
theorem laidOut : laidOutB Tryz.prog = true := by kernel_rfl
theorem ty4 : Tryz.prog.underlying 4 = some .bool := by kernel_rfl
theorem ty5 : Tryz.prog.underlying 5 = some (.int .u8) := by kernel_rfl
theorem ty22 : Tryz.prog.underlying 22 = some (.slice 50) := by kernel_rfl
theorem ty42 : Tryz.prog.underlying 42 = some (.slice 5) := by kernel_rfl
noncomputable def fs50 : Array Field := match Tryz.prog.underlying 50 with
  | some (.struct fs) => fs
  | _ => #[]
theorem ty50 : ∃ fs : Array Field, Tryz.prog.underlying 50 = some (.struct fs) ∧ fs.size = 6 ∧ fs.toList.map (·.type) = [5, 5, 5, 5, 4, 4] := ⟨fs50, by kernel_rfl, by kernel_rfl, by kernel_rfl⟩
def L8 : List (String × DataW Unit) := Rows.screensParseRow.laid
theorem door_met (os : Os) (args : Array Value) : laidMetH Tryz.prog L8 ((World.laidAll Tryz.prog os L8).forCall (fun _ _ => 0) ⟨#[], args, []⟩).memory := by
  rw [MakeChecks.laidMetH_plain _ _ _ (by kernel_rfl)]
  exact laidMet_laidAll _ (by kernel_rfl) (by kernel_rfl)
/-- the fields -/
theorem fieldsArg {ds : List D} (h : Sh Tryz.prog 3 22 ds) : ∃ (x : D) (l : List FM), ds = [x] ∧ SlD 6 (Hq l) x := by
  have e1 : Tryz.prog.cellsOf 50 = 6 := by kernel_rfl
  obtain ⟨fs, hu, hn, ht⟩ := ty50
  obtain ⟨x, rows, rfl, hS, _, hr⟩ := Sh.slice ty22 h
  rw [e1] at hS
  obtain ⟨l, rfl⟩ := rows_of (f := FM.row) (rows := rows) (fun r hr' => by
    obtain ⟨parts, rfl, hp, hf⟩ := Sh.struct hu (hr r hr')
    have tk : ∀ (j : Nat) (t : TypeId), [5, 5, 5, 5, 4, 4][j]? = some t → ∃ f : Field, fs[j]? = some f ∧ f.type = t := fun j t hj => by
      rw [← ht, Lp_] at hj
      rw [← Array.getElem?_toList]
      cases e : fs.toList[j]? with
      | none => rw [e] at hj; cases hj
      | some f => rw [e] at hj; exact ⟨f, rfl, Option.some.inj hj⟩
    obtain ⟨f0, g0, t0⟩ := tk 0 5 rfl
    obtain ⟨f1, g1, t1⟩ := tk 1 5 rfl
    obtain ⟨f2, g2, t2⟩ := tk 2 5 rfl
    obtain ⟨f3, g3, t3⟩ := tk 3 5 rfl
    obtain ⟨f4, g4, t4⟩ := tk 4 4 rfl
    obtain ⟨f5, g5, t5⟩ := tk 5 4 rfl
    obtain ⟨r0, h0, s0⟩ := hf 0 _ g0
    obtain ⟨r1, h1, s1⟩ := hf 1 _ g1
    obtain ⟨r2, h2, s2⟩ := hf 2 _ g2
    obtain ⟨r3, h3, s3⟩ := hf 3 _ g3
    obtain ⟨r4, h4, s4⟩ := hf 4 _ g4
    obtain ⟨r5, h5, s5⟩ := hf 5 _ g5
    rw [t0] at s0; rw [t1] at s1; rw [t2] at s2; rw [t3] at s3; rw [t4] at s4; rw [t5] at s5
    obtain ⟨n0, rfl, w0⟩ := Sh.int ty5 s0
    obtain ⟨n1, rfl, w1⟩ := Sh.int ty5 s1
    obtain ⟨n2, rfl, w2⟩ := Sh.int ty5 s2
    obtain ⟨n3, rfl, w3⟩ := Sh.int ty5 s3
    obtain ⟨b4, rfl⟩ := Sh.bool ty4 s4
    obtain ⟨b5, rfl⟩ := Sh.bool ty4 s5
    obtain ⟨m0, rfl, k0⟩ := u8_nat w0
    obtain ⟨m1, rfl, k1⟩ := u8_nat w1
    obtain ⟨m2, rfl, k2⟩ := u8_nat w2
    obtain ⟨m3, rfl, k3⟩ := u8_nat w3
    rw [hn] at hp
    match parts, hp, h0, h1, h2, h3, h4, h5 with
    | [p0, p1, p2, p3, p4, p5], _, h0, h1, h2, h3, h4, h5 =>
      simp at h0 h1 h2 h3 h4 h5
      subst h0 h1 h2 h3 h4 h5
      exact ⟨⟨m0, m1, m2, m3, b4, b5, k0, k1, k2, k3⟩, rfl⟩)
  exact ⟨x, l, rfl, hS⟩
theorem bR_of {rows : List (List D)} (hr : ∀ r ∈ rows, Sh Tryz.prog 2 5 r) : ∃ l : List UInt8, rows = bR l := by
  obtain ⟨l, rfl⟩ := rows_of (f := fun a : UInt8 => [D.int .u8 (a.toNat : Int)]) (rows := rows) (fun r h => by
    obtain ⟨n0, rfl, w0⟩ := Sh.int ty5 (hr r h)
    obtain ⟨m0, rfl, b0⟩ := u8_nat w0
    exact ⟨UInt8.ofNat m0, by simp [Nat.mod_eq_of_lt b0]⟩)
  exact ⟨l, rfl⟩
theorem bytesArg {ds : List D} (h : Sh Tryz.prog 3 42 ds) : ∃ (x : D) (l : List UInt8), ds = [x] ∧ SlD 1 (bR l) x := by
  have e1 : Tryz.prog.cellsOf 5 = 1 := by kernel_rfl
  obtain ⟨x, rows, rfl, hS, hm, hr⟩ := Sh.slice ty42 h
  rw [e1] at hS
  obtain ⟨l, rfl⟩ := bR_of hr
  exact ⟨x, l, rfl, hS⟩
theorem glob_ok {W : World} (h : laidMetH Tryz.prog L8 W) : GlobOK GT W := by
  rw [MakeChecks.laidMetH_plain _ _ _ (by kernel_rfl)] at h
  intro g row hg
  unfold GT at hg
  split at hg
  · cases hg
    exact Pf h (x := (L8[8]'(by decide))) (List.getElem_mem _) (n := 3) (t := ((Tryz.prog.globals[0]?).map (·.type)).getD 0) (by kernel_rfl) (by kernel_rfl) (by kernel_rfl) (by kernel_rfl)
  · cases hg
    exact Pf h (x := (L8[10]'(by decide))) (List.getElem_mem _) (n := 3) (t := ((Tryz.prog.globals[2]?).map (·.type)).getD 0) (by kernel_rfl) (by kernel_rfl) (by kernel_rfl) (by kernel_rfl)
  · cases hg
    exact Pf h (x := (L8[9]'(by decide))) (List.getElem_mem _) (n := 3) (t := ((Tryz.prog.globals[5]?).map (·.type)).getD 0) (by kernel_rfl) (by kernel_rfl) (by kernel_rfl) (by kernel_rfl)
  · cases hg
    exact Pf h (x := (L8[7]'(by decide))) (List.getElem_mem _) (n := 3) (t := ((Tryz.prog.globals[8]?).map (·.type)).getD 0) (by kernel_rfl) (by kernel_rfl) (by kernel_rfl) (by kernel_rfl)
  · cases hg
    exact Pf h (x := (L8[2]'(by decide))) (List.getElem_mem _) (n := 3) (t := ((Tryz.prog.globals[10]?).map (·.type)).getD 0) (by kernel_rfl) (by kernel_rfl) (by kernel_rfl) (by kernel_rfl)
  · cases hg

end Go.Proofs.YtkaedpmmopigkaaGreatDoor

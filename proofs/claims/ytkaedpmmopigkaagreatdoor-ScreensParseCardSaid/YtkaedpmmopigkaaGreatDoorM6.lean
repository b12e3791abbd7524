/- Proved here: parts of the proof, joined (K25, K26, K27, K28, K29, K30, K31, K32, K33, K34, K35, ScP): an abstract machine, its soundness, what functions of the program compute in it; no condition. -/
import Derived.Test.YtkaedpmmopigkaaGreatDoorTie
import Derived.WalkKit
import Derived.ProofKit
import Derived.OpenShut
import Derived.ShutString
import Derived.ChangeOld
import Derived.Below
import Derived.LaidMore
import Derived.Lay
import Derived.SevenTiedAt
import Derived.Stop.Joined
import Derived.Test.YtkaedpmmopigkaaGreatDoorM5
namespace Go.Proofs.YtkaedpmmopigkaaGreatDoor
set_option linter.unusedSimpArgs false
set_option linter.unusedVariables false
set_option maxRecDepth 100000
set_option maxHeartbeats 4000000

theorem clone8_0 {d : Nat} (hd : 1 ≤ d) {H : List Sk} {g v n : Nat} {L : List UInt8} {gr : Bool} {cap : Option Nat} (hg : H[g]? = some ⟨5, 1, bR L, v, 2, gr⟩) (hn : n ≤ L.length) (hL : L.length ≤ 1000) (h0 : n = 0) (lo : Nat) :
  Bb LP NN d 83 [.msl g v 0 n cap] ⟨H, lo⟩ = some (.sl 1 [] (some 0), ⟨H, lo⟩, false) := by
 have hgl := Bg hg
 have hge : ¬ H.length ≤ g := by omega
 subst h0
 have hem : ((bR L).take 0).isEmpty = true := rfl
 refine Dk (F := F83) rfl (by simp only [LP, Am, zs, zm, hg, hge, show ((2 : Nat) = 1) = False from by decide, and_false, or_self] <;> exact rfl) rfl (by simp only [LP, zf, zm, Bool.and_false]; try rfl) (by simp only [F83, zv] <;> exact rfl) (by omega) ?_
 rintro d rfl
 refine Ad (Bo ?_)
 refine Aa (Af ?_)
 refine Ag (Ad ?_)
 refine Ae rfl (Ab (by simp only [zo, Oc] <;> exact rfl) ?_)
 refine Aa (Af ?_)
 skip
 refine Ck ?_
 refine Ak (Br rfl (Ad ?_))
 refine Ab (by simp only [zl, Cw, List.replicate, Am] <;> exact rfl) ?_
 refine Ae rfl (Ab (by simp only [zl, zm, Cn, Bn, Ii, hg] <;> exact rfl) ?_)
 refine Ah rfl (Aa ?_)
 refine Af ?_
 refine Bz ?_
 refine ⟨_, by simp only [F83, Ar, Ca, Dt, zg] <;> exact rfl, ?_⟩
 simp [leave, LP, S9, Sw, snap, D.Sz, D.Sy, D.free, D.Td]

theorem clone8_1 {d : Nat} (hd : 1 ≤ d) {H : List Sk} {g v n : Nat} {L : List UInt8} {gr : Bool} {cap : Option Nat} (hg : H[g]? = some ⟨5, 1, bR L, v, 2, gr⟩) (hn : n ≤ L.length) (hL : L.length ≤ 1000) (h0 : 0 < n) (lo : Nat) :
  Bb LP NN d 83 [.msl g v 0 n cap] ⟨H, lo⟩ = some (.sl 1 (bR (L.take n)) none, ⟨H, lo⟩, false) := by
 have hgl := Bg hg
 have hge : ¬ H.length ≤ g := by omega
 have htk : (bR L).take n = bR (L.take n) := by simp [bR, List.map_take]
 have hem : (bR (L.take n)).isEmpty = false := by
  rw [List.isEmpty_eq_false_iff]; intro e
  have := congrArg List.length e
  rw [bR_len, List.length_take, List.length_nil] at this; omega
 have hbb : ((bR (L.take n)).length * 1 ≤ 140737488355328) = True := eq_true (by rw [bR_len, List.length_take]; omega)
 refine Dk (F := F83) rfl (by simp only [LP, Am, zs, zm, hg, hge, show ((2 : Nat) = 1) = False from by decide, and_false, or_self] <;> exact rfl) rfl (by simp only [LP, zf, zm, Bool.and_false]; try rfl) (by simp only [F83, zv] <;> exact rfl) (by omega) ?_
 rintro d rfl
 have zz2 := And.intro hg (And.intro hge (And.intro hem (And.intro hbb (And.intro htk (@Int.toNat_natCast)))))
 refine Ad (Bo ?_)
 refine Aa (Af ?_)
 refine Ag (Ad ?_)
 refine Ae rfl (Ab (by simp only [zo, Oc] <;> exact rfl) ?_)
 refine Aa (Af ?_)
 skip
 refine Ck ?_
 refine Ak (Br rfl (Ad ?_))
 refine Ab (by simp only [zl, zm, Cw, List.replicate, Am, show ((1 : Nat) = 0) = False from by decide] <;> exact rfl) ?_
 refine Ae rfl (Ab (by simp only [zl, zm, Cn, Bn, Ii, or_true, show ((1 : Nat) = 0) = False from by decide, zz2] <;> exact rfl) ?_)
 refine Ah rfl (Aa ?_)
 refine Af ?_
 refine Bz ?_
 refine ⟨_, by simp only [F83, Ar, Ca, Dt, zg] <;> exact rfl, ?_⟩
 simp [leave, LP, S9, Sw, snap, D.Sz, D.Sy, D.free, D.Td]

theorem clip8_run {d : Nat} (hd : 1 ≤ d) (S : St) {x : D} {rows : List (List D)} (hS : SlD 1 rows x) : Bb LP NN d 82 [x] S = some (clipD x, S, false) := by
 have hsl := hS.slice_clip
 refine run_pure (F := F82) rfl (by simp only [LP, Am, hS.Sw] <;> exact rfl) rfl (by simp only [LP, zm, hS.Sy]; try rfl) (by simp only [F82, zv] <;> exact rfl) (by omega) ?_
 rintro d rfl
 refine Ad (Bo ?_)
 refine Aa (Af ?_)
 refine Ad (Ae rfl ?_)
 refine Ae rfl (Ab (by simp only [zo, hS.len] <;> exact rfl) ?_)
 refine Ae rfl (Ab (by simp only [zo, hS.len] <;> exact rfl) ?_)
 refine Ab (by simp only [opd, zv, Aq, aop, LOp.loud, lop, if_true, Cc, Option.map_some, hsl] <;> exact rfl) ?_
 refine Ah rfl (Aa ?_)
 refine Af ?_
 refine Bz ?_
 refine ⟨_, by simp only [F82, Ar, Ca, Dt, zg] <;> exact rfl, ?_⟩
 simp only [Dz, leave, hS.clip.S9, hS.clip.Sz, List.length_nil, Nat.le_refl, if_true, Bool.false_eq_true, if_false]

def Qo (L : List UInt8) (n : Nat) : D := if n = 0 then .sl 1 [] (some 0) else .sl 1 (bR (L.take n)) none
theorem cloneY_S (L : List UInt8) (n : Nat) : SlD 1 (bR (L.take n)) (Qo L n) := by
 unfold Qo
 split
 ·
  subst_vars; exact .of _ _ _
 ·
  exact .of _ _ _
theorem R3 (L : List UInt8) {n : Nat} (h : n ≤ L.length) : clipD (Qo L n) = .sl 1 (bR (L.take n)) (some n) := by
 unfold Qo
 split
 ·
  subst_vars; rfl
 ·
  simp [clipD, bR_len, Nat.min_eq_left h]
theorem clone8_at {d : Nat} (hd : 1 ≤ d) {H : List Sk} {g v n : Nat} {L : List UInt8} {gr : Bool} {cap : Option Nat} (hg : H[g]? = some ⟨5, 1, bR L, v, 2, gr⟩) (hn : n ≤ L.length) (hL : L.length ≤ 1000) (lo : Nat) : Bb LP NN d 83 [.msl g v 0 n cap] ⟨H, lo⟩ = some (Qo L n, ⟨H, lo⟩, false) := by
 unfold Qo
 split
 ·
  exact clone8_0 hd hg hn hL (by assumption) lo
 ·
  exact clone8_1 hd hg hn hL (by omega) lo
def tn : List UInt8 → Nat
 | [] => 0
 | a :: l => if tn l = 0 then (if a = 32 then 0 else 1) else tn l + 1
theorem tn_snoc : ∀ (l : List UInt8) (c : UInt8), tn (l ++ [c]) = if c = 32 then tn l else l.length + 1
 | [], c => by simp [tn]
 | a :: l, c => by
  simp only [List.cons_append, tn, tn_snoc l c]
  by_cases h : c = 32
  ·
   simp [h]
  ·
   simp [h]
theorem tn_take : ∀ (l : List UInt8) (n : Nat), n ≤ l.length → (∀ i c, n ≤ i → l[i]? = some c → c = 32) → tn l = tn (l.take n) := by
 intro l n hn h
 induction hk : l.length - n generalizing n with
 | zero =>
  have : n = l.length := by omega
  rw [this, List.take_length]
 | succ k ih =>
  have h1 := ih (n + 1) (by omega) (fun i c hi hc => h i c (by omega) hc) (by omega)
  rw [h1]
  have hlt : n < l.length := by omega
  rw [List.take_succ_eq_append_getElem hlt, tn_snoc, if_pos (h n _ (Nat.le_refl _) (Lg hlt))]
theorem tn_at {l : List UInt8} {n : Nat} (hn : n ≤ l.length) (h : ∀ i c, n ≤ i → l[i]? = some c → c = 32) (h2 : n = 0 ∨ ∃ c, l[n - 1]? = some c ∧ c ≠ 32) : tn l = n := by
 rw [tn_take l n hn h]
 rcases h2 with rfl | ⟨c, hc, hne⟩
 ·
  simp [tn]
 ·
  have hlt := (List.getElem?_eq_some_iff.1 hc).1
  obtain ⟨m, rfl⟩ : ∃ m, n = m + 1 := ⟨n - 1, by
   rcases Nat.eq_zero_or_pos n with h0 | h0
   ·
    subst h0
    exact absurd (h 0 c (Nat.le_refl _) hc) hne
   ·
    omega⟩
  rw [List.take_succ_eq_append_getElem (by omega), tn_snoc, if_neg]
  ·
   simp; omega
  ·
   rw [Nat.add_sub_cancel, Lg (by omega)] at hc
   cases hc; exact hne
theorem u8_32 (b : UInt8) : (((b.toNat : Nat) : Int) == 32) = decide (b = 32) := by
 by_cases h : b = 32
 ·
  subst h; rfl
 ·
  rw [decide_eq_false h, beq_eq_false_iff_ne]
  intro e
  apply h
  have e1 : b.toNat = 32 := by omega
  exact UInt8.toNat_inj.1 e1

theorem trim_run {d : Nat} (hd : 3 ≤ d) {H : List Sk} {g v : Nat} {L : List UInt8} {gr : Bool} {cap : Option Nat} (hg : H[g]? = some ⟨5, 1, bR L, v, 2, gr⟩) (hL : L.length ≤ 1000) (lo : Nat) :
  Bb LP NN d 47 [.msl g v 0 L.length cap] ⟨H, lo⟩ = some (.sl 1 (bR (L.take (tn L))) (some (tn L)), ⟨H, lo⟩, false) := by
 have hgl := Bg hg
 have hge : ¬ H.length ≤ g := by omega
 have hbo := bR_len L
 refine Dk (F := F47) rfl (by simp only [LP, Am, zs, zm, hg, hge, show ((2 : Nat) = 1) = False from by decide, and_false, or_self] <;> exact rfl) rfl (by simp only [LP, zf, zm, Bool.and_false]; try rfl) (by simp only [F47, zv] <;> exact rfl) (by omega) ?_
 rintro d rfl
 refine Ad (Bo ?_)
 refine Aa (Af ?_)
 refine Ad (Ae rfl ?_)
 refine xo7 ?_
 refine Ah rfl (Aa ?_)
 refine Af ?_
 refine Ag (Az ?_)
 refine Eb (fun n env S' => ∃ (k : Nat) (u3 : D), k ≤ L.length ∧ n = k + 0 ∧ S' = ⟨H, H.length⟩ ∧ env = [.msl g v 0 L.length cap, .Tk, .int .i64 k, u3] ∧ (∀ i c, k ≤ i → L[i]? = some c → c = 32)) (L.length) (by omega) (⟨L.length, _, by omega, rfl, rfl, rfl, fun i c h1 h2 => absurd (List.getElem?_eq_some_iff.1 h2).1 (by omega)⟩) ?_
 rintro n env S' ⟨k, u3, hk, hnk, rfl, rfl, hall⟩
 refine Ag (Ad ?_)
 refine Ae rfl (xo2 ?_)
 refine Ah rfl ?_
 refine Ox 0 (by simp only [zv] <;> exact rfl) (by simp only [zn] <;> exact rfl) (by simp only [zn] <;> exact rfl) (fun hgA => ?_) (fun hgA => ?_)
 ·
  have hlt : 0 < k := by have := of_decide_eq_true hgA; omega
  have hw : IntKind.i64.wrap ((k : Int) - 1) = ((k - 1 : Nat) : Int) := by rw [IntKind.wrap_i64]; omega
  have hkl : k - 1 < L.length := by omega
  have hbk := Lg hkl
  have hbr := bR_at hbk
  have h0 : (0 : Int) ≤ ((k - 1 : Nat) : Int) := by omega
  have h1 : ((k - 1 : Nat) : Int) < ((L.length : Nat) : Int) := by omega
  have zz2 := And.intro hw (And.intro hbr (And.intro h0 (h1)))
  refine Aj rfl (Ae rfl ?_)
  refine Aj rfl (Ae rfl ?_)
  refine Aj rfl (Ps ?_)
  refine Aj rfl (Ab (by simp only [zl, zm, Bf, Int.toNat_natCast, hg, zz2] <;> exact rfl) ?_)
  refine Aj rfl (Ab (by simp only [zl, zm, zd, Aw, List.take, List.drop, hg, zz2] <;> exact rfl) ?_)
  refine Aj rfl (xo2 ?_)
  refine xo1 ?_
  refine Aa (Af ?_)
  refine Ct (by simp only [opd, zv] <;> exact rfl) (fun hcAT => ?_) (fun hcAT => ?_)
  ·
   refine Ak (Br rfl (Az (Be ?_)))
   refine Ae rfl (Ps ?_)
   refine Ah rfl ?_
   refine Aa (Fv ?_)
   refine G6 (by simp only [ze] <;> exact rfl) ?_
   refine ⟨k - 1, by omega, k - 1, _, by omega, rfl, rfl, rfl, fun i c h1 h2 => ?_⟩
   rcases Nat.eq_or_lt_of_le h1 with e | e
   ·
    rw [← e, hbk] at h2
    cases h2
    have h := hcAT; rw [u8_32] at h; exact of_decide_eq_true h
   ·
    exact hall i c (by omega) h2
  ·
   have htn : tn L = k := tn_at hk hall (.inr ⟨_, hbk, by intro e; rw [e] at hcAT; simp at hcAT⟩)
   have hcl := fun lo cap => clone8_at (d := d) (by omega) (cap := cap) hg hk hL lo
   have hcy := clip8_run (d := d) (by omega) ⟨H, H.length⟩ (cloneY_S L k)
   rw [R3 L hk] at hcy
   have hkk : (k ≤ L.length) = True := eq_true hk
   have hk0 : ((0 : Int) ≤ (k : Int)) = True := eq_true (by omega)
   refine Dn (H9 (Jb (Ib (Br rfl (Ad ?_)))))
   refine Ae rfl (Ae rfl ?_)
   refine Ab (by simp only [zl, zm, Cc, D7, Fq, Cx, E8, Ea, hg, hkk, hk0, Nat.sub_zero, Int.toNat_natCast, Nat.zero_le] <;> exact rfl) ?_
   refine Ab (by simp only [zo]; exact hcl _ _) ?_
   refine Ab (by simp only [zo]; exact hcy) ?_
   refine Ah rfl (Aa ?_)
   refine Af ?_
   refine Bz ?_
   refine ⟨_, by simp only [F47, Ar, Ca, Dt, zg] <;> exact rfl, ?_⟩
   simp [leave, LP, S9, Sw, snap, D.Sz, D.Sy, D.free, D.Td, htn]
 ·
  have htn : tn L = k := tn_at hk hall (.inl (by have := of_decide_eq_false hgA; omega))
  have hcl := fun lo cap => clone8_at (d := d) (by omega) (cap := cap) hg hk hL lo
  have hcy := clip8_run (d := d) (by omega) ⟨H, H.length⟩ (cloneY_S L k)
  rw [R3 L hk] at hcy
  have hkk : (k ≤ L.length) = True := eq_true hk
  have hk0 : ((0 : Int) ≤ (k : Int)) = True := eq_true (by omega)
  refine Dc rfl rfl ?_
  refine Dc rfl rfl ?_
  refine Dc rfl rfl ?_
  refine Dc rfl rfl ?_
  refine Dc rfl rfl ?_
  refine Dc rfl rfl ?_
  refine xo1 ?_
  refine Aa (Af ?_)
  refine J2 (by simp only [opd, zv]) ?_
  refine Dn (H9 (Jb (Ib (Br rfl (Ad ?_)))))
  refine Ae rfl (Ae rfl ?_)
  refine Ab (by simp only [zl, zm, Cc, D7, Fq, Cx, E8, Ea, hg, hkk, hk0, Nat.sub_zero, Int.toNat_natCast, Nat.zero_le] <;> exact rfl) ?_
  refine Ab (by simp only [zo]; exact hcl _ _) ?_
  refine Ab (by simp only [zo]; exact hcy) ?_
  refine Ah rfl (Aa ?_)
  refine Af ?_
  refine Bz ?_
  refine ⟨_, by simp only [F47, Ar, Ca, Dt, zg] <;> exact rfl, ?_⟩
  simp [leave, LP, S9, Sw, snap, D.Sz, D.Sy, D.free, D.Td, htn]

theorem prn_tab (d : Nat) (S : St) : (List.range 256).map (fun k => Cz LP NN (d + 5) 46 [.str ⟨#[UInt8.ofNat k]⟩] S) = (List.range 256).map (fun k => some (.bool (decide (32 ≤ k) && decide (k ≤ 126)), S, false)) := by kernel_rfl
theorem prn_run {d : Nat} (hd : 5 ≤ d) (S : St) (b : UInt8) : Bb LP NN d 46 [.str ⟨#[b]⟩] S = some (.bool (decide (32 ≤ b.toNat) && decide (b.toNat ≤ 126)), S, false) := by
 obtain ⟨d, rfl⟩ : ∃ d', d = d' + 5 := ⟨d - 5, by omega⟩
 have := fast_ok (Ja (prn_tab d S) b.toNat b.toNat_lt)
 rwa [UInt8.ofNat_toNat] at this

def prn (b : UInt8) : UInt8 := if decide (32 ≤ b.toNat) && decide (b.toNat ≤ 126) then b else 46
abbrev Ij := Nat → Nat → UInt8
def En (G : Ij) (r : Nat) : List UInt8 := (List.range 80).map (G r)
theorem M7 (G : Ij) (r : Nat) : (En G r).length = 80 := by simp [En]
def Ep (G : Ij) (f : FM) (bs : List UInt8) (k : Nat) : Ij := fun r c => if r + 1 = f.line ∧ f.column ≤ c + 1 ∧ c + 1 < f.column + k then prn (bs.getD (c + 1 - f.column) 0) else G r c
def G0 : Ij := fun _ _ => 32
def Ec (P : List (FM × List UInt8)) : Ij := P.foldl (fun G p => Ep G p.1 p.2 p.1.size) G0
theorem paintK_0 (G : Ij) (f : FM) (bs : List UInt8) : Ep G f bs 0 = G := by
 funext r c
 unfold Ep
 rw [if_neg]
 intro h; omega
theorem Rn {P : List (FM × List UInt8)} {i : Nat} (h : i < P.length) : Ec (P.take (i + 1)) = Ep (Ec (P.take i)) P[i].1 P[i].2 P[i].1.size := by
 unfold Ec
 rw [List.take_succ_eq_append_getElem h, List.foldl_append]
 rfl
theorem Q6 (G : Ij) (f : FM) (bs : List UInt8) {k : Nat} (hk : k < f.size) : ∀ r, En (Ep G f bs (k + 1)) r = if r = f.line - 1 then (En (Ep G f bs k) r).set (f.column - 1 + k) (prn (bs.getD k 0)) else En (Ep G f bs k) r := by
 intro r
 have hl := f.line_le
 have hc := f.column_le
 split
 ·
  rename_i hr
  refine List.ext_getElem? fun c => ?_
  rw [List.getElem?_set]
  simp only [En, List.length_map, List.length_range, Lp_]
  by_cases hc80 : c < 80
  ·
   rw [List.getElem?_range hc80]
   simp only [Option.map_some]
   by_cases he : f.column - 1 + k = c
   ·
    rw [if_pos he, if_pos (by omega)]
    unfold Ep
    rw [if_pos (by omega), show c + 1 - f.column = k from by omega]
   ·
    rw [if_neg he]
    unfold Ep
    congr 1
    by_cases hx : r + 1 = f.line ∧ f.column ≤ c + 1 ∧ c + 1 < f.column + k
    ·
     rw [if_pos hx, if_pos (by omega)]
    ·
     rw [if_neg hx, if_neg (by omega)]
  ·
   have hn : (List.range 80)[c]? = none := by simp; omega
   rw [hn]
   have : ¬ f.column - 1 + k = c := by omega
   rw [if_neg this]; rfl
 ·
  rename_i hr
  unfold En
  refine List.map_congr_left fun c hc => ?_
  unfold Ep
  rw [if_neg (by omega), if_neg (by omega)]
def lnO (L : List UInt8) : Sk := ⟨5, 1, bR L, 0, 2, true⟩
def b32O : Sk := ⟨5, 1, [[.int .u8 32]], 0, 2, false⟩
def LNi (G : Ij) (i : Nat) : List Sk := (List.range i).flatMap fun r => [b32O, lnO (En G r)]
theorem I8 (G : Ij) (i : Nat) : (LNi G i).length = 2 * i := by
 induction i with
 | zero => rfl
 | succ i ih => unfold LNi at ih ⊢; rw [List.range_succ, List.flatMap_append, Ll_, ih]; simp; omega
theorem Pq (G : Ij) (i : Nat) : LNi G (i + 1) = LNi G i ++ [b32O, lnO (En G i)] := by
 unfold LNi
 rw [List.range_succ, List.flatMap_append]; simp
theorem LNi_at (G : Ij) : ∀ {i r : Nat}, r < i → (LNi G i)[2 * r + 1]? = some (lnO (En G r))
 | i + 1, r, h => by
  rw [Pq]
  by_cases hr : r < i
  ·
   rw [La_ (by rw [I8]; omega)]; exact LNi_at G hr
  ·
   have : r = i := by omega
   subst this
   rw [Lr_ (by rw [I8]; omega), I8]
   simp [show 2 * r + 1 - 2 * r = 1 from by omega]
theorem LNi_set (G G' : Ij) : ∀ {i r : Nat} {L : List UInt8}, r < i → (∀ j, En G' j = if j = r then L else En G j) → (LNi G i).set (2 * r + 1) (lnO L) = LNi G' i
 | i + 1, r, L, h, hG => by
  rw [Pq, Pq]
  by_cases hr : r < i
  ·
   rw [List.set_append_left _ _ (by rw [I8]; omega), LNi_set G G' hr hG, hG i, if_neg (by omega)]
  ·
   have : r = i := by omega
   subst this
   rw [List.set_append_right _ _ (by rw [I8]; omega), I8, show 2 * r + 1 - 2 * r = 1 from by omega, hG r, if_pos rfl]
   have hsame : LNi G r = LNi G' r := by
    unfold LNi
    rw [List.flatMap_def, List.flatMap_def]
    congr 1
    refine List.map_congr_left fun j hj => ?_
    have := List.mem_range.1 hj
    rw [hG j, if_neg (by omega)]
   rw [hsame]; rfl

def N7 (n0 i : Nat) : List (List D) := (List.range 24).map fun r => if r < i then [.msl (n0 + (3 + 2 * r)) 0 0 80 (some 80)] else [.Tk]
def GLi (n0 i : Nat) : Sk := ⟨42, 1, N7 n0 i, 0, 0, false⟩
theorem He {n0 i r : Nat} (h : r < 24) : (N7 n0 i)[r]? = some (if r < i then [.msl (n0 + (3 + 2 * r)) 0 0 80 (some 80)] else [.Tk]) := by simp [N7, h]
theorem Kn (n0 i : Nat) : (N7 n0 i).length = 24 := by simp [N7]
theorem glRows_set {n0 i : Nat} (h : i < 24) : (N7 n0 i).set i [.msl (n0 + (3 + 2 * i)) 0 0 80 (some 80)] = N7 n0 (i + 1) := by
 refine List.ext_getElem? fun j => ?_
 rw [List.getElem?_set]
 by_cases hj : i = j
 ·
  subst hj
  rw [if_pos rfl, if_pos (by rw [Kn]; exact h), He h, if_pos (by omega)]
 ·
  rw [if_neg hj]
  by_cases h24 : j < 24
  ·
   rw [He h24, He h24]
   by_cases hi : j < i
   ·
    rw [if_pos hi, if_pos (by omega)]
   ·
    rw [if_neg hi, if_neg (by omega)]
  ·
   rw [List.getElem?_eq_none (by rw [Kn]; omega), List.getElem?_eq_none (by rw [Kn]; omega)]
def HB (sb : Sk) (n0 : Nat) (G : Ij) : List Sk := sb :: GLi n0 24 :: LNi G 24
theorem Mo (sb : Sk) (n0 : Nat) (G : Ij) : (HB sb n0 G).length = 50 := by simp [HB, I8]
section
variable (H : List Sk) (sb : Sk) (G : Ij) (t : List Sk)
theorem HB_sb : (H ++ (HB sb H.length G ++ t))[H.length]? = some sb := by rw [Dr]; rfl
theorem HB_gl : (H ++ (HB sb H.length G ++ t))[H.length + 1]? = some (GLi H.length 24) := by rw [De]; rfl
theorem HB_ln {r : Nat} (h : r < 24) : (H ++ (HB sb H.length G ++ t))[H.length + (3 + 2 * r)]? = some (lnO (En G r)) := by
 rw [De, La_ (by rw [Mo]; omega), show 3 + 2 * r = (2 * r + 1) + 1 + 1 from by omega]
 exact LNi_at G h
theorem HB_set {G' : Ij} {r : Nat} {L : List UInt8} (h : r < 24) (hG : ∀ j, En G' j = if j = r then L else En G j) : (H ++ (HB sb H.length G ++ t)).set (H.length + (3 + 2 * r)) (lnO L) = H ++ (HB sb H.length G' ++ t) := by
 rw [Em, List.set_append_left _ _ (by rw [Mo]; omega), show 3 + 2 * r = (2 * r + 1) + 1 + 1 from by omega]
 unfold HB
 rw [List.set_cons_succ, List.set_cons_succ, LNi_set G G' h hG]
theorem HB_new (o : Sk) (m : List Sk) : (H ++ (HB sb H.length G ++ (t ++ o :: m)))[H.length + (50 + t.length)]? = some o := by
 rw [De, ← Lo_, Lr_ (by simp [Mo]), Ll_, Mo]; simp
theorem HB_newS (o y : Sk) (m : List Sk) : (H ++ (HB sb H.length G ++ (t ++ o :: m))).set (H.length + (50 + t.length)) y = H ++ (HB sb H.length G ++ (t ++ y :: m)) := by
 rw [Em, ← Lo_, List.set_append_right _ _ (by simp [Mo]), Ll_, Mo]; simp
end
theorem bR_set (L : List UInt8) (c : Nat) (b : UInt8) : (bR L).set c [.int .u8 b.toNat] = bR (L.set c b) := by simp [bR, List.map_set]
theorem spR_blank (r : Nat) : spR 80 = bR (En G0 r) := by
 have : En G0 r = List.replicate 80 32 := by
  show (List.range 80).map (fun _ => (32 : UInt8)) = _
  rw [List.map_const', List.length_range]
 rw [this]
 simp [spR, bR]
structure SrcV (H : List Sk) (x : D) (vals : List D) (gv vv : Nat) : Prop where
 len : Jc false x = some (.int .i64 (vals.length : Nat))
 cell : x.Tc = true
 Sw : ∀ m l, Sw m (H ++ l) x = some x
 ia : ∀ l lo i, i < vals.length → Fu ⟨H ++ l, lo⟩ 1 x (.int .i64 (i : Nat)) = some (.ptr gv vv i 0)
 ld : ∀ l lo i v, vals[i]? = some v → Gy 1 false ⟨H ++ l, lo⟩ (.ptr gv vv i 0) = some v
structure RdB (H : List Sk) (w : D) (bs : List UInt8) : Prop where
 len : Jc false w = some (.int .i64 (bs.length : Nat))
 cell : w.Tc = true
 rd : ∀ (k : Nat) (b : UInt8), bs[k]? = some b → ∃ A, ∀ l lo, Fu ⟨H ++ l, lo⟩ 1 w (.int .i64 (k : Nat)) = some A ∧ Gy 1 false ⟨H ++ l, lo⟩ A = some (.int .u8 (b.toNat : Nat))
theorem SlD.rdb {w : D} {bs : List UInt8} (h : SlD 1 (bR bs) w) (H : List Sk) : RdB H w bs := by
 refine ⟨by rw [h.len, bR_len], h.Tc, fun k b hb => ⟨.Tn [.int .u8 (b.toNat : Nat)] 0, fun l lo => ⟨h.iaddrN _ .i64 (bR_at hb), rfl⟩⟩⟩
def Fits (H : List Sk) (f : FM) (bs : List UInt8) (v : D) : Prop := bs.length = f.size ∧ if f.kind = 1 then bs = f.text.data.toList else RdB H v bs
def trS (G : Ij) (r : Nat) : ByteArray := ⟨((En G r).take (tn (En G r))).toArray⟩
def Gw (G : Ij) (i : Nat) : List (List D) := (List.range 24).map fun r => if r < i then [.str (trS G r)] else [.str ⟨#[]⟩]
theorem Ke {G : Ij} {i r : Nat} (h : r < 24) : (Gw G i)[r]? = some (if r < i then [.str (trS G r)] else [.str ⟨#[]⟩]) := by simp [Gw, h]
theorem Hu (G : Ij) (i : Nat) : (Gw G i).length = 24 := by simp [Gw]
theorem outRows_set {G : Ij} {i : Nat} (h : i < 24) : (Gw G i).set i [.str (trS G i)] = Gw G (i + 1) := by
 refine List.ext_getElem? fun j => ?_
 rw [List.getElem?_set]
 by_cases hj : i = j
 ·
  subst hj
  rw [if_pos rfl, if_pos (by rw [Hu]; exact h), Ke h, if_pos (by omega)]
 ·
  rw [if_neg hj]
  by_cases h24 : j < 24
  ·
   rw [Ke h24, Ke h24]
   by_cases hi : j < i
   ·
    rw [if_pos hi, if_pos (by omega)]
   ·
    rw [if_neg hi, if_neg (by omega)]
  ·
   rw [List.getElem?_eq_none (by rw [Hu]; omega), List.getElem?_eq_none (by rw [Hu]; omega)]

theorem SrcF.mono {H : List Sk} {x : D} {rows : List (List D)} {gs v : Nat} (h : SrcF H x rows gs v) (l : List Sk) : SrcF (H ++ l) x rows gs v :=
 ⟨h.len, h.cell, fun m l' => by rw [Lo_]; exact h.snap m _, h.fpi, fun l' lo i hi => by rw [Lo_]; exact h.ia _ lo i hi, fun l' lo i r hr h16 => by rw [Lo_]; exact h.ld _ lo i r hr h16⟩
abbrev sbO (nm : ByteArray) (x : D) (p0 c0 : Nat) : Sk := ⟨36, 4, [[.str nm, x, .int .i64 (p0 : Nat), .int .i64 (c0 : Nat)]], 0, 0, false⟩

theorem show_run {d : Nat} (hd : 24 ≤ d) {H : List Sk} {x xv : D} {rows : List (List D)} {vals : List D} {gs v gv vv : Nat} {P : List (FM × List UInt8)} (hS : SrcF H x rows gs v) (hR : RW (P.map (·.1)) rows) (hv : SrcV H xv vals gv vv) (hlen : P.length ≤ 256) (hvl : vals.length = P.length) (hfit : ∀ (i : Nat) (p : FM × List UInt8) (w : D), P[i]? = some p → vals[i]? = some w → Fits H p.1 p.2 w) (nm : ByteArray) (p0 c0 : Nat) (lo : Nat) :
  Bb LP NN d 20 [.agg [.str nm, x, .int .i64 (p0 : Nat), .int .i64 (c0 : Nat)], xv] ⟨H, lo⟩ = some (.tup [.sl 1 (Gw (Ec P) 24) (some 24), .int .i64 0], ⟨H, lo⟩, false) := by
 have hvz : ∀ m, Go.Proofs.YtkaedpmmopigkaaGreatDoor.Sw m H xv = some xv := fun m => by have := hv.Sw m []; rwa [List.append_nil] at this
 have hrl := hR.len
 rw [List.length_map] at hrl
 have hE : (((vals.length : Nat) : Int) != ((rows.length : Nat) : Int)) = false := by rw [hvl, hrl, bne_self_eq_false]
 have hchk : ∀ d', d = d' + 1 → ∀ l lo, Bb LP NN d' 13 [.agg [.str nm, x, .int .i64 (p0 : Nat), .int .i64 (c0 : Nat)]] ⟨H ++ l, lo⟩ = some (.int .i64 0, ⟨H ++ l, lo⟩, false) := fun d' e l lo => Il (l0 := P.map (·.1)) (by omega) (hS.mono l) hR (by rw [List.length_map]; omega) nm p0 c0 lo
 refine Dk (F := F20) rfl (by simp only [LP, Am, Cf, zs, zm, hS.zero, hvz] <;> exact rfl) rfl (by simp only [LP, zf, zm]; try rfl) (by simp only [F20, zv] <;> exact rfl) (by omega) ?_
 rintro d rfl
 refine Ad (Ab (by simp only [zl, zm, zc, hS.cell] <;> exact rfl) ?_)
 refine Bo (Bo ?_)
 refine Aa (Af ?_)
 refine Ag (Ad ?_)
 refine xo6 ?_
 refine Ab (by simp only [zo]; exact hchk d rfl _ _) ?_
 refine Ah rfl (Aa ?_)
 refine Af ?_
 refine Ad (Ae rfl ?_)
 refine xo2 ?_
 refine Aa (Af ?_)
 skip
 refine Ck ?_
 refine Ak (Br rfl (Ag (Ad ?_)))
 refine Ae rfl (Ab (by simp only [zo, hv.len] <;> exact rfl) ?_)
 refine xo0 ?_
 refine xo6 ?_
 refine Ab (by simp only [zo, hS.len] <;> exact rfl) ?_
 refine Ab (by simp only [zo, Bq, hE] <;> exact rfl) ?_
 refine Aa (Af ?_)
 skip
 refine Ck ?_
 refine Ak (Br rfl (Ad ?_))
 refine Ab (by simp only [zl, zm, Int.reduceToNat] <;> exact rfl) ?_
 refine Ah rfl (Aa ?_)
 refine Af ?_
 refine Ag (Ad ?_)
 refine Ae rfl (xo7 ?_)
 refine Bo (Aa ?_)
 refine Af ?_
 refine Az ?_
 refine Eb (fun n env S' => ∃ (i : Nat) (u7 u20 : D), i ≤ 24 ∧ n = 24 - i ∧ S' = ⟨H ++ (sbO nm x p0 c0 :: GLi H.length i :: LNi G0 i), H.length⟩ ∧ env = [.agg [.str nm, x, .int .i64 (p0 : Nat), .int .i64 (c0 : Nat)], xv, .ptr H.length 0 0 0, .Tk, .int .i64 0, .int .i64 0, .msl (H.length + 1) 0 0 24 none, u7, .undef, .undef, .undef, .undef, .undef, .undef, .undef, .undef, .bool false, .bool false, .int .i64 24, .int .i64 (i : Nat), u20, .undef, .undef, .undef, .undef, .undef, .undef, .undef, .undef, .undef, .undef, .undef, .undef, .undef, .undef, .undef]) (24) (by omega) (⟨0, _, _, by omega, by omega, rfl, rfl⟩) ?_
 rintro n env S' ⟨i, u7, u20, hi, hnk, rfl, rfl⟩
 refine Ad (xo2 ?_)
 refine Aa (Af ?_)
 refine Ag ?_
 refine Ct (by simp only [opd, zv] <;> exact rfl) (fun hcA => ?_) (fun hcA => ?_)
 ·
  have hlt : i < 24 := by have := of_decide_eq_true hcA; omega
  have hw := Dx i (by omega)
  have hga := (He (n0 := H.length) (i := i) hlt).trans (by rw [if_neg (by omega)])
  have hgs := glRows_set (n0 := H.length) hlt
  have hgl := Kn H.length i
  have h0 : (0 : Int) ≤ (i : Int) := by omega
  have h24 : (i : Int) < ((24 : Nat) : Int) := by omega
  have hll := I8 G0 i
  have hb32 : (H ++ (sbO nm x p0 c0 :: GLi H.length i :: (LNi G0 i ++ [⟨5, 1, [[.int .u8 32]], 0, 2, false⟩])))[H.length + (2 * i + 1 + 1)]? = some ⟨5, 1, [[.int .u8 32]], 0, 2, false⟩ := by
   rw [De, Ls_, Ls_, Lr_ (by rw [hll]; omega), hll]; simp
  have hrep := fun lo => repeat_run (d := d) (by omega) hb32 lo
  have hlen : (H ++ (sbO nm x p0 c0 :: GLi H.length i :: (LNi G0 i ++ [⟨5, 1, [[.int .u8 32]], 0, 2, false⟩]))).length = H.length + (3 + 2 * i) := by
   simp [hll]; omega
  have hmin : min H.length (H.length + (3 + 2 * i)) = H.length := by omega
  have hLN : LNi G0 (i + 1) = LNi G0 i ++ [⟨5, 1, [[.int .u8 32]], 0, 2, false⟩, ⟨5, 1, spR 80, 0, 2, true⟩] := by rw [Pq, spR_blank i]; rfl
  rw [hlen] at hrep
  refine Ak (Br rfl (Ag (Az (Ad ?_))))
  refine Ae rfl (Ah rfl ?_)
  refine Aa (Af ?_)
  refine Be (Ae rfl ?_)
  refine Ae rfl (Ab (by simp only [zl, zm, Cw, List.replicate, Am, zs, zc, zf, hll, GLi] <;> exact rfl) ?_)
  refine Ab (by simp only [zo]; exact (hrep _)) ?_
  refine Ab (by simp only [zl, zm, Bf, Int.toNat_natCast, h0, h24, GLi, hmin] <;> exact rfl) ?_
  refine Ab (by simp only [zl, zm, Bw, overlay, zs, zc, zf, List.take, List.drop, hga, hgs, hll] <;> exact rfl) ?_
  refine Aa (Fv ?_)
  refine Af ?_
  refine Be (Ab (by simp only [zo, Bq, hw] <;> exact rfl) ?_)
  refine Ah rfl (Aa ?_)
  refine G6 (by simp only [ze] <;> exact rfl) ?_
  exact ⟨24 - (i + 1), by omega, i + 1, _, _, by omega, rfl, by rw [hLN]; rfl, rfl⟩
 ·
  have hi' : i = 24 := by have := of_decide_eq_false hcA; omega
  subst hi'
  refine Dn (H9 (Jb (Ib (Br rfl (Ag (Ad ?_))))))
  refine xo0 ?_
  refine xo6 ?_
  refine Ab (by simp only [zo, hS.len] <;> exact rfl) ?_
  refine Bo (Aa ?_)
  refine Af ?_
  refine Az ?_
  refine Eb (fun n env S' => ∃ (i : Nat) (t : List Sk) (u7 u8 u9 u10 u11 u12 u19 u20 u24 u25 u26 u27 u28 u29 u30 u31 : D), i ≤ P.length ∧ n = P.length - i ∧ S' = ⟨H ++ (HB (sbO nm x p0 c0) H.length (Ec (P.take i)) ++ t), H.length⟩ ∧ env = [.agg [.str nm, x, .int .i64 (p0 : Nat), .int .i64 (c0 : Nat)], xv, .ptr H.length 0 0 0, .Tk, .int .i64 0, .int .i64 0, .msl (H.length + 1) 0 0 24 none, u7, u8, u9, u10, u11, u12, .undef, .undef, .undef, .bool false, .bool false, .int .i64 24, u19, u20, x, .int .i64 rows.length, .int .i64 (i : Nat), u24, u25, u26, u27, u28, u29, u30, u31, .undef, .undef, .undef, .undef]) (P.length) (by omega) (⟨0, [], _, _, _, _, _, _, _, _, _, _, _, _, _, _, _, _, by omega, by omega, by rw [List.append_nil, List.take_zero]; rfl, rfl⟩) ?_
  rintro n env S' ⟨i, t, u7, u8, u9, u10, u11, u12, u19, u20, u24, u25, u26, u27, u28, u29, u30, u31, hi, hnk, rfl, rfl⟩
  refine Ad (xo2 ?_)
  refine Aa (Af ?_)
  refine Ag ?_
  refine Ct (by simp only [opd, zv] <;> exact rfl) (fun hcAFB => ?_) (fun hcAFB => ?_)
  ·
   have hlt : i < P.length := by have := of_decide_eq_true hcAFB; omega
   have hw := Dx i (by omega)
   obtain ⟨f, bs, hPe⟩ : ∃ f bs, P[i] = (f, bs) := ⟨_, _, rfl⟩
   have hPi : P[i]? = some (f, bs) := by rw [Lg hlt, hPe]
   obtain ⟨w, hwi⟩ : ∃ w, vals[i]? = some w := ⟨_, Lg (by omega)⟩
   obtain ⟨hbl, hbf⟩ := hfit i _ w hPi hwi
   simp only at hbl hbf
   have hltr : i < rows.length := by omega
   have hia := fun l lo => hS.ia l lo i hltr
   have hiv := fun l lo => hv.ia l lo i (by omega)
   have hlv := fun l lo => hv.ld l lo i w hwi
   obtain ⟨p, hrow⟩ := hR.at_ (i := i) (by rw [List.length_map]; exact hlt)
   have hfe : (P.map (·.1))[i]'(by rw [List.length_map]; exact hlt) = f := by rw [List.getElem_map, hPe]
   rw [hfe] at hrow
   have hld := fun (l : List Sk) lo => hS.ld l lo i _ hrow (by rw [Jk]; exact Nat.le_refl _)
   rw [Jj] at hld
   obtain ⟨tx, op, nu, r1, r2, hrf, htx, hop, hk1, hk2⟩ := M0 f p
   rw [hrf] at hld
   obtain ⟨G, hG⟩ : ∃ G, G = Ec (P.take i) := ⟨_, rfl⟩
   rw [← hG]
   have hsz := f.size_le
   have hkd := f.kind_le
   have hnw := fun G o m => HB_new H (sbO nm x p0 c0) G t o m
   have hns := fun G o y m => HB_newS H (sbO nm x p0 c0) G t o y m
   have hBl := fun G => Mo (sbO nm x p0 c0) H.length G
   have hsbo := fun G t => HB_sb H (sbO nm x p0 c0) G t
   by_cases hk1' : f.kind = 1
   ·
    obtain ⟨rfl, rfl, rfl, rfl⟩ := hk1 hk1'
    rw [if_pos hk1'] at hbf
    have e1 : (((f.kind : Nat) : Int) == 1) = true := by rw [beq_iff_eq]; omega
    have hb : RdB H (.sl 1 (Bh f.text) none) bs := by rw [hbf]; exact SlD.rdb (.of _ _ _) H
    have hbl2 : (Bh f.text).length = f.size := by rw [Kz, Pv]
    refine Ak (Br rfl (Ag (Az (Ad ?_))))
    refine Ae rfl (Ab (by simp only [zl, zm, hia] <;> exact rfl) ?_)
    refine Ab (by simp only [zl, zm, hld] <;> exact rfl) ?_
    refine Ab (by simp only [zl, zm, hBl] <;> exact rfl) ?_
    refine Ah rfl (Ab (by simp only [zl, zm, Bw, overlay, Cf, zs, zc, zf, List.take, List.drop, hnw, hns, hBl, htx.Tc, hop.Tc] <;> exact rfl) ?_)
    refine Aa (Af ?_)
    refine Ad (Ae rfl ?_)
    refine Ae rfl (Ab (by simp only [zl, zm, hiv] <;> exact rfl) ?_)
    refine Ab (by simp only [zl, zm, hlv] <;> exact rfl) ?_
    refine Ah rfl (Aa ?_)
    refine Af ?_
    refine Ag (Ad ?_)
    refine xo0 ?_
    refine Ab (by simp only [zl, zm, zd, Aw, List.take, List.drop, hnw] <;> exact rfl) ?_
    refine Ab (by simp only [zo, Bq, e1] <;> exact rfl) ?_
    refine Aa (Af ?_)
    skip
    refine Gt ?_
    refine Be (xo0 ?_)
    refine Ab (by simp only [zl, zm, zd, Aw, List.take, List.drop, hnw] <;> exact rfl) ?_
    refine Ah rfl (Aa ?_)
    refine Af ?_
    refine Ag (Ad ?_)
    refine Ae rfl (Ab (by simp only [zo, M9, hbl2] <;> exact rfl) ?_)
    refine xo0 ?_
    refine xo0 ?_
    refine Ab (by simp only [zl, zm, zd, Aw, List.take, List.drop, hnw] <;> exact rfl) ?_
    refine Ab (by simp only [zo, Bq, bne_self_eq_false] <;> exact rfl) ?_
    refine Aa (Af ?_)
    skip
    refine Ck ?_
    refine Ak (Br rfl (Ad ?_))
    refine Ae rfl (Ab (by simp only [zo, M9, hbl2] <;> exact rfl) ?_)
    refine Bo (Aa ?_)
    refine Af ?_
    refine Az ?_
    refine Eb (fun n env S' => ∃ (k : Nat) (t2 : List Sk) (v11 v12 v30 v31 : D), k ≤ f.size ∧ n = f.size - k ∧ S' = ⟨H ++ (HB (sbO nm x p0 c0) H.length (Ep G f bs k) ++ (t ++ FO [.int .i64 (f.line : Nat), .int .i64 (f.column : Nat), .int .u8 (f.kind : Nat), .sl 1 (Bh f.text) none, .int .u8 (if false then (if f.size = 1 then 4 else 5) else 2), .int .u8 0, .str (Ha false f.size), .int .i64 (if false then (f.size : Nat) else 0), .int .i64 0, .bool false, .bool false, .bool false, .bool false, .bool false, .int .i64 (f.size : Nat), .Tk] :: t2)), H.length⟩ ∧ env = [.agg [.str nm, x, .int .i64 (p0 : Nat), .int .i64 (c0 : Nat)], xv, .ptr H.length 0 0 0, .Tk, .int .i64 0, .int .i64 0, .msl (H.length + 1) 0 0 24 none, u7, .int .i64 (i : Nat), .ptr (H.length + (50 + t.length)) 0 0 0, (.sl 1 (Bh f.text) none), v11, v12, .undef, .undef, .undef, .bool false, .bool false, .int .i64 24, u19, u20, x, .int .i64 rows.length, .int .i64 (i : Nat), .bool (decide (((i : Nat) : Int) < ((rows.length : Nat) : Int))), .bool true, .bool false, (.sl 1 (Bh f.text) none), .int .i64 (f.size : Nat), .int .i64 (k : Nat), v30, v31, .undef, .undef, .undef, .undef]) (f.size) (by omega) (⟨0, [], _, _, _, _, by omega, by omega, by rw [paintK_0]; rfl, rfl⟩) ?_
    rintro n env S' ⟨k, t2, v11, v12, v30, v31, hk, hnk2, rfl, rfl⟩
    refine Ad (Ab (by simp only [zo, Bq, FO] <;> exact rfl) ?_)
    refine Aa (Af ?_)
    refine Ag ?_
    refine Ct (by simp only [opd, zv] <;> exact rfl) (fun hcAFBT1C => ?_) (fun hcAFBT1C => ?_)
    ·
     have hkl : k < f.size := by have := of_decide_eq_true hcAFBT1C; omega
     have hwk := Dx k (by omega)
     have hbk : bs[k]? = some (bs[k]'(by omega)) := Lg _
     obtain ⟨c, hc⟩ : ∃ c, c = bs[k]'(by omega) := ⟨_, rfl⟩
     rw [← hc] at hbk
     obtain ⟨A, hA⟩ := hb.rd k c hbk
     have hiab := fun l lo => (hA l lo).1
     have hlab := fun l lo => (hA l lo).2
     have hln := f.line_le
     have hcn := f.column_le
     have hwl : IntKind.i64.wrap (((f.line : Nat) : Int) - 1) = ((f.line - 1 : Nat) : Int) := by rw [IntKind.wrap_i64]; omega
     have hwc : IntKind.i64.wrap (((f.column : Nat) : Int) - 1) = ((f.column - 1 : Nat) : Int) := by rw [IntKind.wrap_i64]; omega
     have hwa : IntKind.i64.wrap (((f.column - 1 : Nat) : Int) + ((k : Nat) : Int)) = ((f.column - 1 + k : Nat) : Int) := by rw [IntKind.wrap_i64]; omega
     have hr24 : f.line - 1 < 24 := by omega
     have hc80 : f.column - 1 + k < 80 := by omega
     have hgl := fun G t => HB_gl H (sbO nm x p0 c0) G t
     have hgr := (He (n0 := H.length) (i := 24) hr24).trans (by rw [if_pos hr24])
     have hgn := fun G t => HB_ln H (sbO nm x p0 c0) G t hr24
     have hnw2 : ∀ (G : Ij) (fo o : Sk), (H ++ (HB (sbO nm x p0 c0) H.length G ++ (t ++ fo :: (t2 ++ [o]))))[H.length + (50 + (t.length + (t2.length + 1)))]? = some o := fun G fo o => by
      have := HB_new H (sbO nm x p0 c0) G (t ++ fo :: t2) o []
      simpa using this
     have hbo : bytesOf [[D.int .u8 (c.toNat : Nat)]] = some [c] := by simp [bytesOf]
     have hp := fun S => prn_run (d := d) (by omega) S c
     have hcc : UInt8.ofNat (((c.toNat : Nat) : Int)).toNat = c := by simp
     have hp2 : ∀ S, Bb LP NN d 46 [.str ⟨#[UInt8.ofNat (((c.toNat : Nat) : Int)).toNat]⟩] S = some (.bool (decide (32 ≤ c.toNat) && decide (c.toNat ≤ 126)), S, false) := fun S => by rw [hcc]; exact hp S
     have hold := bR_at (Lg (l := En (Ep G f bs k) (f.line - 1)) (i := f.column - 1 + k) (by rw [M7]; exact hc80))
     have hst : ∀ (v : UInt8) m, v = prn c → (H ++ (HB (sbO nm x p0 c0) H.length (Ep G f bs k) ++ m)).set (H.length + (3 + 2 * (f.line - 1))) ⟨5, 1, (bR (En (Ep G f bs k) (f.line - 1))).set (f.column - 1 + k) [.int .u8 (v.toNat : Nat)], 0, 2, true⟩ = H ++ (HB (sbO nm x p0 c0) H.length (Ep G f bs (k + 1)) ++ m) := fun v m e => by
      subst e
      rw [bR_set]
      refine HB_set H _ (Ep G f bs k) m hr24 fun j => ?_
      rw [Q6 G f bs hkl j]
      have : bs.getD k 0 = c := by rw [List.getD_eq_getElem?_getD, hbk]; rfl
      rw [this]
      split
      ·
       rename_i e; rw [e]
      ·
       rfl
     have z1 : (0 : Int) ≤ ((f.line - 1 : Nat) : Int) := by omega
     have z2 : ((f.line - 1 : Nat) : Int) < ((24 : Nat) : Int) := by omega
     have z3 : (0 : Int) ≤ ((f.column - 1 + k : Nat) : Int) := by omega
     have z4 : ((f.column - 1 + k : Nat) : Int) < ((80 : Nat) : Int) := by omega
     refine Ak (Br rfl (Ag (Az (Ad ?_))))
     refine Ae rfl (Ab (by simp only [zl, zm, hiab] <;> exact rfl) ?_)
     refine Ab (by simp only [zl, zm, hlab] <;> exact rfl) ?_
     refine Ah rfl (Ah rfl ?_)
     refine Aa (Af ?_)
     refine Ag (Ad ?_)
     refine Ae rfl (Ab (by simp only [zl, zm, Cw, List.replicate, Am, zs, zc, zf, hBl] <;> exact rfl) ?_)
     refine Ab (by simp only [zl, zm, Ii, hnw2] <;> exact rfl) ?_
     first
      | refine Ab (by simp only [zo]; exact hp _) ?_
      | refine Ab (by simp only [zo]; exact hp2 _) ?_
     refine R8 ?_
     refine Aa (Af ?_)
     refine Ct (by simp only [opd, zv] <;> exact rfl) (fun hcAFBT1CT => ?_) (fun hcAFBT1CT => ?_)
     ·
      have hv46 : (46 : UInt8) = prn c := by
       have h := hcAFBT1CT
       unfold prn
       rw [if_neg (by intro h2; rw [h2] at h; cases h)]
      have hst2 := fun m => hst 46 m hv46
      simp only [show ((((46 : UInt8).toNat : Nat) : Int)) = 46 from rfl] at hst2
      have hst3 := fun m => List.append_cancel_left ((Em H _ _ _).symm.trans (hst2 m))
      refine Be (Bo ?_)
      refine Aa (Af ?_)
      refine Eo ?_
      refine Bp rfl rfl (xo3 rfl rfl ?_)
      refine Bu (by simp only [zl, zm, zd, Aw, List.take, List.drop, hnw] <;> exact rfl) rfl ?_
      refine Ay (by simp only [zo, Bq, hwl] <;> exact rfl) rfl rfl ?_
      refine Bu (by simp only [zl, zm, Bf, Int.toNat_natCast, hgl, z1, z2, GLi] <;> exact rfl) rfl ?_
      refine Bu (by simp only [zl, zm, zd, Aw, List.take, List.drop, hgl, hgr, GLi] <;> exact rfl) rfl ?_
      refine xo3 rfl rfl ?_
      refine Bu (by simp only [zl, zm, zd, Aw, List.take, List.drop, hnw] <;> exact rfl) rfl ?_
      refine Ay (by simp only [zo, Bq, hwc] <;> exact rfl) rfl rfl ?_
      refine Bp rfl rfl (Ay (by simp only [zo, Bq, hwa] <;> exact rfl) rfl rfl ?_)
      refine Bp rfl rfl (Bu (by simp only [zl, zm, Bf, Int.toNat_natCast, hgn, z3, z4, lnO] <;> exact rfl) rfl ?_)
      refine Bu (by simp only [zl, zm, Bw, overlay, zs, List.take, hBl, hgn, hold, lnO] <;> exact rfl) rfl ?_
      refine Cu (Fv ?_)
      refine Af ?_
      refine Be (Ab (by simp only [zo, Bq, hwk] <;> exact rfl) ?_)
      refine Ah rfl (Aa ?_)
      refine G6 (by simp only [ze] <;> exact rfl) ?_
      exact ⟨f.size - (k + 1), by omega, k + 1, _, _, _, _, _, by omega, rfl, by rw [← hst3]; rfl, rfl⟩
     ·
      have hvc : c = prn c := by
       have h := hcAFBT1CT
       unfold prn
       rw [if_pos (by simpa using h)]
      have hst2 := fun m => hst c m hvc
      have hst3 := fun m => List.append_cancel_left ((Em H _ _ _).symm.trans (hst2 m))
      refine Ak (Br rfl ?_)
      refine Eo ?_
      refine Bp rfl rfl (xo3 rfl rfl ?_)
      refine Bu (by simp only [zl, zm, zd, Aw, List.take, List.drop, hnw] <;> exact rfl) rfl ?_
      refine Ay (by simp only [zo, Bq, hwl] <;> exact rfl) rfl rfl ?_
      refine Bu (by simp only [zl, zm, Bf, Int.toNat_natCast, hgl, z1, z2, GLi] <;> exact rfl) rfl ?_
      refine Bu (by simp only [zl, zm, zd, Aw, List.take, List.drop, hgl, hgr, GLi] <;> exact rfl) rfl ?_
      refine xo3 rfl rfl ?_
      refine Bu (by simp only [zl, zm, zd, Aw, List.take, List.drop, hnw] <;> exact rfl) rfl ?_
      refine Ay (by simp only [zo, Bq, hwc] <;> exact rfl) rfl rfl ?_
      refine Bp rfl rfl (Ay (by simp only [zo, Bq, hwa] <;> exact rfl) rfl rfl ?_)
      refine Bp rfl rfl (Bu (by simp only [zl, zm, Bf, Int.toNat_natCast, hgn, z3, z4, lnO] <;> exact rfl) rfl ?_)
      refine Bu (by simp only [zl, zm, Bw, overlay, zs, List.take, hBl, hgn, hold, lnO] <;> exact rfl) rfl ?_
      refine Cu (Fv ?_)
      refine Af ?_
      refine Be (Ab (by simp only [zo, Bq, hwk] <;> exact rfl) ?_)
      refine Ah rfl (Aa ?_)
      refine G6 (by simp only [ze] <;> exact rfl) ?_
      exact ⟨f.size - (k + 1), by omega, k + 1, _, _, _, _, _, by omega, rfl, by rw [← hst3]; rfl, rfl⟩
    ·
     have hk' : k = f.size := by have := of_decide_eq_false hcAFBT1C; omega
     subst hk'
     refine Dn (H9 (Jb (Ib (Fv (Br rfl (Be ?_))))))
     refine Ab (by simp only [zo, Bq, hw] <;> exact rfl) ?_
     refine Ah rfl (Aa ?_)
     refine G6 (by simp only [ze] <;> exact rfl) ?_
     exact ⟨P.length - (i + 1), by omega, i + 1, _, _, _, _, _, _, _, _, _, _, _, _, _, _, _, _, _, by omega, rfl, by rw [Rn hlt, hPe, ← hG], rfl⟩
   ·
    rw [if_neg hk1'] at hbf
    have e1 : (((f.kind : Nat) : Int) == 1) = false := by rw [beq_eq_false_iff_ne]; omega
    have hb := hbf
    have hbl2 := hb.len
    rw [hbl] at hbl2
    refine Ak (Br rfl (Ag (Az (Ad ?_))))
    refine Ae rfl (Ab (by simp only [zl, zm, hia] <;> exact rfl) ?_)
    refine Ab (by simp only [zl, zm, hld] <;> exact rfl) ?_
    refine Ab (by simp only [zl, zm, hBl] <;> exact rfl) ?_
    refine Ah rfl (Ab (by simp only [zl, zm, Bw, overlay, Cf, zs, zc, zf, List.take, List.drop, hnw, hns, hBl, htx.Tc, hop.Tc] <;> exact rfl) ?_)
    refine Aa (Af ?_)
    refine Ad (Ae rfl ?_)
    refine Ae rfl (Ab (by simp only [zl, zm, hiv] <;> exact rfl) ?_)
    refine Ab (by simp only [zl, zm, hlv] <;> exact rfl) ?_
    refine Ah rfl (Aa ?_)
    refine Af ?_
    refine Ag (Ad ?_)
    refine xo0 ?_
    refine Ab (by simp only [zl, zm, zd, Aw, List.take, List.drop, hnw] <;> exact rfl) ?_
    refine Ab (by simp only [zo, Bq, e1] <;> exact rfl) ?_
    refine Aa (Af ?_)
    skip
    refine Ck ?_
    refine Ak (Br rfl (Ag (Ad ?_)))
    refine Ae rfl (Ab (by simp only [zo, hbl2] <;> exact rfl) ?_)
    refine xo0 ?_
    refine xo0 ?_
    refine Ab (by simp only [zl, zm, zd, Aw, List.take, List.drop, hnw] <;> exact rfl) ?_
    refine Ab (by simp only [zo, Bq, bne_self_eq_false] <;> exact rfl) ?_
    refine Aa (Af ?_)
    skip
    refine Ck ?_
    refine Ak (Br rfl (Ad ?_))
    refine Ae rfl (Ab (by simp only [zo, hbl2] <;> exact rfl) ?_)
    refine Bo (Aa ?_)
    refine Af ?_
    refine Az ?_
    refine Eb (fun n env S' => ∃ (k : Nat) (t2 : List Sk) (v11 v12 v30 v31 : D), k ≤ f.size ∧ n = f.size - k ∧ S' = ⟨H ++ (HB (sbO nm x p0 c0) H.length (Ep G f bs k) ++ (t ++ FO [.int .i64 (f.line : Nat), .int .i64 (f.column : Nat), .int .u8 (f.kind : Nat), tx, .int .u8 (if nu then (if f.size = 1 then 4 else 5) else 2), .int .u8 0, .str (Ha nu f.size), .int .i64 (if nu then (f.size : Nat) else 0), .int .i64 0, .bool false, .bool false, .bool false, .bool false, .bool false, .int .i64 (f.size : Nat), op] :: t2)), H.length⟩ ∧ env = [.agg [.str nm, x, .int .i64 (p0 : Nat), .int .i64 (c0 : Nat)], xv, .ptr H.length 0 0 0, .Tk, .int .i64 0, .int .i64 0, .msl (H.length + 1) 0 0 24 none, u7, .int .i64 (i : Nat), .ptr (H.length + (50 + t.length)) 0 0 0, w, v11, v12, .undef, .undef, .undef, .bool false, .bool false, .int .i64 24, u19, u20, x, .int .i64 rows.length, .int .i64 (i : Nat), .bool (decide (((i : Nat) : Int) < ((rows.length : Nat) : Int))), .bool false, .bool false, w, .int .i64 (f.size : Nat), .int .i64 (k : Nat), v30, v31, .undef, .undef, .undef, .undef]) (f.size) (by omega) (⟨0, [], _, _, _, _, by omega, by omega, by rw [paintK_0]; rfl, rfl⟩) ?_
    rintro n env S' ⟨k, t2, v11, v12, v30, v31, hk, hnk2, rfl, rfl⟩
    refine Ad (Ab (by simp only [zo, Bq, FO] <;> exact rfl) ?_)
    refine Aa (Af ?_)
    refine Ag ?_
    refine Ct (by simp only [opd, zv] <;> exact rfl) (fun hcAFBT2C => ?_) (fun hcAFBT2C => ?_)
    ·
     have hkl : k < f.size := by have := of_decide_eq_true hcAFBT2C; omega
     have hwk := Dx k (by omega)
     have hbk : bs[k]? = some (bs[k]'(by omega)) := Lg _
     obtain ⟨c, hc⟩ : ∃ c, c = bs[k]'(by omega) := ⟨_, rfl⟩
     rw [← hc] at hbk
     obtain ⟨A, hA⟩ := hb.rd k c hbk
     have hiab := fun l lo => (hA l lo).1
     have hlab := fun l lo => (hA l lo).2
     have hln := f.line_le
     have hcn := f.column_le
     have hwl : IntKind.i64.wrap (((f.line : Nat) : Int) - 1) = ((f.line - 1 : Nat) : Int) := by rw [IntKind.wrap_i64]; omega
     have hwc : IntKind.i64.wrap (((f.column : Nat) : Int) - 1) = ((f.column - 1 : Nat) : Int) := by rw [IntKind.wrap_i64]; omega
     have hwa : IntKind.i64.wrap (((f.column - 1 : Nat) : Int) + ((k : Nat) : Int)) = ((f.column - 1 + k : Nat) : Int) := by rw [IntKind.wrap_i64]; omega
     have hr24 : f.line - 1 < 24 := by omega
     have hc80 : f.column - 1 + k < 80 := by omega
     have hgl := fun G t => HB_gl H (sbO nm x p0 c0) G t
     have hgr := (He (n0 := H.length) (i := 24) hr24).trans (by rw [if_pos hr24])
     have hgn := fun G t => HB_ln H (sbO nm x p0 c0) G t hr24
     have hnw2 : ∀ (G : Ij) (fo o : Sk), (H ++ (HB (sbO nm x p0 c0) H.length G ++ (t ++ fo :: (t2 ++ [o]))))[H.length + (50 + (t.length + (t2.length + 1)))]? = some o := fun G fo o => by
      have := HB_new H (sbO nm x p0 c0) G (t ++ fo :: t2) o []
      simpa using this
     have hbo : bytesOf [[D.int .u8 (c.toNat : Nat)]] = some [c] := by simp [bytesOf]
     have hp := fun S => prn_run (d := d) (by omega) S c
     have hcc : UInt8.ofNat (((c.toNat : Nat) : Int)).toNat = c := by simp
     have hp2 : ∀ S, Bb LP NN d 46 [.str ⟨#[UInt8.ofNat (((c.toNat : Nat) : Int)).toNat]⟩] S = some (.bool (decide (32 ≤ c.toNat) && decide (c.toNat ≤ 126)), S, false) := fun S => by rw [hcc]; exact hp S
     have hold := bR_at (Lg (l := En (Ep G f bs k) (f.line - 1)) (i := f.column - 1 + k) (by rw [M7]; exact hc80))
     have hst : ∀ (v : UInt8) m, v = prn c → (H ++ (HB (sbO nm x p0 c0) H.length (Ep G f bs k) ++ m)).set (H.length + (3 + 2 * (f.line - 1))) ⟨5, 1, (bR (En (Ep G f bs k) (f.line - 1))).set (f.column - 1 + k) [.int .u8 (v.toNat : Nat)], 0, 2, true⟩ = H ++ (HB (sbO nm x p0 c0) H.length (Ep G f bs (k + 1)) ++ m) := fun v m e => by
      subst e
      rw [bR_set]
      refine HB_set H _ (Ep G f bs k) m hr24 fun j => ?_
      rw [Q6 G f bs hkl j]
      have : bs.getD k 0 = c := by rw [List.getD_eq_getElem?_getD, hbk]; rfl
      rw [this]
      split
      ·
       rename_i e; rw [e]
      ·
       rfl
     have z1 : (0 : Int) ≤ ((f.line - 1 : Nat) : Int) := by omega
     have z2 : ((f.line - 1 : Nat) : Int) < ((24 : Nat) : Int) := by omega
     have z3 : (0 : Int) ≤ ((f.column - 1 + k : Nat) : Int) := by omega
     have z4 : ((f.column - 1 + k : Nat) : Int) < ((80 : Nat) : Int) := by omega
     refine Ak (Br rfl (Ag (Az (Ad ?_))))
     refine Ae rfl (Ab (by simp only [zl, zm, hiab] <;> exact rfl) ?_)
     refine Ab (by simp only [zl, zm, hlab] <;> exact rfl) ?_
     refine Ah rfl (Ah rfl ?_)
     refine Aa (Af ?_)
     refine Ag (Ad ?_)
     refine Ae rfl (Ab (by simp only [zl, zm, Cw, List.replicate, Am, zs, zc, zf, hBl] <;> exact rfl) ?_)
     refine Ab (by simp only [zl, zm, Ii, hnw2] <;> exact rfl) ?_
     first
      | refine Ab (by simp only [zo]; exact hp _) ?_
      | refine Ab (by simp only [zo]; exact hp2 _) ?_
     refine R8 ?_
     refine Aa (Af ?_)
     refine Ct (by simp only [opd, zv] <;> exact rfl) (fun hcAFBT2CT => ?_) (fun hcAFBT2CT => ?_)
     ·
      have hv46 : (46 : UInt8) = prn c := by
       have h := hcAFBT2CT
       unfold prn
       rw [if_neg (by intro h2; rw [h2] at h; cases h)]
      have hst2 := fun m => hst 46 m hv46
      simp only [show ((((46 : UInt8).toNat : Nat) : Int)) = 46 from rfl] at hst2
      have hst3 := fun m => List.append_cancel_left ((Em H _ _ _).symm.trans (hst2 m))
      refine Be (Bo ?_)
      refine Aa (Af ?_)
      refine Eo ?_
      refine Bp rfl rfl (xo3 rfl rfl ?_)
      refine Bu (by simp only [zl, zm, zd, Aw, List.take, List.drop, hnw] <;> exact rfl) rfl ?_
      refine Ay (by simp only [zo, Bq, hwl] <;> exact rfl) rfl rfl ?_
      refine Bu (by simp only [zl, zm, Bf, Int.toNat_natCast, hgl, z1, z2, GLi] <;> exact rfl) rfl ?_
      refine Bu (by simp only [zl, zm, zd, Aw, List.take, List.drop, hgl, hgr, GLi] <;> exact rfl) rfl ?_
      refine xo3 rfl rfl ?_
      refine Bu (by simp only [zl, zm, zd, Aw, List.take, List.drop, hnw] <;> exact rfl) rfl ?_
      refine Ay (by simp only [zo, Bq, hwc] <;> exact rfl) rfl rfl ?_
      refine Bp rfl rfl (Ay (by simp only [zo, Bq, hwa] <;> exact rfl) rfl rfl ?_)
      refine Bp rfl rfl (Bu (by simp only [zl, zm, Bf, Int.toNat_natCast, hgn, z3, z4, lnO] <;> exact rfl) rfl ?_)
      refine Bu (by simp only [zl, zm, Bw, overlay, zs, List.take, hBl, hgn, hold, lnO] <;> exact rfl) rfl ?_
      refine Cu (Fv ?_)
      refine Af ?_
      refine Be (Ab (by simp only [zo, Bq, hwk] <;> exact rfl) ?_)
      refine Ah rfl (Aa ?_)
      refine G6 (by simp only [ze] <;> exact rfl) ?_
      exact ⟨f.size - (k + 1), by omega, k + 1, _, _, _, _, _, by omega, rfl, by rw [← hst3]; rfl, rfl⟩
     ·
      have hvc : c = prn c := by
       have h := hcAFBT2CT
       unfold prn
       rw [if_pos (by simpa using h)]
      have hst2 := fun m => hst c m hvc
      have hst3 := fun m => List.append_cancel_left ((Em H _ _ _).symm.trans (hst2 m))
      refine Ak (Br rfl ?_)
      refine Eo ?_
      refine Bp rfl rfl (xo3 rfl rfl ?_)
      refine Bu (by simp only [zl, zm, zd, Aw, List.take, List.drop, hnw] <;> exact rfl) rfl ?_
      refine Ay (by simp only [zo, Bq, hwl] <;> exact rfl) rfl rfl ?_
      refine Bu (by simp only [zl, zm, Bf, Int.toNat_natCast, hgl, z1, z2, GLi] <;> exact rfl) rfl ?_
      refine Bu (by simp only [zl, zm, zd, Aw, List.take, List.drop, hgl, hgr, GLi] <;> exact rfl) rfl ?_
      refine xo3 rfl rfl ?_
      refine Bu (by simp only [zl, zm, zd, Aw, List.take, List.drop, hnw] <;> exact rfl) rfl ?_
      refine Ay (by simp only [zo, Bq, hwc] <;> exact rfl) rfl rfl ?_
      refine Bp rfl rfl (Ay (by simp only [zo, Bq, hwa] <;> exact rfl) rfl rfl ?_)
      refine Bp rfl rfl (Bu (by simp only [zl, zm, Bf, Int.toNat_natCast, hgn, z3, z4, lnO] <;> exact rfl) rfl ?_)
      refine Bu (by simp only [zl, zm, Bw, overlay, zs, List.take, hBl, hgn, hold, lnO] <;> exact rfl) rfl ?_
      refine Cu (Fv ?_)
      refine Af ?_
      refine Be (Ab (by simp only [zo, Bq, hwk] <;> exact rfl) ?_)
      refine Ah rfl (Aa ?_)
      refine G6 (by simp only [ze] <;> exact rfl) ?_
      exact ⟨f.size - (k + 1), by omega, k + 1, _, _, _, _, _, by omega, rfl, by rw [← hst3]; rfl, rfl⟩
    ·
     have hk' : k = f.size := by have := of_decide_eq_false hcAFBT2C; omega
     subst hk'
     refine Dn (H9 (Jb (Ib (Fv (Br rfl (Be ?_))))))
     refine Ab (by simp only [zo, Bq, hw] <;> exact rfl) ?_
     refine Ah rfl (Aa ?_)
     refine G6 (by simp only [ze] <;> exact rfl) ?_
     exact ⟨P.length - (i + 1), by omega, i + 1, _, _, _, _, _, _, _, _, _, _, _, _, _, _, _, _, _, by omega, rfl, by rw [Rn hlt, hPe, ← hG], rfl⟩
  ·
   have hi' : i = P.length := by have := of_decide_eq_false hcAFB; omega
   subst hi'
   have hnw := fun G o m => HB_new H (sbO nm x p0 c0) G t o m
   have hns := fun G o y m => HB_newS H (sbO nm x p0 c0) G t o y m
   have hBl := fun G => Mo (sbO nm x p0 c0) H.length G
   have hsbo := fun G t => HB_sb H (sbO nm x p0 c0) G t
   refine Dn (H9 (Jb (Ib (Br rfl (Ad ?_)))))
   refine Ab (by simp only [zl, zm, Int.reduceToNat, hBl] <;> exact rfl) ?_
   refine Ah rfl (Aa ?_)
   refine Af ?_
   refine Ag (Ad ?_)
   refine Ae rfl (xo7 ?_)
   refine Bo (Aa ?_)
   refine Af ?_
   refine Az ?_
   refine Eb (fun n env S' => ∃ (i : Nat) (w14 w15 w24 w35 : D), i ≤ 24 ∧ n = 24 - i ∧ S' = ⟨H ++ (HB (sbO nm x p0 c0) H.length (Ec P) ++ (t ++ [⟨9, 1, Gw (Ec P) i, 0, 2, false⟩])), H.length⟩ ∧ env = [.agg [.str nm, x, .int .i64 (p0 : Nat), .int .i64 (c0 : Nat)], xv, .ptr H.length 0 0 0, .Tk, .int .i64 0, .int .i64 0, .msl (H.length + 1) 0 0 24 none, u7, u8, u9, u10, u11, u12, .msl (H.length + (50 + t.length)) 0 0 24 none, w14, w15, .bool false, .bool false, .int .i64 24, u19, u20, x, .int .i64 rows.length, .int .i64 (P.length : Nat), w24, u25, u26, u27, u28, u29, u30, u31, .msl (H.length + 1) 0 0 24 none, .int .i64 24, .int .i64 (i : Nat), w35]) (24) (by omega) (⟨0, _, _, _, _, by omega, by omega, by rw [List.take_length]; rfl, rfl⟩) ?_
   rintro n env S' ⟨i, w14, w15, w24, w35, hi2, hnk3, rfl, rfl⟩
   refine Ad (xo2 ?_)
   refine Aa (Af ?_)
   refine Ag ?_
   refine Ct (by simp only [opd, zv] <;> exact rfl) (fun hcAFBFD => ?_) (fun hcAFBFD => ?_)
   ·
    have hlt : i < 24 := by have := of_decide_eq_true hcAFBFD; omega
    have hw := Dx i (by omega)
    have h0 : (0 : Int) ≤ (i : Int) := by omega
    have h24 : (i : Int) < ((24 : Nat) : Int) := by omega
    have hgl := fun G t => HB_gl H (sbO nm x p0 c0) G t
    have hgr := (He (n0 := H.length) (i := 24) hlt).trans (by rw [if_pos hlt])
    have hgn := fun G t => HB_ln H (sbO nm x p0 c0) G t hlt
    have hTr : ∀ m lo, Bb LP NN d 47 [.msl (H.length + (3 + 2 * i)) 0 0 80 (some 80)] ⟨H ++ (HB (sbO nm x p0 c0) H.length (Ec P) ++ m), lo⟩ = some (.sl 1 (bR ((En (Ec P) i).take (tn (En (Ec P) i)))) (some (tn (En (Ec P) i))), ⟨H ++ (HB (sbO nm x p0 c0) H.length (Ec P) ++ m), lo⟩, false) := fun m lo => by
     have := trim_run (d := d) (cap := some 80) (by omega) (hgn (Ec P) m) (by rw [M7]; omega) lo
     rwa [M7] at this
    have hbb := bytesOf_bR ((En (Ec P) i).take (tn (En (Ec P) i)))
    have hoa := (Ke (G := Ec P) (i := i) hlt).trans (by rw [if_neg (by omega)])
    have hos := outRows_set (G := Ec P) hlt
    rw [show trS (Ec P) i = ⟨((En (Ec P) i).take (tn (En (Ec P) i))).toArray⟩ from rfl] at hos
    refine Ak (Br rfl (Ag (Az (Ad ?_))))
    refine Ae rfl (Ab (by simp only [zl, zm, Bf, Int.toNat_natCast, h0, h24, hgl, GLi] <;> exact rfl) ?_)
    refine Ab (by simp only [zl, zm, zd, Aw, List.take, List.drop, hgl, hgr, GLi] <;> exact rfl) ?_
    refine Ah rfl (Ah rfl ?_)
    refine Aa (Af ?_)
    refine Be (Ae rfl ?_)
    refine Ae rfl (Ae rfl ?_)
    refine Ab (by simp only [zo]; exact hTr _ _) ?_
    refine Ab (by simp only [zl, zm, Gm, hbb] <;> exact rfl) ?_
    refine Ab (by simp only [zl, zm, Bf, Int.toNat_natCast, hnw, h0, h24] <;> exact rfl) ?_
    refine Ab (by simp only [zl, zm, Bw, overlay, zs, List.take, hnw, hns, hBl, hoa] <;> exact rfl) ?_
    refine Aa (Fv ?_)
    refine Af ?_
    refine Be (Ab (by simp only [zo, Bq, hw] <;> exact rfl) ?_)
    refine Ah rfl (Aa ?_)
    refine G6 (by simp only [ze] <;> exact rfl) ?_
    exact ⟨24 - (i + 1), by omega, i + 1, _, _, _, _, by omega, rfl, by rw [← hos]; rfl, rfl⟩
   ·
    have hi' : i = 24 := by have := of_decide_eq_false hcAFBFD; omega
    subst hi'
    have hto : (Gw (Ec P) 24).take 24 = Gw (Ec P) 24 := List.take_of_length_le (by rw [Hu]; exact Nat.le_refl _)
    have hol := Hu (Ec P) 24
    have hge : H.length ≤ H.length + (50 + t.length) := by omega
    refine Dn (H9 (Jb (Ib (Br rfl (Ad ?_)))))
    refine Ae rfl (Ah rfl ?_)
    refine Bo (Aa ?_)
    refine Af ?_
    refine Bz ?_
    refine ⟨_, by simp only [F20, Ar, Ca, Dt, zg] <;> exact rfl, ?_⟩
    simp [leave, LP, S9, Sw, snap, D.Sz, D.Sy, D.free, D.Td, Am, hnw, hto, hol, hge]

def OL (l : List Sk) (n0 q : Nat) (x : D) (rows : List (List D)) : Prop := (x = .Tk ∧ rows = []) ∨ ∃ vs, x = .msl (n0 + q) vs 0 rows.length none ∧ l[q]? = some ⟨74, 2, rows, vs, 0, true⟩
theorem OL.app {H l : List Sk} {q n0 : Nat} {x : D} {rows : List (List D)} {row : List D} (hn : H.length = n0) (h : OL l n0 q x rows) (hq : 0 < q) (hl : rows.length < 1000) (hpos : 0 < l.length) :
  ∃ x' l' q', Cn 74 2 32 0 x (.msl (n0 + l.length) 0 0 1 none) ⟨H ++ (l ++ [⟨74, 2, [row], 0, 0, false⟩]), n0⟩ = some (x', ⟨H ++ l', n0⟩, true) ∧ OL l' n0 q' x' (rows ++ [row]) ∧ 0 < q' ∧ l.length + 1 ≤ l'.length ∧ l'[0]? = l[0]? ∧ x'.Tc = true ∧ ∀ (k : Nat) (o : Sk), l[k]? = some o → o.elem ≠ 74 → l'[k]? = some o := by
 subst hn
 have hr : (H ++ (l ++ [(⟨74, 2, [row], 0, 0, false⟩ : Sk)]))[H.length + l.length]? = some ⟨74, 2, [row], 0, 0, false⟩ := by rw [De, Dr]; rfl
 have hread : Dw ⟨H ++ (l ++ [⟨74, 2, [row], 0, 0, false⟩]), H.length⟩ 2 (.msl (H.length + l.length) 0 0 1 none) = some [row] := by simp [Dw, rowsOf]
 rcases h with ⟨rfl, rfl⟩ | ⟨vs, rfl, ho⟩
 ·
  refine ⟨.msl (H.length + (l.length + 1)) 0 0 1 none, l ++ [⟨74, 2, [row], 0, 0, false⟩, ⟨74, 2, [row], 0, 0, true⟩], l.length + 1, ?_, .inr ⟨0, rfl, by simp⟩, by omega, by simp, by rw [La_ hpos], rfl, fun k o h _ => by rw [Bv (Bg h)]; exact h⟩
  simp [Cn, hread, Bn, newAt]
 ·
  have hql := Bg ho
  have hz : (H ++ (l ++ [(⟨74, 2, [row], 0, 0, false⟩ : Sk)]))[H.length + q]? = some ⟨74, 2, rows, vs, 0, true⟩ := by rw [De, Bv hql]; exact ho
  refine ⟨.msl (H.length + q) (vs + 1) 0 (rows.length + 1) none, l.set q ⟨74, 2, rows ++ [row], vs + 1, 0, true⟩ ++ [⟨74, 2, [row], 0, 0, false⟩], q, ?_, .inr ⟨vs + 1, by simp, by rw [Bv (by simpa using hql)]; exact E5 hql _⟩, hq, by simp, ?_, rfl, fun k o h he => ?_⟩
  ·
   have hb : (rows.length + 1) * 32 ≤ 140737488355328 := by omega
   have hmin : min H.length (H.length + q) = H.length := by omega
   simp [Cn, hread, Bn, rowsOf, hz, setAt, hb, hmin, Ht hql]
  ·
   rw [La_ (by simpa using hpos), Ln_ (by omega)]
  ·
   rw [Bv (by simpa using Bg h), Ln_ ?_]
   ·
    exact h
   ·
    intro e
    subst e
    rw [ho] at h
    cases h
    exact he rfl
theorem OL.len {l : List Sk} {n0 q : Nat} {x : D} {rows : List (List D)} (h : OL l n0 q x rows) : Jc false x = some (.int .i64 (rows.length : Nat)) := by
 rcases h with ⟨rfl, rfl⟩ | ⟨vs, rfl, _⟩ <;> rfl
theorem OL.more {l : List Sk} {n0 q : Nat} {x : D} {rows : List (List D)} (h : OL l n0 q x rows) (m : List Sk) : OL (l ++ m) n0 q x rows := by
 rcases h with h | ⟨vs, h1, h2⟩
 ·
  exact .inl h
 ·
  exact .inr ⟨vs, h1, by rw [Bv (Bg h2)]; exact h2⟩
def Gd (T : Nat → D × Bool) (m j : Nat) : Option (Nat × D) := if j < m then (if (T j).2 then some (j + 1, (T j).1) else Gd T m (j + 1)) else none
termination_by m - j
def K8 (T : Nat → Nat → D × Bool) (m : Nat) : List FM → Nat → Nat → List (Nat × D) → Option (Nat × List (Nat × D))
 | [], _, used, out => some (used, out)
 | f :: l, i, used, out => if f.kind < 3 then K8 T m l (i + 1) used out else match Gd (T i) m used with
  | none => none
  | some (j, b) => K8 T m l (i + 1) j (out ++ [(i, b)])
def H8 (l : List (Nat × D)) : List (List D) := l.map fun p => [.int .i64 (p.1 : Nat), p.2]
theorem Qs (l : List (Nat × D)) (i : Nat) (b : D) : H8 (l ++ [(i, b)]) = H8 l ++ [[.int .i64 (i : Nat), b]] := by simp [H8]
theorem tyRows_len (l : List (Nat × D)) : (H8 l).length = l.length := by simp [H8]
theorem clip49_msl {d : Nat} (hd : 1 ≤ d) {H : List Sk} {gs vs : Nat} {rows : List (List D)} (h2 : H[gs]? = some ⟨74, 2, rows, vs, 0, true⟩) (lo : Nat) : Bb LP NN d 49 [.msl gs vs 0 rows.length none] ⟨H, lo⟩ = some (.msl gs vs 0 rows.length (some rows.length), ⟨H, lo⟩, false) := by
 have hb : ∀ (n : Nat), (0 : Int) ≤ (n : Int) := fun n => by omega
 refine Dk (F := F49) rfl (by simp only [LP, Am, zs, zm, h2, show ((0 : Nat) = 1) = False from by decide, show ((0 : Nat) = 2) = False from by decide, and_false, or_self] <;> exact rfl) rfl (by simp only [LP, zf, zm, Bool.and_false]; try rfl) (by simp only [F49, zv] <;> exact rfl) (by omega) ?_
 rintro d rfl
 refine Ad (Bo ?_)
 refine Aa (Af ?_)
 refine Ad (Ae rfl ?_)
 refine Ae rfl (xo7 ?_)
 refine Ae rfl (xo7 ?_)
 refine Ab (by simp only [zl, zm, Cc, D7, Fq, Cx, E8, Ea, h2, hb, Int.toNat_natCast, Nat.zero_le, Nat.le_refl, Nat.sub_zero] <;> exact rfl) ?_
 refine Ah rfl (Aa ?_)
 refine Af ?_
 refine Bz ?_
 refine ⟨_, by simp only [F49, Ar, Ca, Dt, zg] <;> exact rfl, ?_⟩
 simp [leave, LP, S9, Sw, snap, D.Sz, D.Sy, D.free, D.Td, h2]

theorem clip49_nil {d : Nat} (hd : 1 ≤ d) (H : List Sk) (lo : Nat) : Bb LP NN d 49 [.Tk] ⟨H, lo⟩ = some (.Tk, ⟨H, lo⟩, false) := by
 refine Dk (F := F49) rfl (by simp only [LP, Am, zs] <;> exact rfl) rfl (by simp only [LP, zf, zm]; try rfl) (by simp only [F49, zv] <;> exact rfl) (by omega) ?_
 rintro d rfl
 refine Ad (Bo ?_)
 refine Aa (Af ?_)
 refine Ad (Ae rfl ?_)
 refine Ae rfl (Ab (by simp only [zo, Ik] <;> exact rfl) ?_)
 refine Ae rfl (Ab (by simp only [zo, Ik] <;> exact rfl) ?_)
 refine Ab (by simp only [zl, Cc, D7, Cx, E8, Ea] <;> exact rfl) ?_
 refine Ah rfl (Aa ?_)
 refine Af ?_
 refine Bz ?_
 refine ⟨_, by simp only [F49, Ar, Ca, Dt, zg] <;> exact rfl, ?_⟩
 simp [leave, LP, S9, Sw, snap, D.Sz, D.Sy, D.free, D.Td]

theorem clip49_run {d : Nat} (hd : 1 ≤ d) {H l : List Sk} {q : Nat} {x : D} {rows : List (List D)} (h : OL l H.length q x rows) (lo : Nat) : Bb LP NN d 49 [x] ⟨H ++ l, lo⟩ = some (Db x, ⟨H ++ l, lo⟩, false) := by
 rcases h with ⟨rfl, rfl⟩ | ⟨vs, rfl, h2⟩
 ·
  exact clip49_nil hd _ lo
 ·
  exact clip49_msl hd (by rw [De]; exact h2) lo

def TL (H : List Sk) (go : Nat) (y : D) (rows : List (List D)) : Prop := (y = .Tk ∧ rows = []) ∨ ∃ vs, y = .msl go vs 0 rows.length (some rows.length) ∧ H[go]? = some ⟨74, 2, rows, vs, 0, true⟩
def AccR (H : List Sk) (lo : Nat) : Option (Nat × List (Nat × D)) → D × St × Bool → Prop
 | none, x => x = (.tup [.Tk, .int .i64 0, .int .i64 7], ⟨H, lo⟩, false)
 | some (u, out), x => ∃ y H' go wr, x = (.tup [y, .int .i64 (u : Nat), .int .i64 0], ⟨H', lo⟩, wr) ∧ TL H' go y (H8 out) ∧ H.length ≤ H'.length ∧ (∀ k, k < H.length → H'[k]? = H[k]?) ∧ u ≤ 1000000
theorem accept_run {d : Nat} (hd : 24 ≤ d) {H : List Sk} {x xl : D} {rows : List (List D)} {gs v : Nat} {l0 : List FM} {ls : List ByteArray} {T : Nat → Nat → D × Bool} (hS : SrcF H x rows gs v) (hR : RW l0 rows) (hl0 : SlD 1 (Fw ls) xl) (hlen : l0.length ≤ 256) (hls : ls.length ≤ 1000)
  (hT : ∀ i j p (hi : i < l0.length) (hj : j < ls.length), 3 ≤ l0[i].kind → (∀ d', d = d' + 1 → ∀ S, Bb LP NN d' 48 [.agg (G9 l0[i] p), .str ls[j]] S = some (.tup [(T i j).1, .bool (T i j).2], S, false)) ∧ ∃ ys, SlD 1 ys (T i j).1) (nm : ByteArray) (p0 c0 : Nat) (lo : Nat) (hlo : lo ≤ H.length) :
  ∃ r, AccR H lo (K8 T ls.length l0 0 0 []) r ∧ Bb LP NN d 23 [.agg [.str nm, x, .int .i64 (p0 : Nat), .int .i64 (c0 : Nat)], xl] ⟨H, lo⟩ = some r := by
 have hrl := hR.len
 have hchk : ∀ d', d = d' + 1 → ∀ l lo, Bb LP NN d' 13 [.agg [.str nm, x, .int .i64 (p0 : Nat), .int .i64 (c0 : Nat)]] ⟨H ++ l, lo⟩ = some (.int .i64 0, ⟨H ++ l, lo⟩, false) := fun d' e l lo => Il (l0 := l0) (by omega) (hS.mono l) hR (by omega) nm p0 c0 lo
 refine run_at_ex (F := F23) (P := fun r => AccR H lo (K8 T ls.length l0 0 0 []) r) rfl (by simp only [LP, Am, Cf, zs, zm, hS.zero, hl0.Sw] <;> exact rfl) rfl (by simp only [LP, zf, zm]; try rfl) (by simp only [F23, zv] <;> exact rfl) (by omega) ?_
 rintro d rfl
 have zz9 := And.intro hl0.len (And.intro hS.len (And.intro hS.cell (And.intro @De (@Dr))))
 refine Ad (Ab (by simp only [zl, zm, zc, zz9] <;> exact rfl) ?_)
 refine Bo (Bo ?_)
 refine Bo (Aa ?_)
 refine Af ?_
 refine Ag (Ad ?_)
 refine xo23 ?_
 refine Ab (by simp only [zo]; exact hchk d rfl _ _) ?_
 refine Ah rfl (Aa ?_)
 refine Af ?_
 refine Ad (Ae rfl ?_)
 refine Go.Proofs.YtkaedpmmopigkaaGreatDoor.xo2 ?_
 refine Aa (Af ?_)
 skip
 refine Ck ?_
 refine Ak (Br rfl (Ad ?_))
 refine Bo (Aa ?_)
 refine Af ?_
 refine Ad (Bo ?_)
 refine Aa (Af ?_)
 refine Ag (Ad ?_)
 refine xo0 ?_
 refine xo23 ?_
 refine Ab (by simp only [zo, zz9] <;> exact rfl) ?_
 refine Bo (Aa ?_)
 refine Af ?_
 refine Az ?_
 refine Eb (fun n env S' => ∃ (i used q : Nat) (out : List (Nat × D)) (l : List Sk) (xo u9 u10 u11 u12 u13 u18 u19 u20 u21 u22 : D), i ≤ l0.length ∧ n = l0.length - i ∧ S' = ⟨H ++ l, H.length⟩ ∧ env = [.agg [.str nm, x, .int .i64 (p0 : Nat), .int .i64 (c0 : Nat)], xl, .ptr H.length 0 0 0, .Tk, .int .i64 0, .int .i64 0, .int .i64 0, xo, .int .i64 (used : Nat), u9, u10, u11, u12, u13, .bool false, x, .int .i64 rows.length, .int .i64 (i : Nat), u18, u19, u20, u21, u22] ∧ OL l H.length q xo (H8 out) ∧ 0 < q ∧ l[0]? = some (sbO nm x p0 c0) ∧ used ≤ ls.length ∧ out.length ≤ i ∧ K8 T ls.length l0 0 0 [] = K8 T ls.length (l0.drop i) i used out) (l0.length) (by omega) (⟨0, 0, 1, [], [sbO nm x p0 c0], .Tk, _, _, _, _, _, _, _, _, _, _, by omega, by omega, rfl, rfl, .inl ⟨rfl, rfl⟩, by omega, rfl, by omega, by simp, by rw [List.drop_zero]⟩) ?_
 rintro n env S' ⟨i, used, q, out, l, xo, u9, u10, u11, u12, u13, u18, u19, u20, u21, u22, hi, hnk, rfl, rfl, hO, hq, hsb, hu, hou, hacc⟩
 refine Ad (Go.Proofs.YtkaedpmmopigkaaGreatDoor.xo2 ?_)
 refine Aa (Af ?_)
 refine Ag ?_
 refine Ct (by simp only [opd, zv] <;> exact rfl) (fun hcA => ?_) (fun hcA => ?_)
 ·
  have hlt : i < rows.length := by have := of_decide_eq_true hcA; omega
  have hlt0 : i < l0.length := by omega
  have hw := Dx i (by omega)
  have hdr := List.drop_eq_getElem_cons hlt0
  obtain ⟨f, hf0⟩ : ∃ f, f = l0[i] := ⟨_, rfl⟩
  rw [← hf0] at hdr
  have hia := fun l lo => hS.ia l lo i hlt
  obtain ⟨p, hrow⟩ := hR.at_ hlt0
  rw [← hf0] at hrow
  have hld := fun (l : List Sk) lo => hS.ld l lo i _ hrow (by rw [Jk]; exact Nat.le_refl _)
  rw [Jj] at hld
  have hTy := fun j hj hk => hT i j p hlt0 hj (by rw [← hf0]; exact hk)
  rw [← hf0] at hTy
  obtain ⟨tx, op, nu, r1, r2, hrf, htx, hop, hk1, hk2⟩ := M0 f p
  rw [hrf] at hld hTy
  have hkd := f.kind_le
  have hsb1 := Bg hsb
  have hll0 : ∀ o : Sk, (l ++ [o])[l.length]? = some o := fun o => by simp
  have hlls : ∀ o y : Sk, (l ++ [o]).set l.length y = l ++ [y] := fun o y => by simp
  have zz10 := And.intro hw (And.intro hia (And.intro hld (And.intro hll0 (And.intro hlls (And.intro htx.Tc (And.intro hop.Tc (And.intro htx.cells (And.intro hop.cells (And.intro htx.val (hop.val))))))))))
  rcases (by omega : f.kind < 3 ∨ f.kind = 3 ∨ f.kind = 4) with hkk | hkk | hkk
  ·
   have e3 : (((f.kind : Nat) : Int) != 3) = true := by rw [bne_iff_ne]; omega
   have e4 : (((f.kind : Nat) : Int) != 4) = true := by rw [bne_iff_ne]; omega
   refine Ak (Br rfl (Ag (Az (Ad ?_))))
   refine Ae rfl (Ab (by simp only [zl, zm, zz10] <;> exact rfl) ?_)
   refine Ab (by simp only [zl, zm, zz10] <;> exact rfl) ?_
   refine xo9 ?_
   refine Ah rfl (xo29 ?_)
   refine Aa (Af ?_)
   refine Ag (Ad ?_)
   refine xo0 ?_
   refine xo23 ?_
   refine Ab (by simp only [zo, Bq, e3] <;> exact rfl) ?_
   refine Ah rfl (Dv 0 (b := true) ?_)
   refine Aj rfl (xo0 ?_)
   refine Aj rfl (xo23 ?_)
   refine Aj rfl (Ab (by simp only [zo, Bq, e4] <;> exact rfl) ?_)
   refine xo1 ?_
   refine Aa (Af ?_)
   skip
   refine Gt ?_
   refine Dn (H9 (Ib (Br rfl (Be ?_))))
   refine Ab (by simp only [zo, Bq, zz10] <;> exact rfl) ?_
   refine Ah rfl (Aa ?_)
   refine G6 (by simp only [ze] <;> exact rfl) ?_
   exact ⟨l0.length - (i + 1), by omega, i + 1, used, q, out, _, xo, _, _, _, _, _, _, _, _, _, _, by omega, rfl, rfl, rfl, hO.more _, hq, by rw [Bv (Bg hsb)]; exact hsb, hu, by omega, by rw [hacc, hdr, K8, if_pos (by omega)]⟩
  ·
   have e3 : (((f.kind : Nat) : Int) != 3) = false := by rw [hkk]; rfl
   have hk3 : 3 ≤ f.kind := by omega
   refine Ak (Br rfl (Ag (Az (Ad ?_))))
   refine Ae rfl (Ab (by simp only [zl, zm, zz10] <;> exact rfl) ?_)
   refine Ab (by simp only [zl, zm, zz10] <;> exact rfl) ?_
   refine xo9 ?_
   refine Ah rfl (xo29 ?_)
   refine Aa (Af ?_)
   refine Ag (Ad ?_)
   refine xo0 ?_
   refine xo23 ?_
   refine Ab (by simp only [zo, Bq, e3] <;> exact rfl) ?_
   refine Ah rfl (Dv 0 (b := false) ?_)
   refine Dc rfl rfl ?_
   refine Dc rfl rfl ?_
   refine Dc rfl rfl ?_
   refine xo1 ?_
   refine Aa (Af ?_)
   refine J2 (by simp only [opd, zv]) ?_
   refine Ak (Br rfl (Ad ?_))
   refine Bo (Aa ?_)
   refine Af ?_
   refine Az ?_
   refine Eb (fun n env S' => ∃ (j q2 : Nat) (done : Bool) (out2 : List (Nat × D)) (l2 : List Sk) (xo2 v12 v13 v20 v21 v22 : D), S' = ⟨H ++ l2, H.length⟩ ∧ env = [.agg [.str nm, x, .int .i64 (p0 : Nat), .int .i64 (c0 : Nat)], xl, .ptr H.length 0 0 0, .Tk, .int .i64 0, .int .i64 0, .int .i64 0, xo2, .int .i64 (j : Nat), .int .i64 (i : Nat), .ptr (H.length + l.length) 0 0 0, .bool done, v12, v13, .bool false, x, .int .i64 rows.length, .int .i64 (i : Nat), .bool (decide (((i : Nat) : Int) < ((rows.length : Nat) : Int))), .bool false, v20, v21, v22] ∧ OL l2 H.length q2 xo2 (H8 out2) ∧ 0 < q2 ∧ l2[0]? = some (sbO nm x p0 c0) ∧ l2[l.length]? = some (FO [.int .i64 (f.line : Nat), .int .i64 (f.column : Nat), .int .u8 (f.kind : Nat), tx, .int .u8 (if nu then (if f.size = 1 then 4 else 5) else 2), .int .u8 0, .str (Ha nu f.size), .int .i64 (if nu then (f.size : Nat) else 0), .int .i64 0, .bool false, .bool false, .bool false, .bool false, .bool false, .int .i64 (f.size : Nat), op]) ∧ j ≤ ls.length ∧ n = 2 * (ls.length - j) + (if done then 0 else 1) ∧ ((done = false ∧ Gd (T i) ls.length used = Gd (T i) ls.length j ∧ out2 = out) ∨ (done = true ∧ ∃ b, Gd (T i) ls.length used = some (j, b) ∧ out2 = out ++ [(i, b)]))) (2 * (ls.length - used) + 1) (by omega) (⟨used, q, false, out, _, xo, _, _, _, _, _, rfl, rfl, hO.more _, hq, by rw [Bv hsb1]; exact hsb, hll0 _, hu, rfl, .inl ⟨rfl, rfl, rfl⟩⟩) ?_
   rintro n env S' ⟨j, q2, done, out2, l2, xo2, v12, v13, v20, v21, v22, rfl, rfl, hO2, hq2, hsb2, hfo, hj, hnB, hdone⟩
   rcases hdone with ⟨rfl, hf, rfl⟩ | ⟨rfl, b0, hf, rfl⟩
   ·
    refine Ag (Ad ?_)
    refine Ae rfl (R8 ?_)
    refine Aa (Af ?_)
    skip
    refine Gt ?_
    refine Ak (Br rfl (Az (Ag (Ad ?_))))
    refine Ae rfl (Ae rfl ?_)
    refine Ab (by simp only [zo, Iz, zz9] <;> exact rfl) ?_
    refine Go.Proofs.YtkaedpmmopigkaaGreatDoor.xo2 ?_
    refine Aa (Af ?_)
    refine Ct (by simp only [opd, zv] <;> exact rfl) (fun hcAT3Bn => ?_) (fun hcAT3Bn => ?_)
    ·
     have hjm : ls.length ≤ j := by have := of_decide_eq_true hcAT3Bn; omega
     have hnone : K8 T ls.length l0 0 0 [] = none := by
      rw [hacc, hdr, K8, if_neg (by omega), hf, Gd, if_neg (by omega)]
     refine Ad (Bo ?_)
     refine Bo (Bo ?_)
     refine Aa (Af ?_)
     refine Bz (Ig (Pn (lk_r (Pn (Pn (Ig (lk_r (Pn (Ig ?_)))))))))
     refine ⟨_, by rw [hnone]; exact rfl, ?_⟩
     refine ⟨_, by simp only [F23, Ar, Ca, Dt, zg] <;> exact rfl, ?_⟩
     simp [leave, LP, S9, Sw, snap, D.Sz, D.Sy, D.free, D.Td, Am]
    ·
     have hjl : j < ls.length := by have := of_decide_eq_false hcAT3Bn; omega
     have hwj := Dx j (by omega)
     have hil := fun (S : St) => hl0.iaddrN S .i64 (Nr hjl)
     obtain ⟨hty, ys, hyc⟩ := hTy j hjl (by omega)
     have hfr : D5 [[D.int .i64 0, D.Tk]] 2 [0] [D.agg [D.int .i64 (i : Nat), (T i j).1]] = some [[D.int .i64 (i : Nat), (T i j).1]] := by simp [D5, D.val, D.cells, hyc.Tc, Kl]
     have zz11 := And.intro hwj (And.intro hil (And.intro hyc.Tc (And.intro hyc.val (And.intro hyc.cells (hfr)))))
     refine Ak (Br rfl (Ag ?_))
     refine Eo ?_
     refine Bu (by simp only [zl, zm, zd, Aw, List.take, List.drop, zz9, FO, hfo] <;> exact rfl) rfl ?_
     refine Bp rfl rfl (Bp rfl rfl ?_)
     refine Cb (by simp only [zl, zm, zz11] <;> exact rfl) (by simp only [Ba, zo, hl0.fpi] <;> exact rfl) rfl ?_
     refine xo4 rfl ?_
     refine Bu (by simp only [zo]; exact (hty d rfl _)) rfl ?_
     refine Dq rfl rfl (Ay (by simp only [zo, Lz] <;> exact rfl) rfl rfl ?_)
     refine Ay (by simp only [zo, Lz, Ls_] <;> exact rfl) rfl rfl ?_
     refine Dq rfl rfl (Dq rfl rfl ?_)
     refine Cu ?_
     refine Af ?_
     refine Ad (Ae rfl ?_)
     refine Ab (by simp only [zo, Bq, zz11] <;> exact rfl) ?_
     refine Ah rfl (Aa ?_)
     refine Af ?_
     refine Ad (Ae rfl ?_)
     refine Aa (Af ?_)
     refine Ct (by simp only [opd, zv] <;> exact rfl) (fun hcAT3BnF => ?_) (fun hcAT3BnF => ?_)
     ·
      have hok : (T i j).2 = true := hcAT3BnF
      obtain ⟨x3, l3, q3, hap, hO3, hq3, hl3, h30, hx3, hkp⟩ := hO2.app (H := H) (row := [.int .i64 (i : Nat), (T i j).1]) rfl hq2 (by rw [tyRows_len]; omega) (by have := Bg hsb2; omega)
      rw [← Qs] at hO3
      have hfo3 := hkp _ _ hfo (by simp [FO])
      refine Ad (Ae rfl ?_)
      refine Ae rfl (Ae rfl ?_)
      refine Ab (by simp only [zo, Gs, overlay, zc, List.take, List.drop, Nat.reduceAdd, Nat.reduceLeDiff, zm, zz11] <;> exact rfl) ?_
      refine Ab (by simp only [zl, zm, List.replicate, Am, Cf, zs, zz11] <;> exact rfl) ?_
      refine Ab (by simp only [Aq, aop, LOp.loud, lop, if_true, opd, zv]; exact hap) ?_
      refine Ah rfl (Aa ?_)
      refine Af ?_
      refine Be (Bo ?_)
      refine Aa (Fv ?_)
      refine G6 (by simp only [ze] <;> exact rfl) ?_
      exact ⟨2 * (ls.length - (j + 1)) + 0, by simp at hnB; omega, j + 1, q3, true, _, l3, x3, _, _, _, _, _, rfl, rfl, hO3, hq3, by rw [h30]; exact hsb2, hfo3, by omega, rfl, .inr ⟨rfl, _, by rw [hf, Gd, if_pos hjl, if_pos hok], rfl⟩⟩
     ·
      have hok : (T i j).2 = false := hcAT3BnF
      refine Ak (Fv ?_)
      refine G6 rfl ?_
      exact ⟨2 * (ls.length - (j + 1)) + 1, by simp at hnB; omega, j + 1, q2, false, _, l2, xo2, _, _, _, _, _, rfl, rfl, hO2, hq2, hsb2, hfo, by omega, rfl, .inl ⟨rfl, by rw [hf, Gd, if_pos hjl, if_neg (by rw [hok]; simp)], rfl⟩⟩
   ·
    refine Ag (Ad ?_)
    refine Ae rfl (R8 ?_)
    refine Aa (Af ?_)
    skip
    refine Ck ?_
    refine Dn (H9 (Jb (Ib (Fv (Br rfl (Be ?_))))))
    refine Ab (by simp only [zo, Bq, zz10] <;> exact rfl) ?_
    refine Ah rfl (Aa ?_)
    refine G6 (by simp only [ze] <;> exact rfl) ?_
    exact ⟨l0.length - (i + 1), by omega, i + 1, j, q2, _, _, xo2, _, _, _, _, _, _, _, _, _, _, by omega, rfl, rfl, rfl, hO2, hq2, hsb2, hj, by rw [Ll_, List.length_cons, List.length_nil]; omega, by rw [hacc, hdr, K8, if_neg (by omega), hf]⟩
  ·
   have e3 : (((f.kind : Nat) : Int) != 3) = true := by rw [hkk]; rfl
   have e4 : (((f.kind : Nat) : Int) != 4) = false := by rw [hkk]; rfl
   have hk3 : 3 ≤ f.kind := by omega
   refine Ak (Br rfl (Ag (Az (Ad ?_))))
   refine Ae rfl (Ab (by simp only [zl, zm, zz10] <;> exact rfl) ?_)
   refine Ab (by simp only [zl, zm, zz10] <;> exact rfl) ?_
   refine xo9 ?_
   refine Ah rfl (xo29 ?_)
   refine Aa (Af ?_)
   refine Ag (Ad ?_)
   refine xo0 ?_
   refine xo23 ?_
   refine Ab (by simp only [zo, Bq, e3] <;> exact rfl) ?_
   refine Ah rfl (Dv 0 (b := true) ?_)
   refine Aj rfl (xo0 ?_)
   refine Aj rfl (xo23 ?_)
   refine Aj rfl (Ab (by simp only [zo, Bq, e4] <;> exact rfl) ?_)
   refine xo1 ?_
   refine Aa (Af ?_)
   skip
   refine Ck ?_
   refine Ak (Br rfl (Ad ?_))
   refine Bo (Aa ?_)
   refine Af ?_
   refine Az ?_
   refine Eb (fun n env S' => ∃ (j q2 : Nat) (done : Bool) (out2 : List (Nat × D)) (l2 : List Sk) (xo2 v12 v13 v20 v21 v22 : D), S' = ⟨H ++ l2, H.length⟩ ∧ env = [.agg [.str nm, x, .int .i64 (p0 : Nat), .int .i64 (c0 : Nat)], xl, .ptr H.length 0 0 0, .Tk, .int .i64 0, .int .i64 0, .int .i64 0, xo2, .int .i64 (j : Nat), .int .i64 (i : Nat), .ptr (H.length + l.length) 0 0 0, .bool done, v12, v13, .bool false, x, .int .i64 rows.length, .int .i64 (i : Nat), .bool (decide (((i : Nat) : Int) < ((rows.length : Nat) : Int))), .bool false, v20, v21, v22] ∧ OL l2 H.length q2 xo2 (H8 out2) ∧ 0 < q2 ∧ l2[0]? = some (sbO nm x p0 c0) ∧ l2[l.length]? = some (FO [.int .i64 (f.line : Nat), .int .i64 (f.column : Nat), .int .u8 (f.kind : Nat), tx, .int .u8 (if nu then (if f.size = 1 then 4 else 5) else 2), .int .u8 0, .str (Ha nu f.size), .int .i64 (if nu then (f.size : Nat) else 0), .int .i64 0, .bool false, .bool false, .bool false, .bool false, .bool false, .int .i64 (f.size : Nat), op]) ∧ j ≤ ls.length ∧ n = 2 * (ls.length - j) + (if done then 0 else 1) ∧ ((done = false ∧ Gd (T i) ls.length used = Gd (T i) ls.length j ∧ out2 = out) ∨ (done = true ∧ ∃ b, Gd (T i) ls.length used = some (j, b) ∧ out2 = out ++ [(i, b)]))) (2 * (ls.length - used) + 1) (by omega) (⟨used, q, false, out, _, xo, _, _, _, _, _, rfl, rfl, hO.more _, hq, by rw [Bv hsb1]; exact hsb, hll0 _, hu, rfl, .inl ⟨rfl, rfl, rfl⟩⟩) ?_
   rintro n env S' ⟨j, q2, done, out2, l2, xo2, v12, v13, v20, v21, v22, rfl, rfl, hO2, hq2, hsb2, hfo, hj, hnB, hdone⟩
   rcases hdone with ⟨rfl, hf, rfl⟩ | ⟨rfl, b0, hf, rfl⟩
   ·
    refine Ag (Ad ?_)
    refine Ae rfl (R8 ?_)
    refine Aa (Af ?_)
    skip
    refine Gt ?_
    refine Ak (Br rfl (Az (Ag (Ad ?_))))
    refine Ae rfl (Ae rfl ?_)
    refine Ab (by simp only [zo, Iz, zz9] <;> exact rfl) ?_
    refine Go.Proofs.YtkaedpmmopigkaaGreatDoor.xo2 ?_
    refine Aa (Af ?_)
    refine Ct (by simp only [opd, zv] <;> exact rfl) (fun hcAT4Bn => ?_) (fun hcAT4Bn => ?_)
    ·
     have hjm : ls.length ≤ j := by have := of_decide_eq_true hcAT4Bn; omega
     have hnone : K8 T ls.length l0 0 0 [] = none := by
      rw [hacc, hdr, K8, if_neg (by omega), hf, Gd, if_neg (by omega)]
     refine Ad (Bo ?_)
     refine Bo (Bo ?_)
     refine Aa (Af ?_)
     refine Bz (Ig (Pn (lk_r (Pn (Pn (Ig (lk_r (Pn (Ig ?_)))))))))
     refine ⟨_, by rw [hnone]; exact rfl, ?_⟩
     refine ⟨_, by simp only [F23, Ar, Ca, Dt, zg] <;> exact rfl, ?_⟩
     simp [leave, LP, S9, Sw, snap, D.Sz, D.Sy, D.free, D.Td, Am]
    ·
     have hjl : j < ls.length := by have := of_decide_eq_false hcAT4Bn; omega
     have hwj := Dx j (by omega)
     have hil := fun (S : St) => hl0.iaddrN S .i64 (Nr hjl)
     obtain ⟨hty, ys, hyc⟩ := hTy j hjl (by omega)
     have hfr : D5 [[D.int .i64 0, D.Tk]] 2 [0] [D.agg [D.int .i64 (i : Nat), (T i j).1]] = some [[D.int .i64 (i : Nat), (T i j).1]] := by simp [D5, D.val, D.cells, hyc.Tc, Kl]
     have zz12 := And.intro hwj (And.intro hil (And.intro hyc.Tc (And.intro hyc.val (And.intro hyc.cells (hfr)))))
     refine Ak (Br rfl (Ag ?_))
     refine Eo ?_
     refine Bu (by simp only [zl, zm, zd, Aw, List.take, List.drop, zz9, FO, hfo] <;> exact rfl) rfl ?_
     refine Bp rfl rfl (Bp rfl rfl ?_)
     refine Cb (by simp only [zl, zm, zz12] <;> exact rfl) (by simp only [Ba, zo, hl0.fpi] <;> exact rfl) rfl ?_
     refine xo4 rfl ?_
     refine Bu (by simp only [zo]; exact (hty d rfl _)) rfl ?_
     refine Dq rfl rfl (Ay (by simp only [zo, Lz] <;> exact rfl) rfl rfl ?_)
     refine Ay (by simp only [zo, Lz, Ls_] <;> exact rfl) rfl rfl ?_
     refine Dq rfl rfl (Dq rfl rfl ?_)
     refine Cu ?_
     refine Af ?_
     refine Ad (Ae rfl ?_)
     refine Ab (by simp only [zo, Bq, zz12] <;> exact rfl) ?_
     refine Ah rfl (Aa ?_)
     refine Af ?_
     refine Ad (Ae rfl ?_)
     refine Aa (Af ?_)
     refine Ct (by simp only [opd, zv] <;> exact rfl) (fun hcAT4BnF => ?_) (fun hcAT4BnF => ?_)
     ·
      have hok : (T i j).2 = true := hcAT4BnF
      obtain ⟨x3, l3, q3, hap, hO3, hq3, hl3, h30, hx3, hkp⟩ := hO2.app (H := H) (row := [.int .i64 (i : Nat), (T i j).1]) rfl hq2 (by rw [tyRows_len]; omega) (by have := Bg hsb2; omega)
      rw [← Qs] at hO3
      have hfo3 := hkp _ _ hfo (by simp [FO])
      refine Ad (Ae rfl ?_)
      refine Ae rfl (Ae rfl ?_)
      refine Ab (by simp only [zo, Gs, overlay, zc, List.take, List.drop, Nat.reduceAdd, Nat.reduceLeDiff, zm, zz12] <;> exact rfl) ?_
      refine Ab (by simp only [zl, zm, List.replicate, Am, Cf, zs, zz12] <;> exact rfl) ?_
      refine Ab (by simp only [Aq, aop, LOp.loud, lop, if_true, opd, zv]; exact hap) ?_
      refine Ah rfl (Aa ?_)
      refine Af ?_
      refine Be (Bo ?_)
      refine Aa (Fv ?_)
      refine G6 (by simp only [ze] <;> exact rfl) ?_
      exact ⟨2 * (ls.length - (j + 1)) + 0, by simp at hnB; omega, j + 1, q3, true, _, l3, x3, _, _, _, _, _, rfl, rfl, hO3, hq3, by rw [h30]; exact hsb2, hfo3, by omega, rfl, .inr ⟨rfl, _, by rw [hf, Gd, if_pos hjl, if_pos hok], rfl⟩⟩
     ·
      have hok : (T i j).2 = false := hcAT4BnF
      refine Ak (Fv ?_)
      refine G6 rfl ?_
      exact ⟨2 * (ls.length - (j + 1)) + 1, by simp at hnB; omega, j + 1, q2, false, _, l2, xo2, _, _, _, _, _, rfl, rfl, hO2, hq2, hsb2, hfo, by omega, rfl, .inl ⟨rfl, by rw [hf, Gd, if_pos hjl, if_neg (by rw [hok]; simp)], rfl⟩⟩
   ·
    refine Ag (Ad ?_)
    refine Ae rfl (R8 ?_)
    refine Aa (Af ?_)
    skip
    refine Ck ?_
    refine Dn (H9 (Jb (Ib (Fv (Br rfl (Be ?_))))))
    refine Ab (by simp only [zo, Bq, zz10] <;> exact rfl) ?_
    refine Ah rfl (Aa ?_)
    refine G6 (by simp only [ze] <;> exact rfl) ?_
    exact ⟨l0.length - (i + 1), by omega, i + 1, j, q2, _, _, xo2, _, _, _, _, _, _, _, _, _, _, by omega, rfl, rfl, rfl, hO2, hq2, hsb2, hj, by rw [Ll_, List.length_cons, List.length_nil]; omega, by rw [hacc, hdr, K8, if_neg (by omega), hf]⟩
 ·
  have hi' : i = l0.length := by have := of_decide_eq_false hcA; omega
  subst hi'
  refine Dn (H9 (Jb (Ib (Br rfl (Ad ?_)))))
  refine Ae rfl (Ab (by simp only [zo]; exact (clip49_run (by omega) hO _)) ?_)
  refine Ae rfl (Ah rfl ?_)
  refine Ah rfl (Bo ?_)
  refine Aa (Af ?_)
  refine Bz ?_
  rw [List.drop_length] at hacc
  rw [K8] at hacc
  rcases hO with ⟨rfl, hto⟩ | ⟨vs, rfl, ho⟩
  ·
   refine ⟨(.tup [.Tk, .int .i64 (used : Nat), .int .i64 0], ⟨H, lo⟩, false), by rw [hacc]; exact ⟨_, _, 0, _, rfl, .inl ⟨rfl, hto⟩, Nat.le_refl _, fun _ _ => rfl, by omega⟩, ?_⟩
   refine ⟨_, by simp only [F23, Ar, Ca, Dt, zg] <;> exact rfl, ?_⟩
   simp [leave, LP, S9, Sw, snap, D.Sz, D.Sy, D.free, D.Td, Am, Db]
  ·
   have hHl : min lo H.length = lo := by omega
   have hne : ¬ l = [] := by intro e; rw [e] at hsb; cases hsb
   have ho' : (H ++ l)[H.length + q]? = some ⟨74, 2, H8 out, vs, 0, true⟩ := by rw [De]; exact ho
   refine ⟨(.tup [.msl (H.length + q) vs 0 (H8 out).length (some (H8 out).length), .int .i64 (used : Nat), .int .i64 0], ⟨H ++ l, lo⟩, true), by rw [hacc]; exact ⟨_, _, H.length + q, _, rfl, .inr ⟨vs, rfl, ho'⟩, by rw [Ll_]; omega, fun k hk => Bv hk, by omega⟩, ?_⟩
   refine ⟨_, by simp only [F23, Ar, Ca, Dt, zg] <;> exact rfl, ?_⟩
   simp [leave, LP, S9, Sw, snap, D.Sz, D.Sy, D.free, D.Td, Am, Db, ho', hHl, hne]

def fm1 : FM := ⟨1, 2, 0, 1, false, false, by decide⟩
def fm2 : FM := ⟨1, 3, 3, 2, true, false, by decide⟩
section
variable (d : Nat) (S : St) (p : Nat)
theorem typed_x : Cz LP NN (d + 20) 48 [.agg [.int .i64 2, .int .i64 4, .int .u8 4, .Tk, .int .u8 5, .int .u8 0, .str ⟨#[90, 90, 57]⟩, .int .i64 3, .int .i64 0, .bool false, .bool false, .bool false, .bool false, .bool false, .int .i64 3, .sl 5 [[.int .u8 1, .str ⟨#[78]⟩, .int .i64 (p : Nat), .int .i64 12, .bool false]] (some 1)], .str ⟨#[120]⟩] S = some (.tup [.Tk, .bool false], S, false) := by kernel_rfl
theorem typed_7 : Cz LP NN (d + 20) 48 [.agg [.int .i64 2, .int .i64 4, .int .u8 4, .Tk, .int .u8 5, .int .u8 0, .str ⟨#[90, 90, 57]⟩, .int .i64 3, .int .i64 0, .bool false, .bool false, .bool false, .bool false, .bool false, .int .i64 3, .sl 5 [[.int .u8 1, .str ⟨#[78]⟩, .int .i64 (p : Nat), .int .i64 12, .bool false]] (some 1)], .str ⟨#[55]⟩] S = some (.tup [.sl 1 [[.int .u8 32], [.int .u8 32], [.int .u8 55]] (some 3), .bool true], S, false) := by kernel_rfl
end
def P0v : List (FM × List UInt8) := [(fm1, [65, 66]), (fm2, [32, 49, 50])]
theorem out_cl : Gw (Ec P0v) 24 = [.str ⟨#[]⟩] :: [.str ⟨#[32, 32, 65, 32, 49, 50]⟩] :: List.replicate 22 [.str ⟨#[]⟩] := by kernel_rfl

def T2 : Nat → Nat → D × Bool := fun _ j => if j = 0 then (.Tk, false) else ((.sl 1 [[.int .u8 32], [.int .u8 32], [.int .u8 55]] (some 3)), true)
theorem acc_cl : K8 T2 2 [fm1, fm2] 0 0 [] = some (2, [(1, (.sl 1 [[.int .u8 32], [.int .u8 32], [.int .u8 55]] (some 3)))]) := by
 have h1 : fm1.kind = 1 := rfl
 have h2 : fm2.kind = 4 := rfl
 rw [K8, if_pos (by rw [h1]; omega), K8, if_neg (by rw [h2]; omega), Gd, if_pos (by omega), if_neg (by simp [T2]), Gd, if_pos (by omega), if_pos (by simp [T2])]
 simp [K8, T2]
theorem SrcV.of {H : List Sk} {gv n vv : Nat} {vals : List D} {gr : Bool} (hg : H[gv]? = some ⟨42, 1, vals.map fun v => [v], vv, 0, gr⟩) (hn : n = vals.length) : SrcV H (.msl gv vv 0 n none) vals gv vv := by
 subst hn
 refine ⟨rfl, rfl, fun m l => ?_, fun l lo i hi => ?_, fun l lo i v hv => ?_⟩
 ·
  rw [Ms, Im, Bv (Bg hg), hg]; simp
 ·
  simp [Fu, rowsOf, Bv (Bg hg), hg, hi]
 ·
  simp [Gy, rowsOf, Bv (Bg hg), hg, hv, Aw]
theorem lives_T (d : Nat) (hd : 20 ≤ d) : ∀ i j p (hi : i < [fm1, fm2].length) (hj : j < ([⟨#[120]⟩, ⟨#[55]⟩] : List ByteArray).length), 3 ≤ ([fm1, fm2][i]).kind → (∀ d', d = d' → ∀ S, Bb LP NN d' 48 [.agg (G9 [fm1, fm2][i] p), .str ([⟨#[120]⟩, ⟨#[55]⟩] : List ByteArray)[j]] S = some (.tup [(T2 i j).1, .bool (T2 i j).2], S, false)) ∧ ∃ ys, SlD 1 ys (T2 i j).1 := by
 intro i j p hi hj hk
 match i, hi, hk with
 | 0, _, hk => exact absurd hk (show ¬ 3 ≤ fm1.kind from by decide)
 | 1, _, _ =>
  match j, hj with
  | 0, _ => exact ⟨fun d' e S => by subst e; obtain ⟨d, rfl⟩ : ∃ d', d = d' + 20 := ⟨d - 20, by omega⟩; exact fast_ok (typed_x d S p), [], .nil 1⟩
  | 1, _ => exact ⟨fun d' e S => by subst e; obtain ⟨d, rfl⟩ : ∃ d', d = d' + 20 := ⟨d - 20, by omega⟩; exact fast_ok (typed_7 d S p), _, .of _ _ _⟩
  | j + 2, h => exact absurd h (by simp)
 | i + 2, h, _ => exact absurd h (by simp)

theorem Qa {d : Nat} (hd : 26 ≤ d) (S : St) : Bb LP NN d 8 [] S = some (.bool true, S, false) := by
 obtain ⟨H', x0, gs, rows, wr, hof, -, -, hFL, hRW, -⟩ := of_run (d := d - 1) (by omega) [] 0 (by simp) (lx := .sl 6 [[.int .u8 1, .int .u8 2, .int .u8 0, .int .u8 1, .bool false, .bool false], [.int .u8 1, .int .u8 3, .int .u8 3, .int .u8 2, .bool true, .bool false]] (some 2)) (l := [fm1, fm2]) (SlD.of 6 (Hf [fm1, fm2]) (some 2)) (by decide)
 obtain ⟨v, hS⟩ := hFL.src
 have hrl : rows.length = 2 := hRW.len
 have hS2 := hS.mono [⟨36, 4, [[.str nmA, Db x0, .int .i64 ((1 : Nat) : Int), .int .i64 ((12 : Nat) : Int)]], 0, 0, false⟩, ⟨5, 1, [[.int .u8 32], [.int .u8 49], [.int .u8 50]], 1, 2, false⟩, ⟨42, 1, [[.Tk], [.sl 1 [[.int .u8 32], [.int .u8 49], [.int .u8 50]] (some 3)]], 0, 0, false⟩]
 have hxl := hS.len
 rw [hrl] at hxl
 have hcl := hS.cell
 have hv : SrcV (H' ++ [⟨36, 4, [[.str nmA, Db x0, .int .i64 ((1 : Nat) : Int), .int .i64 ((12 : Nat) : Int)]], 0, 0, false⟩, ⟨5, 1, [[.int .u8 32], [.int .u8 49], [.int .u8 50]], 1, 2, false⟩, ⟨42, 1, [[.Tk], [.sl 1 [[.int .u8 32], [.int .u8 49], [.int .u8 50]] (some 3)]], 0, 0, false⟩]) (.msl (H'.length + 2) 0 0 2 none) [.Tk, .sl 1 [[.int .u8 32], [.int .u8 49], [.int .u8 50]] (some 3)] (H'.length + 2) 0 := .of (gr := false) (by rw [De]; rfl) rfl
 have hshow := fun lo => show_run (d := d - 1) (by omega) (P := P0v) hS2 hRW hv (by decide) rfl (fun i p w hp hw => by
  match i with
  | 0 => cases hp; cases hw; exact ⟨rfl, rfl⟩
  | 1 => cases hp; cases hw; exact ⟨rfl, by rw [if_neg (by decide)]; exact SlD.rdb (SlD.of 1 (bR [32, 49, 50]) (some 3)) _⟩
  | i + 2 => simp [P0v] at hp) nmA 1 12 lo
 rw [out_cl] at hshow
 have hacc := accept_run (d := d - 1) (by omega) (T := T2) (ls := [⟨#[120]⟩, ⟨#[55]⟩]) (xl := .sl 1 [[.str ⟨#[120]⟩], [.str ⟨#[55]⟩]] (some 2)) (lo := 0) hS2 hRW (SlD.of 1 _ _) (by decide) (by simp) (fun i j p hi hj hk => by
  obtain ⟨h1, h2⟩ := lives_T (d - 1 - 1) (by omega) i j p hi hj hk
  exact ⟨fun d' e S => h1 d' (by omega) S, h2⟩) nmA 1 12 (by omega)
 rw [show ([⟨#[120]⟩, ⟨#[55]⟩] : List ByteArray).length = 2 from rfl, acc_cl] at hacc
 obtain ⟨_, ⟨y, H3, go, wr2, rfl, hTL, -, -, -⟩, hacc⟩ := hacc
 rcases hTL with ⟨-, hbad⟩ | ⟨vs, rfl, h3⟩
 ·
  cases hbad
 have h3' : H3[go]? = some ⟨74, 2, [[.int .i64 1, (.sl 1 [[.int .u8 32], [.int .u8 32], [.int .u8 55]] (some 3))]], vs, 0, true⟩ := h3
 have hol : ∀ i : Nat, 2 ≤ i → i < 24 → (([.str ⟨#[]⟩] :: [.str ⟨#[32, 32, 65, 32, 49, 50]⟩] :: List.replicate 22 [.str ⟨#[]⟩] : List (List D)))[i]? = some [.str ⟨#[]⟩] := fun i h1 h2 => by
  obtain ⟨j, rfl⟩ : ∃ j, i = j + 2 := ⟨i - 2, by omega⟩
  rw [Ls_, Ls_, List.getElem?_replicate, if_pos (by omega)]
 have h3p := h3'
 have h24l : ((⟨#[UInt8.ofNat 32, UInt8.ofNat 32, UInt8.ofNat 55]⟩ : ByteArray).toList == (⟨#[32, 32, 55]⟩ : ByteArray).toList) = true := by decide +kernel
 refine run_pure (F := F8) rfl (by simp only [LP, Am] <;> exact rfl) rfl (by simp only [LP, zm]; try rfl) (by simp only [F8, zv] <;> exact rfl) (by omega) ?_
 rintro d rfl
 have zz2 := And.intro @beq_self_eq_true.{0} (And.intro @Bool.not_true (And.intro hxl (And.intro hcl (And.intro @De (And.intro @Dr (And.intro h3p (h24l)))))))
 refine Ad (Bo ?_)
 refine Aa (Af ?_)
 refine Ad (xo27 ?_)
 refine xo27 ?_
 refine xo25 ?_
 refine Ah rfl (Aa ?_)
 refine Af ?_
 refine Ad (Ae rfl ?_)
 refine Ab (by simp only [zo]; exact hof) ?_
 refine Ah rfl (xo19 ?_)
 refine xo16 ?_
 refine xo9 ?_
 refine xo28 ?_
 refine Ah rfl (Aa ?_)
 refine Af ?_
 refine Ag (Ad ?_)
 refine Ae rfl (Ab (by simp only [zo, unD, zz2] <;> exact rfl) ?_)
 refine Ah rfl (Dv 0 (b := false) ?_)
 refine Aj rfl (xo0 ?_)
 refine Aj rfl (xo24 ?_)
 refine Aj rfl (Ab (by simp only [zo, zz2] <;> exact rfl) ?_)
 refine Aj rfl (xo2 ?_)
 refine xo1 ?_
 refine Aa (Af ?_)
 skip
 refine Ck ?_
 refine Ak (Br rfl (Ad ?_))
 refine xo24 ?_
 refine Nq ?_
 refine Ab (by simp only [zl, zm, Pw, zz2] <;> exact rfl) ?_
 refine Nq ?_
 refine Ab (by simp only [zo]; exact (hshow _)) ?_
 refine Ah rfl (xo19 ?_)
 refine xo16 ?_
 refine Ah rfl (Ah rfl ?_)
 refine Aa (Af ?_)
 refine Ad (xo24 ?_)
 refine Nq ?_
 refine Ab (by simp only [zo]; exact hacc) ?_
 refine Ah rfl (xo19 ?_)
 refine xo16 ?_
 refine xo16 ?_
 refine Ah rfl (Ah rfl ?_)
 refine Ah rfl (Aa ?_)
 refine Af ?_
 refine Ag (Ad ?_)
 refine Ae rfl (xo2 ?_)
 refine Ah rfl (Dv 0 (b := false) ?_)
 refine Aj rfl (Ae rfl ?_)
 refine Aj rfl (xo2 ?_)
 refine xo1 ?_
 refine Ah rfl (Dv 0 (b := false) ?_)
 refine Aj rfl (Ae rfl ?_)
 refine Aj rfl (Ab (by simp only [zo, M9] <;> exact rfl) ?_)
 refine Aj rfl (xo2 ?_)
 refine xo1 ?_
 refine Ah rfl (Dv 0 (b := false) ?_)
 refine Aj rfl (Ae rfl ?_)
 refine Aj rfl (xo7 ?_)
 refine Aj rfl (xo2 ?_)
 refine xo1 ?_
 refine Aa (Af ?_)
 skip
 refine Ck ?_
 refine Ak (Br rfl (Ag (Ad ?_)))
 refine Bo (Aa ?_)
 refine Af ?_
 refine Az ?_
 refine Eb (fun n env S' => ∃ (i : Nat) (u12 u13 : D), 2 ≤ i ∧ i ≤ 24 ∧ n = 24 - i ∧ S' = ⟨H3, 0⟩ ∧ env = [.bool false, .sl 6 [[.int .u8 1, .int .u8 2, .int .u8 0, .int .u8 1, .bool false, .bool false], [.int .u8 1, .int .u8 3, .int .u8 3, .int .u8 2, .bool true, .bool false]] (some 2), .ptr H'.length 0 0 0, .bool true, .sl 1 ([.str ⟨#[]⟩] :: [.str ⟨#[32, 32, 65, 32, 49, 50]⟩] :: List.replicate 22 [.str ⟨#[]⟩]) (some 24), .int .i64 0, .msl go vs 0 1 (some 1), .int .i64 2, .int .i64 0, .int .i64 (i : Nat), .bool false, .bool false, u12, u13]) (22) (by omega) (⟨2, _, _, by omega, by omega, by omega, rfl, rfl⟩) ?_
 rintro n env S' ⟨i, u12, u13, hi2, hi, hnk, rfl, rfl⟩
 refine Ag (Ad ?_)
 refine Ae rfl (xo2 ?_)
 refine Aa (Af ?_)
 refine Ct (by simp only [opd, zv] <;> exact rfl) (fun hcA => ?_) (fun hcA => ?_)
 ·
  have hlt : i < 24 := by have := of_decide_eq_true hcA; omega
  have hw := Dx i (by omega)
  have hii := hol i hi2 hlt
  have h0 : (0 : Int) ≤ (i : Int) := by omega
  refine Ak (Br rfl (Ag (Az (Ad ?_))))
  refine Ae rfl (Ae rfl ?_)
  refine Ab (by simp only [zl, zm, Hd, Int.toNat_natCast, hii, h0] <;> exact rfl) ?_
  refine xo6 ?_
  refine Ps ?_
  refine Aa (Af ?_)
  skip
  refine Ck ?_
  refine Ak (Fv (Br rfl (Be ?_)))
  refine Ae rfl (Ab (by simp only [zo, Bq, hw] <;> exact rfl) ?_)
  refine Ah rfl (Aa ?_)
  refine G6 (by simp only [ze] <;> exact rfl) ?_
  exact ⟨24 - (i + 1), by omega, i + 1, _, _, by omega, by omega, rfl, rfl, rfl⟩
 ·
  have hlt : i = 24 := by have := of_decide_eq_false hcA; omega
  subst hlt
  refine Dn (H9 (Jb (Ib (Br rfl (Ad ?_)))))
  refine Ae rfl (Ab (by simp only [zl, zm, Hd, Int.toNat_zero, Int.le_refl] <;> exact rfl) ?_)
  refine xo6 ?_
  refine Ps ?_
  refine Ah rfl (Dv 0 (b := true) ?_)
  refine Aj rfl (Ae rfl ?_)
  refine Aj rfl (Ab (by simp only [zl, zm, Hd] <;> exact rfl) ?_)
  refine Aj rfl (xo6 ?_)
  refine Aj rfl (Ps ?_)
  refine xo1 ?_
  refine Ah rfl (Dv 0 (b := true) ?_)
  refine Aj rfl (Ae rfl ?_)
  refine Aj rfl (Ab (by simp only [zl, zm, Bf, Int.toNat_zero, Int.le_refl, zz2] <;> exact rfl) ?_)
  refine Aj rfl (xo0 ?_)
  refine Aj rfl (xo24 ?_)
  refine Aj rfl (Ps ?_)
  refine xo1 ?_
  refine Ah rfl (Dv 0 (b := true) ?_)
  refine Aj rfl (Ae rfl ?_)
  refine Aj rfl (Ab (by simp only [zl, zm, Bf, Int.toNat_zero, Int.le_refl, zz2] <;> exact rfl) ?_)
  refine Aj rfl (xo0 ?_)
  refine Aj rfl (xo24 ?_)
  refine Aj rfl (Ab (by simp only [zl, zm, Gm] <;> exact rfl) ?_)
  refine Aj rfl (Ab (by simp only [zo, Bq, Int.reduceToNat, zz2] <;> exact rfl) ?_)
  refine xo1 ?_
  refine Ah rfl (Dv 0 (b := true) ?_)
  refine Aj rfl (Ae rfl ?_)
  refine Aj rfl (Ab (by simp only [zo, Bq, Int.reduceToNat, zz2] <;> exact rfl) ?_)
  refine xo1 ?_
  refine Ah rfl (Aa ?_)
  refine Af ?_
  refine Bz ?_
  refine ⟨_, by simp only [F8, Ar, Ca, Dt, zg] <;> exact rfl, ?_⟩
  simp only [Dz, leave, zs, zf, zk]

def nmC : ByteArray := ⟨#[67]⟩

theorem find36_B {d : Nat} (hd : 3 ≤ d) {H : List Sk} {go v la ca lb cb : Nat} {xa xb : D} {cap : Option Nat} {r : Nat} (hO : H[go]? = some ⟨36, 4, [[.str nmA, xa, .int .i64 (la : Nat), .int .i64 (ca : Nat)], [.str nmB, xb, .int .i64 (lb : Nat), .int .i64 (cb : Nat)]], v, 0, true⟩) (hxa : ∀ m, snap m H xa = some xa) (hca : xa.Tc = true) (hxb : ∀ m, snap m H xb = some xb) (hcb : xb.Tc = true) (hR : H[r]? = some (nmO nmB)) (lo : Nat) :
  Bb LP NN d 36 [.msl go v 0 2 cap, .fn 37 [.ptr r 0 0 0]] ⟨H, lo⟩ = some (.int .i64 1, ⟨H, lo⟩, false) := by
 have hxa0 := hxa
 have hxb0 := hxb
 refine Dk (F := F36) rfl (by simp only [LP, Am, zs, zm, hO, show ((0 : Nat) = 1) = False from by decide, show ((0 : Nat) = 2) = False from by decide, and_false, or_self] <;> exact rfl) rfl (by simp only [LP, zf, zm]; try rfl) (by simp only [F36, zv] <;> exact rfl) (by omega) ?_
 rintro d rfl
 refine Ad (Bo ?_)
 refine Aa (Af ?_)
 refine Ag (Ad ?_)
 refine Ae rfl (xo7 ?_)
 refine Bo (Aa ?_)
 refine Af ?_
 refine Az (Nh ?_)
 refine Hq ?_
 refine Ad (xo2 ?_)
 refine Aa (Af ?_)
 refine Ag ?_
 skip
 refine Gt ?_
 refine Ak (Br rfl (Ag (Az (Ad ?_))))
 refine Ae rfl (Ah rfl ?_)
 refine Aa (Af ?_)
 refine Ad (Ae rfl ?_)
 refine Ae rfl (Ae rfl ?_)
 refine Ab (by simp only [zl, zm, Bf, Int.toNat_zero, Int.le_refl, hO] <;> exact rfl) ?_
 refine Ab (by simp only [zl, zm, zd, Aw, List.take, List.drop, hO] <;> exact rfl) ?_
 first
  | refine Ab (by simp only [zo]; exact (Kt (by omega) hR (hxa0 _) hca _).trans (congrArg (fun b => some (D.bool b, _, false)) (show (nmA.toList == nmB.toList) = false from by decide +kernel))) ?_
  | refine Ab (by simp only [zo, hO]; exact (Kt (by omega) hR (hxb0 _) hcb _).trans (congrArg (fun b => some (D.bool b, _, false)) (show (nmB.toList == nmB.toList) = true from by decide +kernel))) ?_
 refine Aa (Af ?_)
 skip
 refine Ck ?_
 refine Ak (Fv (Br rfl (Be ?_)))
 refine xo2 ?_
 refine Ah rfl (Aa ?_)
 refine lu_n (by simp only [ze] <;> exact rfl) ?_
 refine Hq ?_
 refine Ad (xo2 ?_)
 refine Aa (Af ?_)
 refine Ag ?_
 skip
 refine Gt ?_
 refine Ak (Br rfl (Ag (Az (Ad ?_))))
 refine Ae rfl (Ah rfl ?_)
 refine Aa (Af ?_)
 refine Ad (Ae rfl ?_)
 refine Ae rfl (Ae rfl ?_)
 refine Ab (by simp only [zl, zm, Bf, hO] <;> exact rfl) ?_
 refine Ab (by simp only [zl, zm, zd, Aw, List.drop, hO] <;> exact rfl) ?_
 first
  | refine Ab (by simp only [zo]; exact (Kt (by omega) hR (hxa0 _) hca _).trans (congrArg (fun b => some (D.bool b, _, false)) (show (nmA.toList == nmB.toList) = false from by decide +kernel))) ?_
  | refine Ab (by simp only [zo]; exact (Kt (by omega) hR (hxb0 _) hcb _).trans (congrArg (fun b => some (D.bool b, _, false)) (show (nmB.toList == nmB.toList) = true from by decide +kernel))) ?_
 refine Aa (Af ?_)
 skip
 refine Gt ?_
 refine Ad (Ae rfl ?_)
 refine Ah rfl (Aa ?_)
 refine Af ?_
 refine Bz (Pn (Ig (lu_r (Pn (Ig ?_)))))
 refine ⟨_, by simp only [F36, Ar, Ca, Dt, zg] <;> exact rfl, ?_⟩
 simp [leave, LP, S9, Sw, snap, D.Sz, D.Sy, D.free, D.Td, show IntKind.i64.wrap 1 = 1 from by decide]

theorem find_B {d : Nat} (hd : 5 ≤ d) {H : List Sk} {go v la ca lb cb : Nat} {xa xb : D} {cap : Option Nat} (hO : H[go]? = some ⟨36, 4, [[.str nmA, xa, .int .i64 (la : Nat), .int .i64 (ca : Nat)], [.str nmB, xb, .int .i64 (lb : Nat), .int .i64 (cb : Nat)]], v, 0, true⟩) (hxa : ∀ m l, snap m (H ++ l) xa = some xa) (hca : xa.Tc = true) (hxb : ∀ m l, snap m (H ++ l) xb = some xb) (hcb : xb.Tc = true) (lo : Nat) :
  Bb LP NN d 12 [.msl go v 0 2 cap, .str nmB] ⟨H, lo⟩ = some (.tup [.int .i64 1, .int .i64 0], ⟨H, lo⟩, false) := by
 have hol := Bg hO
 refine Dk (F := F12) rfl (by simp only [LP, Am, zs, zm, hO, show ((0 : Nat) = 1) = False from by decide, show ((0 : Nat) = 2) = False from by decide, and_false, or_self] <;> exact rfl) rfl (by simp only [LP, zf, zm, Bool.and_false]; try rfl) (by simp only [F12, zv] <;> exact rfl) (by omega) ?_
 rintro d rfl
 refine Ad (Ab (by simp only [zl, zm, zc] <;> exact rfl) ?_)
 refine Bo (Bo ?_)
 refine Aa (Af ?_)
 refine Ad (Ae rfl ?_)
 refine xo1 ?_
 refine Ab (by simp only [zo]; exact find36_B (by omega) (by rw [Bv hol]; exact hO) (fun m => hxa m _) hca (fun m => hxb m _) hcb (Dr H _) _) ?_
 refine Ah rfl (Aa ?_)
 refine Af ?_
 refine Ag (Ad ?_)
 refine Ae rfl (Ab (by simp only [zo, Bq, Int.reduceLT] <;> exact rfl) ?_)
 refine Aa (Af ?_)
 skip
 refine Ck ?_
 refine Ak (Br rfl (Ad ?_))
 refine Ae rfl (Ah rfl ?_)
 refine Bo (Aa ?_)
 refine Af ?_
 refine Bz ?_
 refine ⟨_, by simp only [F12, Ar, Ca, Dt, zg] <;> exact rfl, ?_⟩
 simp [leave, LP, S9, Sw, snap, D.Sz, D.Sy, D.free, D.Td, Am]

theorem find36_C {d : Nat} (hd : 3 ≤ d) {H : List Sk} {go v la ca lb cb : Nat} {xa xb : D} {cap : Option Nat} {r : Nat} (hO : H[go]? = some ⟨36, 4, [[.str nmA, xa, .int .i64 (la : Nat), .int .i64 (ca : Nat)], [.str nmB, xb, .int .i64 (lb : Nat), .int .i64 (cb : Nat)]], v, 0, true⟩) (hxa : ∀ m, snap m H xa = some xa) (hca : xa.Tc = true) (hxb : ∀ m, snap m H xb = some xb) (hcb : xb.Tc = true) (hR : H[r]? = some (nmO nmC)) (lo : Nat) :
  Bb LP NN d 36 [.msl go v 0 2 cap, .fn 37 [.ptr r 0 0 0]] ⟨H, lo⟩ = some (.int .i64 (-1), ⟨H, lo⟩, false) := by
 have hxa0 := hxa
 have hxb0 := hxb
 refine Dk (F := F36) rfl (by simp only [LP, Am, zs, zm, hO, show ((0 : Nat) = 1) = False from by decide, show ((0 : Nat) = 2) = False from by decide, and_false, or_self] <;> exact rfl) rfl (by simp only [LP, zf, zm]; try rfl) (by simp only [F36, zv] <;> exact rfl) (by omega) ?_
 rintro d rfl
 refine Ad (Bo ?_)
 refine Aa (Af ?_)
 refine Ag (Ad ?_)
 refine Ae rfl (xo7 ?_)
 refine Bo (Aa ?_)
 refine Af ?_
 refine Az (Nh ?_)
 refine Hq ?_
 refine Ad (xo2 ?_)
 refine Aa (Af ?_)
 refine Ag ?_
 skip
 refine Gt ?_
 refine Ak (Br rfl (Ag (Az (Ad ?_))))
 refine Ae rfl (Ah rfl ?_)
 refine Aa (Af ?_)
 refine Ad (Ae rfl ?_)
 refine Ae rfl (Ae rfl ?_)
 refine Ab (by simp only [zl, zm, Bf, Int.toNat_zero, Int.le_refl, hO] <;> exact rfl) ?_
 refine Ab (by simp only [zl, zm, zd, Aw, List.take, List.drop, hO] <;> exact rfl) ?_
 first
  | refine Ab (by simp only [zo]; exact (Kt (by omega) hR (hxa0 _) hca _).trans (congrArg (fun b => some (D.bool b, _, false)) (show (nmA.toList == nmC.toList) = false from by decide +kernel))) ?_
  | refine Ab (by simp only [zo, hO]; exact (Kt (by omega) hR (hxb0 _) hcb _).trans (congrArg (fun b => some (D.bool b, _, false)) (show (nmB.toList == nmC.toList) = false from by decide +kernel))) ?_
 refine Aa (Af ?_)
 skip
 refine Ck ?_
 refine Ak (Fv (Br rfl (Be ?_)))
 refine xo2 ?_
 refine Ah rfl (Aa ?_)
 refine lu_n (by simp only [ze] <;> exact rfl) ?_
 refine Hq ?_
 refine Ad (xo2 ?_)
 refine Aa (Af ?_)
 refine Ag ?_
 skip
 refine Gt ?_
 refine Ak (Br rfl (Ag (Az (Ad ?_))))
 refine Ae rfl (Ah rfl ?_)
 refine Aa (Af ?_)
 refine Ad (Ae rfl ?_)
 refine Ae rfl (Ae rfl ?_)
 refine Ab (by simp only [zl, zm, Bf, hO] <;> exact rfl) ?_
 refine Ab (by simp only [zl, zm, zd, Aw, List.drop, hO] <;> exact rfl) ?_
 first
  | refine Ab (by simp only [zo]; exact (Kt (by omega) hR (hxa0 _) hca _).trans (congrArg (fun b => some (D.bool b, _, false)) (show (nmA.toList == nmC.toList) = false from by decide +kernel))) ?_
  | refine Ab (by simp only [zo]; exact (Kt (by omega) hR (hxb0 _) hcb _).trans (congrArg (fun b => some (D.bool b, _, false)) (show (nmB.toList == nmC.toList) = false from by decide +kernel))) ?_
 refine Aa (Af ?_)
 skip
 refine Ck ?_
 refine Ak (Fv (Br rfl (Be ?_)))
 refine xo2 ?_
 refine Ah rfl (Aa ?_)
 refine lu_n (by simp only [ze] <;> exact rfl) ?_
 refine Hq ?_
 refine Ad (xo2 ?_)
 refine Aa (Af ?_)
 refine Ag ?_
 skip
 refine Ck ?_
 refine Dn (H9 (lu_e (Ib (Br rfl (Ad ?_)))))
 refine Bo (Aa ?_)
 refine Af ?_
 refine Bz ?_
 refine ⟨_, by simp only [F36, Ar, Ca, Dt, zg] <;> exact rfl, ?_⟩
 simp [leave, LP, S9, Sw, snap, D.Sz, D.Sy, D.free, D.Td]

theorem find_C {d : Nat} (hd : 5 ≤ d) {H : List Sk} {go v la ca lb cb : Nat} {xa xb : D} {cap : Option Nat} (hO : H[go]? = some ⟨36, 4, [[.str nmA, xa, .int .i64 (la : Nat), .int .i64 (ca : Nat)], [.str nmB, xb, .int .i64 (lb : Nat), .int .i64 (cb : Nat)]], v, 0, true⟩) (hxa : ∀ m l, snap m (H ++ l) xa = some xa) (hca : xa.Tc = true) (hxb : ∀ m l, snap m (H ++ l) xb = some xb) (hcb : xb.Tc = true) (lo : Nat) :
  Bb LP NN d 12 [.msl go v 0 2 cap, .str nmC] ⟨H, lo⟩ = some (.tup [.int .i64 0, .int .i64 7], ⟨H, lo⟩, false) := by
 have hol := Bg hO
 refine Dk (F := F12) rfl (by simp only [LP, Am, zs, zm, hO, show ((0 : Nat) = 1) = False from by decide, show ((0 : Nat) = 2) = False from by decide, and_false, or_self] <;> exact rfl) rfl (by simp only [LP, zf, zm, Bool.and_false]; try rfl) (by simp only [F12, zv] <;> exact rfl) (by omega) ?_
 rintro d rfl
 refine Ad (Ab (by simp only [zl, zm, zc] <;> exact rfl) ?_)
 refine Bo (Bo ?_)
 refine Aa (Af ?_)
 refine Ad (Ae rfl ?_)
 refine xo1 ?_
 refine Ab (by simp only [zo]; exact find36_C (by omega) (by rw [Bv hol]; exact hO) (fun m => hxa m _) hca (fun m => hxb m _) hcb (Dr H _) _) ?_
 refine Ah rfl (Aa ?_)
 refine Af ?_
 refine Ag (Ad ?_)
 refine Ae rfl (Ab (by simp only [zo, Bq, Int.reduceLT] <;> exact rfl) ?_)
 refine Aa (Af ?_)
 skip
 refine Gt ?_
 refine Ad (Bo ?_)
 refine Bo (Aa ?_)
 refine Af ?_
 refine Bz (Ig ?_)
 refine ⟨_, by simp only [F12, Ar, Ca, Dt, zg, zm] <;> exact rfl, ?_⟩
 simp [leave, LP, S9, Sw, snap, D.Sz, D.Sy, D.free, D.Td, Am]

theorem law3_run {d : Nat} (hd : 30 ≤ d) (S : St) {a b : List FM} {ax bx : D} (ha : SlD 6 (Hf a) ax) (hb : SlD 6 (Hf b) bx) : Bb LP NN d 3 [ax, bx] S = some (.bool true, S, false) := by
 refine run_pure (F := F3) rfl (by simp only [LP, Am, ha.Sw, hb.Sw] <;> exact rfl) rfl (by simp only [LP, zm, ha.Sy, hb.Sy]; try rfl) (by simp only [F3, zv] <;> exact rfl) (by omega) ?_
 rintro d rfl
 refine Ad (Bo ?_)
 refine Aa (Af ?_)
 refine Ag (Ad ?_)
 refine Ae rfl (Ab (by simp only [zo, ha.len, Da] <;> exact rfl) ?_)
 refine xo2 ?_
 refine Ah rfl ?_
 refine Ox 0 (by simp only [zv] <;> exact rfl) (by simp only [zn] <;> exact rfl) (by simp only [zn] <;> exact rfl) (fun hg => ?_) (fun hg => ?_)
 ·
  refine Dc rfl rfl ?_
  refine Dc rfl rfl ?_
  refine Dc rfl rfl ?_
  refine xo1 ?_
  refine Aa (Af ?_)
  refine cw_true (by simp only [opd, zv]) ?_
  refine Ad (Ab (by simp only [zo]; exact Qa (by omega) _) ?_)
  refine Ah rfl (Aa ?_)
  refine Af ?_
  refine Bz (Ig ?_)
  refine ⟨_, by simp only [F3, Ar, Ca, Dt, zg] <;> exact rfl, ?_⟩
  simp only [Dz, leave, zs, zf, zk]
 ·
  refine Aj rfl (Ae rfl ?_)
  refine Aj rfl (Ab (by simp only [zo, hb.len, Da] <;> exact rfl) ?_)
  refine Aj rfl (xo2 ?_)
  refine xo1 ?_
  refine Aa (Af ?_)
  refine Ct (by simp only [opd, zv] <;> exact rfl) (fun hcF => ?_) (fun hcF => ?_)
  ·
   refine Ad (Ab (by simp only [zo]; exact Qa (by omega) _) ?_)
   refine Ah rfl (Aa ?_)
   refine Af ?_
   refine Bz (Ig ?_)
   refine ⟨_, by simp only [F3, Ar, Ca, Dt, zg] <;> exact rfl, ?_⟩
   simp only [Dz, leave, zs, zf, zk]
  ·
   have hla : a.length ≤ 20 := by have := of_decide_eq_false hg; omega
   have hlb : b.length ≤ 20 := by have := of_decide_eq_false hcF; omega
   obtain ⟨_, ⟨H', go, ga, gs, xa, xb, lb, ra, rb, rfl, hP⟩, hrun⟩ := parse_all (d := d) (by omega) [] 0 a b hla hlb
   have ho := hP.ho
   have hol := Bg ho
   obtain ⟨va, hSa⟩ := hP.fa.src
   obtain ⟨vb, hSb⟩ := hP.fb.src
   have hwa := hP.wa
   have hwb := hP.wb
   have hra := hwa.len
   have hrb := hwb.len
   have hxla := hSa.len
   have hxlb := hSb.len
   rw [hra] at hxla
   rw [hrb] at hxlb
   have hca := hSa.cell
   have hcb := hSb.cell
   have hp0 : (Ee 1 (Gg a b))[0]? = some (tkR 2 (Fb 1) 1 12) := (posR_at (by simp [Gg, Gq])).trans (by simp [Gg, Gq])
   rw [show min 0 ([] : List Sk).length = 0 from rfl] at hrun
   have hfb := find_B (d := d) (by omega) (cap := some 2) ho hSa.snap hca hSb.snap hcb
   have hpl : (0 : Int) ≤ 0 := by omega
   have hneA : (nmA.toList == (⟨#[65]⟩ : ByteArray).toList) = true := by decide +kernel
   have hneB : (nmB.toList == (⟨#[66]⟩ : ByteArray).toList) = true := by decide +kernel
   have zz2 := And.intro ho (And.intro hxla (And.intro hxlb (And.intro ha.len (And.intro hb.len (And.intro hca (And.intro hcb (And.intro hp0 (And.intro hneA (And.intro hneB (And.intro @Bool.not_true (And.intro @bne_self_eq_false.{0} (And.intro @De (And.intro @Dr (And.intro @beq_self_eq_true.{0} (@Bool.and_self)))))))))))))))
   refine Ak (Br rfl (Ad ?_))
   refine Ae rfl (Ae rfl ?_)
   refine Ab (by simp only [zo]; exact Q3 (by omega) _ ha hb hla hlb) ?_
   refine Ah rfl (Aa ?_)
   refine Af ?_
   refine Ad (Ae rfl ?_)
   refine Ab (by simp only [zo]; exact hrun) ?_
   refine Ah rfl (xo19 ?_)
   refine xo16 ?_
   refine xo9 ?_
   refine Ah rfl (xo28 ?_)
   refine Aa (Af ?_)
   refine Ag (Ag ?_)
   refine F5 (by simp only [Cv, zw, Nat.reduceAdd] <;> exact rfl) (by simp only [zw] <;> exact rfl) ?_
   refine Bu (by simp only [zl, zm, zd, Aw, List.take, List.drop, zz2] <;> exact rfl) rfl ?_
   refine Ay (by simp only [zo, Gs, Nat.reduceAdd, zm] <;> exact rfl) rfl rfl ?_
   refine Ay (by simp only [zo, Ch, Es, isKey, zz2] <;> exact rfl) rfl rfl ?_
   refine Dq rfl rfl (Iw 0 (b := false) ?_)
   refine Bt rfl (Bp rfl rfl ?_)
   refine Bt rfl (Ay (by simp only [zo, Lx] <;> exact rfl) rfl rfl ?_)
   refine Bt rfl (Ay (by simp only [zo, Bq] <;> exact rfl) rfl rfl ?_)
   refine xo5 rfl rfl ?_
   refine Dq rfl rfl (Iw 0 (b := false) ?_)
   refine Bt rfl (Bp rfl rfl ?_)
   refine Bt rfl (Ay (by simp only [zo, capD_msl] <;> exact rfl) rfl rfl ?_)
   refine Bt rfl (Ay (by simp only [zo, Bq] <;> exact rfl) rfl rfl ?_)
   refine xo5 rfl rfl ?_
   refine Dq rfl rfl (Iw 0 (b := false) ?_)
   refine Bt rfl (Bp rfl rfl ?_)
   refine Bt rfl (Bu (by simp only [zl, zm, Bf, Int.toNat_zero, Int.le_refl, Bv hol, zz2] <;> exact rfl) rfl ?_)
   refine Bt rfl (xo3 rfl rfl ?_)
   refine Bt rfl (Bu (by simp only [zl, zm, zd, Aw, List.take, List.drop, Bv hol, zz2] <;> exact rfl) rfl ?_)
   refine Bt rfl (xo22 rfl rfl ?_)
   refine xo5 rfl rfl ?_
   refine Dq rfl rfl (Iw 0 (b := false) ?_)
   refine Bt rfl (Bp rfl rfl ?_)
   refine Bt rfl (Bu (by simp only [zl, zm, Bf, Bv hol, show ((1:Int).toNat) = 1 from rfl, show ((0:Int) ≤ 1) = True from by decide, zz2] <;> exact rfl) rfl ?_)
   refine Bt rfl (xo3 rfl rfl ?_)
   refine Bt rfl (Bu (by simp only [zl, zm, zd, Aw, List.take, List.drop, Bv hol, zz2] <;> exact rfl) rfl ?_)
   refine Bt rfl (xo22 rfl rfl ?_)
   refine xo5 rfl rfl ?_
   refine Dq rfl rfl (Iw 0 (b := false) ?_)
   refine Bt rfl (Bp rfl rfl ?_)
   refine Bt rfl (Bu (by simp only [zl, zm, Bf, Int.toNat_zero, Int.le_refl, Bv hol, zz2] <;> exact rfl) rfl ?_)
   refine Bt rfl (xo3 rfl rfl ?_)
   refine Bt rfl (Bu (by simp only [zl, zm, zd, Aw, List.take, List.drop, Bv hol, zz2] <;> exact rfl) rfl ?_)
   refine Bt rfl (Ay (by simp only [zo, zz2] <;> exact rfl) rfl rfl ?_)
   refine Bt rfl (Bp rfl rfl ?_)
   refine Bt rfl (Ay (by simp only [zo, ha.len, Da, Da] <;> exact rfl) rfl rfl ?_)
   refine Bt rfl (xo22 rfl rfl ?_)
   refine xo5 rfl rfl ?_
   refine Dq rfl rfl (Iw 0 (b := false) ?_)
   refine Bt rfl (Bp rfl rfl ?_)
   refine Bt rfl (Bu (by simp only [zl, zm, Bf, Bv hol, show ((1:Int).toNat) = 1 from rfl, show ((0:Int) ≤ 1) = True from by decide, zz2] <;> exact rfl) rfl ?_)
   refine Bt rfl (xo3 rfl rfl ?_)
   refine Bt rfl (Bu (by simp only [zl, zm, zd, Aw, List.take, List.drop, Bv hol, zz2] <;> exact rfl) rfl ?_)
   refine Bt rfl (Ay (by simp only [zo, zz2] <;> exact rfl) rfl rfl ?_)
   refine Bt rfl (Bp rfl rfl ?_)
   refine Bt rfl (Ay (by simp only [zo, hb.len, Da, Da] <;> exact rfl) rfl rfl ?_)
   refine Bt rfl (xo22 rfl rfl ?_)
   refine xo5 rfl rfl ?_
   refine Dq rfl rfl (Iw 0 (b := false) ?_)
   refine Bt rfl (Bp rfl rfl ?_)
   refine Bt rfl (Bu (by simp only [zl, zm, Bf, Int.toNat_zero, Int.le_refl, Bv hol, zz2] <;> exact rfl) rfl ?_)
   refine Bt rfl (xo3 rfl rfl ?_)
   refine Bt rfl (Bu (by simp only [zl, zm, zd, Aw, List.take, List.drop, Bv hol, zz2] <;> exact rfl) rfl ?_)
   refine Bt rfl (Bp rfl rfl ?_)
   refine Bt rfl (Bu (by simp only [zl, zm, Hd, Int.toNat_zero, Int.le_refl, tkR, zz2] <;> exact rfl) rfl ?_)
   refine Bt rfl (xo8 rfl rfl ?_)
   refine Bt rfl (xo4 rfl ?_)
   refine Bt rfl (Ay (by simp only [zo, Ch, Es, isKey, zz2] <;> exact rfl) rfl rfl ?_)
   refine xo5 rfl rfl ?_
   refine Cu ?_
   refine Af ?_
   skip
   refine Ck ?_
   refine Ak (Br rfl (Ag (Ad ?_)))
   refine Bo (Aa ?_)
   refine Af ?_
   refine Az ?_
   refine Eb (fun n env S' => ∃ (i : Nat) (u13 u14 : D), i ≤ a.length ∧ n = a.length - i ∧ S' = ⟨H' ++ [⟨31, 3, [[.int .i64 0, .int .i64 0, .int .i64 0]], 0, 0, false⟩], 0⟩ ∧ env = [ax, bx, .bool false, .sl 5 (Ee 1 (Gg a b)) none, .msl go 1 0 2 (some 2), .ptr H'.length 0 0 0, .int .i64 (i : Nat), .undef, .undef, .undef, .undef, .bool (decide (((b.length : Nat) : Int) > 20)), .bool false, u13, u14, .undef, .undef]) (a.length) (by omega) (⟨0, _, _, by omega, by omega, rfl, rfl⟩) ?_
   rintro n env S' ⟨i, u13, u14, hi, hnk, rfl, rfl⟩
   refine Ag (Ad ?_)
   refine Ae rfl (Ae rfl ?_)
   refine Ab (by simp only [zo, ha.len, Da, Da] <;> exact rfl) ?_
   refine xo2 ?_
   refine Aa (Af ?_)
   refine Ct (by simp only [opd, zv] <;> exact rfl) (fun hcFFA => ?_) (fun hcFFA => ?_)
   ·
    have hlt : i < a.length := by have := of_decide_eq_true hcFFA; omega
    have hw := Dx i (by omega)
    have hia := fun (S : St) => ha.iaddrN S .i64 (Ng hlt)
    have hix := fun l lo => hSa.ia l lo i (by omega)
    obtain ⟨p, hrow⟩ := hwa.at_ hlt
    have hld := fun (l : List Sk) lo => hSa.ld l lo i _ hrow (by rw [Jk]; exact Nat.le_refl _)
    rw [Jj] at hld
    have hal := fun S => alike_run (d := d) (by omega) S a[i] p
    have zz3 := And.intro hw (And.intro hia (And.intro hix (hld)))
    refine Ak (Br rfl (Ag (Az (Ag ?_))))
    refine Eo ?_
    refine Bp rfl rfl (Bu (by simp only [zl, zm, Bf, Int.toNat_zero, Int.le_refl, Bv hol, zz2] <;> exact rfl) rfl ?_)
    refine xo3 rfl rfl ?_
    refine Bu (by simp only [zl, zm, zd, Aw, List.take, List.drop, Bv hol, zz2] <;> exact rfl) rfl ?_
    refine Bp rfl rfl (Cb (by simp only [zl, zm, zz3] <;> exact rfl) (by simp only [Ba, zo, hSa.fpi] <;> exact rfl) rfl ?_)
    refine Bu (by simp only [zl, zm, zz3] <;> exact rfl) rfl ?_
    refine Bp rfl rfl (Bp rfl rfl ?_)
    refine Cb (by simp only [zl, zm, FM.row, zz3] <;> exact rfl) (by simp only [Ba, zo, ha.fpi] <;> exact rfl) rfl ?_
    refine xo4 rfl ?_
    refine Bu (by simp only [zo]; exact hal _) rfl ?_
    refine Ay (by simp only [zo, unD, zz2] <;> exact rfl) rfl rfl ?_
    refine Cu ?_
    refine Af ?_
    skip
    refine Ck ?_
    refine Ak (Fv (Br rfl (Be ?_)))
    refine Ae rfl (Ab (by simp only [zo, Bq, zz3] <;> exact rfl) ?_)
    refine Ah rfl (Aa ?_)
    refine G6 (by simp only [ze] <;> exact rfl) ?_
    exact ⟨a.length - (i + 1), by omega, i + 1, _, _, by omega, rfl, rfl, rfl⟩
   ·
    have hi' : i = a.length := by have := of_decide_eq_false hcFFA; omega
    subst hi'
    refine Dn (H9 (Jb (Ib (Br rfl (Ag (Ad ?_))))))
    refine Bo (Aa ?_)
    refine Af ?_
    refine Az ?_
    refine Eb (fun n env S' => ∃ (i : Nat) (w13 u15 u16 : D), i ≤ b.length ∧ n = b.length - i ∧ S' = ⟨H' ++ [⟨31, 3, [[.int .i64 0, .int .i64 0, .int .i64 0]], 0, 0, false⟩], 0⟩ ∧ env = [ax, bx, .bool false, .sl 5 (Ee 1 (Gg a b)) none, .msl go 1 0 2 (some 2), .ptr H'.length 0 0 0, .int .i64 (a.length : Nat), .int .i64 (i : Nat), .undef, .undef, .undef, .bool (decide (((b.length : Nat) : Int) > 20)), .bool false, w13, u14, u15, u16]) (b.length) (by omega) (⟨0, _, _, _, by omega, by omega, rfl, rfl⟩) ?_
    rintro n env S' ⟨i, w13, u15, u16, hi, hnk, rfl, rfl⟩
    refine Ag (Ad ?_)
    refine Ae rfl (Ae rfl ?_)
    refine Ab (by simp only [zo, hb.len, Da, Da] <;> exact rfl) ?_
    refine xo2 ?_
    refine Aa (Af ?_)
    refine Ct (by simp only [opd, zv] <;> exact rfl) (fun hcFFAFB => ?_) (fun hcFFAFB => ?_)
    ·
     have hlt : i < b.length := by have := of_decide_eq_true hcFFAFB; omega
     have hw := Dx i (by omega)
     have hia := fun (S : St) => hb.iaddrN S .i64 (Ng hlt)
     have hix := fun l lo => hSb.ia l lo i (by omega)
     obtain ⟨p, hrow⟩ := hwb.at_ hlt
     have hld := fun (l : List Sk) lo => hSb.ld l lo i _ hrow (by rw [Jk]; exact Nat.le_refl _)
     rw [Jj] at hld
     have hal := fun S => alike_run (d := d) (by omega) S b[i] p
     have zz4 := And.intro hw (And.intro hia (And.intro hix (hld)))
     refine Ak (Br rfl (Ag (Az (Ag ?_))))
     refine Eo ?_
     refine Bp rfl rfl (Bu (by simp only [zl, zm, Bf, Bv hol, show ((1:Int).toNat) = 1 from rfl, show ((0:Int) ≤ 1) = True from by decide, zz2] <;> exact rfl) rfl ?_)
     refine xo3 rfl rfl ?_
     refine Bu (by simp only [zl, zm, zd, Aw, List.take, List.drop, Bv hol, zz2] <;> exact rfl) rfl ?_
     refine Bp rfl rfl (Cb (by simp only [zl, zm, zz4] <;> exact rfl) (by simp only [Ba, zo, hSb.fpi] <;> exact rfl) rfl ?_)
     refine Bu (by simp only [zl, zm, zz4] <;> exact rfl) rfl ?_
     refine Bp rfl rfl (Bp rfl rfl ?_)
     refine Cb (by simp only [zl, zm, FM.row, zz4] <;> exact rfl) (by simp only [Ba, zo, hb.fpi] <;> exact rfl) rfl ?_
     refine xo4 rfl ?_
     refine Bu (by simp only [zo]; exact hal _) rfl ?_
     refine Ay (by simp only [zo, unD, zz2] <;> exact rfl) rfl rfl ?_
     refine Cu ?_
     refine Af ?_
     skip
     refine Ck ?_
     refine Ak (Fv (Br rfl (Be ?_)))
     refine Ae rfl (xo18 ?_)
     refine Ah rfl (Aa ?_)
     refine G6 (by simp only [ze] <;> exact rfl) ?_
     exact ⟨b.length - (i + 1), by omega, i + 1, _, _, _, by omega, rfl, rfl, rfl⟩
    ·
     have hi' : i = b.length := by have := of_decide_eq_false hcFFAFB; omega
     subst hi'
     refine Dn (H9 (Jb (Ib (Br rfl (Ad ?_)))))
     refine Ae rfl ?_
     first
      | refine Ab (by simp only [zo]; exact find_B (by omega) (by rw [Bv hol]; exact ho) (fun m l => by rw [Lo_]; exact hSa.snap m _) hca (fun m l => by rw [Lo_]; exact hSb.snap m _) hcb _) ?_
      | refine Ab (by simp only [zo, ha.len, hb.len, Da, Bv hol, Da, tkR, Em, Et, isKey, Int.reduceToNat, show ((0:Int) < 2) = True from by decide, show ((1:Int) < 2) = True from by decide, show ((1:Int).toNat) = 1 from rfl, show ((0:Int) ≤ 1) = True from by decide, zz2]; exact find_C (by omega) (by rw [Bv hol]; exact ho) (fun m l => by rw [Lo_]; exact hSa.snap m _) hca (fun m l => by rw [Lo_]; exact hSb.snap m _) hcb _) ?_
     refine Ah rfl (xo19 ?_)
     refine xo16 ?_
     refine Ah rfl (Ah rfl ?_)
     refine Aa (Af ?_)
     refine Ad (Ae rfl ?_)
     first
      | refine Ab (by simp only [zo]; exact find_B (by omega) (by rw [Bv hol]; exact ho) (fun m l => by rw [Lo_]; exact hSa.snap m _) hca (fun m l => by rw [Lo_]; exact hSb.snap m _) hcb _) ?_
      | refine Ab (by simp only [zo]; exact find_C (by omega) (by rw [Bv hol]; exact ho) (fun m l => by rw [Lo_]; exact hSa.snap m _) hca (fun m l => by rw [Lo_]; exact hSb.snap m _) hcb _) ?_
     refine Ah rfl (xo19 ?_)
     refine xo16 ?_
     refine Ah rfl (Ah rfl ?_)
     refine Aa (Af ?_)
     refine Ad (Ae rfl ?_)
     refine Ps ?_
     refine Ah rfl (Dv 0 (b := true) ?_)
     refine Aj rfl (Ae rfl ?_)
     refine Aj rfl (Ps ?_)
     refine xo1 ?_
     refine Ah rfl (Dv 0 (b := true) ?_)
     refine Aj rfl (Ae rfl ?_)
     refine Aj rfl (Ps ?_)
     refine xo1 ?_
     refine Ah rfl (Dv 0 (b := true) ?_)
     refine Aj rfl (Ae rfl ?_)
     refine Aj rfl (Ab (by simp only [zl, zm, Bf, Int.toNat_zero, Int.le_refl, Bv hol, zz2] <;> exact rfl) ?_)
     refine Aj rfl (Ab (by simp only [zl, zm, zd, Aw, List.take, List.drop, Bv hol, zz2] <;> exact rfl) ?_)
     refine Aj rfl ?_
     first
      | refine Ab (by simp only [zo]; exact Il (by omega) (hSa.mono _) hwa (by omega) _ _ _ _) ?_
      | refine Ab (by simp only [zo, ha.len, hb.len, Da, Bv hol, Da, tkR, Em, Et, isKey, Int.reduceToNat, show ((0:Int) < 2) = True from by decide, show ((1:Int) < 2) = True from by decide, show ((1:Int).toNat) = 1 from rfl, show ((0:Int) ≤ 1) = True from by decide, zz2]; exact Il (by omega) (hSb.mono _) hwb (by omega) _ _ _ _) ?_
     refine Aj rfl (Ps ?_)
     refine xo1 ?_
     refine Ah rfl (Dv 0 (b := true) ?_)
     refine Aj rfl (Ae rfl ?_)
     refine Aj rfl (Ab (by simp only [zl, zm, Bf, Bv hol, show ((1:Int).toNat) = 1 from rfl, show ((0:Int) ≤ 1) = True from by decide, zz2] <;> exact rfl) ?_)
     refine Aj rfl (Ab (by simp only [zl, zm, zd, Aw, List.take, List.drop, Bv hol, zz2] <;> exact rfl) ?_)
     refine Aj rfl ?_
     first
      | refine Ab (by simp only [zo]; exact Il (by omega) (hSa.mono _) hwa (by omega) _ _ _ _) ?_
      | refine Ab (by simp only [zo]; exact Il (by omega) (hSb.mono _) hwb (by omega) _ _ _ _) ?_
     refine Aj rfl (Ps ?_)
     refine xo1 ?_
     refine Ah rfl (Dv 0 (b := true) ?_)
     refine Aj rfl (Ab (by simp only [zo]; exact Qa (by omega) _) ?_)
     refine xo1 ?_
     refine Ah rfl (Aa ?_)
     refine Af ?_
     refine Bz ?_
     refine ⟨_, by simp only [F3, Ar, Ca, Dt, zg] <;> exact rfl, ?_⟩
     simp only [Dz, leave, zs, zf, zk]

end Go.Proofs.YtkaedpmmopigkaaGreatDoor
namespace Go.Proofs.YtkaedpmmopigkaaGreatDoor
set_option linter.unusedSimpArgs false
open Go.ChangeShapes Go.WideShapes Go.ChangeAt Go.RowKit
set_option linter.unusedVariables false
set_option maxRecDepth 100000

theorem own : ownKnob Tryz.prog.godebug = none := by kernel_rfl
theorem laidOut : laidOutB Tryz.prog = true := by kernel_rfl
theorem ty4 : Tryz.prog.underlying 4 = some .bool := by kernel_rfl
theorem ty5 : Tryz.prog.underlying 5 = some (.int .u8) := by kernel_rfl
theorem ty22 : Tryz.prog.underlying 22 = some (.slice 50) := by kernel_rfl
noncomputable def fs50 : Array Field := match Tryz.prog.underlying 50 with
  | some (.struct fs) => fs
  | _ => #[]
theorem ty50 : ∃ fs : Array Field, Tryz.prog.underlying 50 = some (.struct fs) ∧ fs.size = 6 ∧ fs.toList.map (·.type) = [5, 5, 5, 5, 4, 4] := ⟨fs50, by kernel_rfl, by kernel_rfl, by kernel_rfl⟩
def L6 : List (String × DataW Unit) := Rows.screensParseRow.laid
theorem door_met (os : Os) (args : Array Value) : laidMetH Tryz.prog L6 ((World.laidAll Tryz.prog os L6).forCall (fun _ _ => 0) ⟨#[], args, []⟩).memory := by
  rw [MakeChecks.laidMetH_plain _ _ _ (by kernel_rfl)]
  exact laidMet_laidAll _ (by kernel_rfl) (by kernel_rfl)
/-- the fields -/
theorem fieldsArg {ds : List D} (h : Sh Tryz.prog 3 22 ds) : ∃ (x : D) (l : List FM), ds = [x] ∧ SlD 6 (Hf l) x := by
  have e1 : Tryz.prog.cellsOf 50 = 6 := by kernel_rfl
  obtain ⟨fs, hu, hn, ht⟩ := ty50
  obtain ⟨x, rows, rfl, hS, _, hr⟩ := Sh.slice ty22 h
  rw [e1] at hS
  obtain ⟨l, rfl⟩ := rows_of (f := FM.row) (rows := rows) (fun r hr' => by
    obtain ⟨parts, rfl, hp, hf⟩ := Sh.struct hu (hr r hr')
    have tk : ∀ (j : Nat) (t : TypeId), [5, 5, 5, 5, 4, 4][j]? = some t → ∃ f : Field, fs[j]? = some f ∧ f.type = t := fun j t hj => by
      rw [← ht, Lp_] at hj
      rw [← Array.getElem?_toList]
      cases e : fs.toList[j]? with
      | none => rw [e] at hj; cases hj
      | some f => rw [e] at hj; exact ⟨f, rfl, Option.some.inj hj⟩
    obtain ⟨f0, g0, t0⟩ := tk 0 5 rfl
    obtain ⟨f1, g1, t1⟩ := tk 1 5 rfl
    obtain ⟨f2, g2, t2⟩ := tk 2 5 rfl
    obtain ⟨f3, g3, t3⟩ := tk 3 5 rfl
    obtain ⟨f4, g4, t4⟩ := tk 4 4 rfl
    obtain ⟨f5, g5, t5⟩ := tk 5 4 rfl
    obtain ⟨r0, h0, s0⟩ := hf 0 _ g0
    obtain ⟨r1, h1, s1⟩ := hf 1 _ g1
    obtain ⟨r2, h2, s2⟩ := hf 2 _ g2
    obtain ⟨r3, h3, s3⟩ := hf 3 _ g3
    obtain ⟨r4, h4, s4⟩ := hf 4 _ g4
    obtain ⟨r5, h5, s5⟩ := hf 5 _ g5
    rw [t0] at s0; rw [t1] at s1; rw [t2] at s2; rw [t3] at s3; rw [t4] at s4; rw [t5] at s5
    obtain ⟨n0, rfl, w0⟩ := Sh.int ty5 s0
    obtain ⟨n1, rfl, w1⟩ := Sh.int ty5 s1
    obtain ⟨n2, rfl, w2⟩ := Sh.int ty5 s2
    obtain ⟨n3, rfl, w3⟩ := Sh.int ty5 s3
    obtain ⟨b4, rfl⟩ := Sh.bool ty4 s4
    obtain ⟨b5, rfl⟩ := Sh.bool ty4 s5
    obtain ⟨m0, rfl, k0⟩ := u8_nat w0
    obtain ⟨m1, rfl, k1⟩ := u8_nat w1
    obtain ⟨m2, rfl, k2⟩ := u8_nat w2
    obtain ⟨m3, rfl, k3⟩ := u8_nat w3
    rw [hn] at hp
    match parts, hp, h0, h1, h2, h3, h4, h5 with
    | [p0, p1, p2, p3, p4, p5], _, h0, h1, h2, h3, h4, h5 =>
      simp at h0 h1 h2 h3 h4 h5
      subst h0 h1 h2 h3 h4 h5
      exact ⟨⟨m0, m1, m2, m3, b4, b5, k0, k1, k2, k3⟩, rfl⟩)
  exact ⟨x, l, rfl, hS⟩
theorem glob_ok {W : World} (h : laidMetH Tryz.prog L6 W) : GlobOK GT W := by
  rw [MakeChecks.laidMetH_plain _ _ _ (by kernel_rfl)] at h
  intro g row hg
  unfold GT at hg
  split at hg
  · cases hg
    exact O8 h (x := (L6[8]'(by decide))) (List.getElem_mem _) (n := 3) (t := ((Tryz.prog.globals[0]?).map (·.type)).getD 0) (by kernel_rfl) (by kernel_rfl) (by kernel_rfl) (by kernel_rfl)
  · cases hg
    exact O8 h (x := (L6[10]'(by decide))) (List.getElem_mem _) (n := 3) (t := ((Tryz.prog.globals[2]?).map (·.type)).getD 0) (by kernel_rfl) (by kernel_rfl) (by kernel_rfl) (by kernel_rfl)
  · cases hg
    exact O8 h (x := (L6[9]'(by decide))) (List.getElem_mem _) (n := 3) (t := ((Tryz.prog.globals[5]?).map (·.type)).getD 0) (by kernel_rfl) (by kernel_rfl) (by kernel_rfl) (by kernel_rfl)
  · cases hg
    exact O8 h (x := (L6[7]'(by decide))) (List.getElem_mem _) (n := 3) (t := ((Tryz.prog.globals[8]?).map (·.type)).getD 0) (by kernel_rfl) (by kernel_rfl) (by kernel_rfl) (by kernel_rfl)
  · cases hg
    exact O8 h (x := (L6[2]'(by decide))) (List.getElem_mem _) (n := 3) (t := ((Tryz.prog.globals[10]?).map (·.type)).getD 0) (by kernel_rfl) (by kernel_rfl) (by kernel_rfl) (by kernel_rfl)
  · cases hg

end Go.Proofs.YtkaedpmmopigkaaGreatDoor

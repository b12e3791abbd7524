/- Proved here: what compare finds is the order of lists of numbers; plain; no condition. -/
import Derived.Test.YtabgobmeibjeeaaGreatDoorS15
namespace Go.Proofs.YtabgobmeibjeeaaGreatDoor
set_option linter.unusedVariables false
set_option linter.unusedSimpArgs false
def bI (l : List UInt8) : List Int := l.map fun c => (c.toNat : Int)
theorem cmpT_lex : ∀ (l m : List UInt8), l.length = m.length → cmpT l m = lexI (bI l) (bI m)
  | [], [], _ => rfl
  | [], b :: m, h => by simp at h
  | a :: l, [], h => by simp at h
  | a :: l, b :: m, h => by
    have ih := cmpT_lex l m (by simpa using h)
    simp only [cmpT, bI, List.map_cons, lexI, cmpI] at ih ⊢
    by_cases h1 : (a.toNat : Int) < b.toNat
    · simp [h1]
    · by_cases h2 : (a.toNat : Int) > b.toNat
      · simp [h1, h2]
      · simp only [h1, h2, if_false, bne_self_eq_false, Bool.false_eq_true]
        exact ih
theorem cmpL_cmpT : ∀ (l m : List UInt8), l.length = m.length → cmpL l m = cmpT l m
  | [], [], _ => rfl
  | [], b :: m, h => by simp at h
  | a :: l, [], h => by simp at h
  | a :: l, b :: m, h => by
    have ih := cmpL_cmpT l m (by simpa using h)
    simp only [cmpT, cmpI]
    by_cases h1 : a.toNat < b.toNat
    · have : Op.bytesLess (a :: l) (b :: m) = true := by
        simp only [Op.bytesLess]
        have : a < b := UInt8.lt_iff_toNat_lt.2 h1
        simp [this]
      simp [cmpL, this, h1]
    · by_cases h2 : b.toNat < a.toNat
      · have h3 : Op.bytesLess (a :: l) (b :: m) = false := by
          simp only [Op.bytesLess]
          have : ¬ a < b := fun h => h1 (UInt8.lt_iff_toNat_lt.1 h)
          have h' : ¬ a = b := fun h => by rw [h] at h2; omega
          simp [this, h']
        have h4 : ¬ a = b := fun h => by rw [h] at h2; omega
        simp [cmpL, h3, h4, h1, h2]
      · have h5 : a = b := UInt8.toNat_inj.1 (by omega)
        subst h5
        rw [cmpL_cons, ih]
        simp
/-- the bytes of a key, as numbers; the greater the less where the key goes down -/
def Ke.sub (k : Ke) (l : List UInt8) : List UInt8 := (l.drop k.a).take k.n
def Ke.enc (k : Ke) (l : List UInt8) : List Int := if k.dn then (bI (k.sub l)).map (0 - ·) else bI (k.sub l)
def encs (ks : List Ke) (l : List UInt8) : List Int := (ks.map (·.enc l)).flatten
theorem enc_len (k : Ke) {l m : List UInt8} (h : l.length = m.length) : (k.enc l).length = (k.enc m).length := by
  unfold Ke.enc Ke.sub bI
  split <;> simp [h]
theorem encs_len (ks : List Ke) {l m : List UInt8} (h : l.length = m.length) : (encs ks l).length = (encs ks m).length := by
  induction ks with
  | nil => rfl
  | cons k ks ih => simp only [encs, List.map_cons, List.flatten_cons, List.length_append] at ih ⊢; rw [ih, enc_len k h]
theorem sub_len (k : Ke) {l m : List UInt8} (h : l.length = m.length) : (k.sub l).length = (k.sub m).length := by simp [Ke.sub, h]
theorem firstC_lex (ks : List Ke) (l m : List UInt8) (h : l.length = m.length) : firstC (ks.map fun k => (cmpT (k.sub l) (k.sub m), k.dn)) = lexI (encs ks l) (encs ks m) := by
  induction ks with
  | nil => rfl
  | cons k ks ih =>
    simp only [List.map_cons, firstC, encs, List.flatten_cons]
    rw [lexI_app (enc_len k h)]
    have e : lexI (k.enc l) (k.enc m) = if k.dn then 0 - cmpT (k.sub l) (k.sub m) else cmpT (k.sub l) (k.sub m) := by
      rw [cmpT_lex _ _ (sub_len k h)]
      unfold Ke.enc
      split
      · rw [lexI_neg]
      · rfl
    rw [e]
    have hr := lexI_range (bI (k.sub l)) (bI (k.sub m))
    rw [← cmpT_lex _ _ (sub_len k h)] at hr
    generalize cmpT (k.sub l) (k.sub m) = c at hr
    cases k.dn
    · simp only [Bool.false_eq_true, if_false]
      rcases hr with rfl | rfl | rfl
      · rfl
      · simpa [encs] using ih
      · rfl
    · simp only [if_true]
      rcases hr with rfl | rfl | rfl
      · rfl
      · simpa [encs] using ih
      · rfl
/-- the order of records by keys -/
def ordR (ks : List Ke) (l m : List UInt8) : Int := lexI (encs ks l) (encs ks m)
end Go.Proofs.YtabgobmeibjeeaaGreatDoor

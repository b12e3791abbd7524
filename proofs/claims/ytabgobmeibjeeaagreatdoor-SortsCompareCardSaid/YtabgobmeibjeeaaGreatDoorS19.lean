/- Proved here: keys of the law and records of digits fit the contracts of compare, valid and Compare; no condition. -/
import Derived.Test.YtabgobmeibjeeaaGreatDoorS18
namespace Go.Proofs.YtabgobmeibjeeaaGreatDoor
set_option linter.unusedVariables false
set_option linter.unusedSimpArgs false
set_option maxRecDepth 10000

theorem checkN_run {d : Nat} (hd : 12 ≤ d) (S : St) (n : Nat) (h1 : 1 ≤ n) (h6 : n ≤ 6) : runF LP NN d 117 [.agg (shN n)] S = some (.int .i64 0, S, false) := by
  obtain ⟨d, rfl⟩ : ∃ d', d = d' + 12 := ⟨d - 12, by omega⟩
  obtain ⟨k, rfl⟩ : ∃ k, n = k + 1 := ⟨n - 1, by omega⟩
  exact tab_at (checkN_tab d S) k (by omega)
/-- a key of the law -/
def GK (k : Ke) : Prop := ∃ a n dn, (k = kT a n dn ∨ k = kN a n dn) ∧ 1 ≤ n ∧ a + n ≤ 6
theorem uckN {d : Nat} (hd : 14 ≤ d) (S : St) (n : Nat) (h1 : 1 ≤ n) (h6 : n ≤ 6) {x : D} {l : List UInt8} (hS : SlD 1 (bR l) x) (hl : l.length = n) : runF LP NN d 78 [.agg [.int .u8 4, .int .u8 0, .str (mkS (List.replicate n 57)), .int .i64 n, .int .i64 0, .bool false, .bool false, .bool false, .bool false, .bool false, .int .i64 n, x]] S = some (.int .i64 (if l.all isDig then 0 else 15), S, false) := by
  cases e : l.all isDig with
  | true => exact uCheck_true hd S 0 _ _ _ _ false false false false false 162 163 false l hS (by rw [bR_len, hl]) (fun d S h => of0_run h S 4 _ _ _ _ _ _ _ _) (fun d S h => (zonedU_run (by omega) S _ _ _ _ _ _ _ _ _ hS (by omega)).trans (by rw [e])) (fun d S h => checkN_run h S n h1 h6)
  | false => exact uCheck_false hd S 0 _ _ _ _ false false false false false 162 163 false l hS (by rw [bR_len, hl]) (fun d S h => of0_run h S 4 _ _ _ _ _ _ _ _) (fun d S h => (zonedU_run (by omega) S _ _ _ _ _ _ _ _ _ hS (by omega)).trans (by rw [e])) (fun d S h => checkN_run h S n h1 h6)
theorem getN {d : Nat} (hd : 14 ≤ d) (S : St) (n : Nat) (h1 : 1 ≤ n) (h6 : n ≤ 6) {x : D} {l : List UInt8} (hS : SlD 1 (bR l) x) (hl : l.length = n) (e : l.all isDig = true) : runF LP NN d 51 [.agg [.int .u8 4, .int .u8 0, .str (mkS (List.replicate n 57)), .int .i64 n, .int .i64 0, .bool false, .bool false, .bool false, .bool false, .bool false, .int .i64 n, x]] S = some (.tup [.agg [.bool false, .str (mkS (strip l)), .int .i64 0], .int .i64 0], S, false) := by
  refine (get_run hd S 0 _ _ _ false false false false false 162 163 false l hS (by rw [bR_len, hl]) (fun d S h => of0_run h S 4 _ _ _ _ _ _ _ _) (fun d S h => (zonedU_run (by omega) S _ _ _ _ _ _ _ _ _ hS (by omega)).trans (by rw [e])) (fun d S h => checkN_run h S n h1 h6) ?_ (by omega)).trans (by rw [Bool.false_and])
  have : l ≠ [] := by intro h; subst h; simp at hl; omega
  simp only [isNum, e, Bool.and_true, Bool.not_eq_true', beq_eq_false_iff_ne, ne_eq]
  exact this
theorem gk_ok {k : Ke} (h : GK k) : KOK 6 k := by
  obtain ⟨a, n, dn, rfl | rfl, h1, h2⟩ := h
  · exact ⟨h1, h2, rfl, .inl rfl⟩
  · refine ⟨h1, h2, rfl, .inr ⟨rfl, 15, .inr rfl, fun d S hd => ?_⟩⟩
    have hS : SlD 1 (bR (List.replicate n 0)) (.sl 1 (List.replicate n [.int .u8 0]) (some n)) := by
      have : bR (List.replicate n 0) = List.replicate n [.int .u8 0] := by simp [bR]
      rw [this]; exact .of _ _ _
    refine (uckN hd S n h1 (by omega) hS (by simp)).trans ?_
    have : (List.replicate n (0 : UInt8)).all isDig = false := by
      obtain ⟨k, rfl⟩ : ∃ k, n = k + 1 := ⟨n - 1, by omega⟩
      rw [List.replicate_succ, List.all_cons]; rfl
    rw [this]; rfl
theorem keysF_gk (l : List (Nat × Nat × Nat)) : ∀ k ∈ keysF l, GK k := by
  intro k hk
  unfold keysF at hk
  split at hk
  · simp at hk; subst hk; exact ⟨0, 6, false, .inl rfl, by omega, by omega⟩
  · simp only [List.mem_map] at hk
    obtain ⟨t, _, rfl⟩ := hk
    obtain ⟨h1, h2⟩ := kln_le t
    unfold keyOf
    split
    · exact ⟨_, _, _, .inr rfl, h1, h2⟩
    · exact ⟨_, _, _, .inl rfl, h1, h2⟩
theorem keysF_len (l : List (Nat × Nat × Nat)) : 0 < (keysF l).length ∧ (keysF l).length ≤ 4 := by
  unfold keysF
  split
  · simp
  · rename_i h
    have := List.length_pos_iff.2 h
    simp only [List.length_map, List.length_take]; omega
/-- a record of digits -/
def Rec (l : List UInt8) : Prop := l.length = 6 ∧ ∀ c ∈ l, isDig c = true
theorem digs_rec (r : Nat) : Rec (digs r) := ⟨digs_len r, digs_dig r⟩
theorem Rec.sub {l : List UInt8} (h : Rec l) (a n : Nat) : ((l.drop a).take n).all isDig = true := by
  rw [List.all_eq_true]
  exact fun c hc => h.2 c (List.mem_of_mem_drop (List.mem_of_mem_take hc))
theorem Rec.sublen {l : List UInt8} (h : Rec l) {a n : Nat} (hn : a + n ≤ 6) : ((l.drop a).take n).length = n := by
  rw [List.length_take, List.length_drop, h.1]; omega
theorem SlD.subB {l : List UInt8} {x : D} (h : SlD 1 (bR l) x) (a n : Nat) : SlD 1 (bR ((l.drop a).take n)) (subD a n x) := by
  rw [← bR_sub]; exact h.sub a n
section
variable {ks : List Ke} {x y z : D} {l m : List UInt8}
theorem valid_hyp (hg : ∀ k ∈ ks, GK k) (hR : SlD 1 (bR l) y) (hl : Rec l) : ∀ k ∈ ks, k.cat = 4 → ∀ (d : Nat) (S : St), 14 ≤ d → runF LP NN d 78 [.agg [.int .u8 k.cat, .int .u8 k.us, .str k.pic, .int .i64 k.dg, .int .i64 k.sc, .bool k.sg, .bool k.le, .bool k.se, .bool k.ju, .bool k.bl, .int .i64 k.sz, subD k.a k.n y]] S = some (.int .i64 0, S, false) := by
  intro k hk hc d S hd
  obtain ⟨a, n, dn, rfl | rfl, h1, h2⟩ := hg k hk
  · simp [kT] at hc
  · refine (uckN hd S n h1 (by omega) (hR.subB a n) (hl.sublen h2)).trans ?_
    rw [hl.sub a n]; rfl
theorem text_hyp (hg : ∀ k ∈ ks, GK k) (hR : SlD 1 (bR l) y) (hQ : SlD 1 (bR m) z) (hl : Rec l) (hm : Rec m) : ∀ k ∈ ks, k.cat ≠ 4 → ∀ (d : Nat) (S : St), 3 ≤ d → runF LP NN d 53 [subD k.a k.n y, subD k.a k.n z] S = some (.int .i64 (cmpT (k.sub l) (k.sub m)), S, false) := by
  intro k hk hc d S hd
  obtain ⟨a, n, dn, rfl | rfl, h1, h2⟩ := hg k hk
  · have e1 := hl.sublen h2
    have e2 := hm.sublen h2
    exact ccmp_run (l := (l.drop a).take n) (m := (m.drop a).take n) hd S (hR.subB a n) (hQ.subB a n) (by omega) (by omega)
  · simp [kN] at hc
theorem num_hyp (hg : ∀ k ∈ ks, GK k) (hR : SlD 1 (bR l) y) (hQ : SlD 1 (bR m) z) (hl : Rec l) (hm : Rec m) : ∀ k ∈ ks, k.cat = 4 → ∃ (na nb : Bool) (sa sb : ByteArray), (∀ (d : Nat) (S : St), 14 ≤ d → runF LP NN d 51 [.agg [.int .u8 k.cat, .int .u8 k.us, .str k.pic, .int .i64 k.dg, .int .i64 k.sc, .bool k.sg, .bool k.le, .bool k.se, .bool k.ju, .bool k.bl, .int .i64 k.sz, subD k.a k.n y]] S = some (.tup [.agg [.bool na, .str sa, .int .i64 0], .int .i64 0], S, false)) ∧ (∀ (d : Nat) (S : St), 14 ≤ d → runF LP NN d 51 [.agg [.int .u8 k.cat, .int .u8 k.us, .str k.pic, .int .i64 k.dg, .int .i64 k.sc, .bool k.sg, .bool k.le, .bool k.se, .bool k.ju, .bool k.bl, .int .i64 k.sz, subD k.a k.n z]] S = some (.tup [.agg [.bool nb, .str sb, .int .i64 0], .int .i64 0], S, false)) ∧ (∀ (d : Nat) (S : St), 8 ≤ d → runF LP NN d 52 [.agg [.bool na, .str sa, .int .i64 0], .agg [.bool nb, .str sb, .int .i64 0]] S = some (.tup [.int .i64 (cmpT (k.sub l) (k.sub m)), .int .i64 0], S, false)) := by
  intro k hk hc
  obtain ⟨a, n, dn, rfl | rfl, h1, h2⟩ := hg k hk
  · simp [kT] at hc
  · have e1 := hl.sublen h2
    have e2 := hm.sublen h2
    have n1 : ((l.drop a).take n) ≠ [] := by intro h; rw [h] at e1; simp at e1; omega
    have n2 : ((m.drop a).take n) ≠ [] := by intro h; rw [h] at e2; simp at e2; omega
    have m1 : isNum ((l.drop a).take n) = true := by
      simp only [isNum, hl.sub a n, Bool.and_true, Bool.not_eq_true', beq_eq_false_iff_ne, ne_eq]; exact n1
    have m2 : isNum ((m.drop a).take n) = true := by
      simp only [isNum, hm.sub a n, Bool.and_true, Bool.not_eq_true', beq_eq_false_iff_ne, ne_eq]; exact n2
    refine ⟨false, false, mkS (strip ((l.drop a).take n)), mkS (strip ((m.drop a).take n)), fun d S hd => getN hd S n h1 (by omega) (hR.subB a n) e1 (hl.sub a n), fun d S hd => getN hd S n h1 (by omega) (hQ.subB a n) e2 (hm.sub a n), fun d S hd => ?_⟩
    obtain ⟨a1, a2⟩ := strip_len _ n1
    obtain ⟨b1, b2⟩ := strip_len _ n2
    have N1 := Nrm.of false _ m1 (by omega)
    have N2 := Nrm.of false _ m2 (by omega)
    rw [Bool.false_and] at N1 N2
    refine (decCmp_run hd S false false _ _ N1 N2 (by omega) (by omega)).trans ?_
    have : cmpN false false (strip ((l.drop a).take n)) (strip ((m.drop a).take n)) = cmpT ((l.drop a).take n) ((m.drop a).take n) := by
      rw [cmpN, if_pos rfl, if_neg (by simp), cmpL_pad _ _ (by rw [e1, e2]) n1, cmpL_cmpT _ _ (by rw [e1, e2])]
    rw [this]; rfl
theorem compareR_run {d : Nat} (hd : 15 ≤ d) (S : St) (hS : SlD 14 (keRows ks) x) (hR : SlD 1 (bR l) y) (hQ : SlD 1 (bR m) z) (h8 : ks.length ≤ 8) (hg : ∀ k ∈ ks, GK k) (hl : Rec l) (hm : Rec m) : runF LP NN d 33 [x, y, z] S = some (.int .i64 (ordR ks l m), S, false) := by
  have f : ∀ k ∈ ks, k.a + k.n ≤ 6 := fun k hk => (gk_ok (hg k hk)).fit
  refine (compare_run hd S hS hR hQ h8 (by rw [bR_len, hl.1]; omega) (by rw [bR_len, hm.1]; omega) (fun k hk => by rw [bR_len, hl.1]; exact f k hk) (fun k hk => by rw [bR_len, hm.1]; exact f k hk) (fun k => cmpT (k.sub l) (k.sub m)) (text_hyp hg hR hQ hl hm) (num_hyp hg hR hQ hl hm)).trans ?_
  rw [firstC_lex ks l m (by rw [hl.1, hm.1])]; rfl
theorem orderR_run {d : Nat} (hd : 1 ≤ d) (S : St) (hS : SlD 14 (keRows ks) x) (hR : SlD 1 (bR l) y) (hQ : SlD 1 (bR m) z) (h8 : ks.length ≤ 8) (hg : ∀ k ∈ ks, GK k) (hl : Rec l) (hm : Rec m) : runF LP NN d 17 [x, y, z] S = some (.int .i64 (ordR ks l m), S, false) := by
  have f : ∀ k ∈ ks, k.a + k.n ≤ 6 := fun k hk => (gk_ok (hg k hk)).fit
  refine (order_run hd S hS hR hQ h8 (by rw [hl.1]; omega) (by rw [hl.1, hm.1]) (fun k hk => by rw [hl.1]; exact f k hk)).trans ?_
  rw [firstC_lex ks l m (by rw [hl.1, hm.1])]; rfl
theorem validR_run {d : Nat} (hd : 15 ≤ d) (S : St) (hS : SlD 14 (keRows ks) x) (hR : SlD 1 (bR l) y) (h8 : ks.length ≤ 8) (hg : ∀ k ∈ ks, GK k) (hl : Rec l) : runF LP NN d 44 [x, .int .i64 6, y] S = some (.int .i64 0, S, false) := by
  have e : (bR l).length = 6 := by rw [bR_len, hl.1]
  have := valid_run (d := d) hd S hS hR h8 (by rw [e]; omega) (by rw [e]; exact fun k hk => gk_ok (hg k hk)) (valid_hyp hg hR hl)
  rw [e] at this
  exact this
theorem ValidR_run {d : Nat} (hd : 18 ≤ d) (S : St) (hS : SlD 14 (keRows ks) x) (hR : SlD 1 (bR l) y) (hne : 0 < ks.length) (h8 : ks.length ≤ 8) (hg : ∀ k ∈ ks, GK k) (hl : Rec l) : runF LP NN d 30 [x, .int .i64 6, y] S = some (.int .i64 0, S, false) := by
  have e : (bR l).length = 6 := by rw [bR_len, hl.1]
  have := Valid_run (d := d) hd S hS hR h8 (by rw [e]; omega) (by rw [e]; exact fun k hk => gk_ok (hg k hk)) (valid_hyp hg hR hl) hne (by rw [e]; omega)
  rw [e] at this
  exact this
theorem CompareR_run {d : Nat} (hd : 19 ≤ d) (S : St) (hS : SlD 14 (keRows ks) x) (hR : SlD 1 (bR l) y) (hQ : SlD 1 (bR m) z) (hne : 0 < ks.length) (h8 : ks.length ≤ 8) (hg : ∀ k ∈ ks, GK k) (hl : Rec l) (hm : Rec m) : runF LP NN d 15 [x, .int .i64 6, y, z] S = some (.tup [.int .i64 (ordR ks l m), .int .i64 0], S, false) := by
  have f : ∀ k ∈ ks, k.a + k.n ≤ 6 := fun k hk => (gk_ok (hg k hk)).fit
  refine (Compare_run hd S 6 hS hR hQ h8 (by rw [bR_len, hl.1]; omega) (by rw [bR_len, hm.1]; omega) (fun k hk => by rw [bR_len, hl.1]; exact f k hk) (fun k hk => by rw [bR_len, hm.1]; exact f k hk) (fun k => cmpT (k.sub l) (k.sub m)) (text_hyp hg hR hQ hl hm) (num_hyp hg hR hQ hl hm) (fun d S hd => ValidR_run hd S hS hR hne h8 hg hl) (fun d S hd => ValidR_run hd S hS hQ hne h8 hg hm)).trans ?_
  rw [firstC_lex ks l m (by rw [hl.1, hm.1])]; rfl
end
theorem lives_run (d : Nat) (S : St) : runF LP NN (d + 30) 9 [] S = some (.bool true, S, false) := by kernel_rfl
end Go.Proofs.YtabgobmeibjeeaaGreatDoor

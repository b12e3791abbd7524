/- Proved here: parts of the proof, joined (Lo14b, Lo15, Lo16, Lo17, LoF, LoG, LoH, LoH2, LoI): an abstract machine, its soundness, what functions of the program compute in it; no condition. -/
import Derived.LoopN
import Derived.Scope
import Derived.Recover
import Derived.Test.YtkaedpmmopigkaaGreatDoorM2
namespace Go.Proofs.YtkaedpmmopigkaaGreatDoor
open Go.RowKit
set_option linter.unusedVariables false
set_option linter.unusedSimpArgs false

theorem okFP_get : ∀ {bs : List Bool} {fs : List FP} {x : FP},Bp bs fs x = true→∀ (d : Nat) (f : FP),fs[d]? = some f→∃ b,bs[d]? = some b∧Al b f x = true
 | [],[],x,h,d,f,hd=>by simp at hd
 | b :: bs,[],x,h,d,f,hd=>by simp at hd
 | [],_ :: _,x,h,d,f,hd=>by simp [Bp] at h
 | b :: bs,f' :: fs,x,h,0,f,hd=>by
  simp only [Bp,Bool.and_eq_true] at h
  simp at hd
  subst hd
  exact ⟨b,rfl,h.1⟩
 | b :: bs,f' :: fs,x,h,d + 1,f,hd=>by
  simp only [Bp,Bool.and_eq_true] at h
  exact okFP_get h.2 d f (by simpa using hd)
theorem Oj : ∀ {bs : List Bool} {fs : List FP} {g : Nat},g ∈ Cs bs fs→∃ (d : Nat) (f : FP),bs[d]? = some true∧fs[d]? = some f∧f.hoist = some g
 | [],fs,g,h=>by simp [Cs] at h
 | b :: bs,[],g,h=>by simp [Cs] at h
 | b :: bs, f :: fs, g, h => by
  unfold Cs at h
  split at h
  ·
   rename_i g' hb hf
   rcases List.mem_cons.1 h with rfl | h
   ·
    exact ⟨0,f,rfl,rfl,hf⟩
   ·
    obtain ⟨d,f',h1,h2,h3⟩:=Oj h
    exact ⟨d + 1,f',h1,h2,h3⟩
  ·
   obtain ⟨d,f',h1,h2,h3⟩:=Oj h
   exact ⟨d + 1,f',h1,h2,h3⟩
theorem sameD_eq {a b : D} (h : Dy a b = true) : a = b:=by
 unfold Dy at h
 split at h
 all_goals first | rfl | (simp at h; done) | skip
 ·
  simp only [Bool.and_eq_true,decide_eq_true_eq] at h; rw [h.1,h.2]
 ·
  simp only [beq_iff_eq] at h; rw [h]
 ·
  simp only [decide_eq_true_eq] at h; rw [h]
theorem sameDs_eq : ∀ {l m : List D},Cx l m = true→l = m
 | [],[],_=>rfl
 | a :: l,b :: m,h=>by
  simp only [Cx,Bool.and_eq_true] at h
  rw [sameD_eq h.1,sameDs_eq h.2]
 | [],_ :: _,h=>by simp [Cx] at h
 | _ :: _,[],h=>by simp [Cx] at h
theorem sameNew_eq {p : TypeId × List D} {x : Option Sk} (h : Cn p x = true) : x = some (Ew p):=by
 unfold Cn at h
 split at h
 ·
  simp only [Bool.and_eq_true,decide_eq_true_eq] at h
  obtain ⟨⟨rfl,rfl⟩,h3⟩:=h
  rw [sameDs_eq h3]
  rfl
 ·
  simp at h
theorem Ot {n : Nat} {dn : List Nat} {H : List Sk} : ∀ {l : List (TypeId × List D)} {r0 : Nat},Aq n dn H l r0 = true→∀ r p,l[r]? = some p→n + (r0 + r) ∉ dn→H[n + (r0 + r)]? = some (Ew p)
  | [],r0,h,r,p,hr,_=>by simp at hr
  | q :: l, r0, h, 0, p, hr, hn => by
    simp only [Aq,Bool.and_eq_true,Bool.or_eq_true] at h
    simp at hr
    subst hr
    rcases h.1 with h1 | h1
    · exact absurd (by simpa using h1) hn
    · exact sameNew_eq h1
  | q :: l, r0, h, r + 1, p, hr, hn => by
    simp only [Aq,Bool.and_eq_true] at h
    have e : r0 + (r + 1) = r0 + 1 + r:=by omega
    rw [e] at hn ⊢
    exact Ot h.2 r p (by simpa using hr) hn
theorem fpApp_hoist (s x r : D) (wr : Bool) : (Co s x r wr).hoist = none:=by
 unfold Co
 cases wr
 ·
  rfl
 ·
  simp only [if_true]
  split
  ·
   split<;>rfl
  ·
   rfl
theorem fpMk_hoist (r : D) (wr : Bool) : (Cb r wr).hoist = none:=by
 unfold Cb
 split<;>cases wr<;>rfl
theorem Oc (l : LOp) (ds : List D) (r : D) (wr : Bool) : (Ec l ds r wr).hoist = none:=by
 unfold Ec
 repeat' split
 all_goals first | rfl | (cases wr<;>rfl) | exact fpApp_hoist .. | exact fpMk_hoist ..

def rk (P : Program) (ops : Array Oper) (j : Nat) : Nat:=(D9 P (ops.toList.take j)).length
theorem rk_get {P : Program} {ops : Array Oper} {j : Nat} {o : Oper} {p : TypeId × List D} (ho : ops[j]? = some o) (hp : Jc P o = some p) : (D9 P ops.toList)[rk P ops j]? = some p:=by
 have hl : ops.toList[j]? = some o:=by simpa using ho
 have hlt:=lt_of_some hl
 have e : ops.toList = ops.toList.take j ++ o :: ops.toList.drop (j + 1):=by
  conv=>lhs; rw [← List.take_append_drop j ops.toList]
  rw [List.drop_eq_getElem_cons hlt]
  rw [Lg hlt] at hl
  injection hl with hl
  rw [hl]
 unfold rk
 conv=>lhs; arg 1; rw [e]
 unfold D9
 rw [List.filterMap_append,Lr_ (Nat.le_refl _),Nat.sub_self,List.filterMap_cons_some hp]
 rfl
theorem rk_lt {P : Program} {ops : Array Oper} {i j : Nat} {o : Oper} {p : TypeId × List D} (ho : ops[i]? = some o) (hp : Jc P o = some p) (hij : i < j) : rk P ops i < rk P ops j:=by
 have hl : ops.toList[i]? = some o:=by simpa using ho
 have hlt:=lt_of_some hl
 have e : ops.toList.take j = ops.toList.take i ++ o :: (ops.toList.take j).drop (i + 1):=by
  conv=>lhs; rw [← List.take_append_drop i (ops.toList.take j)]
  have hlt' : i < (ops.toList.take j).length:=by rw [List.length_take]; omega
  rw [List.drop_eq_getElem_cons hlt',List.take_take,Nat.min_eq_left (Nat.le_of_lt hij)]
  rw [Lg hlt] at hl
  injection hl with hl
  rw [List.getElem_take,hl]
 unfold rk
 conv=>rhs; rw [e]
 unfold D9
 rw [List.filterMap_append,Ll_,List.filterMap_cons_some hp,List.length_cons]
 omega
theorem rk_inj {P : Program} {ops : Array Oper} {i j : Nat} {o o' : Oper} {p p' : TypeId × List D} (ho : ops[i]? = some o) (hp : Jc P o = some p) (ho' : ops[j]? = some o') (hp' : Jc P o' = some p') (h : rk P ops i = rk P ops j) : i = j:=by
 rcases Nat.lt_trichotomy i j with h1 | h1 | h1
 ·
  have:=rk_lt ho hp h1; omega
 ·
  exact h1
 ·
  have:=rk_lt ho' hp' h1; omega
theorem newOf_some {P : Program} {o : Oper} {p : TypeId × List D} (h : Jc P o = some p) : ∃ n,o.op = .alloc p.1∧o.guard = none∧Gu P p.1 = some p.2∧Ct P p.1 = some n∧p.2.length = n:=by
 unfold Jc at h
 split at h
 ·
  rename_i e ho hg
  split at h
  ·
   rename_i z n hz hn
   split at h
   ·
    rename_i hl
    simp only [Oi] at h
    subst h
    exact ⟨n,ho,hg,hz,hn,hl⟩
   ·
    simp at h
  ·
   simp at h
 ·
  simp at h
theorem dstTo_len {ops : Array Oper} {i : Nat} (h : i ≤ ops.size) : (J8 ops i).length = i:=by
 unfold J8
 rw [List.length_reverse,List.length_map,List.length_take,Array.length_toList]
 omega
theorem sig_tl {slots : List Nat} {prev : List (Option Tmp)} {vals tl env : List D} {t i : Nat} (hp : prev.length = i) (hv : vals.length = i) : sig slots prev (vals ++ tl) env t = sig slots prev vals env t:=by
  unfold sig
  split
  · rename_i d hd
    have:=lt_of_some (Gy hd)
    simp only [List.getD_eq_getElem?_getD]
    rw [La_ (by omega)]
  · rfl
theorem newsVals_get {n k r : Nat} (h : r < k) : (Db n k)[k - 1 - r]? = some (.ptr (n + r) 0 0 0):=by
 have:=I4 (fun r=>D.ptr (n + r) 0 0 0) k (k - 1 - r) (by omega)
 rw [show k - 1 - (k - 1 - r) = r by omega] at this
 exact this

noncomputable def notB (p : Prop) : Bool:=@decide (¬ p) (Classical.propDecidable _)
theorem notB_iff {p : Prop} : notB p = true ↔ ¬ p:=by unfold notB; exact @decide_eq_true_iff _ (Classical.propDecidable _)
theorem notB_congr {p q : Prop} (h : p ↔ q) : notB p = notB q:=by rw [propext h]
noncomputable def left (n : Nat) (L : Nat→Prop) : List Nat:=(List.range n).filter (fun i=>notB (L i))
theorem left_split {n i : Nat} {L : Nat→Prop} (hi : i < n) (hL : ¬ L i) : ∃ pre post,left n L = pre ++ i :: post∧left n (fun k=>L k ∨ k = i) = pre ++ post∧∀ j ∈ pre,j < i∧¬ L j:=by
  have e : List.range n = List.range i ++ i :: List.range' (i + 1) (n - i - 1):=by
    rw [List.range_eq_range',List.range_eq_range',← List.range'_succ,show n - i - 1 + 1 = n - i by omega]
    have:=List.range'_append (s:=0) (m:=i) (n:=n - i) (step:=1)
    simp only [Nat.one_mul,Nat.zero_add] at this
    rw [this]
    congr 1
    omega
  refine ⟨(List.range i).filter (fun k=>notB (L k)),(List.range' (i + 1) (n - i - 1)).filter (fun k=>notB (L k)),?_,?_,?_⟩
  · unfold left
    rw [e,List.filter_append,List.filter_cons_of_pos (by rw [notB_iff]; exact hL)]
  · unfold left
    rw [e,List.filter_append,List.filter_cons_of_neg (by rw [notB_iff]; simp)]
    congr 1
    · apply List.filter_congr
      intro k hk
      have : k ≠ i:=by have:=List.mem_range.1 hk; omega
      exact notB_congr (by simp [this])
    · apply List.filter_congr
      intro k hk
      have : k ≠ i:=by have:=List.mem_range'_1.1 hk; omega
      exact notB_congr (by simp [this])
  · intro j hj
    rw [List.mem_filter] at hj
    exact ⟨List.mem_range.1 hj.1,notB_iff.1 hj.2⟩

section
variable {P : Program} {call : Bi} {kd : Kd} {nt : Nat} {slots : List Nat} {ops : Array Oper} {env : List D} {Q : Exit→Act→World→Prop}

structure DInv (P : Program) (call : Bi) (ops : Array Oper) (slots : List Nat) (nt : Nat) (env : List D) (V : Nat→D) (E : Nat→Option Ev) (Z : Nat→List Sk→Prop) (S SF : St) (w0 : World) (ρ0 : Su) (df : List Deferred) (L : Nat→Prop) (a : Act) (w : World) (ρ : Su) (S1 : St) : Prop where
 rel : Rel w ρ S1.heap
 stp : Stp w0 ρ0 S w ρ S1
 size : a.tmps.size = nt
 defers : a.defers = df
 slot : ∀ t,t < nt→(∃ k o,ops[k]? = some o∧L k∧o.dst = some t∧VR w ρ S1.heap (V k) (a.tmps.getD t undef)) ∨ ((∀ k o,ops[k]? = some o→L k→o.dst ≠ some t)∧VR w ρ S1.heap (sig slots [] [] env t) (a.tmps.getD t undef))
 runs : Runs call E Z (left ops.size L) S1 SF
 pend : ∀ j o p,ops[j]? = some o→¬ L j→Jc P o = some p→S1.heap[S.heap.length + rk P ops j]? = some (Ew p)∧ρ (S.heap.length + rk P ops j) = none

theorem draw_ok {G : Nat → Option (List D)} (hkG : ∀ g row, kd.glob g = some row → G g = some row) (hm : P.follows .mixedOrders = true) (hcall : Oo P G call) (hclean : Ht call) {S S' : St} {vals' : List D} {los : List Sm} {w : World} {ρ : Su} {a : Act} {id : Nat} (hs : slots.all (· < nt) = true) (hdraw : drawOk P kd ops (Region.before ops).toList = true)
    (hlow : Nz P kd nt slots (Region.before ops).toList (D9 P ops.toList).length ops.toList [] 0 = some los) (hex : Im call S.heap.length (D9 P ops.toList) los [] (Db S.heap.length (D9 P ops.toList).length) env ⟨S.heap ++ (D9 P ops.toList).map Ew,S.low⟩ = some (vals',S')) (hr : Rel w ρ S.heap) (hG : ρ.X.G = G) (hf : FR w ρ S.heap nt (sig slots [] [] env) a)
    (hQ : ∀ a' w' ρ',Rel w' ρ' S'.heap→Stp w ρ S w' ρ' S'→FR w' ρ' S'.heap nt (sig slots (dstsOf ops.toList) vals' env) a'→a'.defers = a.defers→Q .normal a' w') : (Code.region id ops true).wp P Q a w:=by
  obtain ⟨hll,hdin,hget⟩:=Ny hlow
  generalize htl : Db S.heap.length (D9 P ops.toList).length = tl at hex
  obtain ⟨V,ST,W,F,_,_,t2,t3,t4,t5⟩:=trace_ex los 0 (fun _=>.undef) (fun _=>Ai) _ vals' S' hex
  simp only [Nat.zero_add,List.length_nil] at t3 t4 t5 hget
  have hsz : los.length = ops.size:=by rw [hll]; simp
  rw [hsz] at t3 t4
  -- the checks
  have hdr : ∀ i o,ops[i]? = some o→(∀ e ∈ o.after,Region.binds .any e = true→e.on < i)∧∀ k o' d,ops[k]? = some o'→o'.dst = some d→k ≠ i→o.dst ≠ some d ∧
      (ordered (Region.before ops).toList i k = true ∨ ((∀ (mt : Bool) l xs,L6 P (kd.lit mt) o = some (l,xs)→.tmp d ∉ xs)∧∀ j b oj,o.guard = some (j,b)→ops[j]? = some oj→oj.dst ≠ some d)):=by
    intro i o ho
    have hil:=(Array.getElem?_eq_some_iff.1 ho).1
    have h:=List.all_eq_true.1 hdraw i (List.mem_range.2 hil)
    rw [ho] at h
    simp only [Bool.and_eq_true] at h
    obtain ⟨h1,h2⟩:=h
    refine ⟨fun e he hb=>?_,fun k o' d hk hd hne=>?_⟩
    · have := List.all_eq_true.1 h1 e (Array.mem_toList_iff.2 he)
      simpa [hb] using this
    · have hkl := (Array.getElem?_eq_some_iff.1 hk).1
      have h3:=List.all_eq_true.1 h2 k (List.mem_range.2 hkl)
      rw [hk] at h3
      simp only [hd,Bool.or_eq_true,beq_iff_eq,hne,false_or,Bool.and_eq_true,bne_iff_ne,ne_eq] at h3
      refine ⟨h3.1,?_⟩
      rcases h3.2 with h4 | ⟨h4,h5⟩
      · exact .inl h4
      · refine .inr ⟨fun mt l xs hl hmem => ?_, fun j b oj hg hj he => ?_⟩
        · cases mt with
          | true =>
            rw [hl] at h4
            have:=List.all_eq_true.1 h4.1 _ hmem
            simp at this
          | false =>
            have h4:=h4.2
            rw [hl] at h4
            have:=List.all_eq_true.1 h4 _ hmem
            simp at this
        · rw [hg] at h5
          simp only [hj] at h5
          simp [he] at h5
  have hu : ∀ (t k k' : Nat) (o o' : Oper),ops[k]? = some o→ops[k']? = some o'→o.dst = some t→o'.dst = some t→k = k':=by
    intro t k k' o o' hk hk' hd hd'
    by_cases e : k' = k
    · exact e.symm
    · exact absurd hd ((hdr k o hk).2 k' o' t hk' hd' e).1
  have hT : ∀ i,i < ops.size→∃ lo,los[i]? = some lo∧TStep call S.heap.length (D9 P ops.toList) tl env V ST W F i lo:=fun i hi=>⟨los[i]'(by omega),Lg (by omega),t5 i _ (Lg (by omega))⟩
  -- the operations as they were run
  let E : Nat→Option Ev:=fun i=>match los[i]? with
    | some lo=>if onG (Er V i ++ tl) lo.guard = some true∧lo.hoist = none then some ⟨lo.op,lo.args.map (opd (Er V i ++ tl) env),V i,W i⟩ else none
    | none=>none
  let Z : Nat→List Sk→Prop:=fun i H=>∀ r p,(D9 P ops.toList)[r]? = some p→S.heap.length + r ∉ Cs (Nq (Region.before ops).toList i) (Er F i)→H[S.heap.length + r]? = some (Ew p)
  have hordo : ∀ i lo,los[i]? = some lo→lo.ord = Nq (Region.before ops).toList i:=by
    intro i lo hlo
    have hil : i < ops.size:=by have:=lt_of_some hlo; omega
    rcases hget i ops[i] (by simp [hil]) with ⟨p,_,q2⟩ | ⟨_,l,xs,args,g,_,_,_,q4⟩
    · rw [hlo] at q2; injection q2 with q2; rw [q2]
    · rw [hlo] at q4; injection q4 with q4; rw [q4]
  -- hoisted operations
  have hhoist : ∀ i o p,ops[i]? = some o→Jc P o = some p→(∃ lo,los[i]? = some lo∧lo.hoist = some (rk P ops i))∧E i = none∧V i = .ptr (S.heap.length + rk P ops i) 0 0 0∧(F i).hoist = some (S.heap.length + rk P ops i)∧Bp (Nq (Region.before ops).toList i) (Er F i) (F i) = true:=by
    intro i o p ho hp
    have hil:=(Array.getElem?_eq_some_iff.1 ho).1
    rcases hget i o (by simpa using ho) with ⟨p',q1,q2⟩ | ⟨q0,_⟩
    · obtain ⟨lo, hlo, ht⟩ := hT i hil
      rw [hlo] at q2
      injection q2 with q2
      have hho : lo.hoist = some (rk P ops i):=by rw [q2]; rfl
      have hE : E i = none:=by simp only [E,hlo,hho]; simp
      have hrl : rk P ops i < (D9 P ops.toList).length:=lt_of_some (rk_get ho hp)
      cases ht with
      | skip hg=>rw [q2] at hg; simp [onG] at hg
      | run hg hh hF hok =>
        refine ⟨⟨lo,hlo,hho⟩,hE,?_,?_,?_⟩
        · rw [q2] at hh
          simp only [Aw,aop,LOp.loud,pop,List.map_cons,List.map_nil,opd,Bool.false_eq_true,if_false,Option.map_some,Oi,Pi_] at hh
          rw [← hh.1]
          have h1:=newsVals_get (n:=S.heap.length) hrl
          rw [htl] at h1
          simp only [List.getD_eq_getElem?_getD]
          rw [Lr_ (by rw [Mc]; omega),Mc,Nat.add_sub_cancel_left]
          show (tl[(D9 P ops.toList).length - 1 - rk P ops i]?).getD _ = _
          rw [h1]
          rfl
        · rw [hF]; simp [Bd,hho]
        · have h1 := hok
          simp only [Am,Bool.and_eq_true] at h1
          rw [← hordo i lo hlo]
          exact h1.1
    · rw [hp] at q0; cases q0
  -- the others
  have hother : ∀ i lo e,los[i]? = some lo→E i = some e→e = ⟨lo.op,lo.args.map (opd (Er V i ++ tl) env),V i,W i⟩∧F i = e.fp∧Aw call e.op e.ds (ST i) = some (e.r,ST (i + 1),e.wr)∧Bp (Nq (Region.before ops).toList i) (Er F i) (F i) = true∧(e.fp.writes = none→Z i (ST (i + 1)).heap):=by
    intro i lo e hlo he
    simp only [E,hlo] at he
    split at he
    · rename_i hc
      simp only [Oi] at he
      subst he
      have hil : i < ops.size:=by have:=lt_of_some hlo; omega
      obtain ⟨lo',hlo',ht⟩:=hT i hil
      rw [hlo] at hlo'
      injection hlo' with hlo'
      subst hlo'
      cases ht with
      | skip hg=>rw [hc.1] at hg; cases hg
      | run hg hh hF hok =>
        simp only [Am,Bool.and_eq_true,Bool.or_eq_true] at hok
        have hFe : F i = (⟨lo.op,lo.args.map (opd (Er V i ++ tl) env),V i,W i⟩ : Ev).fp:=by rw [hF]; simp [Bd,hc.2,Ev.fp]
        refine ⟨rfl,hFe,hh,by rw [← hordo i lo hlo]; exact hok.1,fun hw r p hr hn=>?_⟩
        rcases hok.2 with h1 | h1
        · rw [hFe,hw] at h1; cases h1
        · have := Ot h1 r p hr (by rw [hordo i lo hlo, Nat.zero_add]; exact hn)
          rwa [Nat.zero_add] at this
    · cases he
  have hruns0 : ∀ m k, k + m = ops.size → Runs call E Z (List.range' k m) (ST k) S' := by
    intro m
    induction m with
    | zero=>intro k hk; rw [show k = ops.size by omega,t3]; rfl
    | succ m ih =>
      intro k hk
      obtain ⟨lo,hlo,ht⟩:=hT k (by omega)
      rw [List.range'_succ]
      have ihk:=ih (k + 1) (by omega)
      simp only [Runs]
      cases hE : E k with
      | none =>
        have hst : ST (k + 1) = ST k:=by
          cases ht with
          | skip hg h1 h2 h3=>exact h2
          | run hg hh hF hok =>
            have hho : lo.hoist ≠ none:=by
              intro hn
              simp [E,hlo,hg,hn] at hE
            rcases hget k ops[k] (by simp) with ⟨p,_,q2⟩ | ⟨_,l,xs,args,g,_,_,_,q4⟩
            · rw [hlo] at q2
              injection q2 with q2
              rw [q2] at hh
              simp only [Aw,aop,LOp.loud,pop,List.map_cons,List.map_nil,opd,Bool.false_eq_true,if_false,Option.map_some,Oi,Pi_] at hh
              exact hh.2.1.symm
            · rw [hlo] at q4
              injection q4 with q4
              rw [q4] at hho
              exact absurd rfl hho
        rw [hst] at ihk
        exact ihk
      | some e =>
        obtain ⟨_,_,h3,_,h5⟩:=hother k lo e hlo hE
        exact ⟨ST (k + 1),h3,h5,ihk⟩
  refine wp_region_inv hm (fun i o ho=>(hdr i o ho).1) (fun L a' w'=>∃ ρ' S1,DInv P call ops slots nt env V E Z S S' w ρ a.defers L a' w' ρ' S1) ⟨ρ,ST 0,?_⟩ ?_ ?_
  · rw [t2]
    have hst : Stp w ρ S w.drew ρ ⟨S.heap ++ (D9 P ops.toList).map Ew,S.low⟩:=(stp_news hr _).trans (stp_drew w ρ _)
    refine ⟨?_,hst,hf.1,rfl,fun t ht=>.inr ⟨fun k o _ h=>h.elim,(hf.2 t ht).mono hst⟩,?_,fun j o p hj _ hp=>?_⟩
    · exact ⟨hr.inj,fun g b hb=>by
        obtain ⟨o,ho,hk⟩:=hr.obj g b hb
        exact ⟨o,by rw [La_ (lt_of_some ho)]; exact ho,hk.mono hst rfl⟩,hr.hids hst,hr.globs hst⟩
    · have h0 := hruns0 ops.size 0 (by omega)
      rw [t2] at h0
      have : left ops.size (fun _=>False) = List.range' 0 ops.size:=by
        unfold left
        rw [List.filter_eq_self.2 (fun k _=>notB_iff.2 (fun h=>h)),List.range_eq_range']
      rw [this]
      exact h0
    · have hg := rk_get hj hp
      refine ⟨?_,?_⟩
      · show (S.heap ++ (D9 P ops.toList).map Ew)[S.heap.length + rk P ops j]? = _
        rw [Lr_ (by omega),Nat.add_sub_cancel_left,Lp_,hg]
        rfl
      · cases hρ : ρ (S.heap.length + rk P ops j) with
        | none=>rfl
        | some b=>have:=hr.in hρ; omega
  · -- one operation
    rintro L i o a1 w1 ho hni hdown hdep ⟨ρ1,S1,hI⟩
    have hil:=(Array.getElem?_eq_some_iff.1 ho).1
    obtain ⟨lo,hlo,ht⟩:=hT i hil
    have hdst : Ga nt o.dst = true:=hdin o (by rw [Array.mem_toList_iff]; exact Array.mem_of_getElem? ho)
    have hprev : ∀ d ∈ J8 ops i,Ga nt d = true:=by
      intro d hd
      unfold J8 at hd
      rw [List.mem_reverse,List.mem_map] at hd
      obtain ⟨o',ho',rfl⟩:=hd
      exact hdin o' (List.mem_of_mem_take ho')
    obtain ⟨pre,post,hl1,hl2,hpre⟩:=left_split hil hni
    have hruns:=hI.runs
    rw [hl1] at hruns
    -- what the operation sees
    have hdown' : Down ops (fun k=>L k ∨ k = i):=by
      intro k ok hk hLk e he hb
      rcases hLk with hLk | rfl
      · exact .inl (hdown k ok hk hLk e he hb)
      · rw [ho] at hk
        injection hk with hk
        subst hk
        exact .inl (hdep e he hb)
    have hanc : ∀ k,k < i→ordered (Region.before ops).toList i k = true→L k:=fun k hk h=>((O1 hdown' h).1 hk (.inr rfl)).resolve_right (by omega)
    have hdesc : ∀ k,i < k→ordered (Region.before ops).toList i k = true→¬ L k:=fun k hk h hLk=>hni ((O1 hdown h).2 hk hLk)
    have hbit : ∀ k,k < i→((Region.before ops).toList.getD i 0).testBit k = true→L k:=fun k hk h=>(Mq hdown' h (.inr rfl)).resolve_right (by omega)
    -- behind it
    have hput : ∀ (v : Value) (w2 : World) (ρ2 : Su) (S2 : St), Rel w2 ρ2 S2.heap → Stp w ρ S w2 ρ2 S2 → Fwd w1 ρ1 S1.heap w2 ρ2 S2.heap → VR w2 ρ2 S2.heap (V i) v → Runs call E Z (pre ++ post) S2 S' →
        (∀ j o p,ops[j]? = some o→¬ L j→j ≠ i→Jc P o = some p→S2.heap[S.heap.length + rk P ops j]? = some (Ew p)∧ρ2 (S.heap.length + rk P ops j) = none) →
        ∃ ρ' S2,DInv P call ops slots nt env V E Z S S' w ρ a.defers (fun k=>L k ∨ k = i) (a1.put o.dst v) w2 ρ' S2:=by
      intro v w2 ρ2 S2 hrel hst hfw hvr hrun hpend
      refine ⟨ρ2,S2,⟨hrel,hst,?_,?_,fun t ht=>?_,by rw [hl2]; exact hrun,fun j oj p hj hLj hp=>hpend j oj p hj (fun h=>hLj (.inl h)) (fun h=>hLj (.inr h)) hp⟩⟩
      · cases o.dst with
        | none=>exact hI.size
        | some d=>simpa [Act.put] using hI.size
      · cases o.dst with
        | none=>exact hI.defers
        | some d=>exact hI.defers
      · by_cases e : o.dst = some t
        · refine .inl ⟨i, o, ho, .inr rfl, e, ?_⟩
          have htl : t < a1.tmps.size:=by rw [hI.size]; exact ht
          rw [e]
          simpa [Act.put,htl] using hvr
        · have hsame : (a1.put o.dst v).tmps.getD t undef = a1.tmps.getD t undef := by
            cases hd : o.dst with
            | none=>rfl
            | some d =>
              have hne : d ≠ t:=fun h=>e (by rw [hd,h])
              simp only [Act.put,Array.getD_eq_getD_getElem?,Array.getElem?_setIfInBounds,if_neg hne]
          rw [hsame]
          rcases hI.slot t ht with ⟨k',o',hk',hLk',hd',hvr'⟩ | ⟨hno,hvr'⟩
          · exact .inl ⟨k',o',hk',.inl hLk',hd',hvr'.fwd hfw⟩
          · refine .inr ⟨fun k o' hk hLk => ?_, hvr'.fwd hfw⟩
            rcases hLk with hLk | rfl
            · exact hno k o' hk hLk
            · rw [ho] at hk
              injection hk with hk
              subst hk
              exact e
    rcases hget i o (by simpa using ho) with ⟨p,hp,k4⟩ | ⟨hnn,l,xs,args,g,k1,k2,k3,k4⟩
    · -- a new variable
      obtain ⟨⟨lo',hlo',_⟩,hE,hV,_,_⟩:=hhoist i o p ho hp
      obtain ⟨n,hop,hgd,hz,hn,hlen⟩:=newOf_some hp
      obtain ⟨hobj,hnone⟩:=hI.pend i o p ho hni hp
      obtain ⟨v,w2,ob,hrun,hadd,hrel,hvr⟩:=alloc_fill (P:=P) (S:=S1) (g:=S.heap.length + rk P ops i) hI.rel hz hn hlen hobj hnone
      unfold wpOp
      rw [ho]
      have hw : Region.wanted o (yielded ops a1.tmps) = true:=by simp [Region.wanted,hgd]
      simp only [hw,if_true]
      left
      have hx : (execOp a1.eval o).run P w1 = .ok (.value v) w2:=by
        have he : execOp a1.eval o = (do pure (.value (← Instr.alloc p.1 true (.tuple #[])))):=by simp [execOp,hop]
        rw [he,Ac hrun]
        rfl
      unfold Oper.wp
      rw [hx]
      refine hput v w2 _ S1 hrel (stp_fill hI.stp hI.rel hadd hnone (by omega)) (fwd_fill hI.rel hadd hnone) (by rw [hV]; exact hvr) (Runs.drop hE hruns) fun j oj p' hj hLj hne hp'=>?_
      obtain ⟨q1,q2⟩:=hI.pend j oj p' hj hLj hp'
      refine ⟨q1,?_⟩
      simp only [upd]
      rw [if_neg (fun h=>hne (rk_inj hj hp' ho hp (by omega)))]
      exact q2
    · rw [hlo] at k4
      injection k4 with k4
      subst k4
      simp only [List.append_nil] at k2 k3
      have hsee : ∀ t,t < nt→(∀ k o',ops[k]? = some o'→o'.dst = some t→k ≠ i→ordered (Region.before ops).toList i k = true)→VR w1 ρ1 S1.heap (sig slots (J8 ops i) (Er V i ++ tl) env t) (a1.tmps.getD t undef):=by
        intro t ht hord
        rw [sig_tl (dstTo_len (Nat.le_of_lt hil)) (Mc V i)]
        rcases sig_to (slots:=slots) (V:=V) (env:=env) (hu t) i (Nat.le_of_lt hil) with ⟨k,ok,hk,hok,hd,hsg⟩ | ⟨hn,hsg⟩
        · rw [hsg]
          have hLk:=hanc k hk (hord k ok hok hd (by omega))
          rcases hI.slot t ht with ⟨k',o',hk',hLk',hd',hvr⟩ | ⟨hno,_⟩
          · have := hu t k k' ok o' hok hk' hd hd'
            subst this
            exact hvr
          · exact absurd hd (hno k ok hok hLk)
        · rw [hsg]
          rcases hI.slot t ht with ⟨k',o',hk',hLk',hd',hvr⟩ | ⟨hno,hvr⟩
          · exfalso
            have hki : ¬ k' < i:=fun h=>hn k' o' h hk' hd'
            have hne : k' ≠ i:=fun e=>hni (e ▸ hLk')
            exact hdesc k' (by omega) (hord k' o' hk' hd' hne) hLk'
          · exact hvr
      have hops : VL w1 ρ1 S1.heap (args.map (opd (Er V i ++ tl) env)) (xs.map a1.eval):=by
        refine opds_ok (fun g row hg=>hI.rel.glob g row (by rw [hI.stp.hid,hG]; exact hkG g row hg)) hs hprev k2 fun t hmem ht=>hsee t ht fun k o' hk hd hne=>?_
        rcases ((hdr i o ho).2 k o' t hk hd hne).2 with h | ⟨h,_⟩
        · exact h
        · obtain ⟨mt', k1⟩ := k1
          exact absurd hmem (h mt' l xs k1)
      have hguard : ∀ j b d b0, o.guard = some (j, b) → g = some (d, b0) → (∀ b', (Er V i ++ tl).getD d .undef = .bool b' → yielded ops a1.tmps j = some b') ∧ ((Er V i ++ tl).getD d .undef = .skip → yielded ops a1.tmps j = none) ∧ b0 = b := by
        intro j b d b0 hgd hg
        rw [hgd] at k3
        unfold Ia at k3
        simp only at k3
        split at k3
        · rename_i hj
          split at k3
          · rename_i t htt
            split at k3
            · rename_i hloc
              simp only [Oi] at k3
              subst k3
              simp only [Oi,Pi_] at hg
              obtain ⟨rfl,rfl⟩:=hg
              have hlen : ((ops.toList.take i).map (·.dst)).reverse.length = i:=by
                rw [List.length_reverse,List.length_map,List.length_take,Array.length_toList]; omega
              rw [hlen] at hj htt hloc
              have hjl : j < ops.toList.length:=by rw [Array.length_toList]; omega
              have hjd : (ops[j]?).bind (·.dst) = some t:=by
                have h1 : ((ops.toList.take i).map (·.dst)).length = i:=by rw [List.length_map,List.length_take,Array.length_toList]; omega
                rw [List.getD_eq_getElem?_getD,List.getElem?_reverse (by rw [h1]; omega),h1,show i - 1 - (i - 1 - j) = j by omega] at htt
                simp only [Lp_,List.getElem?_take] at htt
                rw [if_pos hj,Lg hjl] at htt
                have h2 : ops[j]? = some ops.toList[j]:=by simp
                rw [h2]
                simpa using htt
              have htn : t < nt:=by
                have:=hprev _ (Lm (Gy hloc))
                simpa [Ga] using this
              have hvis:=hsee t htn fun k o' hk hd hne=>by
                obtain ⟨oj,hoj,hdj⟩ : ∃ oj,ops[j]? = some oj∧oj.dst = some t:=by
                  cases hx : ops[j]? with
                  | none=>simp [hx] at hjd
                  | some oj=>exact ⟨oj,rfl,by simpa [hx] using hjd⟩
                rcases ((hdr i o ho).2 k o' t hk hd hne).2 with h | ⟨_,h⟩
                · exact h
                · exact absurd hdj (h j _ oj hgd hoj)
              refine ⟨fun b' hb'=>?_,fun hb'=>?_,rfl⟩
              · rw [hlen] at hb'
                exact guard_ok (b:=b) hjd hloc hprev hvis hI.size hb'
              · rw [hlen] at hb'
                exact guard_skip hjd hloc hprev hvis hI.size hb'
            · simp at k3
          · simp at k3
        · simp at k3
      cases ht with
      | skip hg h1 h2 h3 =>
        have hE : E i = none:=by simp only [E,hlo,hg]; simp
        have hw : Region.wanted o (yielded ops a1.tmps) = false := by
          cases hgd : o.guard with
          | none=>rw [hgd] at k3; simp only [Ia,Oi] at k3; subst k3; simp [onG] at hg
          | some jb =>
            obtain ⟨j,b2⟩:=jb
            cases hgg : g with
            | none=>simp [hgg,onG] at hg
            | some db =>
              obtain ⟨d,b⟩:=db
              simp only [hgg,onG] at hg
              split at hg
              · rename_i b' hb'
                simp only [Oi] at hg
                obtain ⟨hy,_,rfl⟩:=hguard j b2 d b hgd hgg
                have hy:=hy b' hb'
                simp only [Region.wanted,hgd,hy]
                simpa using hg
              · rename_i hb'
                obtain ⟨_,hy,rfl⟩:=hguard j b2 d b hgd hgg
                have hy:=hy hb'
                simp only [Region.wanted,hgd,hy]
                rfl
              · simp at hg
        unfold wpOp
        rw [ho]
        simp only [hw,Bool.false_eq_true,if_false]
        exact hput undef w1 ρ1 S1 hI.rel hI.stp (Stp.refl w1 ρ1 S1).fwd (by rw [h1]; exact .skip) (Runs.drop hE hruns) fun j oj p hj hLj _ hp=>hI.pend j oj p hj hLj hp
      | run hg hh hF hok =>
        have hw : Region.wanted o (yielded ops a1.tmps) = true := by
          cases hgd : o.guard with
          | none=>simp [Region.wanted,hgd]
          | some jb =>
            obtain ⟨j,b2⟩:=jb
            cases hgg : g with
            | none =>
              rw [hgd,hgg] at k3
              unfold Ia at k3
              simp only at k3
              split at k3
              · split at k3
                · split at k3<;>simp at k3
                · simp at k3
              · simp at k3
            | some db =>
              obtain ⟨d,b⟩:=db
              simp only [hgg,onG] at hg
              split at hg
              · rename_i b' hb'
                simp only [Oi] at hg
                obtain ⟨hy,_,rfl⟩:=hguard j b2 d b hgd hgg
                have hy:=hy b' hb'
                simp only [Region.wanted,hgd,hy]
                simpa using hg
              · simp at hg
              · simp at hg
        have hE : E i = some ⟨l,args.map (opd (Er V i ++ tl) env),V i,W i⟩:=by simp only [E,hlo]; rw [if_pos ⟨hg,trivial⟩]
        obtain ⟨_,hFe,_,hokF,_⟩:=hother i _ _ hlo hE
        have hFh : (F i).hoist = none:=by rw [hFe]; exact Oc _ _ _ _
        have hpair : ∀ j,j < i→∃ b,(b = true→L j)∧Al b (F j) (F i) = true:=by
          intro j hj
          obtain ⟨b,h1,h2⟩:=okFP_get hokF (i - 1 - j) (F j) (by rw [I4 F i _ (by omega)]; congr 2; omega)
          refine ⟨b,fun hb=>hbit j hj ?_,h2⟩
          have h3:=I4 (fun k=>((Region.before ops).toList.getD i 0).testBit k) i (i - 1 - j) (by omega)
          have h4 : (Nq (Region.before ops).toList i)[i - 1 - j]? = some (((Region.before ops).toList.getD i 0).testBit (i - 1 - (i - 1 - j))):=h3
          rw [h4,show i - 1 - (i - 1 - j) = j by omega] at h1
          injection h1 with h1
          rw [h1]; exact hb
        obtain ⟨S2,r1,r2,r3⟩:=Runs.front hclean hE hruns (fun j hj e' he'=>by
          obtain ⟨hji,hnL⟩:=hpre j hj
          obtain ⟨lo',hlo',_⟩:=hT j (by omega)
          obtain ⟨_,hFj,_,_,_⟩:=hother j lo' e' hlo' he'
          obtain ⟨b,h1,h2⟩:=hpair j hji
          have hFjh : (F j).hoist = none:=by rw [hFj]; exact Oc _ _ _ _
          simp only [Al,hFh,hFjh,Bool.or_eq_true] at h2
          rcases h2 with h2 | h2
          · exact absurd (h1 h2) hnL
          · rw [hFj,hFe] at h2; exact h2)
        unfold wpOp
        rw [ho]
        simp only [hw,if_true]
        left
        refine exOp_ok hcall (by rw [hI.stp.hid]; exact hG) k1.choose_spec hops hI.rel r1 ?_
        rintro v w2 ⟨ρ2,q1,q2,q3,_⟩
        refine hput v w2 ρ2 S2 q1 (hI.stp.trans q2) q2.fwd q3 r3 fun j oj p hj hLj hne hp=>?_
        obtain ⟨p1,p2⟩:=hI.pend j oj p hj hLj hp
        obtain ⟨_,_,_,hFjh,hokj⟩:=hhoist j oj p hj hp
        have hsame : S2.heap[S.heap.length + rk P ops j]? = some (Ew p):=by
          cases hwr : (F i).writes with
          | none =>
            rw [hFe] at hwr
            refine r2 hwr _ p (rk_get hj hp) fun hd=>?_
            obtain ⟨d,f,d1,d2,d3⟩:=Oj hd
            have hdl : d < i:=by have:=lt_of_some d2; rw [Mc] at this; exact this
            rw [I4 F i d hdl] at d2
            injection d2 with d2
            subst d2
            have d4 : (Nq (Region.before ops).toList i)[d]? = some (((Region.before ops).toList.getD i 0).testBit (i - 1 - d)):=I4 (fun k=>((Region.before ops).toList.getD i 0).testBit k) i d hdl
            rw [d4] at d1
            injection d1 with d1
            have hLd:=hbit (i - 1 - d) (by omega) d1
            obtain ⟨lo',hlo',ht'⟩:=hT (i - 1 - d) (by omega)
            have hod : ops[i - 1 - d]? = some ops[i - 1 - d]:=Array.getElem?_eq_getElem (by omega)
            cases hpd : Jc P ops[i - 1 - d] with
            | some p' =>
              obtain ⟨_,_,_,hh',_⟩:=hhoist (i - 1 - d) _ p' hod hpd
              rw [hh'] at d3
              injection d3 with d3
              have:=rk_inj hod hpd hj hp (by omega)
              exact hLj (this ▸ hLd)
            | none =>
              have hnh : (F (i - 1 - d)).hoist = none:=by
                rcases hget (i - 1 - d) ops[i - 1 - d] (by simp) with ⟨p',q1',_⟩ | ⟨_,l',xs',args',g',_,_,_,q4'⟩
                · rw [hpd] at q1'; cases q1'
                · rw [hlo'] at q4'
                  injection q4' with q4'
                  cases ht' with
                  | skip hg' h1' h2' h3'=>rw [h3']; rfl
                  | run hg' hh' hF' hok'=>rw [hF',q4']; exact Oc _ _ _ _
              rw [hnh] at d3
              cases d3
          | some Wr =>
            have hap : Az (S.heap.length + rk P ops j) (F i).writes = true:=by
              rcases Nat.lt_trichotomy j i with h | h | h
              · obtain ⟨b, h1, h2⟩ := hpair j h
                simp only [Al,hFjh,hFh,Bool.or_eq_true] at h2
                rcases h2 with h2 | h2
                · exact absurd (h1 h2) hLj
                · exact h2
              · exact absurd h hne
              · obtain ⟨b, h1, h2⟩ := okFP_get hokj (j - 1 - i) (F i) (by rw [I4 F j _ (by omega)]; congr 2; omega)
                simp only [Al,hFjh,hFh] at h2
                exact h2
            rw [hwr] at hap
            have hap : S.heap.length + rk P ops j ∉ Wr:=by simpa [Az] using hap
            rw [← p1]
            rcases I6 r1 with ⟨R,W',eff,_,hw',rfl,hin,_⟩ | hall
            · have : W' = Wr := by
                rw [hFe] at hwr
                have hw2 : (Ev.fp ⟨l,args.map (opd (Er V i ++ tl) env),V i,W i⟩).writes = some W':=hw'
                rw [hw2] at hwr
                injection hwr
              subst this
              exact app_get hin hap
            · rw [hFe] at hwr
              have hall' : Ev.fp ⟨l,args.map (opd (Er V i ++ tl) env),V i,W i⟩ = Bg (W i):=hall
              rw [hall'] at hwr
              cases hWi : W i with
              | true=>rw [hWi] at hwr; cases hwr
              | false =>
                simp only [hWi] at r1
                rw [K3 hclean r1]
        refine ⟨hsame,?_⟩
        obtain ⟨o',ho',_,_,hv'⟩:=q2.obj _ _ p1
        rw [hsame] at ho'
        injection ho' with ho'
        subst ho'
        rw [(hv' rfl).1]
        exact p2
  · -- the end
    rintro L a1 w1 hall ⟨ρ1,S1,hI⟩
    have hSt : S' = S1:=by
      have h:=hI.runs
      have : left ops.size L = []:=by
        unfold left
        rw [List.filter_eq_nil_iff]
        intro k hk
        rw [notB_iff]
        exact fun h=>h (hall k (List.mem_range.1 hk))
      rw [this] at h
      exact h
    subst hSt
    have hslot:=hI.slot
    refine hQ a1 w1 ρ1 hI.rel hI.stp ⟨hI.size,fun t ht=>?_⟩ hI.defers
    have hde : dstsOf ops.toList = J8 ops ops.size:=by unfold dstsOf J8; rw [List.take_of_length_le (by simp)]
    rw [hde,t4,sig_tl (dstTo_len (Nat.le_refl _)) (Mc V _)]
    rcases sig_to (slots:=slots) (V:=V) (env:=env) (hu t) ops.size (Nat.le_refl _) with ⟨k,ok,hk,hok,hd,hsg⟩ | ⟨hn,hsg⟩
    · rw [hsg]
      rcases hslot t ht with ⟨k',o',hk',hLk',hd',hvr⟩ | ⟨hno,_⟩
      · have := hu t k k' ok o' hok hk' hd hd'
        subst this
        exact hvr
      · exact absurd hd (hno k ok hok (hall k hk))
    · rw [hsg]
      rcases hslot t ht with ⟨k',o',hk',hLk',hd',hvr⟩ | ⟨hno,hvr⟩
      · exact absurd hd' (hn k' o' (Array.getElem?_eq_some_iff.1 hk').1 hk')
      · exact hvr
end
end Go.Proofs.YtkaedpmmopigkaaGreatDoor
namespace Go.Proofs.YtkaedpmmopigkaaGreatDoor
open Go.RowKit
set_option linter.unusedVariables false
set_option linter.unusedSimpArgs false

def Og : Sr→Exit
 | .normal=>.normal
 | .ret=>.ret
 | .exit i=>.exit i

def dfOf : Value→Deferred
 | .func fn first caps=>⟨.fn fn caps,first⟩
 | _=>⟨.nil,#[]⟩
def DX (w : World) (ρ : Su) (H : List Sk) (n : Nat) (env : List D) (df : List Deferred) : Prop:=n ≤ env.length∧∃ vs,VL w ρ H (env.drop n) vs∧df = (vs.map dfOf).reverse
theorem DX.nil {w : World} {ρ : Su} {H : List Sk} {n : Nat} {env : List D} (h : env.length = n) : DX w ρ H n env []:=⟨by omega,[],by rw [List.drop_eq_nil_of_le (by omega)]; exact .nil,rfl⟩
theorem DX.mono {w w' : World} {ρ ρ' : Su} {S S' : St} {n : Nat} {env : List D} {df : List Deferred} (hs : Stp w ρ S w' ρ' S') (h : DX w ρ S.heap n env df) : DX w' ρ' S'.heap n env df:=by
 obtain ⟨h1,vs,h2,h3⟩:=h
 exact ⟨h1,vs,h2.mono hs,h3⟩
theorem DX.exps {w : World} {ρ : Su} {H : List Sk} {dsts : List (Option Tmp)} {slots : List Nat} {vals env : List D} {df : List Deferred} (h : DX w ρ H slots.length env df) : DX w ρ H slots.length (exports (He dsts slots 0) vals env) df:=by
 obtain ⟨h1,vs,h2,h3⟩:=h
 refine ⟨by rw [Ic]; exact h1,vs,?_,h3⟩
 rw [Po fun p hp=>by have:=Qn p hp; omega]
 exact h2
theorem DX.push {w : World} {ρ : Su} {H : List Sk} {n : Nat} {env : List D} {df : List Deferred} {d : D} {v : Value} (h : DX w ρ H n env df) (hv : VR w ρ H d v) : DX w ρ H n (env ++ [d]) (dfOf v :: df):=by
 obtain ⟨h1,vs,h2,h3⟩:=h
 refine ⟨by simp; omega,vs ++ [v],?_,by simp [h3]⟩
 rw [List.drop_append_of_le_length h1]
 exact h2.append (.cons hv .nil)

def CQ (w : World) (ρ : Su) (S : St) (slots : List Nat) (nt : Nat) (e : Sr) (env' : List D) (S' : St) (ex : Exit) (a' : Act) (w' : World) : Prop :=
 ∃ ρ',Og e = ex∧Rel w' ρ' S'.heap∧Stp w ρ S w' ρ' S'∧FR w' ρ' S'.heap nt (sig slots [] [] env') a'∧DX w' ρ' S'.heap slots.length env' a'.defers

theorem deferOf_some {ops : Array Oper} {t : Tmp} (h : deferOf ops = some t) : ∃ (ys : Array Oper) (o : Oper) (args : Array Operand) (tys : Array TypeId),ops = ys.push o∧o.op = .defer ⟨.value (.tmp t),args,tys⟩∧args.isEmpty = true∧o.guard = none∧o.dst = none:=by
 unfold deferOf at h
 split at h
 ·
  rename_i o ho
  obtain ⟨ys,rfl⟩:=Array.back?_eq_some_iff.1 ho
  split at h
  ·
   rename_i c hop hg hd
   obtain ⟨ce,args,tys⟩:=c
   simp only at h
   split at h
   ·
    rename_i t' hc
    split at h
    ·
     rename_i ha
     simp only [Oi] at h
     subst h
     exact ⟨ys,o,args,tys,rfl,hop,ha,hg,hd⟩
    ·
     simp at h
   ·
    simp at h
  ·
   simp at h
 ·
  simp at h
theorem sig_more {slots : List Nat} {env l : List D} (h : slots.length ≤ env.length) (t : Nat) : sig slots [] [] (env ++ l) t = sig slots [] [] env t:=by
 unfold sig
 simp only [Gj]
 cases hj : idxOf slots t with
 | none=>rfl
 | some j =>
  have:=lt_of_some (Gh hj)
  simp only [List.getD,La_ (show j < env.length by omega)]
section
variable {P : Program} {call : Bi} {kd : Kd} {nt : Nat} {slots : List Nat} {N : Nat}

theorem code_ok {G : Nat → Option (List D)} (hkG : ∀ g row, kd.glob g = some row → G g = some row) (hm : P.follows .mixedOrders = true) (hcall : Oo P G call) (hclean : Ht call) (hs : slots.all (· < nt) = true) :
    ∀ (c : Code) (lc : Sq) (env : List D) (S : St) (e : Sr) (env' : List D) (S' : St) (a : Act) (w : World) (ρ : Su) (Q : Exit → Act → World → Prop), Dp P kd nt slots c = some lc → Bn call N lc env S = some (e, env', S') → DX w ρ S.heap slots.length env a.defers → Rel w ρ S.heap → ρ.X.G = G → FR w ρ S.heap nt (sig slots [] [] env) a →
      (∀ ex a' w',CQ w ρ S slots nt e env' S' ex a' w'→Q ex a' w')→c.wp P Q a w:=by
  intro c
  induction c with
  | skip =>
    intro lc env S e env' S' a w ρ Q hl hx hlen hr hG hf hQ
    simp only [Dp,Oi] at hl
    subst hl
    simp only [Bn,Oi,Pi_] at hx
    obtain ⟨rfl,rfl,rfl⟩:=hx
    exact wp_skip (hQ _ _ _ ⟨ρ,rfl,hr,Stp.refl _ _ _,hf,hlen⟩)
  | ret =>
    intro lc env S e env' S' a w ρ Q hl hx hlen hr hG hf hQ
    simp only [Dp,Oi] at hl
    subst hl
    simp only [Bn,Oi,Pi_] at hx
    obtain ⟨rfl,rfl,rfl⟩:=hx
    exact wp_ret (hQ _ _ _ ⟨ρ,rfl,hr,Stp.refl _ _ _,hf,hlen⟩)
  | exit i =>
    intro lc env S e env' S' a w ρ Q hl hx hlen hr hG hf hQ
    simp only [Dp,Oi] at hl
    subst hl
    simp only [Bn,Oi,Pi_] at hx
    obtain ⟨rfl,rfl,rfl⟩:=hx
    exact wp_exit (hQ _ _ _ ⟨ρ,rfl,hr,Stp.refl _ _ _,hf,hlen⟩)
  | region id ops draw =>
    intro lc env S e env' S' a w ρ Q hl hx hlen hr hG hf hQ
    simp only [Dp] at hl
    split at hl
    · rename_i t hdo
      split at hl
      · simp at hl
      · rename_i hdr
        obtain rfl : draw = false:=by simpa using hdr
        split at hl
        · rename_i lr j hlr hj
          simp only [Oi] at hl
          subst hl
          obtain ⟨ys,o,args,tys,rfl,hop,hargs,hog,hod⟩:=deferOf_some hdo
          simp only [Array.pop_push,M8,Bool.false_eq_true,if_false,Om] at hlr
          obtain ⟨los,hlos,rfl⟩:=hlr
          simp only [Bn] at hx
          cases hops : Gl call los [] env S with
          | none=>simp [hops] at hx
          | some q =>
            obtain ⟨vals,S1⟩:=q
            simp only [hops] at hx
            split at hx
            · rename_i f caps hfn
              simp only [Oi,Pi_] at hx
              obtain ⟨rfl,rfl,rfl⟩:=hx
              refine wp_region ?_
              rw [List.range_eq_range',show (ys.push o).size = ys.toList.length + [o].length by simp]
              refine seq_part hcall [o] hkG hs ys.toList 0 [] [] los S vals S1 a w ρ (by simp) (by simp) (by simp) hlos hops hr hG hf fun a' w' ρ' h1 h2 h3 h4=>?_
              have hd : ((((ys.push o).toList.take (0 + ys.toList.length)).map (·.dst)).reverse) = dstsOf ys.toList:=by simp [dstsOf]
              rw [hd] at h3
              have h5:=h3.end_ hlen.1
              have hm:=Gh hj
              have hjl:=lt_of_some hm
              have htn : t < nt:=by
                have:=List.all_eq_true.1 hs t (Lm hm)
                simpa using this
              have hv:=h5.2 t htn
              rw [show sig slots [] [] (exports (He (dstsOf ys.toList) slots 0) vals env) t = D.fn f caps by
                unfold sig
                simp only [Gj,hj]
                exact hfn] at hv
              have hrg : List.range' (0 + ys.toList.length) [o].length = [ys.size]:=by simp
              have hat : (ys.push o)[ys.size]? = some o:=by simp
              have hwn : Region.wanted o (yielded (ys.push o) a'.tmps) = true:=by simp [Region.wanted,hog]
              rw [hrg]
              simp only [wpOps,hat,hwn,if_true]
              left
              have hex : (execOp a'.eval o).run P w' = .ok (.defer (dfOf (a'.tmps.getD t undef))) w':=by
                have ha : args = #[]:=by simpa using hargs
                subst ha
                generalize hu : a'.tmps.getD t undef = u at hv
                have hev : a'.eval (.tmp t) = u:=hu
                cases hv with
                | fn _ _ vs hl hh=>simp [execOp,hop,resolve,hev,Deferred.ofValue,dfOf]
              unfold Oper.wp
              rw [hex]
              simp only [Oper.upon,hod,Act.put]
              refine hQ _ _ _ ⟨ρ',rfl,h1,h2,⟨h5.1,fun t' ht'=>?_⟩,?_⟩
              · rw [sig_more (by rw [Ic]; exact hlen.1)]
                exact h5.2 t' ht'
              · rw [h4]
                exact (hlen.mono h2).exps.push hv
            · simp at hx
        · simp at hl
    · rename_i hdo
      simp only [M8] at hl
      cases draw with
      | false =>
        simp only [Bool.false_eq_true,if_false,Om] at hl
        obtain ⟨los,hlos,rfl⟩:=hl
        simp only [Bn] at hx
        split at hx
        · rename_i vals S1 hops
          simp only [Oi,Pi_] at hx
          obtain ⟨rfl,rfl,rfl⟩:=hx
          refine wp_region ?_
          rw [List.range_eq_range',← Array.length_toList]
          exact seq_ok hcall hkG hs ops.toList 0 [] [] los S vals S1 a w ρ (by simp) (by simp) (by simp) hlos hops hr hG hf fun a' w' ρ' h1 h2 h3 h4=>hQ _ _ _ ⟨ρ',rfl,h1,h2,h3.end_ hlen.1,by rw [h4]; exact (hlen.mono h2).exps⟩
        · simp at hx
      | true =>
        simp only [if_true] at hl
        split at hl
        · rename_i hdr
          simp only [Om] at hl
          obtain ⟨los,hlos,rfl⟩:=hl
          simp only [Bn] at hx
          split at hx
          · rename_i vals S1 hops
            simp only [Oi,Pi_] at hx
            obtain ⟨rfl,rfl,rfl⟩:=hx
            exact draw_ok hkG hm hcall hclean hs hdr hlos hops hr hG hf fun a' w' ρ' h1 h2 h3 h4=>hQ _ _ _ ⟨ρ',rfl,h1,h2,h3.end_ hlen.1,by rw [h4]; exact (hlen.mono h2).exps⟩
          · simp at hx
        · simp at hl
  | seq x y ihx ihy =>
    intro lc env S e env' S' a w ρ Q hl hx hlen hr hG hf hQ
    simp only [Dp] at hl
    split at hl
    · rename_i lx ly hlx hly
      simp only [Oi] at hl
      subst hl
      simp only [Bn] at hx
      refine wp_seq ?_
      cases hex : Bn call N lx env S with
      | none=>simp [hex] at hx
      | some q =>
        obtain ⟨e1,env1,S1⟩:=q
        rw [hex] at hx
        refine ihx lx env S e1 env1 S1 a w ρ _ hlx hex hlen hr hG hf ?_
        rintro ex a' w' ⟨ρ',h1,h2,h3,h4,h5⟩
        cases e1 with
        | normal =>
          simp only at hx
          simp only [Og] at h1
          subst h1
          refine ihy ly env1 S1 e env' S' a' w' ρ' Q hly hx h5 h2 (by rw [h3.hid]; exact hG) h4 ?_
          rintro ex a2 w2 ⟨ρ2,k1,k2,k3,k4,k5⟩
          exact hQ _ _ _ ⟨ρ2,k1,k2,h3.trans k3,k4,k5⟩
        | ret =>
          simp only [Oi,Pi_] at hx
          obtain ⟨rfl,rfl,rfl⟩:=hx
          simp only [Og] at h1
          subst h1
          exact hQ _ _ _ ⟨ρ',rfl,h2,h3,h4,h5⟩
        | exit i =>
          simp only [Oi,Pi_] at hx
          obtain ⟨rfl,rfl,rfl⟩:=hx
          simp only [Og] at h1
          subst h1
          exact hQ _ _ _ ⟨ρ',rfl,h2,h3,h4,h5⟩
    · simp at hl
  | cond c x y ihx ihy =>
    intro lc env S e env' S' a w ρ Q hl hx hlen hr hG hf hQ
    simp only [Dp] at hl
    split at hl
    · rename_i z lx ly hz hlx hly
      simp only [Oi] at hl
      subst hl
      have hc : VR w ρ S.heap (opd [] env z) (a.eval c):=opd_ok (fun g row hg=>hr.glob g row (by rw [hG]; exact hkG g row hg)) hz hs (by simp) fun t ht=>hf.2 t (tmp_in (ht ▸ hz) hs (by simp))
      simp only [Bn] at hx
      split at hx
      · rename_i hb
        rw [hb] at hc
        generalize hv : a.eval c = v at hc
        cases hc
        exact wp_cond_true hv (ihx lx env S e env' S' a w ρ Q hlx hx hlen hr hG hf hQ)
      · rename_i hb
        rw [hb] at hc
        generalize hv : a.eval c = v at hc
        cases hc
        exact wp_cond_false hv (ihy ly env S e env' S' a w ρ Q hly hx hlen hr hG hf hQ)
      · simp at hx
    · simp at hl
  | block i c ih =>
    intro lc env S e env' S' a w ρ Q hl hx hlen hr hG hf hQ
    simp only [Dp,Om] at hl
    obtain ⟨lc,hlc,rfl⟩:=hl
    simp only [Bn] at hx
    refine wp_block ?_
    cases hex : Bn call N lc env S with
    | none=>simp [hex] at hx
    | some q =>
      obtain ⟨e1,env1,S1⟩:=q
      rw [hex] at hx
      refine ih lc env S e1 env1 S1 a w ρ _ hlc hex hlen hr hG hf ?_
      rintro ex a' w' ⟨ρ',h1,h2,h3,h4,h5⟩
      cases e1 with
      | normal =>
        simp only [Oi,Pi_] at hx
        obtain ⟨rfl,rfl,rfl⟩:=hx
        simp only [Og] at h1
        subst h1
        exact hQ _ _ _ ⟨ρ',rfl,h2,h3,h4,h5⟩
      | ret =>
        simp only [Oi,Pi_] at hx
        obtain ⟨rfl,rfl,rfl⟩:=hx
        simp only [Og] at h1
        subst h1
        exact hQ _ _ _ ⟨ρ',rfl,h2,h3,h4,h5⟩
      | exit j =>
        simp only [Og] at h1
        subst h1
        simp only at hx
        simp only [Exit.inBlock]
        split at hx
        · rename_i hj
          rw [if_pos hj]
          simp only [Oi,Pi_] at hx
          obtain ⟨rfl,rfl,rfl⟩:=hx
          exact hQ _ _ _ ⟨ρ',rfl,h2,h3,h4,h5⟩
        · rename_i hj
          rw [if_neg hj]
          simp only [Oi,Pi_] at hx
          obtain ⟨rfl,rfl,rfl⟩:=hx
          exact hQ _ _ _ ⟨ρ',rfl,h2,h3,h4,h5⟩
  | loop c ih =>
    intro lc env S e env' S' a w ρ Q hl hx hlen hr hG hf hQ
    simp only [Dp,Om] at hl
    obtain ⟨lc,hlc,rfl⟩:=hl
    simp only [Bn] at hx
    have key : ∀ (n : Nat) (env : List D) (S : St) (a : Act) (w : World) (ρ : Su),Gp (Bn call N lc) n env S = some (e,env',S')→DX w ρ S.heap slots.length env a.defers→Rel w ρ S.heap→ρ.X.G = G→FR w ρ S.heap nt (sig slots [] [] env) a→(∀ ex a' w',CQ w ρ S slots nt e env' S' ex a' w'→Q ex a' w')→Code.rounds P c Q n a w:=by
      intro n
      induction n with
      | zero=>intro env S a w ρ hx; simp [Gp] at hx
      | succ n ihn =>
        intro env S a w ρ hx hlen hr hG hf hQ
        rw [rounds_succ]
        simp only [Gp] at hx
        cases hex : Bn call N lc env S with
        | none=>simp [hex] at hx
        | some q =>
          obtain ⟨e1,env1,S1⟩:=q
          rw [hex] at hx
          refine ih lc env S e1 env1 S1 a w ρ _ hlc hex hlen hr hG hf ?_
          rintro ex a' w' ⟨ρ',h1,h2,h3,h4,h5⟩
          cases e1 with
          | normal =>
            simp only at hx
            simp only [Og] at h1
            subst h1
            refine ihn env1 S1 a' w' ρ' hx h5 h2 (by rw [h3.hid]; exact hG) h4 ?_
            rintro ex a2 w2 ⟨ρ2,k1,k2,k3,k4,k5⟩
            exact hQ _ _ _ ⟨ρ2,k1,k2,h3.trans k3,k4,k5⟩
          | ret =>
            simp only [Oi,Pi_] at hx
            obtain ⟨rfl,rfl,rfl⟩:=hx
            simp only [Og] at h1
            subst h1
            exact hQ _ _ _ ⟨ρ',rfl,h2,h3,h4,h5⟩
          | exit i =>
            simp only [Oi,Pi_] at hx
            obtain ⟨rfl,rfl,rfl⟩:=hx
            simp only [Og] at h1
            subst h1
            exact hQ _ _ _ ⟨ρ',rfl,h2,h3,h4,h5⟩
    exact wp_loop_rounds N (key N env S a w ρ hx hlen hr hG hf hQ)
  | rangeFunc=>intro lc env S e env' S' a w ρ Q hl hx; simp only [Dp,Oi] at hl; subst hl; simp [Bn] at hx
  | scope c ih =>
    intro lc env S e env' S' a w ρ Q hl hx hlen hr hG hf hQ
    simp only [Dp] at hl
    refine wp_scope_straight (ih lc env S e env' S' a w ρ _ hl hx hlen hr hG hf ?_)
    intro ex a' w' hc
    have hq:=hQ ex a' w' hc
    obtain ⟨ρ',h1,_⟩:=hc
    cases e<;>simp only [Og] at h1<;>subst h1<;>exact hq
  | label =>
    intro lc env S e env' S' a w ρ Q hl hx hlen hr hG hf hQ
    simp only [Dp,Oi] at hl
    subst hl
    simp only [Bn,Oi,Pi_] at hx
    obtain ⟨rfl,rfl,rfl⟩:=hx
    exact wp_label (hQ _ _ _ ⟨ρ,rfl,hr,Stp.refl _ _ _,hf,hlen⟩)
  | goto=>intro lc env S e env' S' a w ρ Q hl hx; simp only [Dp,Oi] at hl; subst hl; simp [Bn] at hx
  | refuse=>intro lc env S e env' S' a w ρ Q hl hx; simp only [Dp,Oi] at hl; subst hl; simp [Bn] at hx
end

/-! results -/
theorem Lx {α β : Type} {f : α→Option β} : ∀ {l : List α} {l' : List β},l.mapM f = some l'→l'.length = l.length∧∀ (i : Nat) (x : α),l[i]? = some x→∃ y,l'[i]? = some y∧f x = some y
 | [],l',h=>by
  simp only [List.mapM_nil,Option.pure_def,Oi] at h
  subst h
  exact ⟨rfl,fun i x hx=>by simp at hx⟩
 | a :: l,l',h=>by
  simp only [List.mapM_cons,Option.pure_def,Option.bind_eq_bind,Option.bind_eq_some_iff,Oi] at h
  obtain ⟨y,hy,ys,hys,rfl⟩:=h
  obtain ⟨h1,h2⟩:=Lx hys
  refine ⟨by simp [h1],fun i x hx=>?_⟩
  cases i with
  | zero=>simp at hx; subst hx; exact ⟨y,rfl,hy⟩
  | succ i=>simpa using h2 i x (by simpa using hx)
theorem snapD_msl (m : Nat) (H : List Sk) (k g v lo n : Nat) (cap : Option Nat) : K6 m H (k + 1) (.msl g v lo n cap) = match H[g]? with
  | some o => if o.ver = v ∧ m ≤ g ∧ o.kind = 0 then (match ((o.rows.drop lo).take n).mapM (fun r => r.mapM (K6 m H k)) with
    | some rows=>if rows.all (fun r=>r.all D.free) then some (.sl o.sz rows (match cap with | some c=>some c | none=>if o.grow then none else some (o.rows.length - lo))) else none
    | none=>none) else snap m H (.msl g v lo n cap)
  | none=>none:=rfl
theorem Q5 (m : Nat) (H : List Sk) (k : Nat) {d : D} (h : ∀ g v lo n cap,d ≠ .msl g v lo n cap) : K6 m H k d = snap m H d:=by
 cases k with
 | zero=>rfl
 | succ k=>cases d<;>first | rfl | exact absurd rfl (h _ _ _ _ _)
theorem P8 {m : Nat} {H : List Sk} {d r : D} (h : snap m H d = some r) : ((∀ cs,d ≠ .agg cs)→∀ cs,r ≠ .agg cs)∧((∀ cs,d ≠ .tup cs)→∀ cs,r ≠ .tup cs):=by
 unfold snap at h
 repeat' (first | (simp at h; done) | (split at h))
 all_goals
  simp only [Oi] at h
  subst h
  first
   | exact ⟨fun h=>h,fun h=>h⟩
   | exact ⟨fun _ cs h=>(by cases h),fun _ cs h=>(by cases h)⟩
theorem snapD_cell {m : Nat} {H : List Sk} {k : Nat} {d r : D} (h : K6 m H k d = some r) : ((∀ cs, d ≠ .agg cs) → ∀ cs, r ≠ .agg cs) ∧ ((∀ cs, d ≠ .tup cs) → ∀ cs, r ≠ .tup cs) := by
  by_cases hm : ∃ g v lo n cap,d = .msl g v lo n cap
  · obtain ⟨g, v, lo, n, cap, rfl⟩ := hm
    cases k with
    | zero=>exact P8 h
    | succ k =>
      rw [snapD_msl] at h
      cases hg : H[g]? with
      | none=>rw [hg] at h; simp at h
      | some o =>
        rw [hg] at h
        simp only at h
        by_cases hc : o.ver = v∧m ≤ g∧o.kind = 0
        · rw [if_pos hc] at h
          cases hr : ((o.rows.drop lo).take n).mapM (fun r=>r.mapM (K6 m H k)) with
          | none=>rw [hr] at h; simp at h
          | some rows =>
            rw [hr] at h
            simp only at h
            rw [Option.ite_none_right_eq_some] at h
            obtain ⟨_,h⟩:=h
            simp only [Oi] at h
            subst h
            exact ⟨fun _ cs h=>(by cases h),fun _ cs h=>(by cases h)⟩
        · rw [if_neg hc] at h
          exact P8 h
  · rw [Q5 m H k (fun g v lo n cap he => hm ⟨g, v, lo, n, cap, he⟩)] at h
    exact P8 h
theorem freeV_cell {r : D} (h : ∀ cs,r ≠ .agg cs) (hf : r.Sy = true) : r.free = true:=by
 cases r<;>first | exact hf | exact absurd rfl (h _)
theorem freeR_val {r : D} (h : ∀ cs,r ≠ .tup cs) (hf : r.Sz = true) : r.Sy = true:=by
 cases r<;>first | exact hf | exact absurd rfl (h _)
def resSem (tmps : Array Value) : ResultVar→Sem Value
 | .tmp t=>pure (tmps.getD t undef)
 | .cell a t=>do loadVar t (← asAddr (tmps.getD a undef))
theorem results_eq (fn : Func) (tmps : Array Value) : results fn tmps = (do let vs ← fn.results.mapM (resSem tmps); pure (if h : vs.size = 1 then vs[0] else .tuple vs)):=by
 unfold results
 congr 1
section
variable {P : Program} {w : World} {ρ : Su} {S : St}
theorem res_ok {nt : Nat} {slots : List Nat} {env : List D} {a : Act} (hr : Rel w ρ S.heap) (hs : slots.all (· < nt) = true) (hf : FR w ρ S.heap nt (sig slots [] [] env) a) : ∀ {rs : List ResultVar} {ls : List LRes} {ds : List D}, Kr P slots rs = some ls → Bz env S ls = some ds →
    ∃ vs,(rs.mapM (resSem a.tmps)).run P w = .ok vs w∧VL w ρ S.heap ds vs
  | [], ls, ds, hl, hd => by
    simp only [Kr,Oi] at hl
    subst hl
    simp only [Bz,Oi] at hd
    subst hd
    exact ⟨[],by simp,.nil⟩
  | .tmp t :: rs, ls, ds, hl, hd => by
    simp only [Kr] at hl
    split at hl
    · rename_i j m hj hm
      simp only [Oi] at hl
      subst hl
      simp only [Bz,Dn] at hd
      split at hd
      · rename_i x y hx hy
        simp only [Oi] at hd hx
        subst hd hx
        obtain ⟨vs,h1,h2⟩:=res_ok hr hs hf hm hy
        have ht : t < nt:=by
          have:=List.all_eq_true.1 hs t (Lm (Gh hj))
          simpa using this
        have h3:=hf.2 t ht
        unfold sig at h3
        simp only [Gj,hj] at h3
        exact ⟨a.tmps.getD t undef :: vs,by rw [List.mapM_cons,Ac (a:=a.tmps.getD t undef) (w':=w) rfl,Ac h1]; rfl,.cons h3 h2⟩
      · simp at hd
    · simp at hl
  | .cell ad t :: rs, ls, ds, hl, hd => by
    simp only [Kr] at hl
    split at hl
    · rename_i j n m hj hn hm
      simp only [Oi] at hl
      subst hl
      simp only [Bz,Dn] at hd
      split at hd
      · rename_i x y hx hy
        simp only [Oi] at hd
        subst hd
        obtain ⟨vs,h1,h2⟩:=res_ok hr hs hf hm hy
        have ht : ad < nt:=by
          have:=List.all_eq_true.1 hs ad (Lm (Gh hj))
          simpa using this
        have h3:=hf.2 ad ht
        unfold sig at h3
        simp only [Gj,hj] at h3
        obtain ⟨v,h4,h5⟩:=load_ok (P:=P) hr h3 hx hn rfl
        have h6 : (resSem a.tmps (.cell ad t)).run P w = .ok v w:=by
          rw [← h4]
          show (do loadVar t (← asAddr (a.tmps.getD ad undef)) : Sem Value).run P w = _
          generalize a.tmps.getD ad undef = u at h3 ⊢
          generalize env.getD j .undef = du at h3 hx
          unfold Gq at hx
          split at hx
          · cases h3; simp [Instr.loadAt,Instr.sureAddr,asAddr]
          · cases h3; simp [Instr.loadAt,Instr.sureAddr,asAddr]
          · simp at hx
        exact ⟨v :: vs,by rw [List.mapM_cons,Ac h6,Ac h1]; rfl,.cons h5 h2⟩
      · simp at hd
    · simp at hl
theorem results_ok {nt : Nat} {slots : List Nat} {env : List D} {a : Act} {fn : Func} {ls : List LRes} {r : D} (hr : Rel w ρ S.heap) (hs : slots.all (· < nt) = true) (hf : FR w ρ S.heap nt (sig slots [] [] env) a) (hl : Kr P slots fn.results.toList = some ls) (hd : Au env S ls = some r) :
  ∃ v,(results fn a.tmps).run P w = .ok v w∧VR w ρ S.heap r v:=by
 unfold Au at hd
 cases hds : Bz env S ls with
 | none=>simp [hds] at hd
 | some ds =>
  obtain ⟨vs,h1,h2⟩:=res_ok (P:=P) hr hs hf hl hds
  have hrun : (results fn a.tmps).run P w = .ok (if h : vs.toArray.size = 1 then vs.toArray[0] else .tuple vs.toArray) w:=by
   rw [results_eq]
   have e : fn.results = fn.results.toList.toArray:=by simp
   rw [e,List.mapM_toArray]
   have : (List.toArray <$> fn.results.toList.mapM (resSem a.tmps)).run P w = .ok vs.toArray w:=by
    rw [map_eq_pure_bind,Ac h1]
    rfl
   rw [Ac this]
   rfl
  refine ⟨_,hrun,?_⟩
  have hlen:=h2.len
  rw [hds] at hd
  split at hd
  ·
   rename_i x hx
   simp only [Oi] at hd hx
   subst hd hx
   cases h2 with
   | cons h t=>cases t with
    | nil=>simpa using h
  ·
   rename_i xs hne hxs
   simp only [Oi] at hd hxs
   subst hd hxs
   have h1 : ¬ vs.toArray.size = 1:=by
    intro h
    simp only [List.size_toArray] at h
    rw [hlen] at h
    obtain ⟨x,hx⟩:=List.length_eq_one_iff.1 h
    exact hne x (by rw [hx])
   rw [dif_neg h1]
   exact .tup ds vs hlen (fun j d v=>h2.get)
  ·
   rename_i h; simp at h

/-! calls -/
theorem Stp.relow {w' : World} {ρ' : Su} {n : Nat} {S2 : St} (h : Stp w ρ ⟨S.heap,n⟩ w' ρ' S2) : Stp w ρ S w' ρ' ⟨S2.heap,min S.low S2.low⟩ :=
 ⟨h.hid,h.os,h.tape,h.output,h.size,Nat.min_le_left _ _,h.out,h.imm,fun g b o ho hg hb=>h.keep g b o ho (Nat.lt_of_lt_of_le hg (Nat.min_le_right _ _)) hb,fun g o ho=>by
  obtain ⟨o',h1,h2,h3,h4⟩:=h.obj g o ho
  exact ⟨o',h1,h2,fun hg=>h3 (Nat.lt_of_lt_of_le hg (Nat.min_le_right _ _)),h4⟩⟩
theorem Stp.clean {w' : World} {ρ' : Su} {S2 : St} (hr : Rel w ρ S.heap) (h : Stp w ρ ⟨S.heap,S.heap.length⟩ w' ρ' S2) (hlow : S.heap.length ≤ S2.low) : Stp w ρ S w' ρ S :=
 ⟨rfl,h.os,h.tape,h.output,h.size,Nat.le_refl _,fun b hb hg=>⟨(h.out b hb hg).1,hg⟩,fun b q hi=>⟨(h.imm b q hi).1,Nat.lt_of_lt_of_le hi.1 h.size,hi.2⟩,
  fun g b o ho hg hb=>h.keep g b o ho (Nat.lt_of_lt_of_le (lt_of_some ho) hlow) hb,fun g o ho=>⟨o,ho,⟨Nat.le_refl _,rfl⟩,fun _=>rfl,fun _=>⟨rfl,rfl,rfl,Nat.le_refl _,fun b cur hb hc=>⟨cur,(h.keep g b o ho (Nat.lt_of_lt_of_le (lt_of_some ho) hlow) hb).trans hc,rfl⟩⟩⟩⟩
section
variable {w' : World} {ρ' : Su} {S2 : St} (hr : Rel w ρ S.heap) (hr2 : Rel w' ρ' S2.heap) (h : Stp w ρ ⟨S.heap,S.heap.length⟩ w' ρ' S2) (hlow : S.heap.length ≤ S2.low)
include hr h hlow
theorem Jy {g b : Nat} (hb : ρ g = some b) : g < S.heap.length∧ρ' g = some b∧S2.heap[g]? = S.heap[g]?:=by
 have hg:=hr.in hb
 obtain ⟨o',h1,h2,h3,h4⟩:=h.obj g S.heap[g] (Lg hg)
 have:=h3 (Nat.lt_of_lt_of_le hg hlow)
 subst this
 exact ⟨hg,by rw [(h4 rfl).1]; exact hb,by rw [h1,Lg hg]⟩
theorem Nf {b q : Nat} (hi : Imm w' ρ' S2.heap b q) : Imm w' ρ S.heap b q :=
 ⟨hi.1,by rw [← h.hid]; exact hi.2.1,fun g hg=>by
  obtain ⟨_,h1,h2⟩:=Jy hr h hlow hg
  rw [← h2]
  exact hi.2.2 g h1⟩
theorem Nc : ∀ b es c,w'.heap[b]? = some (.map es c)→(∀ g,ρ' g ≠ some b)→¬ ρ'.X b 0→w'.heap[b]? = w'.heap[b]?∧(∀ g,ρ g ≠ some b)∧¬ ρ.X b 0 :=
 fun b _ _ _ hg hx=>⟨rfl,fun g hb=>hg g (Jy hr h hlow hb).2.1,by rw [← h.hid]; exact hx⟩
include hr2
theorem Iy {d r : D} {v : Value} (hv : VR w' ρ' S2.heap d v) (hs : snap S.heap.length S2.heap d = some r) (hf : r.free = true) : VR w' ρ S.heap r v := by
  unfold snap at hs
  split at hs
  · rename_i g ver lo n cap
    cases hv with
    | msl _ _ _ _ _ A c ob hnc hcap hg hver hk3 hcur =>
      simp only [hg] at hs
      split at hs
      · rename_i hk
        simp only [Oi] at hs
        subst hs
        obtain ⟨b,hρ,hlo,hA,hcp⟩:=hcur hk.1
        obtain ⟨o1,ho1,cur,hc,hz,⟨cc,hcc,hcl,hcm,hcg⟩,hl,hkk,hh⟩:=hr2.cel hρ hg hk3
        rw [hg] at ho1
        injection ho1 with ho1
        subst ho1
        have hlen : ((ob.rows.drop lo).take n).length = n:=by simp; omega
        have hcell : ∀ i r' j d,((ob.rows.drop lo).take n)[i]? = some r'→r'[j]? = some d→w'.cell? ⟨b,lo * ob.sz + i * ob.sz + j,none⟩ = some (cur.getD ((lo + i) * ob.sz + j) undef)∧Imm w' ρ S.heap b (lo * ob.sz + i * ob.sz + j)∧d.free = true∧VR w' ρ' S2.heap d (cur.getD ((lo + i) * ob.sz + j) undef):=by
          intro i r' j d hi hj
          obtain ⟨h1,h2⟩:=Dk hi
          obtain ⟨h3,h4,v,hv1,hv2⟩:=hh _ r' j d h1 hj
          obtain ⟨h5,h6⟩:=Array.getElem?_eq_some_iff.1 hv1
          have hg1 : cur.getD ((lo + i) * ob.sz + j) undef = v:=by simp [Array.getD,h5,h6]
          rw [hg1]
          refine ⟨?_,⟨lt_of_heap hc,fun hx=>(hr2.hid _ _ (by rw [h.hid]; exact hx)).2 g hρ,fun g' hg'=>?_⟩,h4 (by omega),hv2⟩
          · rw [cell_of_row w' b _ cur ob.elem (0, 0) hc, ← hv1]
            congr 1
            rw [Nat.add_mul]
          · obtain ⟨q1, q2, q3⟩ := Jy hr h hlow hg'
            have:=hr2.inj g' g b q2 hρ
            subst this
            rcases hk.2 with hk1 | hk1
            · refine ⟨ob, by rw [← q3]; exact hg, hk1, ?_⟩
              have h7 : j < ob.sz:=by rw [← hl r' (Lm h1)]; exact lt_of_some hj
              have h8 : lo + i < ob.rows.length:=lt_of_some h1
              have:=row_in h8 h7
              rwa [Nat.add_mul] at this
            · omega
        refine .sl ob.sz _ _ A n c hlen.symm hnc (fun k hk'=>?_) (fun r hr'=>hl r (D7 hr')) b (lo * ob.sz) (fun i j=>cur.getD ((lo + i) * ob.sz + j) undef) (fun hne=>hA ?_) (fun i r' j d hi hj=>?_) (fun i r' j d hi hj=>?_)
        · cases cap with
          | some c'=>simp only [Oi] at hk'; subst hk'; exact hcap _ rfl
          | none =>
            simp only at hk'
            split at hk'
            · simp at hk'
            · rename_i hgr
              simp only [Oi] at hk'
              obtain ⟨cur',hc1,hc2⟩:=hcp rfl
              rw [hc] at hc1
              injection hc1 with hc1
              injection hc1 with hc1
              subst hc1
              have h1:=hcg (by simpa using hgr)
              rw [hcc] at hc2
              have:=Nat.eq_of_mul_eq_mul_right hz hc2
              omega
        · left
          intro h0
          subst h0
          simp at hne
        · obtain ⟨q1, q2, q3, _⟩ := hcell i r' j d hi hj
          exact ⟨q1,q2,q3⟩
        · obtain ⟨_, _, q3, q4⟩ := hcell i r' j d hi hj
          exact q4.free_mono (fun b q hi=>⟨rfl,Nf hr h hlow hi⟩) (Nc hr h hlow) q3
      · simp only [Oi] at hs
        subst hs
        simp [D.free,D.Td] at hf
  · rename_i g ver
    split at hs
    · rename_i hmg
      cases hv with
      | mref _ _ b ob hg hver hcur =>
        simp only [hg] at hs
        split at hs
        · rename_i hk
          simp only [Oi] at hs
          subst hs
          have hρ:=hcur hk.1
          obtain ⟨es,clock,hc,hsz,hl,hall⟩:=hr2.map hρ hg hk.2.1 hk.2.2
          have hval : ∀ i,i < ob.rows.length→∃ e,es[i]? = some e∧e.key = ((es[i]?).map (·.key)).getD undef∧e.val = ((es[i]?).map (·.val)).getD undef:=by
            intro i hi
            have hie : i < es.size:=by omega
            exact ⟨es[i],Array.getElem?_eq_getElem hie,by simp [hie],by simp [hie]⟩
          refine .mp ob.rows b clock es (fun i j=>if j = 0 then ((es[i]?).map (·.key)).getD undef else ((es[i]?).map (·.val)).getD undef) hc (fun hx=>(hr2.hid _ _ (by rw [h.hid]; exact hx)).2 g hρ) (fun g' hg'=>?_) hsz hl (fun i hi=>?_) (fun i r' j d hi hj=>?_) (fun i r' j d hi hj=>?_)
          · obtain ⟨q1, q2, _⟩ := Jy hr h hlow hg'
            have:=hr2.inj g' g b q2 hρ
            omega
          · obtain ⟨e, h1, h2, h3⟩ := hval i hi
            exact ⟨e,h1,by simpa using h2,by simpa using h3⟩
          · obtain ⟨e, k, v, h1, h2, h3, h4, _, _⟩ := hall i r' hi
            subst h2
            match j,hj with
            | 0,hj=>simp at hj; subst hj; exact h3
            | 1,hj=>simp at hj; subst hj; exact h4
          · obtain ⟨e, k, v, h1, h2, h3, h4, h5, h6⟩ := hall i r' hi
            subst h2
            match j,hj with
            | 0, hj =>
              simp at hj
              subst hj
              simp only [if_true,h1,Option.map_some,Option.getD_some]
              exact h5.freeV_mono (fun b q hi=>⟨rfl,Nf hr h hlow hi⟩) (Nc hr h hlow) h3.1
            | 1, hj =>
              simp at hj
              subst hj
              simp only [Nat.one_ne_zero,if_false,h1,Option.map_some,Option.getD_some]
              exact h6.freeV_mono (fun b q hi=>⟨rfl,Nf hr h hlow hi⟩) (Nc hr h hlow) h4.1
        · simp only [Oi] at hs
          subst hs
          simp [D.free,D.Td] at hf
    · simp only [Oi] at hs
      subst hs
      simp [D.free,D.Td] at hf
  · simp only [Oi] at hs
    subst hs
    exact hv.free_mono (fun b q hi=>⟨rfl,Nf hr h hlow hi⟩) (Nc hr h hlow) hf
theorem Qy : ∀ {ds rs : List D} {vs : List Value},VL w' ρ' S2.heap ds vs→Bw S.heap.length S2.heap ds = some rs→rs.all D.free = true→VL w' ρ S.heap rs vs
 | [],rs,_,.nil,hs,_=>by simp only [Bw,Oi] at hs; subst hs; exact .nil
 | d :: ds, rs, _, .cons hd ht, hs, hf => by
  unfold Bw at hs
  split at hs
  ·
   rename_i x y hx hy
   simp only [Oi] at hs
   subst hs
   simp only [List.all_cons,Bool.and_eq_true] at hf
   exact .cons (Iy hr hr2 h hlow hd hx hf.1) (Qy ht hy hf.2)
  ·
   simp at hs
theorem Q3 {d r : D} {v : Value} (hv : VR w' ρ' S2.heap d v) (hs : Sw S.heap.length S2.heap d = some r) (hf : r.Sy = true) : VR w' ρ S.heap r v:=by
 unfold Sw at hs
 split at hs
 ·
  simp only [Om] at hs
  obtain ⟨rs,hrs,rfl⟩:=hs
  cases hv with
  | agg _ vs hl hc hh =>
   have h1:=Qy hr hr2 h hlow (VL.of hl hh) hrs hf
   exact .agg rs vs h1.len (List.all_eq_true.2 fun x hx=>J4 (List.all_eq_true.1 hf x hx)) (fun j d v=>h1.get)
 ·
  rename_i hna
  refine Iy hr hr2 h hlow hv hs ?_
  unfold D.Sy at hf
  split at hf
  ·
   rename_i cs
   unfold snap at hs
   repeat' (first | (simp at hs; done) | (split at hs))
   all_goals try (simp at hs; done)
   all_goals
    simp only [Oi] at hs
    subst hs
    exact absurd rfl (hna cs)
  ·
   exact hf
theorem Ow : ∀ {ds rs : List D} {vs : List Value},VL w' ρ' S2.heap ds vs→Ar S.heap.length S2.heap ds = some rs→rs.all D.Sy = true→VL w' ρ S.heap rs vs
 | [],rs,_,.nil,hs,_=>by simp only [Ar,Oi] at hs; subst hs; exact .nil
 | d :: ds, rs, _, .cons hd ht, hs, hf => by
  unfold Ar at hs
  split at hs
  ·
   rename_i x y hx hy
   simp only [Oi] at hs
   subst hs
   simp only [List.all_cons,Bool.and_eq_true] at hf
   exact .cons (Q3 hr hr2 h hlow hd hx hf.1) (Ow ht hy hf.2)
  ·
   simp at hs
theorem snapR_leave {d r : D} {v : Value} (hv : VR w' ρ' S2.heap d v) (hs : S9 S.heap.length S2.heap d = some r) (hf : r.Sz = true) : VR w' ρ S.heap r v:=by
 unfold S9 at hs
 split at hs
 ·
  simp only [Om] at hs
  obtain ⟨rs,hrs,rfl⟩:=hs
  cases hv with
  | tup _ vs hl hh =>
   have h1:=Ow hr hr2 h hlow (VL.of hl hh) hrs hf
   exact .tup rs vs h1.len (fun j d v=>h1.get)
 ·
  rename_i hna
  refine Q3 hr hr2 h hlow hv hs ?_
  unfold D.Sz at hf
  split at hf
  ·
   rename_i cs
   unfold Sw at hs
   split at hs
   ·
    simp at hs
   ·
    unfold snap at hs
    repeat' (first | (simp at hs; done) | (split at hs))
    all_goals try (simp at hs; done)
    all_goals
     simp only [Oi] at hs
     subst hs
     exact absurd rfl (hna cs)
  ·
   exact hf
theorem Lh : ∀ (k : Nat) {d r : D} {v : Value}, VR w' ρ' S2.heap d v → K6 S.heap.length S2.heap k d = some r → r.free = true → VR w' ρ S.heap r v
  | 0,d,r,v,hv,hs,hf=>Iy hr hr2 h hlow hv (by simpa only [K6] using hs) hf
  | k + 1, d, r, v, hv, hs, hf => by
    by_cases hm : ∃ g v lo n cap,d = .msl g v lo n cap
    · obtain ⟨g, ver, lo, n, cap, rfl⟩ := hm
      rw [snapD_msl] at hs
      cases hv with
      | msl _ _ _ _ _ A c ob hnc hcap hg hver hk3 hcur =>
        simp only [hg] at hs
        by_cases hk : ob.ver = ver∧S.heap.length ≤ g∧ob.kind = 0
        · rw [if_pos hk] at hs
          cases hrows : ((ob.rows.drop lo).take n).mapM (fun r=>r.mapM (K6 S.heap.length S2.heap k)) with
          | none=>rw [hrows] at hs; simp at hs
          | some rows =>
              rw [hrows] at hs
              simp only at hs
              rw [Option.ite_none_right_eq_some] at hs
              obtain ⟨hall,hs⟩:=hs
              simp only [Oi] at hs
              subst hs
              obtain ⟨b,hρ,hlo,hA,hcp⟩:=hcur hk.1
              obtain ⟨o1,ho1,cur,hc,hz,⟨cc,hcc,hcl,hcm,hcg⟩,hl,hkk,hh⟩:=hr2.cel hρ hg hk3
              rw [hg] at ho1
              injection ho1 with ho1
              subst ho1
              obtain ⟨m1,m2⟩:=Lx hrows
              have hlen : ((ob.rows.drop lo).take n).length = n:=by simp; omega
              have back : ∀ (i : Nat) (r' : List D),rows[i]? = some r'→∃ r0,((ob.rows.drop lo).take n)[i]? = some r0∧r'.length = r0.length∧∀ (j : Nat) (d' : D),r'[j]? = some d'→∃ d0,r0[j]? = some d0∧K6 S.heap.length S2.heap k d0 = some d':=by
                intro i r' hi
                have hil : i < ((ob.rows.drop lo).take n).length:=by rw [← m1]; exact lt_of_some hi
                obtain ⟨r1,h1,h2⟩:=m2 i _ (Lg hil)
                rw [hi] at h1
                injection h1 with h1
                subst h1
                obtain ⟨m3,m4⟩:=Lx h2
                refine ⟨_,Lg hil,m3,fun j d' hj=>?_⟩
                have hjl : j < ((ob.rows.drop lo).take n)[i].length:=by rw [← m3]; exact lt_of_some hj
                obtain ⟨d1,h3,h4⟩:=m4 j _ (Lg hjl)
                rw [hj] at h3
                injection h3 with h3
                subst h3
                exact ⟨_,Lg hjl,h4⟩
              have hfree : ∀ (i : Nat) (r' : List D) (j : Nat) (d' : D),rows[i]? = some r'→r'[j]? = some d'→d'.free = true:=by
                intro i r' j d' hi hj
                have:=List.all_eq_true.1 hall r' (Lm hi)
                exact List.all_eq_true.1 this d' (Lm hj)
              have hcell : ∀ (i : Nat) (r' : List D) (j : Nat) (d' : D),rows[i]? = some r'→r'[j]? = some d'→w'.cell? ⟨b,lo * ob.sz + i * ob.sz + j,none⟩ = some (cur.getD ((lo + i) * ob.sz + j) undef)∧Imm w' ρ S.heap b (lo * ob.sz + i * ob.sz + j)∧VR w' ρ S.heap d' (cur.getD ((lo + i) * ob.sz + j) undef):=by
                intro i r' j d' hi hj
                obtain ⟨r0,h1,h2,h3⟩:=back i r' hi
                obtain ⟨d0,h4,h5⟩:=h3 j d' hj
                obtain ⟨h6,h7⟩:=Dk h1
                obtain ⟨q1,q2,v,hv1,hv2⟩:=hh _ r0 j d0 h6 h4
                obtain ⟨h8,h9⟩:=Array.getElem?_eq_some_iff.1 hv1
                have hg1 : cur.getD ((lo + i) * ob.sz + j) undef = v:=by simp [Array.getD,h8,h9]
                rw [hg1]
                refine ⟨?_,⟨lt_of_heap hc,fun hx=>(hr2.hid _ _ (by rw [h.hid]; exact hx)).2 g hρ,fun g' hg'=>?_⟩,Lh k hv2 h5 (hfree i r' j d' hi hj)⟩
                · rw [cell_of_row w' b _ cur ob.elem (0, 0) hc, ← hv1]
                  congr 1
                  rw [Nat.add_mul]
                · obtain ⟨q1, q2, q3⟩ := Jy hr h hlow hg'
                  have:=hr2.inj g' g b q2 hρ
                  omega
              refine .sl ob.sz _ _ A n c (by rw [m1,hlen]) hnc (fun k hk'=>?_) (fun r' hr'=>?_) b (lo * ob.sz) (fun i j=>cur.getD ((lo + i) * ob.sz + j) undef) (fun hne=>hA ?_) (fun i r' j d' hi hj=>?_) (fun i r' j d' hi hj=>(hcell i r' j d' hi hj).2.2)
              · cases cap with
                | some c'=>simp only [Oi] at hk'; subst hk'; exact hcap _ rfl
                | none =>
                  simp only at hk'
                  split at hk'
                  · simp at hk'
                  · rename_i hgr
                    simp only [Oi] at hk'
                    obtain ⟨cur',hc1,hc2⟩:=hcp rfl
                    rw [hc] at hc1
                    injection hc1 with hc1
                    injection hc1 with hc1
                    subst hc1
                    have h1:=hcg (by simpa using hgr)
                    rw [hcc] at hc2
                    have:=Nat.eq_of_mul_eq_mul_right hz hc2
                    omega
              · obtain ⟨i, hi, rfl⟩ := List.mem_iff_getElem.1 hr'
                obtain ⟨r0,h1,h2,_⟩:=back i _ (Lg hi)
                rw [h2]
                exact hl r0 (D7 (Lm h1))
              · left
                intro h0
                apply hne
                apply List.eq_nil_of_length_eq_zero
                rw [m1,hlen,h0]
              · exact ⟨(hcell i r' j d' hi hj).1,(hcell i r' j d' hi hj).2.1,hfree i r' j d' hi hj⟩
        · rw [if_neg hk] at hs
          exact Iy hr hr2 h hlow (.msl _ _ _ _ _ A c ob hnc hcap hg hver hk3 hcur) hs hf
    · rw [Q5 _ _ _ (fun g v lo n cap he => hm ⟨g, v, lo, n, cap, he⟩)] at hs
      exact Iy hr hr2 h hlow hv hs hf
theorem Ox {d r : D} {v : Value} (hv : VR w' ρ' S2.heap d v) (hs : snapDV S.heap.length S2.heap d = some r) (hf : r.Sy = true) : VR w' ρ S.heap r v := by
  unfold snapDV at hs
  split at hs
  · rename_i cs
    simp only [Om] at hs
    obtain ⟨cs',h1,rfl⟩:=hs
    obtain ⟨m1,m2⟩:=Lx h1
    cases hv with
    | agg _ vs hl hc hh =>
      simp only [D.Sy,List.all_eq_true] at hf
      have hx : ∀ (j : Nat) (d : D) (v : Value),cs'[j]? = some d→vs[j]? = some v→VR w' ρ S.heap d v:=by
        intro j d v hj hvj
        have hjl : j < cs.length:=by rw [← m1]; exact lt_of_some hj
        obtain ⟨y,h3,h4⟩:=m2 j _ (Lg hjl)
        rw [hj] at h3
        injection h3 with h3
        subst h3
        exact Lh hr hr2 h hlow 6 (hh j _ v (Lg hjl) hvj) h4 (hf d (Lm hj))
      exact .agg cs' vs (by rw [hl,m1]) (List.all_eq_true.2 fun d hd=>J4 (hf d hd)) hx
  · rename_i hn
    exact Lh hr hr2 h hlow 6 hv hs (freeV_cell ((snapD_cell hs).1 fun cs he=>hn cs he) hf)
theorem snapDR_leave {d r : D} {v : Value} (hv : VR w' ρ' S2.heap d v) (hs : snapDR S.heap.length S2.heap d = some r) (hf : r.Sz = true) : VR w' ρ S.heap r v:=by
 unfold snapDR at hs
 split at hs
 ·
  rename_i ds
  simp only [Om] at hs
  obtain ⟨ds',h1,rfl⟩:=hs
  obtain ⟨m1,m2⟩:=Lx h1
  cases hv with
  | tup _ vs hl hh =>
   simp only [D.Sz,List.all_eq_true] at hf
   refine .tup ds' vs (by rw [hl,m1]) fun j d v hj hvj=>?_
   have hjl : j < ds.length:=by rw [← m1]; exact lt_of_some hj
   obtain ⟨y,h3,h4⟩:=m2 j _ (Lg hjl)
   rw [hj] at h3
   injection h3 with h3
   subst h3
   exact Ox hr hr2 h hlow (hh j _ v (Lg hjl) hvj) h4 (hf d (Lm hj))
 ·
  rename_i hn
  refine Ox hr hr2 h hlow hv hs (freeR_val (fun cs=>?_) hf)
  unfold snapDV at hs
  split at hs
  ·
   simp only [Om] at hs
   obtain ⟨_,_,rfl⟩:=hs
   intro he; cases he
  ·
   exact (snapD_cell hs).2 (fun cs he=>hn cs he) cs
end
theorem leaveD_ok {w' : World} {ρ' : Su} {S2 S' T : St} {r0 r : D} {v : Value} {wr : Bool} (hr : Rel w ρ S.heap) (hr2 : Rel w' ρ' S2.heap) (h : Stp w ρ ⟨S.heap,S.heap.length⟩ w' ρ' S2) (hv : VR w' ρ' S2.heap r0 v) (hl : leaveD S T r0 S2 = some (r,S',wr)) : S' = T∧wr = false∧r.Sz = true∧Ta w ρ S r S false v w':=by
 unfold leaveD at hl
 split at hl
 ·
  rename_i hlow
  split at hl
  ·
   rename_i r1 hs
   split at hl
   ·
    rename_i hf
    simp only [Oi,Pi_] at hl
    obtain ⟨rfl,rfl,rfl⟩:=hl
    have hst:=h.clean hr hlow
    refine ⟨rfl,rfl,hf,ρ,⟨hr.inj,fun g b hb=>?_,hr.hids hst,hr.globs hst⟩,hst,snapDR_leave hr hr2 h hlow hv hs hf,fun _=>⟨⟨h.os,h.tape,h.output,h.size,fun b hb=>?_⟩,rfl,rfl⟩⟩
    ·
     obtain ⟨o,ho,hk⟩:=hr.obj g b hb
     exact ⟨o,ho,hk.mono hst (h.keep g b o ho (Nat.lt_of_lt_of_le (lt_of_some ho) hlow) hb)⟩
    ·
     by_cases hex : ∃ g,ρ g = some b
     ·
      obtain ⟨g,hg⟩:=hex
      obtain ⟨o,ho,_⟩:=hr.obj g b hg
      exact h.keep g b o ho (Nat.lt_of_lt_of_le (lt_of_some ho) hlow) hg
     ·
      exact (h.out b hb fun g hg=>hex ⟨g,hg⟩).1
   ·
    simp at hl
  ·
   simp at hl
 ·
  simp at hl
theorem leave_ok {w' : World} {ρ' : Su} {S2 S' : St} {raw : Bool} {r0 r : D} {v : Value} {wr : Bool} (hr : Rel w ρ S.heap) (hr2 : Rel w' ρ' S2.heap) (h : Stp w ρ ⟨S.heap, S.heap.length⟩ w' ρ' S2) (hv : VR w' ρ' S2.heap r0 v) (hl : leave raw S r0 S2 = some (r, S', wr)) : Ta w ρ S r S' wr v w' := by
  unfold leave at hl
  split at hl
  · simp only [Oi, Pi_] at hl
    obtain ⟨rfl,rfl,rfl⟩:=hl
    exact ⟨ρ',hr2,h.relow,hv,by simp⟩
  · split at hl
    · rename_i r' hc
      simp only [Oi,Pi_] at hl
      obtain ⟨rfl,rfl,rfl⟩:=hl
      split at hc
      · rename_i hlow
        split at hc
        · rename_i r1 hs
          split at hc
          · rename_i hf
            simp only [Oi] at hc
            subst hc
            have hst:=h.clean hr hlow
            refine ⟨ρ,⟨hr.inj,fun g b hb=>?_,hr.hids hst,hr.globs hst⟩,hst,snapR_leave hr hr2 h hlow hv hs hf,fun _=>⟨⟨h.os,h.tape,h.output,h.size,fun b hb=>?_⟩,rfl,rfl⟩⟩
            · obtain ⟨o, ho, hk⟩ := hr.obj g b hb
              exact ⟨o,ho,hk.mono hst (h.keep g b o ho (Nat.lt_of_lt_of_le (lt_of_some ho) hlow) hb)⟩
            · by_cases hex : ∃ g, ρ g = some b
              · obtain ⟨g, hg⟩ := hex
                obtain ⟨o,ho,_⟩:=hr.obj g b hg
                exact h.keep g b o ho (Nat.lt_of_lt_of_le (lt_of_some ho) hlow) hg
              · exact (h.out b hb fun g hg=>hex ⟨g,hg⟩).1
          · simp at hc
        · simp at hc
      · simp at hc
    · split at hl
      · rename_i r' hs
        split at hl
        · rename_i hc
          obtain ⟨hlow,hlen⟩:=hc
          simp only [Oi,Pi_] at hl
          obtain ⟨rfl,rfl,rfl⟩:=hl
          have hst:=h.clean hr hlow
          have hheap : S2.heap = S.heap:=by
            refine List.ext_getElem? fun g=>?_
            cases hg : S.heap[g]? with
            | none =>
              have:=List.getElem?_eq_none_iff.1 hg
              exact List.getElem?_eq_none (by omega)
            | some o =>
              obtain ⟨o',h1,_,h3,_⟩:=h.obj g o hg
              rw [h1,h3 (Nat.lt_of_lt_of_le (lt_of_some hg) hlow)]
          have hρ : ρ' = ρ := by
            have hX:=h.hid
            have hF : ∀ g,ρ' g = ρ g:=by
              intro g
              cases hg : S.heap[g]? with
              | none =>
                have hn:=List.getElem?_eq_none_iff.1 hg
                have e1 : ρ g = none:=by
                  cases hb : ρ g with
                  | none=>rfl
                  | some b=>obtain ⟨o,ho,_⟩:=hr.obj g b hb; rw [hg] at ho; cases ho
                have e2 : ρ' g = none:=by
                  cases hb : ρ' g with
                  | none=>rfl
                  | some b=>obtain ⟨o,ho,_⟩:=hr2.obj g b hb; rw [hheap,hg] at ho; cases ho
                rw [e1,e2]
              | some o =>
                obtain ⟨o',h1,_,h3,h4⟩:=h.obj g o hg
                have:=h3 (Nat.lt_of_lt_of_le (lt_of_some hg) hlow)
                subst this
                exact (h4 rfl).1
            obtain ⟨f,X⟩:=ρ
            obtain ⟨f',X'⟩:=ρ'
            have hX : X' = X:=hX
            have hF : ∀ g,f' g = f g:=hF
            rw [hX,funext hF]
          subst hρ
          rw [hheap] at hr2 hv hs
          refine ⟨ρ',hr2,hst,snapR_ok hr2 (Nat.le_refl _) hv hs,fun _=>⟨⟨h.os,h.tape,h.output,h.size,fun b hb=>?_⟩,rfl,rfl⟩⟩
          by_cases hex : ∃ g,ρ' g = some b
          · obtain ⟨g, hg⟩ := hex
            obtain ⟨o,ho,_⟩:=hr.obj g b hg
            exact h.keep g b o ho (Nat.lt_of_lt_of_le (lt_of_some ho) hlow) hg
          · exact (h.out b hb fun g hg=>hex ⟨g,hg⟩).1
        · simp only [Oi, Pi_] at hl
          obtain ⟨rfl,rfl,rfl⟩:=hl
          exact ⟨ρ',hr2,h.relow,snapR_ok hr2 (Nat.le_refl _) hv hs,by simp⟩
      · simp at hl
end

def FnsOK (P : Program) (G : Nat→Option (List D)) (L : Prg) : Prop:=∀ f F,L.fns f = some F→∃ fn kd slots,P.funcs[f]? = some fn∧Dv P kd slots fn = some F∧(∀ g row,kd.glob g = some row→G g = some row)∧(L.dfs f = true ∨ Gx F.body = true)
def DfnOK (P : Program) (G : Nat→Option (List D)) (L : Prg) : Prop:=∀ f F,L.dfn f = some F→∃ fn kd slots,P.funcs[f]? = some fn∧lowFnD P kd slots fn = some F∧∀ g row,kd.glob g = some row→G g = some row
def ExtOK (P : Program) (G : Nat→Option (List D)) (ext : FuncId→List D→Option D) : Prop :=
 ∀ f ds r,ext f ds = some r→∀ (S : St) w (ρ : Su) vs,ρ.X.G = G→Rel w ρ S.heap→VL w ρ S.heap ds vs →
  (callFunc f vs.toArray).run P w = .ok (.enter f vs.toArray) w∧Calls P f vs.toArray w fun e w'=>∃ v,e = .returned v∧Ta w ρ S r S false v w'
def PrgOK (P : Program) (G : Nat→Option (List D)) (L : Prg) : Prop:=FnsOK P G L∧ExtOK P G L.ext∧DfnOK P G L

/-! calls behind a function's end -/
theorem En {call : Bi} {N : Nat} : ∀ (c : Sq),Gx c = true→∀ (env : List D) (S : St) (e : Sr) (env' : List D) (S' : St),Bn call N c env S = some (e,env',S')→env'.length = env.length
 | .skip,_,env,S,e,env',S',h=>by simp only [Bn,Oi,Pi_] at h; rw [← h.2.1]
 | .ret,_,env,S,e,env',S',h=>by simp only [Bn,Oi,Pi_] at h; rw [← h.2.1]
 | .exit i,_,env,S,e,env',S',h=>by simp only [Bn,Oi,Pi_] at h; rw [← h.2.1]
 | .region ops exps, _, env, S, e, env', S', h => by
  simp only [Bn] at h
  split at h
  ·
   simp only [Oi,Pi_] at h; rw [← h.2.1,Ic]
  ·
   simp at h
 | .drawn ops exps news, _, env, S, e, env', S', h => by
  simp only [Bn] at h
  split at h
  ·
   simp only [Oi,Pi_] at h; rw [← h.2.1,Ic]
  ·
   simp at h
 | .seq a b, hn, env, S, e, env', S', h => by
  simp only [Gx,Bool.and_eq_true] at hn
  simp only [Bn] at h
  split at h
  ·
   rename_i env1 S1 h1
   rw [En b hn.2 _ _ _ _ _ h,En a hn.1 _ _ _ _ _ h1]
  ·
   exact En a hn.1 _ _ _ _ _ h
 | .cond c a b, hn, env, S, e, env', S', h => by
  simp only [Gx,Bool.and_eq_true] at hn
  simp only [Bn] at h
  split at h
  ·
   exact En a hn.1 _ _ _ _ _ h
  ·
   exact En b hn.2 _ _ _ _ _ h
  ·
   simp at h
 | .block i c, hn, env, S, e, env', S', h => by
  simp only [Gx] at hn
  simp only [Bn] at h
  split at h
  ·
   rename_i j env1 S1 h1
   have h2:=En c hn _ _ _ _ _ h1
   split at h
   ·
    simp only [Oi,Pi_] at h; rw [← h.2.1,h2]
   ·
    simp only [Oi,Pi_] at h; rw [← h.2.1,h2]
  ·
   exact En c hn _ _ _ _ _ h
 | .loop c, hn, env, S, e, env', S', h => by
  simp only [Gx] at hn
  simp only [Bn] at h
  have key : ∀ (n : Nat) (env : List D) (S : St),Gp (Bn call N c) n env S = some (e,env',S')→env'.length = env.length:=by
   intro n
   induction n with
   | zero=>intro env S h; simp [Gp] at h
   | succ n ih =>
    intro env S h
    simp only [Gp] at h
    split at h
    ·
     rename_i env1 S1 h1
     rw [ih _ _ h,En c hn _ _ _ _ _ h1]
    ·
     exact En c hn _ _ _ _ _ h
  exact key N env S h
 | .dfr x,hn,env,S,e,env',S',h=>by simp [Gx] at hn
 | .fail,_,env,S,e,env',S',h=>by simp [Bn] at h
theorem VL.reverse {w : World} {ρ : Su} {H : List Sk} {ds : List D} {vs : List Value} (h : VL w ρ H ds vs) : VL w ρ H ds.reverse vs.reverse:=by
 induction h with
 | nil=>exact .nil
 | cons h _ ih=>rw [List.reverse_cons,List.reverse_cons]; exact ih.append (.cons h .nil)
theorem FR.mono {w w' : World} {ρ ρ' : Su} {S S' : St} {nt : Nat} {σ : Nat→D} {a : Act} (hs : Stp w ρ S w' ρ' S') (h : FR w ρ S.heap nt σ a) : FR w' ρ' S'.heap nt σ a:=⟨h.1,fun t ht=>(h.2 t ht).mono hs⟩
theorem entry_fr {w : World} {ρ : Su} {H : List Sk} {ds : List D} {vs : List Value} {slots : List Nat} {nt : Nat} (hv : VL w ρ H ds vs) (hn : vs.length ≤ nt) : FR w ρ H nt (sig slots [] [] (slots.map fun s=>ds.getD s .undef)) { tmps:=vs.toArray ++ Array.replicate (nt - vs.toArray.size) undef,defers:=[] }:=by
 have hvl:=hv.len
 refine ⟨by simp; omega,fun t ht=>?_⟩
 unfold sig
 simp only [Gj]
 cases hj : idxOf slots t with
 | none=>exact .undef _
 | some j =>
  have hm:=Gh hj
  simp only [List.getD,Lp_,hm,Option.map_some,Option.getD_some]
  by_cases htl : t < vs.length
  ·
   have h1 : ds[t]? = some (ds[t]'(by omega)):=Lg (by omega)
   have h2 : (vs.toArray ++ Array.replicate (nt - vs.toArray.size) undef).getD t undef = vs[t]:=by
    rw [Array.getD_eq_getD_getElem?,Array.getElem?_append_left (by simpa using htl)]
    simp [htl]
   rw [h1,h2]
   exact hv.get h1 (Lg htl)
  ·
   rw [List.getElem?_eq_none (by omega)]
   exact .undef _
theorem mvOf_some {o : Op} {t : Tmp} (h : mvOf o = some t) : o = .move (.tmp t) ∨ o = .assign (.tmp t):=by
 unfold mvOf at h
 split at h<;>simp_all
theorem recoverOf_some {ops : Array Oper} {t u : Tmp} (h : Qb ops = some (t, u)) : ∃ (a b : Oper) (args : Array Operand) (tys : Array TypeId), ops = #[a, b] ∧ a.op = .call ⟨.builtin .recover, args, tys⟩ ∧ a.guard = none ∧ a.dst = some t ∧ (b.op = .move (.tmp t) ∨ b.op = .assign (.tmp t)) ∧ b.guard = none ∧ b.dst = some u ∧ t ≠ u := by
  unfold Qb at h
  split at h
  · rename_i a b hab
    split at h
    · rename_i c t1 t2 u1 h1 h2 h3 h4 h5 h6
      obtain ⟨ce,args,tys⟩:=c
      simp only at h
      split at h
      · split at h
        · rename_i hh
          simp only [Oi,Pi_] at h
          obtain ⟨rfl,rfl⟩:=h
          obtain ⟨rfl,hne⟩:=hh
          exact ⟨a,b,args,tys,by rw [← Array.toList_inj]; simpa using hab,h1,h2,h3,mvOf_some h4,h5,h6,hne⟩
        · simp at h
      · simp at h
    · simp at h
  · simp at h
theorem defs_ok {P : Program} {G : Nat → Option (List D)} {L : Prg} {call : Bi} {N : Nat} (hm : P.follows .mixedOrders = true) (hL : DfnOK P G L) (hcall : Oo P G call) (hclean : Ht call) {fn : Func} {tmps : Array Value} {R : Ending → World → Prop} :
    ∀ (ds : List D) (vs : List Value) (S S' : St) (w : World) (ρ : Su), I7 L.dfn call N ds S = some S' → VL w ρ S.heap ds vs → Rel w ρ S.heap → ρ.X.G = G →
      (∀ w' ρ',Rel w' ρ' S'.heap→Stp w ρ S w' ρ' S'→Leaves P fn tmps R [] .returning w')→Leaves P fn tmps R (vs.map dfOf) .returning w
  | [], _, S, S', w, ρ, h, .nil, hr, hG, hk => by
    simp only [I7,Oi] at h
    subst h
    exact hk w ρ hr (Stp.refl _ _ _)
  | d :: ds, v :: us, S, S', w, ρ, h, .cons hv hvs, hr, hG, hk => by
    obtain ⟨f,caps,rfl⟩ : ∃ f caps,d = .fn f caps:=by cases d<;>first | exact ⟨_,_,rfl⟩ | (simp [I7] at h; done)
    simp only [I7] at h
    cases hF : L.dfn f with
    | none=>simp [hF] at h
    | some F =>
      simp only [hF] at h
      split at h
      · rename_i hc
        obtain ⟨hcl,hnd,hres⟩:=hc
        obtain ⟨fn2,kd,slots,hfn,hlow,hkG⟩:=hL f F hF
        cases hex : Bn call N F.body (F.slots.map fun s=>caps.getD s .undef) S with
        | none=>rw [hex] at h; exact absurd h (by simp)
        | some q =>
          obtain ⟨e,env',S1⟩:=q
          have hx : I7 L.dfn call N ds S1 = some S'∧(e = .normal ∨ e = .ret):=by
            rw [hex] at h
            cases e with
            | normal=>exact ⟨h,.inl rfl⟩
            | ret=>exact ⟨h,.inr rfl⟩
            | exit i=>simp at h
          obtain ⟨hx,he⟩:=hx
          unfold lowFnD at hlow
          cases hb : fn2.body with
          | none=>simp [hb] at hlow
          | some c =>
            simp only [hb] at hlow
            split at hlow
            · rename_i lc ls hlc hls
              split at hlow
              · simp at hlow
              · rename_i hname
                split at hlow
                · rename_i hsl
                  simp only [Bool.and_eq_true,decide_eq_true_eq] at hsl
                  obtain ⟨hsl,hle⟩:=hsl
                  simp only [Oi] at hlow
                  subst hlow
                  simp only at hcl hnd hres hex
                  subst hres
                  generalize hdv : D.fn f caps = dd at hv
                  cases hv<;>try (simp at hdv; done)
                  rename_i f2 cs2 cvs hl2 hh2
                  simp only [D.fn.injEq] at hdv
                  obtain ⟨rfl,rfl⟩:=hdv
                  have hcv : VL w ρ S.heap caps cvs:=VL.of hl2 fun j d v h1 h2=>hh2 j d v h1 h2
                  have hvl:=hcv.len
                  have hnt : cvs.length ≤ fn2.ntmps:=by omega
                  show Leaves P fn tmps R (⟨.fn (.func f) cvs.toArray,#[]⟩ :: _) .returning w
                  refine leaves_cons (f:=f) (args:=cvs.toArray) (by simp) ?_ ?_
                  · have hnm : (fn2.name == "runtime.NumGoroutine") = false := by simpa using hname
                    simp [invoke,callFunc,hfn,hname,hb]
                  · refine callsD_of_wpS hfn hb fun c₀ cs hu => ?_
                    have hfr:=entry_fr (slots:=slots) hcv hnt
                    have hdx : DX w ρ S.heap slots.length (slots.map fun s=>caps.getD s .undef) []:=DX.nil (by simp)
                    -- what lies behind the closure's code
                    have fin : ∀ (ex : Exit) (a' : Act) (w' : World),CQ w ρ S slots fn2.ntmps e env' S1 ex a' w'→bodyPostS P fn2 c₀ cs (fun
                        | .returned _,u',w'=>Leaves P fn tmps R (List.map dfOf us) (settle u') w'
                        | .panicked chain,u',w'=>Leaves P fn tmps R (List.map dfOf us) (raised u' chain) w'
                        | .outgrown,_,w'=>R .outgrown w') ex a' (c₀ :: cs) w':=by
                      rintro ex a' w' ⟨ρ',h1,h2,h3,h4,h5⟩
                      obtain ⟨v,h7,h8⟩:=results_ok (P:=P) (r:=.tup []) h2 hsl h4 hls rfl
                      have hd0 : a'.defers = []:=by
                        obtain ⟨_,us,hu1,hu2⟩:=h5
                        have:=En lc hnd _ _ _ _ _ hex
                        rw [List.drop_eq_nil_of_le (by simp at this; omega)] at hu1
                        cases hu1
                        exact hu2
                      have hgo : Leaves P fn tmps R (List.map dfOf us) (settle .returning) w':=defs_ok hm hL hcall hclean ds _ S1 S' w' ρ' hx (hvs.mono h3) h2 (by rw [h3.hid]; exact hG) fun w2 ρ2 k1 k2=>hk w2 ρ2 k1 (h3.trans k2)
                      have hcc : c₀ :: cs = { c₀ with mode:=.returning } :: cs:=by rw [← hu]
                      rcases he with rfl | rfl
                      · simp only [Og] at h1
                        subst h1
                        exact ⟨hd0,.returning,hcc,v,h7,hgo⟩
                      · simp only [Og] at h1
                        subst h1
                        exact ⟨hd0,.returning,hcc,v,h7,hgo⟩
                    have plain : Dp P kd fn2.ntmps slots c = some lc→c.wpS P (bodyPostS P fn2 c₀ cs _) { tmps:=cvs.toArray ++ Array.replicate (fn2.ntmps - cvs.toArray.size) undef,defers:=[] } (c₀ :: cs) w:=fun hlc =>
                      wpS_of_wp (code_ok hkG hm hcall hclean hsl c lc _ S e env' S1 _ w ρ _ hlc hex hdx hr hG hfr fin)
                    unfold lowBodyD at hlc
                    split at hlc
                    · rename_i id ops y
                      split at hlc
                      · rename_i t u hrec
                        split at hlc
                        · rename_i j ly htn hj hly
                          split at hlc
                          · rename_i htt
                            simp only [Oi] at hlc
                            subst hlc
                            obtain ⟨oa,ob,args,tys,rfl,ha1,ha2,ha3,hb1,hb2,hb3,htu⟩:=recoverOf_some hrec
                            have hmj:=Gh hj
                            have hun : u < fn2.ntmps:=by
                              have:=List.all_eq_true.1 hsl u (Lm hmj)
                              simpa using this
                            simp only [Bn,Gl,onG,Aw,aop,LOp.loud,Bool.false_eq_true,if_false,List.map_cons,List.map_nil,opd,pop,Option.map_some,exports,List.getD_cons_zero] at hex
                            refine wpS_seq (wpS_region ?_)
                            have hrange : List.range (#[oa,ob] : Array Oper).size = [0,1]:=rfl
                            rw [hrange]
                            have h0 : (#[oa,ob] : Array Oper)[0]? = some oa:=rfl
                            have h1 : (#[oa,ob] : Array Oper)[1]? = some ob:=rfl
                            generalize hact : ({ tmps:=cvs.toArray ++ Array.replicate (fn2.ntmps - cvs.toArray.size) undef,defers:=[] } : Act) = act at hfr
                            have hw0 : ∀ b : Act,Region.wanted oa (yielded #[oa,ob] b.tmps) = true:=fun b=>by simp [Region.wanted,ha2]
                            have hw1 : ∀ b : Act,Region.wanted ob (yielded #[oa,ob] b.tmps) = true:=fun b=>by simp [Region.wanted,hb2]
                            have hx0 : (execOp act.eval oa).run P w = .ok .recover w:=by simp [execOp,ha1,resolve,invoke,builtin]
                            have hrd : recoverD (c₀ :: cs) = none:=by simp [recoverD,hu]
                            have hx1 : (execOp (act.put (some t) .nilIface).eval ob).run P w = .ok (.value .nilIface) w:=by
                              have : (act.put (some t) .nilIface).eval (.tmp t) = .nilIface:=by
                                show (act.tmps.setIfInBounds t .nilIface).getD t undef = .nilIface
                                have hsz:=hfr.1
                                simp [Array.getD_eq_getD_getElem?,hsz,htt]
                              rcases hb1 with hb1 | hb1<;>simp [execOp,hb1,this]
                            simp only [wpOpsS,h0,hw0,if_true,hx0,hrd,h1,ha3,hw1,hx1,Oper.upon,hb3,Exit.thenS]
                            refine wpS_of_wp ?_
                            have hp1:=hfr.put (dst:=some t) (r:=.nili) (v:=.nilIface) (σ':=fun x=>if some t = some x then D.nili else sig slots [] [] (slots.map fun s=>caps.getD s .undef) x) (Stp.refl w ρ S) .nili (by simpa [Ga] using htt) fun x=>rfl
                            have hp2:=hp1.put (dst:=some u) (r:=.nili) (v:=.nilIface) (σ':=fun x=>if some u = some x then D.nili else if some t = some x then D.nili else sig slots [] [] (slots.map fun s=>caps.getD s .undef) x) (Stp.refl w ρ S) .nili (by simpa [Ga] using hun) fun x=>rfl
                            have hfr2 : FR w ρ S.heap fn2.ntmps (sig slots [] [] ((slots.map fun s=>caps.getD s .undef).set j .nili)) ((act.put (some t) .nilIface).put (some u) .nilIface):=by
                              refine ⟨hp2.1,fun x hx=>?_⟩
                              have h3:=hp2.2 x hx
                              dsimp only at h3
                              unfold sig
                              simp only [Gj]
                              cases hi : idxOf slots x with
                              | none=>exact .undef _
                              | some i =>
                                have hmi:=Gh hi
                                have hjl:=lt_of_some hmj
                                by_cases hxu : u = x
                                · subst hxu
                                  rw [if_pos rfl] at h3
                                  have : i = j:=by rw [hi] at hj; injection hj
                                  subst this
                                  have hgs : ((slots.map fun s=>caps.getD s D.undef).set i D.nili).getD i D.undef = D.nili:=by
                                    rw [List.getD_eq_getElem?_getD,List.getElem?_set_self (by simpa using hjl)]; rfl
                                  show VR w ρ S.heap (((slots.map fun s=>caps.getD s D.undef).set i D.nili).getD i D.undef) _
                                  rw [hgs]
                                  exact h3
                                · have hxt : t ≠ x := fun h => by subst h; rw [htn] at hi; cases hi
                                  rw [if_neg (by simpa using hxu),if_neg (by simpa using hxt)] at h3
                                  have hij : j ≠ i:=fun h=>by subst h; rw [hmj] at hmi; injection hmi with hmi; exact hxu hmi
                                  unfold sig at h3
                                  simp only [Gj,hi] at h3
                                  simp only [List.getD,Ln_ hij]
                                  simpa only [List.getD] using h3
                            have hdf : ((act.put (some t) .nilIface).put (some u) .nilIface).defers = []:=by rw [← hact]; rfl
                            have hdx2 : DX w ρ S.heap slots.length ((slots.map fun s=>caps.getD s .undef).set j .nili) ((act.put (some t) .nilIface).put (some u) .nilIface).defers:=by rw [hdf]; exact DX.nil (by simp)
                            refine code_ok hkG hm hcall hclean hsl y ly _ S e env' S1 _ w ρ _ hly hex hdx2 hr hG hfr2 fin
                          · simp at hlc
                        · simp at hlc
                      · exact plain hlc
                    · exact plain hlc
                · simp at hlow
            · simp at hlow
      · simp at h

theorem run_clean (L : Prg) (N : Nat) : ∀ d,Ht (Bf L N d)
 | 0=>fun f ds S r S' h=>by simp [Bf] at h
 | d + 1 => fun f ds S r S' h => by
  simp only [Bf] at h
  split at h
  ·
   simp only [Oi,Pi_] at h
   exact h.2.1.symm
  repeat' (first | (simp at h; done) | (split at h))
  all_goals try (simp at h; done)
  all_goals
   first | unfold leaveD at h | unfold Dx at h | unfold leave at h
   repeat' (first | (simp at h; done) | (split at h))
   all_goals first
    | (simp at h; done)
    | (simp only [Oi,Pi_] at h; exact h.2.1.symm)

/-! a call on the empty heap -/
theorem VR.freeR_mono {w w' : World} {ρ ρ' : Su} {H H' : List Sk} (hi : ∀ b q,Imm w ρ H b q→w'.cell? ⟨b,q,none⟩ = w.cell? ⟨b,q,none⟩∧Imm w' ρ' H' b q) (ho : ∀ b es c,w.heap[b]? = some (.map es c)→(∀ g,ρ g ≠ some b)→¬ ρ.X b 0→w'.heap[b]? = w.heap[b]?∧(∀ g,ρ' g ≠ some b)∧¬ ρ'.X b 0) {d : D} {v : Value} (h : VR w ρ H d v) (hf : d.Sz = true) : VR w' ρ' H' d v:=by
 unfold D.Sz at hf
 split at hf
 ·
  cases h with
  | tup _ vs hl hh=>exact .tup _ vs hl fun j d v h1 h2=>(hh j d v h1 h2).freeV_mono hi ho (List.all_eq_true.1 hf d (Lm h1))
 ·
  exact h.freeV_mono hi ho hf
def hide (ρ : Su) (H : List Sk) : Su:=⟨fun _=>none,⟨fun b q=>ρ.X b q ∨ ∃ g,ρ g = some b∧¬ ∃ o,H[g]? = some o∧o.kind = 1∧q < o.rows.length * o.sz,ρ.X.G⟩⟩
theorem hide_in {w : World} {ρ : Su} {H : List Sk} {d : D} {v : Value} (h : VR w ρ H d v) (hf : d.Sy = true) : VR w (hide ρ H) [] d v:=by
  refine h.freeV_mono (fun b q hi=>⟨rfl,hi.1,fun hx=>?_,fun g h=>(by cases h)⟩) (fun b es c hb hg hx=>⟨rfl,fun g h=>(by cases h),fun hx'=>?_⟩) hf
  · rcases hx with hx | ⟨g, hg, hn⟩
    · exact hi.2.1 hx
    · exact hn (hi.2.2 g hg)
  · rcases hx' with hx' | ⟨g, hg', _⟩
    · exact hx hx'
    · exact hg g hg'
theorem hide_rel {w : World} {ρ : Su} {H : List Sk} (hr : Rel w ρ H) : Rel w (hide ρ H) [] :=
 ⟨fun g g' b h=>(by cases h),fun g b h=>(by cases h),fun b q hx=>⟨(by
  rcases hx with hx | ⟨g,hg,_⟩
  ·
   exact (hr.hid b q hx).1
  ·
   exact hr.lt hg),fun g h=>(by cases h)⟩,fun g row hg=>hide_in (hr.glob g row hg) rfl⟩
theorem hide_out {w : World} {ρ : Su} {H : List Sk} (hr : Rel w ρ H) {d : D} {v : Value} (h : VR w (hide ρ H) [] d v) (hf : d.Sz = true) : VR w ρ H d v:=by
 have key : ∀ b q,¬ (hide ρ H).X b q→¬ ρ.X b q∧∀ g,ρ g = some b→∃ o,H[g]? = some o∧o.kind = 1∧q < o.rows.length * o.sz:=by
  intro b q hx
  refine ⟨fun h=>hx (.inl h),fun g hg=>?_⟩
  exact Classical.byContradiction fun hn=>hx (.inr ⟨g,hg,hn⟩)
 refine h.freeR_mono (fun b q hi=>⟨rfl,hi.1,key b q hi.2.1⟩) (fun b es c hb hg hx=>⟨rfl,fun g hg'=>?_,(key b 0 hx).1⟩) hf
 obtain ⟨o,ho,hk,_⟩:=(key b 0 hx).2 g hg'
 obtain ⟨o',ho',hok⟩:=hr.obj g b hg'
 rw [ho] at ho'
 injection ho' with ho'
 subst ho'
 obtain ⟨cur,hc,_⟩:=hok.1 (by omega)
 rw [hb] at hc
 cases hc

theorem below_post {w w' : World} {ρ : Su} {S : St} {r : D} {v : Value} (hr : Rel w ρ S.heap) (hext : Ext w w') (hv : Rel w' ρ S.heap→Stp w ρ S w' ρ S→VR w' ρ S.heap r v) : Ta w ρ S r S false v w':=by
 have hst : Stp w ρ S w' ρ S:=⟨rfl,hext.os,hext.tape,hext.output,hext.size,Nat.le_refl _,fun b hb hg=>⟨hext.block b hb,hg⟩,fun b q hi=>⟨Fv (hext.block b hi.1) q,Nat.lt_of_lt_of_le hi.1 hext.size,hi.2⟩,
  fun g b o ho hg hb=>hext.block b (hr.lt hb),fun g o ho=>⟨o,ho,⟨Nat.le_refl _,rfl⟩,fun _=>rfl,fun _=>⟨rfl,rfl,rfl,Nat.le_refl _,fun b cur hb hc=>⟨cur,(hext.block b (hr.lt hb)).trans hc,rfl⟩⟩⟩⟩
 have hrel : Rel w' ρ S.heap:=⟨hr.inj,fun g b hb=>by
  obtain ⟨o,ho,hk⟩:=hr.obj g b hb
  exact ⟨o,ho,hk.mono hst (hext.block b (hr.lt hb))⟩,hr.hids hst,hr.globs hst⟩
 exact ⟨ρ,hrel,hst,hv hrel hst,fun _=>⟨hext,rfl,rfl⟩⟩
theorem run_ok {P : Program} {G : Nat → Option (List D)} {L : Prg} (hm : P.follows .mixedOrders = true) (hL : PrgOK P G L) (N : Nat) : ∀ d, Oo P G (Bf L N d)
  | 0=>fun f ds S r S' wr h=>by simp [Bf] at h
  | d + 1 => by
    have ih:=run_ok hm hL N d
    intro f ds S r S' wr h w ρ vs hG hr hv
    simp only [Bf] at h
    by_cases hE : (L.ext f ds).isSome = true
    · obtain ⟨r0, hE⟩ := Option.isSome_iff_exists.1 hE
      simp only [hE,Oi,Pi_] at h
      obtain ⟨rfl,rfl,rfl⟩:=h
      exact hL.2.1 f ds _ hE _ w ρ vs hG hr hv
    replace hE : L.ext f ds = none:=by simpa using hE
    simp only [hE] at h
    cases hF : L.fns f with
    | none=>simp [hF] at h
    | some F =>
      simp only [hF] at h
      obtain ⟨fn,kd,slots,hfn,hlow,hkG,hnd⟩:=hL.1 f F hF
      unfold Dv at hlow
      cases hb : fn.body with
      | none=>simp [hb] at hlow
      | some c =>
        simp only [hb] at hlow
        split at hlow
        · rename_i lc ls hlc hls
          split at hlow
          · simp at hlow
          · rename_i hname
            split at hlow
            · rename_i hsl
              simp only [Bool.and_eq_true,decide_eq_true_eq] at hsl
              obtain ⟨hsl,hle⟩:=hsl
              simp only [Oi] at hlow
              subst hlow
              split at h
              · simp at h
              · rename_i args' hargs
                have hva : VL w ρ S.heap args' vs:=by
                  split at hargs
                  · simp only [Oi] at hargs; subst hargs; exact hv
                  · exact Mv hr (Nat.le_refl _) hv hargs
                simp only [ne_eq,ite_not] at h
                split at h
                · rename_i hlen
                  have body : ∀ (ρ0 : Su) (S0 S1 S2 : St) (e : Sr) (env' : List D) (r0 : D) (Post : Value→World→Prop),ρ0.X.G = G→Rel w ρ0 S0.heap→VL w ρ0 S0.heap args' vs→Bn (Bf L N d) N lc (slots.map fun s=>args'.getD s .undef) ⟨S0.heap,S0.heap.length⟩ = some (e,env',S1)→(e = .normal ∨ e = .ret)→behind L (Bf L N d) N f ⟨slots,fn.params.size + fn.nfree,lc,ls⟩ env' S1 = some S2→Au env' S2 ls = some r0 →
                      (∀ w' ρ' v,Rel w' ρ' S2.heap→Stp w ρ0 ⟨S0.heap,S0.heap.length⟩ w' ρ' S2→VR w' ρ' S2.heap r0 v→Post v w')→(callFunc f vs.toArray).run P w = .ok (.enter f vs.toArray) w∧Calls P f vs.toArray w fun e w'=>∃ v,e = .returned v∧Post v w':=by
                    intro ρ0 S0 S1 S2 e env' r0 Post hG0 hr hva hex he hbh hr0 hpost
                    have hnm : (fn.name == "runtime.NumGoroutine") = false := by simpa using hname
                    refine ⟨by simp [callFunc,hfn,hname,hb],?_⟩
                    refine calls_of_wp_defers hfn hb ?_
                    have hvl:=hva.len
                    have hnt : fn.params.size + fn.nfree = vs.length:=by rw [hvl,hlen]
                    have hfr : FR w ρ0 S0.heap fn.ntmps (sig slots [] [] (slots.map fun s=>args'.getD s .undef)) { tmps:=vs.toArray ++ Array.replicate (fn.ntmps - vs.toArray.size) undef,defers:=[] }:=entry_fr hva (by omega)
                    refine code_ok hkG hm ih (run_clean L N d) hsl c lc _ ⟨S0.heap,S0.heap.length⟩ e env' S1 _ w ρ0 _ hlc hex (DX.nil (by simp)) hr hG0 hfr ?_
                    rintro ex a' w' ⟨ρ',h1,h2,h3,h4,h5⟩
                    have fin : Leaves P fn a'.tmps (fun e w'=>∃ v,e = .returned v∧Post v w') a'.defers .returning w':=by
                      obtain ⟨_,us,hu1,hu2⟩:=h5
                      have last : ∀ w2 ρ2,Rel w2 ρ2 S2.heap→Stp w' ρ' S1 w2 ρ2 S2→Leaves P fn a'.tmps (fun e w'=>∃ v,e = .returned v∧Post v w') [] .returning w2:=by
                        intro w2 ρ2 k1 k2
                        obtain ⟨v,h7,h8⟩:=results_ok (P:=P) k1 hsl (h4.mono k2) hls hr0
                        exact ⟨v,h7,v,rfl,hpost w2 ρ2 v k1 (h3.trans k2) h8⟩
                      unfold behind at hbh
                      split at hbh
                      · rw [hu2, ← List.map_reverse]
                        exact defs_ok hm hL.2.2 ih (run_clean L N d) _ _ S1 S2 w' ρ' hbh hu1.reverse h2 (by rw [h3.hid]; exact hG0) last
                      · rename_i hdf
                        simp only [Oi] at hbh
                        subst hbh
                        have hnd' : Gx lc = true:=by
                          rcases hnd with h | h
                          · exact absurd h hdf
                          · exact h
                        have:=En lc hnd' _ _ _ _ _ hex
                        rw [List.drop_eq_nil_of_le (by simp at this; omega)] at hu1
                        cases hu1
                        rw [hu2]
                        exact last w' ρ' h2 (Stp.refl _ _ _)
                    rcases he with rfl | rfl
                    · simp only [Og] at h1
                      subst h1
                      exact fin
                    · simp only [Og] at h1
                      subst h1
                      exact fin
                  split at h
                  · rename_i hpure
                    simp only [Bool.and_eq_true] at hpure
                    cases hex : Bn (Bf L N d) N lc (slots.map fun s=>args'.getD s .undef) ⟨[],0⟩ with
                    | none=>rw [hex] at h; simp at h
                    | some q =>
                      obtain ⟨e,env',S1⟩:=q
                      simp only [hex] at h
                      have hne : (e = .normal ∨ e = .ret)∧∃ S2,behind L (Bf L N d) N f ⟨slots,fn.params.size + fn.nfree,lc,ls⟩ env' S1 = some S2∧∃ r0,Au env' S2 ls = some r0∧(if L.deep f then leaveD ⟨[],0⟩ S r0 S2 else Dx S r0 S2) = some (r,S',wr):=by
                        cases e with
                        | exit i=>simp at h
                        | normal =>
                          refine ⟨.inl rfl,?_⟩
                          simp only at h
                          split at h
                          · simp at h
                          · rename_i S2 hbh
                            split at h
                            · simp at h
                            · rename_i r0 hr0; exact ⟨S2,hbh,r0,hr0,h⟩
                        | ret =>
                          refine ⟨.inr rfl,?_⟩
                          simp only at h
                          split at h
                          · simp at h
                          · rename_i S2 hbh
                            split at h
                            · simp at h
                            · rename_i r0 hr0; exact ⟨S2,hbh,r0,hr0,h⟩
                      obtain ⟨he,S2,hbh,r0,hr0,hleave⟩:=hne
                      have hr0':=hide_rel hr
                      have key : r.Sz = true∧S' = S∧wr = false∧∃ S3,∀ w' ρ' v,Rel w' ρ' S2.heap→Stp w (hide ρ S.heap) ⟨[],0⟩ w' ρ' S2→VR w' ρ' S2.heap r0 v→Ta w (hide ρ S.heap) ⟨[],0⟩ r S3 false v w':=by
                        split at hleave
                        · have h0 := hleave
                          unfold leaveD at h0
                          split at h0
                          · split at h0
                            · split at h0
                              · rename_i hfree
                                simp only [Oi,Pi_] at h0
                                obtain ⟨rfl,rfl,rfl⟩:=h0
                                exact ⟨hfree,rfl,rfl,_,fun w' ρ' v q1 q2 q3=>(leaveD_ok (S:=⟨[],0⟩) hr0' q1 q2 q3 hleave).2.2.2⟩
                              · simp at h0
                            · simp at h0
                          · simp at h0
                        · unfold Dx at hleave
                          split at hleave
                          · rename_i r' S3 hl
                            split at hleave
                            · rename_i hfree
                              simp only [Oi,Pi_] at hleave
                              obtain ⟨rfl,rfl,rfl⟩:=hleave
                              exact ⟨hfree,rfl,rfl,S3,fun w' ρ' v q1 q2 q3=>leave_ok (S:=⟨[],0⟩) hr0' q1 q2 q3 hl⟩
                            · simp at hleave
                          · simp at hleave
                      obtain ⟨hfree,rfl,rfl,S3,key⟩:=key
                      refine body (hide ρ S'.heap) ⟨[],0⟩ S1 S2 e env' r0 _ (by simpa [hide] using hG) hr0' (VL.of hva.len fun j d v h1 h2=>hide_in (hva.get h1 h2) (List.all_eq_true.1 hpure.2 d (Lm h1))) hex he hbh hr0 fun w' ρ' v q1 q2 q3=>?_
                      obtain ⟨ρ2,p1,p2,p3,p4⟩:=key w' ρ' v q1 q2 q3
                      obtain ⟨hext,rfl,rfl⟩:=p4 rfl
                      have hst : Stp w ρ S' w' ρ S':=⟨rfl,q2.os,q2.tape,q2.output,q2.size,Nat.le_refl _,fun b hb hg=>⟨hext.block b hb,hg⟩,fun b q hi=>⟨Fv (hext.block b hi.1) q,Nat.lt_of_lt_of_le hi.1 q2.size,hi.2⟩,
                        fun g b o ho hg hb=>hext.block b (hr.lt hb),fun g o ho=>⟨o,ho,⟨Nat.le_refl _,rfl⟩,fun _=>rfl,fun _=>⟨rfl,rfl,rfl,Nat.le_refl _,fun b cur hb hc=>⟨cur,(hext.block b (hr.lt hb)).trans hc,rfl⟩⟩⟩⟩
                      have hrel : Rel w' ρ S'.heap:=⟨hr.inj,fun g b hb=>by
                        obtain ⟨o,ho,hk⟩:=hr.obj g b hb
                        exact ⟨o,ho,hk.mono hst (hext.block b (hr.lt hb))⟩,hr.hids hst,hr.globs hst⟩
                      exact ⟨ρ,hrel,hst,hide_out hrel p3 hfree,fun _=>⟨hext,rfl,rfl⟩⟩
                  · cases hex : Bn (Bf L N d) N lc (slots.map fun s => args'.getD s .undef) ⟨S.heap, S.heap.length⟩ with
                    | none=>rw [hex] at h; simp at h
                    | some q =>
                      obtain ⟨e,env',S1⟩:=q
                      simp only [hex] at h
                      have hne : (e = .normal ∨ e = .ret)∧∃ S2,behind L (Bf L N d) N f ⟨slots,fn.params.size + fn.nfree,lc,ls⟩ env' S1 = some S2∧∃ r0,Au env' S2 ls = some r0∧(if L.deep f then leaveD S S r0 S2 else leave (L.raw f) S r0 S2) = some (r,S',wr):=by
                        cases e with
                        | exit i=>simp at h
                        | normal =>
                          refine ⟨.inl rfl,?_⟩
                          simp only at h
                          split at h
                          · simp at h
                          · rename_i S2 hbh
                            split at h
                            · simp at h
                            · rename_i r0 hr0; exact ⟨S2,hbh,r0,hr0,h⟩
                        | ret =>
                          refine ⟨.inr rfl,?_⟩
                          simp only at h
                          split at h
                          · simp at h
                          · rename_i S2 hbh
                            split at h
                            · simp at h
                            · rename_i r0 hr0; exact ⟨S2,hbh,r0,hr0,h⟩
                      obtain ⟨he,S2,hbh,r0,hr0,hleave⟩:=hne
                      refine body ρ S S1 S2 e env' r0 _ hG hr hva hex he hbh hr0 fun w' ρ' v q1 q2 q3=>?_
                      split at hleave
                      · obtain ⟨rfl, rfl, _, hp⟩ := leaveD_ok hr q1 q2 q3 hleave
                        exact hp
                      · exact leave_ok hr q1 q2 q3 hleave
                · simp at h
            · simp at hlow
        · simp at hlow
def NN : Nat:=18446744073709551616
section
variable {call : Bi}
def CW (call : Bi) (c : Sq) (Q : Sr→List D→St→Prop) (env : List D) (S : St) : Prop :=
 ∃ e env' S',Bn call NN c env S = some (e,env',S')∧Q e env' S'
def OW (call : Bi) (ops : List Sm) (vals env : List D) (S : St) (K : List D→St→Prop) : Prop :=
 ∃ vals' S',Gl call ops vals env S = some (vals',S')∧K vals' S'
def DW (call : Bi) (n : Nat) (news : List (TypeId × List D)) (ops : List Sm) (fps : List FP) (vals env : List D) (S : St) (K : List D→St→Prop) : Prop :=
 ∃ vals' S',Im call n news ops fps vals env S = some (vals',S')∧K vals' S'

def SeqK (call : Bi) (b : Sq) (Q : Sr→List D→St→Prop) : Sr→List D→St→Prop
 | .normal,env,S=>CW call b Q env S
 | e,env,S=>Q e env S
def BlkK (i : Nat) (Q : Sr→List D→St→Prop) : Sr→List D→St→Prop
 | .exit j,env,S=>if j = i then Q .normal env S else Q (.exit j) env S
 | e,env,S=>Q e env S
variable {Q : Sr→List D→St→Prop} {env : List D} {S : St}

theorem Ap (h : Q .normal env S) : CW call .skip Q env S:=⟨_,_,_,rfl,h⟩
theorem Br (h : Q .ret env S) : CW call .ret Q env S:=⟨_,_,_,rfl,h⟩
theorem Dq {i : Nat} (h : Q (.exit i) env S) : CW call (.exit i) Q env S:=⟨_,_,_,rfl,h⟩
theorem Aj {a b : Sq} (h : CW call a (SeqK call b Q) env S) : CW call (.seq a b) Q env S:=by
 obtain ⟨e,env',S',h1,h2⟩:=h
 cases e with
 | normal =>
  obtain ⟨e2,env2,S2,h3,h4⟩:=h2
  exact ⟨e2,env2,S2,by simp only [Bn,h1]; exact h3,h4⟩
 | ret=>exact ⟨.ret,env',S',by simp only [Bn,h1],h2⟩
 | exit i=>exact ⟨.exit i,env',S',by simp only [Bn,h1],h2⟩
theorem Av {i : Nat} {c : Sq} (h : CW call c (BlkK i Q) env S) : CW call (.block i c) Q env S:=by
  obtain ⟨e,env',S',h1,h2⟩:=h
  cases e with
  | normal=>exact ⟨.normal,env',S',by simp only [Bn,h1],h2⟩
  | ret=>exact ⟨.ret,env',S',by simp only [Bn,h1],h2⟩
  | exit j =>
    by_cases hj : j = i
    · exact ⟨.normal,env',S',by simp only [Bn,h1,hj,if_true],by simpa [BlkK,hj] using h2⟩
    · exact ⟨.exit j,env',S',by simp only [Bn,h1,hj,if_false],by simpa [BlkK,hj] using h2⟩
theorem Pp {c : Sn} {a b : Sq} (hc : opd [] env c = .bool true) (h : CW call a Q env S) : CW call (.cond c a b) Q env S:=by
 obtain ⟨e,env',S',h1,h2⟩:=h
 exact ⟨e,env',S',by simp only [Bn,hc]; exact h1,h2⟩
theorem Ie {c : Sn} {a b : Sq} (hc : opd [] env c = .bool false) (h : CW call b Q env S) : CW call (.cond c a b) Q env S:=by
 obtain ⟨e,env',S',h1,h2⟩:=h
 exact ⟨e,env',S',by simp only [Bn,hc]; exact h1,h2⟩
theorem Cm {c : Sn} {a b : Sq} {t : Bool} (hc : opd [] env c = .bool t) (ht : t = true→CW call a Q env S) (hf : t = false→CW call b Q env S) : CW call (.cond c a b) Q env S:=by
 cases t with
 | true=>exact Pp hc (ht rfl)
 | false=>exact Ie hc (hf rfl)
theorem Bc {ops : List Sm} {exps : List (Nat × Nat)} (h : OW call ops [] env S (fun vals S'=>Q .normal (exports exps vals env) S')) : CW call (.region ops exps) Q env S:=by
 obtain ⟨vals,S',h1,h2⟩:=h
 exact ⟨_,_,_,by simp only [Bn,h1],h2⟩
theorem Gs {ops : List Sm} {exps : List (Nat × Nat)} {news : List (TypeId × List D)} {tl : List D} {S0 : St} (ht : Db S.heap.length news.length = tl) (hS : (⟨S.heap ++ news.map Ew,S.low⟩ : St) = S0) (h : DW call S.heap.length news ops [] tl env S0 (fun vals S'=>Q .normal (exports exps vals env) S')) : CW call (.drawn ops exps news) Q env S:=by
 subst ht hS
 obtain ⟨vals,S',h1,h2⟩:=h
 exact ⟨_,_,_,by simp only [Bn,h1],h2⟩
theorem cw_mono {c : Sq} {Q' : Sr→List D→St→Prop} (h : CW call c Q env S) (hq : ∀ e env' S',Q e env' S'→Q' e env' S') : CW call c Q' env S:=by
 obtain ⟨e,env',S',h1,h2⟩:=h
 exact ⟨e,env',S',h1,hq _ _ _ h2⟩

variable {vals : List D} {K : List D→St→Prop} {os : List Sm} {l : LOp} {args : List Sn} {od : List Bool} {ho : Option Nat}
theorem Aa (h : K vals S) : OW call [] vals env S K:=⟨_,_,rfl,h⟩
theorem Ab {r : D} {S' : St} {wr : Bool} (hx : Aw call l (args.map (opd vals env)) S = some (r,S',wr)) (h : OW call os (r :: vals) env S' K) : OW call (⟨l,args,none,od,ho⟩ :: os) vals env S K:=by
 obtain ⟨vals',S2,h1,h2⟩:=h
 refine ⟨vals',S2,?_,h2⟩
 simp only [Gl,onG,hx]
 exact h1
theorem exOp_pop {r : D} (hl : l.loud = false) (hx : pop l (args.map (opd vals env)) = some r) : Aw call l (args.map (opd vals env)) S = some (r,S,false):=by
 have : Aw call l (args.map (opd vals env)) S = aop l (args.map (opd vals env)) S:=by cases l<;>first | rfl | (simp [LOp.loud] at hl; done)
 rw [this]
 simp [aop,hl,hx]
theorem ow_pop {r : D} (hl : l.loud = false) (hx : pop l (args.map (opd vals env)) = some r) (h : OW call os (r :: vals) env S K) : OW call (⟨l,args,none,od,ho⟩ :: os) vals env S K:=Ab (exOp_pop hl hx) h
theorem Ah {d : Nat} {b : Bool} (hg : vals.getD d .undef = .bool b) (h : OW call (⟨l,args,none,od,ho⟩ :: os) vals env S K) : OW call (⟨l,args,some (d,b),od,ho⟩ :: os) vals env S K:=by
 obtain ⟨vals',S2,h1,h2⟩:=h
 refine ⟨vals',S2,?_,h2⟩
 simp only [Gl,onG,hg,beq_self_eq_true] at h1 ⊢
 exact h1
theorem Bb {d : Nat} {b b' : Bool} (hg : vals.getD d .undef = .bool b') (hb : (b' == b) = false) (h : OW call os (.skip :: vals) env S K) : OW call (⟨l,args,some (d,b),od,ho⟩ :: os) vals env S K:=by
 obtain ⟨vals',S2,h1,h2⟩:=h
 refine ⟨vals',S2,?_,h2⟩
 simp only [Gl,onG,hg,hb]
 exact h1
theorem Df {d : Nat} {b : Bool} (hg : vals.getD d .undef = .skip) (h : OW call os (.skip :: vals) env S K) : OW call (⟨l,args,some (d,b),od,ho⟩ :: os) vals env S K:=by
 obtain ⟨vals',S2,h1,h2⟩:=h
 refine ⟨vals',S2,?_,h2⟩
 simp only [Gl,onG,hg]
 exact h1
theorem set_getD {vals : List D} {d : Nat} {x : D} (h : vals.getD d .undef = x) (hx : x ≠ .undef) : vals.set d x = vals:=by
 induction vals generalizing d with
 | nil=>simp at h; exact (hx h.symm).elim
 | cons a l ih =>
  cases d with
  | zero=>simp at h; simp [h]
  | succ d=>simp at h; simp; exact ih (by simpa using h)
theorem Lu {ops : List Sm} {vt vf : List D} (d : Nat) {b : Bool} (hg : vals.getD d .undef = .bool b) (ht : vals.set d (.bool true) = vt) (hf : vals.set d (.bool false) = vf) (h1 : b = true→OW call ops vt env S K) (h2 : b = false→OW call ops vf env S K) : OW call ops vals env S K:=by
 cases b with
 | true=>rw [← set_getD hg (by simp)]; rw [ht]; exact h1 rfl
 | false=>rw [← set_getD hg (by simp)]; rw [hf]; exact h2 rfl

variable {n : Nat} {news : List (TypeId × List D)} {fps : List FP}
theorem De (h : K vals S) : DW call n news [] fps vals env S K:=⟨_,_,rfl,h⟩
theorem Ca {r : D} {S' : St} {wr : Bool} {fp : FP} (hx : Aw call l (args.map (opd vals env)) S = some (r,S',wr)) (hf : Bd n ⟨l,args,none,od,ho⟩ (args.map (opd vals env)) r wr = fp) (hok : Am n news ⟨l,args,none,od,ho⟩ fps fp S' = true) (h : DW call n news os (fp :: fps) (r :: vals) env S' K) : DW call n news (⟨l,args,none,od,ho⟩ :: os) fps vals env S K:=by
 obtain ⟨vals',S2,h1,h2⟩:=h
 subst hf
 refine ⟨vals',S2,?_,h2⟩
 simp only [Im,onG,hx,hok,if_true]
 exact h1
theorem Kn : ∀ (bs : List Bool) (fs : List FP),bs.length = fs.length→Bp bs fs Ai = true
 | [],[],_=>rfl
 | b :: bs,f :: fs,h=>by
  simp only [Bp,Bool.and_eq_true]
  refine ⟨?_,Kn bs fs (by simpa using h)⟩
  unfold Al
  split<;>simp_all [Ai,Az,Ba]
 | [],_ :: _,h=>by simp at h
 | _ :: _,[],h=>by simp at h
theorem dw_pop {r : D} (hl : l.loud = false) (hx : pop l (args.map (opd vals env)) = some r) (hn : od.length = fps.length) (h : DW call n news os (Ai :: fps) (r :: vals) env S K) : DW call n news (⟨l,args,none,od,none⟩ :: os) fps vals env S K:=by
 have hf : Ec l (args.map (opd vals env)) r false = Ai:=by
  cases l<;>first | rfl | (simp [LOp.loud] at hl; done) | skip
  rename_i st _ _ _ _
  cases st
  ·
   simp [LOp.loud] at hl
  ·
   rfl
 refine Ca (exOp_pop hl hx) (fp:=Ai) hf ?_ h
 simp only [Am,Bool.and_eq_true]
 exact ⟨Kn od fps hn,rfl⟩
theorem Ce {r : D} {wr : Bool} {S' : St} (hx : Aw call l (args.map (opd vals env)) S = some (r,S',wr)) (hl : l.loud = false) (hn : od.length = fps.length) (h : DW call n news os (Ai :: fps) (r :: vals) env S' K) : DW call n news (⟨l,args,none,od,none⟩ :: os) fps vals env S K:=by
 have : Aw call l (args.map (opd vals env)) S = aop l (args.map (opd vals env)) S:=by cases l<;>first | rfl | (simp [LOp.loud] at hl; done)
 rw [this] at hx
 simp only [aop,hl,Bool.false_eq_true,if_false,Om,Pi_] at hx
 obtain ⟨r',h1,rfl,rfl,rfl⟩:=hx
 exact dw_pop hl h1 hn h
def LoopK (I : Nat→List D→St→Prop) (n : Nat) (Q : Sr→List D→St→Prop) : Sr→List D→St→Prop
 | .normal,env,S=>∃ m,m < n∧I m env S
 | e,env,S=>Q e env S
theorem D5 {c : Sq} (I : Nat→List D→St→Prop) (n : Nat) (hn : n < 18446744073709551616) (h0 : I n env S) (hr : ∀ n env S,I n env S→CW call c (LoopK I n Q) env S) : CW call (.loop c) Q env S:=by
 have key : ∀ n k env S,n < k→I n env S→∃ e env' S',Gp (Bn call NN c) k env S = some (e,env',S')∧Q e env' S':=by
  intro n
  induction n using Nat.strongRecOn with
  | _ n ih =>
   intro k env S hk hI
   obtain ⟨e,env1,S1,h1,h2⟩:=hr n env S hI
   obtain ⟨k',rfl⟩ : ∃ k',k = k' + 1:=⟨k - 1,by omega⟩
   simp only [Gp,h1]
   cases e with
   | normal =>
    obtain ⟨m,hm,hI'⟩:=h2
    exact ih m hm k' env1 S1 (by omega) hI'
   | ret=>exact ⟨.ret,env1,S1,rfl,h2⟩
   | exit i=>exact ⟨.exit i,env1,S1,rfl,h2⟩
 obtain ⟨e,env',S',h1,h2⟩:=key n NN env S (by unfold NN; exact hn) h0
 exact ⟨e,env',S',by simp only [Bn]; exact h1,h2⟩
end

def FinK (L : Prg) (f : FuncId) (F : Sl) (S : St) (x : D × St × Bool) : Sr→List D→St→Prop
 | .exit _,_,_=>False
 | _,env',S2=>∃ r0,Au env' S2 F.res = some r0∧leave (L.raw f) S r0 S2 = some x
def FinP (F : Sl) (r : D) : Sr→List D→St→Prop
 | .exit _,_,_=>False
 | _,env',S2=>∃ r0,Au env' S2 F.res = some r0∧Dx ⟨[],0⟩ r0 S2 = some (r,⟨[],0⟩,false)
theorem leaveP_any {S T : St} {r0 r : D} {S2 : St} (h : Dx T r0 S2 = some (r,T,false)) : Dx S r0 S2 = some (r,S,false):=by
 unfold Dx at h ⊢
 split at h
 ·
  rename_i r' S3 hl
  split at h
  ·
   rename_i hf
   simp only [Oi,Pi_] at h
   obtain ⟨rfl,_⟩:=h
   simp [hf]
  ·
   simp at h
 ·
  simp at h
theorem Dl {L : Prg} {d : Nat} {f : FuncId} {F : Sl} {args args' env0 : List D} {S : St} {x : D × St × Bool} (hF : L.fns f = some F) (ha : (if L.raw f then some args else Ar S.heap.length S.heap args) = some args') (hl : args'.length = F.nargs) (hp : (L.pure f && args'.all D.Sy) = false) (he : (F.slots.map fun s=>args'.getD s .undef) = env0) (hd : 0 < d)
  (hb : ∀ d',d = d' + 1→CW (Bf L NN d') F.body (FinK L f F S x) env0 ⟨S.heap,S.heap.length⟩) (hdp : L.deep f = false:=by rfl) (hE : L.ext f args = none:=by rfl) (hds : L.dfs f = false:=by rfl) : Bf L NN d f args S = some x:=by
 subst he
 obtain ⟨d',rfl⟩ : ∃ d',d = d' + 1:=⟨d - 1,by omega⟩
 obtain ⟨e,env',S2,h1,h2⟩:=hb d' rfl
 simp only [Bf,behind,hds,hE,hF,ha,hl,hp,ne_eq,not_true_eq_false,if_false,Bool.false_eq_true,h1,hdp]
 cases e with
 | exit i=>exact h2.elim
 | normal =>
  obtain ⟨r0,h3,h4⟩:=h2
  simp only [h3]
  exact h4
 | ret =>
  obtain ⟨r0,h3,h4⟩:=h2
  simp only [h3]
  exact h4
theorem run_pure {L : Prg} {d : Nat} {f : FuncId} {F : Sl} {args args' env0 : List D} {S : St} {r : D} (hF : L.fns f = some F) (ha : (if L.raw f then some args else Ar S.heap.length S.heap args) = some args') (hl : args'.length = F.nargs) (hp : (L.pure f && args'.all D.Sy) = true) (he : (F.slots.map fun s=>args'.getD s .undef) = env0) (hd : 0 < d)
  (hb : ∀ d',d = d' + 1→CW (Bf L NN d') F.body (FinP F r) env0 ⟨[],0⟩) (hdp : L.deep f = false:=by rfl) (hE : L.ext f args = none:=by rfl) (hds : L.dfs f = false:=by rfl) : Bf L NN d f args S = some (r,S,false):=by
 subst he
 obtain ⟨d',rfl⟩ : ∃ d',d = d' + 1:=⟨d - 1,by omega⟩
 obtain ⟨e,env',S2,h1,h2⟩:=hb d' rfl
 simp only [Bf,behind,hds,hE,hF,ha,hl,hp,ne_eq,not_true_eq_false,if_false,if_true,h1,hdp,Bool.false_eq_true]
 cases e with
 | exit i=>exact h2.elim
 | normal =>
  obtain ⟨r0,h3,h4⟩:=h2
  simp only [h3]
  exact leaveP_any h4
 | ret =>
  obtain ⟨r0,h3,h4⟩:=h2
  simp only [h3]
  exact leaveP_any h4
def FinD (F : Sl) (m : St) (r : D) : Sr→List D→St→Prop
 | .exit _,_,_=>False
 | _,env',S2=>∃ r0,Au env' S2 F.res = some r0∧leaveD m m r0 S2 = some (r,m,false)
def FinDD (L : Prg) (d : Nat) (F : Sl) (m : St) (r : D) : Sr→List D→St→Prop
 | .exit _,_,_=>False
 | _,env',S1=>∃ S2,I7 L.dfn (Bf L NN d) NN (env'.drop F.slots.length).reverse S1 = some S2∧∃ r0,Au env' S2 F.res = some r0∧leaveD m m r0 S2 = some (r,m,false)
def FinE (S2 : St) : Sr→List D→St→Prop
 | .exit _,_,_=>False
 | _,_,S=>S = S2
theorem exDefs_one {tab : FuncId→Option Sl} {call : Bi} {f : FuncId} {caps env0 : List D} {F : Sl} {S S2 : St} (hF : tab f = some F) (hl : caps.length = F.nargs) (hn : Gx F.body = true) (hr : F.res = []) (he : (F.slots.map fun s=>caps.getD s .undef) = env0) (h : CW call F.body (FinE S2) env0 S) : I7 tab call NN [.fn f caps] S = some S2:=by
 subst he
 obtain ⟨e,env',S',h1,h2⟩:=h
 simp only [I7,hF,hl,hn,hr,and_self,if_true,h1]
 cases e with
 | exit i=>exact h2.elim
 | normal=>exact congrArg some h2
 | ret=>exact congrArg some h2
section
variable {call : Bi} {b : Sq} {Q : Sr→List D→St→Prop} {env env' : List D} {S : St} {i j : Nat}
theorem Bt (he : env' = env) (h : CW call b Q env S) : SeqK call b Q .normal env' S:=he ▸ h
theorem Gc (h : Q .ret env S) : SeqK call b Q .ret env S:=h
theorem H6 (h : Q (.exit i) env S) : SeqK call b Q (.exit i) env S:=h
theorem Eh (h : Q .normal env S) : BlkK i Q .normal env S:=h
theorem Hr (h : Q .ret env S) : BlkK i Q .ret env S:=h
theorem Ig (h : Q .normal env S) : BlkK i Q (.exit i) env S:=by simpa [BlkK] using h
theorem Gr {I : Nat→List D→St→Prop} {n : Nat} (he : env' = env) (h : ∃ m,m < n∧I m env S) : LoopK I n Q .normal env' S:=he ▸ h
theorem lk_r {I : Nat→List D→St→Prop} {n : Nat} (h : Q .ret env S) : LoopK I n Q .ret env S:=h
theorem Iz {I : Nat→List D→St→Prop} {n : Nat} (h : Q (.exit i) env S) : LoopK I n Q (.exit i) env S:=h
end
/-! the heap behind known objects -/
theorem Bu {α : Type} (H L : List α) (k : Nat) : (H ++ L)[H.length + k]? = L[k]?:=by
 rw [Lr_ (by omega),Nat.add_sub_cancel_left]
theorem Di {α : Type} (H L : List α) : (H ++ L)[H.length]? = L[0]?:=Bu H L 0
theorem Et {α : Type} (H L : List α) (k : Nat) (x : α) : (H ++ L).set (H.length + k) x = H ++ L.set k x:=by
 rw [List.set_append,if_neg (by omega),Nat.add_sub_cancel_left]
theorem Fb {α : Type} (H L : List α) (x : α) : (H ++ L).set H.length x = H ++ L.set 0 x:=Et H L 0 x
theorem min_low (n k : Nat) : min n (n + k) = n:=by omega
/-! equations, one for each kind of value -/
theorem Ov (m : Nat) (H : List Sk) (k : IntKind) (n : Int) : snap m H (.int k n) = some (.int k n):=rfl
theorem snapV_int (m : Nat) (H : List Sk) (k : IntKind) (n : Int) : Sw m H (.int k n) = some (.int k n):=rfl
theorem snap_bool (m : Nat) (H : List Sk) (b : Bool) : snap m H (.bool b) = some (.bool b):=rfl
theorem Kh (m : Nat) (H : List Sk) (b : Bool) : Sw m H (.bool b) = some (.bool b):=rfl
theorem Ou (m : Nat) (H : List Sk) (s : ByteArray) : snap m H (.str s) = some (.str s):=rfl
theorem snapV_str (m : Nat) (H : List Sk) (s : ByteArray) : Sw m H (.str s) = some (.str s):=rfl
theorem snap_nilp (m : Nat) (H : List Sk)  : snap m H .nilp = some .nilp:=rfl
theorem snapV_nilp (m : Nat) (H : List Sk)  : Sw m H .nilp = some .nilp:=rfl
theorem snap_nils (m : Nat) (H : List Sk)  : snap m H .Tk = some .Tk:=rfl
theorem snapV_nils (m : Nat) (H : List Sk)  : Sw m H .Tk = some .Tk:=rfl
theorem snap_nilfn (m : Nat) (H : List Sk)  : snap m H .nilfn = some .nilfn:=rfl
theorem Q0 (m : Nat) (H : List Sk)  : Sw m H .nilfn = some .nilfn:=rfl
theorem snap_nilm (m : Nat) (H : List Sk)  : snap m H .nilm = some .nilm:=rfl
theorem snapV_nilm (m : Nat) (H : List Sk)  : Sw m H .nilm = some .nilm:=rfl
theorem snap_sl (m : Nat) (H : List Sk) (sz : Nat) (rows : List (List D)) (cap : Option Nat) : snap m H (.sl sz rows cap) = some (.sl sz rows cap):=rfl
theorem snapV_sl (m : Nat) (H : List Sk) (sz : Nat) (rows : List (List D)) (cap : Option Nat) : Sw m H (.sl sz rows cap) = some (.sl sz rows cap):=rfl
theorem snap_cptr (m : Nat) (H : List Sk) (row : List D) (o : Nat) : snap m H (.Tn row o) = some (.Tn row o):=rfl
theorem snapV_cptr (m : Nat) (H : List Sk) (row : List D) (o : Nat) : Sw m H (.Tn row o) = some (.Tn row o):=rfl
theorem snap_mp (m : Nat) (H : List Sk) (rows : List (List D)) : snap m H (.mp rows) = some (.mp rows):=rfl
theorem snapV_mp (m : Nat) (H : List Sk) (rows : List (List D)) : Sw m H (.mp rows) = some (.mp rows):=rfl
theorem snap_ptr (m : Nat) (H : List Sk) (g v i o : Nat) : snap m H (.ptr g v i o) = some (.ptr g v i o):=rfl
theorem snapV_ptr (m : Nat) (H : List Sk) (g v i o : Nat) : Sw m H (.ptr g v i o) = some (.ptr g v i o):=rfl
theorem snap_fn (m : Nat) (H : List Sk) (f : FuncId) (cs : List D) : snap m H (.fn f cs) = some (.fn f cs):=rfl
theorem snapV_fn (m : Nat) (H : List Sk) (f : FuncId) (cs : List D) : Sw m H (.fn f cs) = some (.fn f cs):=rfl
theorem Mw (m : Nat) (H : List Sk) (g v lo n : Nat) (cap : Option Nat) : Sw m H (.msl g v lo n cap) = snap m H (.msl g v lo n cap):=rfl
theorem snapV_mref (m : Nat) (H : List Sk) (g v : Nat) : Sw m H (.mref g v) = snap m H (.mref g v):=rfl
theorem H5 (m : Nat) (H : List Sk) (g v lo n : Nat) (cap : Option Nat) : snap m H (.msl g v lo n cap) = match H[g]? with | some o=>if o.ver = v∧(o.kind = 1 ∨ (m ≤ g∧o.kind = 2)) then some (.sl o.sz ((o.rows.drop lo).take n) (match cap with | some c=>some c | none=>if o.grow then none else some (o.rows.length - lo))) else some (.msl g v lo n cap) | none=>none:=rfl
theorem snap_mref (m : Nat) (H : List Sk) (g v : Nat) : snap m H (.mref g v) = if m ≤ g then (match H[g]? with | some o=>if o.ver = v∧o.kind = 3∧o.elem = 0 then some (.mp o.rows) else some (.mref g v) | none=>none) else some (.mref g v):=rfl
theorem Mx (m : Nat) (H : List Sk) (cs : List D) : Sw m H (.agg cs) = (Bw m H cs).map .agg:=rfl
theorem M0 (m : Nat) (H : List Sk) (cs : List D) : S9 m H (.tup cs) = (Ar m H cs).map .tup:=rfl
theorem snapR_int (m : Nat) (H : List Sk) (k : IntKind) (n : Int) : S9 m H (.int k n) = Sw m H (.int k n):=rfl
theorem snapR_bool (m : Nat) (H : List Sk) (b : Bool) : S9 m H (.bool b) = Sw m H (.bool b):=rfl
theorem snapR_str (m : Nat) (H : List Sk) (s : ByteArray) : S9 m H (.str s) = Sw m H (.str s):=rfl
theorem snapR_nilp (m : Nat) (H : List Sk)  : S9 m H .nilp = Sw m H .nilp:=rfl
theorem snapR_nils (m : Nat) (H : List Sk)  : S9 m H .Tk = Sw m H .Tk:=rfl
theorem Q4 (m : Nat) (H : List Sk)  : S9 m H .nilfn = Sw m H .nilfn:=rfl
theorem snapR_nilm (m : Nat) (H : List Sk)  : S9 m H .nilm = Sw m H .nilm:=rfl
theorem snapR_sl (m : Nat) (H : List Sk) (sz : Nat) (rows : List (List D)) (cap : Option Nat) : S9 m H (.sl sz rows cap) = Sw m H (.sl sz rows cap):=rfl
theorem snapR_cptr (m : Nat) (H : List Sk) (row : List D) (o : Nat) : S9 m H (.Tn row o) = Sw m H (.Tn row o):=rfl
theorem snapR_mp (m : Nat) (H : List Sk) (rows : List (List D)) : S9 m H (.mp rows) = Sw m H (.mp rows):=rfl
theorem snapR_ptr (m : Nat) (H : List Sk) (g v i o : Nat) : S9 m H (.ptr g v i o) = Sw m H (.ptr g v i o):=rfl
theorem snapR_fn (m : Nat) (H : List Sk) (f : FuncId) (cs : List D) : S9 m H (.fn f cs) = Sw m H (.fn f cs):=rfl
theorem snapR_msl (m : Nat) (H : List Sk) (g v lo n : Nat) (cap : Option Nat) : S9 m H (.msl g v lo n cap) = Sw m H (.msl g v lo n cap):=rfl
theorem snapR_mref (m : Nat) (H : List Sk) (g v : Nat) : S9 m H (.mref g v) = Sw m H (.mref g v):=rfl
theorem snapR_agg (m : Nat) (H : List Sk) (cs : List D) : S9 m H (.agg cs) = Sw m H (.agg cs):=rfl
theorem Me (k : IntKind) (n : Int) : D.free (.int k n) = true:=rfl
theorem freeV_int (k : IntKind) (n : Int) : D.Sy (.int k n) = true:=rfl
theorem freeR_int (k : IntKind) (n : Int) : D.Sz (.int k n) = true:=rfl
theorem I1 (k : IntKind) (n : Int) : D.Tc (.int k n) = true:=rfl
theorem val_int (k : IntKind) (n : Int) : D.val (.int k n) = true:=rfl
theorem cells_int (k : IntKind) (n : Int) : D.cells (.int k n) = [(.int k n)]:=rfl
theorem Qj (b : Bool) : D.free (.bool b) = true:=rfl
theorem Kw (b : Bool) : D.Sy (.bool b) = true:=rfl
theorem freeR_bool (b : Bool) : D.Sz (.bool b) = true:=rfl
theorem Ma (b : Bool) : D.Tc (.bool b) = true:=rfl
theorem val_bool (b : Bool) : D.val (.bool b) = true:=rfl
theorem cells_bool (b : Bool) : D.cells (.bool b) = [(.bool b)]:=rfl
theorem Md (s : ByteArray) : D.free (.str s) = true:=rfl
theorem freeV_str (s : ByteArray) : D.Sy (.str s) = true:=rfl
theorem freeR_str (s : ByteArray) : D.Sz (.str s) = true:=rfl
theorem N8 (s : ByteArray) : D.Tc (.str s) = true:=rfl
theorem val_str (s : ByteArray) : D.val (.str s) = true:=rfl
theorem cells_str (s : ByteArray) : D.cells (.str s) = [(.str s)]:=rfl
theorem free_nilp  : D.free .nilp = true:=rfl
theorem freeV_nilp  : D.Sy .nilp = true:=rfl
theorem freeR_nilp  : D.Sz .nilp = true:=rfl
theorem Ri  : D.Tc .nilp = true:=rfl
theorem val_nilp  : D.val .nilp = true:=rfl
theorem cells_nilp  : D.cells .nilp = [.nilp]:=rfl
theorem Qi  : D.free .Tk = true:=rfl
theorem freeV_nils  : D.Sy .Tk = true:=rfl
theorem freeR_nils  : D.Sz .Tk = true:=rfl
theorem Rh  : D.Tc .Tk = true:=rfl
theorem val_nils  : D.val .Tk = true:=rfl
theorem cells_nils  : D.cells .Tk = [.Tk]:=rfl
theorem free_nilfn  : D.free .nilfn = true:=rfl
theorem Rp  : D.Sy .nilfn = true:=rfl
theorem Rq  : D.Sz .nilfn = true:=rfl
theorem Pb  : D.Tc .nilfn = true:=rfl
theorem val_nilfn  : D.val .nilfn = true:=rfl
theorem R6  : D.cells .nilfn = [.nilfn]:=rfl
theorem free_nilm  : D.free .nilm = true:=rfl
theorem freeV_nilm  : D.Sy .nilm = true:=rfl
theorem freeR_nilm  : D.Sz .nilm = true:=rfl
theorem Rj  : D.Tc .nilm = true:=rfl
theorem val_nilm  : D.val .nilm = true:=rfl
theorem cells_nilm  : D.cells .nilm = [.nilm]:=rfl
theorem free_sl (sz : Nat) (rows : List (List D)) (cap : Option Nat) : D.free (.sl sz rows cap) = true:=rfl
theorem freeV_sl (sz : Nat) (rows : List (List D)) (cap : Option Nat) : D.Sy (.sl sz rows cap) = true:=rfl
theorem freeR_sl (sz : Nat) (rows : List (List D)) (cap : Option Nat) : D.Sz (.sl sz rows cap) = true:=rfl
theorem isCell_sl (sz : Nat) (rows : List (List D)) (cap : Option Nat) : D.Tc (.sl sz rows cap) = true:=rfl
theorem val_sl (sz : Nat) (rows : List (List D)) (cap : Option Nat) : D.val (.sl sz rows cap) = true:=rfl
theorem cells_sl (sz : Nat) (rows : List (List D)) (cap : Option Nat) : D.cells (.sl sz rows cap) = [(.sl sz rows cap)]:=rfl
theorem free_cptr (row : List D) (o : Nat) : D.free (.Tn row o) = true:=rfl
theorem freeV_cptr (row : List D) (o : Nat) : D.Sy (.Tn row o) = true:=rfl
theorem freeR_cptr (row : List D) (o : Nat) : D.Sz (.Tn row o) = true:=rfl
theorem Rn (row : List D) (o : Nat) : D.Tc (.Tn row o) = true:=rfl
theorem val_cptr (row : List D) (o : Nat) : D.val (.Tn row o) = true:=rfl
theorem cells_cptr (row : List D) (o : Nat) : D.cells (.Tn row o) = [(.Tn row o)]:=rfl
theorem free_mp (rows : List (List D)) : D.free (.mp rows) = true:=rfl
theorem freeV_mp (rows : List (List D)) : D.Sy (.mp rows) = true:=rfl
theorem freeR_mp (rows : List (List D)) : D.Sz (.mp rows) = true:=rfl
theorem isCell_mp (rows : List (List D)) : D.Tc (.mp rows) = true:=rfl
theorem val_mp (rows : List (List D)) : D.val (.mp rows) = true:=rfl
theorem cells_mp (rows : List (List D)) : D.cells (.mp rows) = [(.mp rows)]:=rfl
theorem free_ptr (g v i o : Nat) : D.free (.ptr g v i o) = false:=rfl
theorem freeV_ptr (g v i o : Nat) : D.Sy (.ptr g v i o) = false:=rfl
theorem freeR_ptr (g v i o : Nat) : D.Sz (.ptr g v i o) = false:=rfl
theorem isCell_ptr (g v i o : Nat) : D.Tc (.ptr g v i o) = true:=rfl
theorem val_ptr (g v i o : Nat) : D.val (.ptr g v i o) = true:=rfl
theorem cells_ptr (g v i o : Nat) : D.cells (.ptr g v i o) = [(.ptr g v i o)]:=rfl
theorem free_fn (f : FuncId) (cs : List D) : D.free (.fn f cs) = cs.all D.Td:=rfl
theorem freeV_fn (f : FuncId) (cs : List D) : D.Sy (.fn f cs) = cs.all D.Td:=rfl
theorem freeR_fn (f : FuncId) (cs : List D) : D.Sz (.fn f cs) = cs.all D.Td:=rfl
theorem isCell_fn (f : FuncId) (cs : List D) : D.Tc (.fn f cs) = true:=rfl
theorem val_fn (f : FuncId) (cs : List D) : D.val (.fn f cs) = true:=rfl
theorem cells_fn (f : FuncId) (cs : List D) : D.cells (.fn f cs) = [(.fn f cs)]:=rfl
theorem free_msl (g v lo n : Nat) (cap : Option Nat) : D.free (.msl g v lo n cap) = false:=rfl
theorem freeV_msl (g v lo n : Nat) (cap : Option Nat) : D.Sy (.msl g v lo n cap) = false:=rfl
theorem freeR_msl (g v lo n : Nat) (cap : Option Nat) : D.Sz (.msl g v lo n cap) = false:=rfl
theorem isCell_msl (g v lo n : Nat) (cap : Option Nat) : D.Tc (.msl g v lo n cap) = true:=rfl
theorem val_msl (g v lo n : Nat) (cap : Option Nat) : D.val (.msl g v lo n cap) = true:=rfl
theorem cells_msl (g v lo n : Nat) (cap : Option Nat) : D.cells (.msl g v lo n cap) = [(.msl g v lo n cap)]:=rfl
theorem free_mref (g v : Nat) : D.free (.mref g v) = false:=rfl
theorem freeV_mref (g v : Nat) : D.Sy (.mref g v) = false:=rfl
theorem freeR_mref (g v : Nat) : D.Sz (.mref g v) = false:=rfl
theorem Rl (g v : Nat) : D.Tc (.mref g v) = true:=rfl
theorem val_mref (g v : Nat) : D.val (.mref g v) = true:=rfl
theorem cells_mref (g v : Nat) : D.cells (.mref g v) = [(.mref g v)]:=rfl
theorem Ng (cs : List D) : D.Sy (.agg cs) = cs.all D.free:=rfl
theorem freeR_agg (cs : List D) : D.Sz (.agg cs) = cs.all D.free:=rfl
theorem Nh (cs : List D) : D.Sz (.tup cs) = cs.all D.Sy:=rfl
theorem val_agg (cs : List D) : D.val (.agg cs) = cs.all D.Tc:=rfl
theorem cells_agg (cs : List D) : D.cells (.agg cs) = cs:=rfl
theorem snap_nili (m : Nat) (H : List Sk)  : snap m H .nili = some .nili:=rfl
theorem snapV_nili (m : Nat) (H : List Sk)  : Sw m H .nili = some .nili:=rfl
theorem snapR_nili (m : Nat) (H : List Sk)  : S9 m H .nili = Sw m H .nili:=rfl
theorem free_nili  : D.free .nili = true:=rfl
theorem freeV_nili  : D.Sy .nili = true:=rfl
theorem freeR_nili  : D.Sz .nili = true:=rfl
theorem Rk  : D.Tc .nili = true:=rfl
theorem val_nili  : D.val .nili = true:=rfl
theorem cells_nili  : D.cells .nili = [.nili]:=rfl
theorem snap_ifc (m : Nat) (H : List Sk) (t : TypeId) (d : D) : snap m H (.ifc t d) = some (.ifc t d):=rfl
theorem snapV_ifc (m : Nat) (H : List Sk) (t : TypeId) (d : D) : Sw m H (.ifc t d) = some (.ifc t d):=rfl
theorem snapR_ifc (m : Nat) (H : List Sk) (t : TypeId) (d : D) : S9 m H (.ifc t d) = Sw m H (.ifc t d):=rfl
theorem free_ifc (t : TypeId) (d : D) : D.free (.ifc t d) = true:=rfl
theorem freeV_ifc (t : TypeId) (d : D) : D.Sy (.ifc t d) = true:=rfl
theorem freeR_ifc (t : TypeId) (d : D) : D.Sz (.ifc t d) = true:=rfl
theorem isCell_ifc (t : TypeId) (d : D) : D.Tc (.ifc t d) = true:=rfl
theorem val_ifc (t : TypeId) (d : D) : D.val (.ifc t d) = true:=rfl
theorem cells_ifc (t : TypeId) (d : D) : D.cells (.ifc t d) = [(.ifc t d)]:=rfl
theorem snap_ifr (m : Nat) (H : List Sk) (t : TypeId) (d : D) : snap m H (.ifr t d) = some (.ifr t d):=rfl
theorem snapV_ifr (m : Nat) (H : List Sk) (t : TypeId) (d : D) : Sw m H (.ifr t d) = some (.ifr t d):=rfl
theorem snapR_ifr (m : Nat) (H : List Sk) (t : TypeId) (d : D) : S9 m H (.ifr t d) = Sw m H (.ifr t d):=rfl
theorem free_ifr (t : TypeId) (d : D) : D.free (.ifr t d) = false:=rfl
theorem freeV_ifr (t : TypeId) (d : D) : D.Sy (.ifr t d) = false:=rfl
theorem freeR_ifr (t : TypeId) (d : D) : D.Sz (.ifr t d) = false:=rfl
theorem isCell_ifr (t : TypeId) (d : D) : D.Tc (.ifr t d) = true:=rfl
theorem val_ifr (t : TypeId) (d : D) : D.val (.ifr t d) = true:=rfl
theorem cells_ifr (t : TypeId) (d : D) : D.cells (.ifr t d) = [(.ifr t d)]:=rfl
theorem snap_iter (m : Nat) (H : List Sk) (g v : Nat) : snap m H (.iter g v) = some (.iter g v):=rfl
theorem snapV_iter (m : Nat) (H : List Sk) (g v : Nat) : Sw m H (.iter g v) = some (.iter g v):=rfl
theorem snapR_iter (m : Nat) (H : List Sk) (g v : Nat) : S9 m H (.iter g v) = Sw m H (.iter g v):=rfl
theorem free_iter (g v : Nat) : D.free (.iter g v) = false:=rfl
theorem freeV_iter (g v : Nat) : D.Sy (.iter g v) = false:=rfl
theorem freeR_iter (g v : Nat) : D.Sz (.iter g v) = false:=rfl
theorem Rm (g v : Nat) : D.Tc (.iter g v) = true:=rfl
theorem val_iter (g v : Nat) : D.val (.iter g v) = true:=rfl
theorem cells_iter (g v : Nat) : D.cells (.iter g v) = [(.iter g v)]:=rfl
theorem Nb : Iw false .Tk = some (.int .i64 0):=rfl
theorem O6 (sz : Nat) (rows : List (List D)) (cap : Option Nat) : Iw false (.sl sz rows cap) = some (.int .i64 rows.length):=rfl
theorem O7 (g v lo n : Nat) (cap : Option Nat) : Iw false (.msl g v lo n cap) = some (.int .i64 n):=rfl
theorem Jz (S : St) (sz s : Nat) (rows : List (List D)) (cap : Option Nat) (k : IntKind) (i : Int) : Fg S sz (.sl s rows cap) (.int k i) = if s = sz∧0 ≤ i then rows[i.toNat]?.map (fun r=>.Tn r 0) else none:=rfl
theorem Cj (S : St) (sz g v lo n : Nat) (cap : Option Nat) (k : IntKind) (i : Int) : Fg S sz (.msl g v lo n cap) (.int k i) = match rowsOf S g v with | some ob=>if ob.sz = sz∧0 ≤ i∧i < n then some (.ptr g v (lo + i.toNat) 0) else none | none=>none:=rfl
theorem H7 (S : St) (sz s : Nat) (rows : List (List D)) (cap : Option Nat) : Dh S sz (.sl s rows cap) = if s = sz then some rows else none:=rfl
theorem Iu (S : St) (sz g v lo n : Nat) (cap : Option Nat) : Dh S sz (.msl g v lo n cap) = match rowsOf S g v with | some o=>if o.sz = sz∧(o.kind = 1 ∨ o.kind = 2) then some ((o.rows.drop lo).take n) else none | none=>none:=rfl
theorem loadD_cptr (sz : Nat) (agg : Bool) (S : St) (row : List D) (o : Nat) : Gq sz agg S (.Tn row o) = Ay row o sz agg:=rfl
theorem Qf (sz : Nat) (agg : Bool) (S : St) (g v i o : Nat) : Gq sz agg S (.ptr g v i o) = match rowsOf S g v with | some x=>(match x.rows[i]? with | some row=>Ay row o sz agg | none=>none) | none=>none:=rfl
theorem Gt (f g v i o : Nat) : Ql f (.ptr g v i o) = some (.ptr g v i (o + f)):=rfl
theorem Ey (f : Nat) (row : List D) (o : Nat) : Ql f (.Tn row o) = some (.Tn row (o + f)):=rfl
def SlD (sz : Nat) (rows : List (List D)) (x : D) : Prop:=(x = .Tk∧rows = []) ∨ ∃ cap,x = .sl sz rows cap
section
variable {sz : Nat} {rows : List (List D)} {x : D} (h : SlD sz rows x)
include h
theorem SlD.free : x.free = true:=by rcases h with ⟨rfl,rfl⟩ | ⟨c,rfl⟩<;>rfl
theorem SlD.Sy : x.Sy = true:=by rcases h with ⟨rfl,rfl⟩ | ⟨c,rfl⟩<;>rfl
theorem SlD.Sz : x.Sz = true:=by rcases h with ⟨rfl,rfl⟩ | ⟨c,rfl⟩<;>rfl
theorem SlD.Tc : x.Tc = true:=by rcases h with ⟨rfl,rfl⟩ | ⟨c,rfl⟩<;>rfl
theorem SlD.val : x.val = true:=by rcases h with ⟨rfl,rfl⟩ | ⟨c,rfl⟩<;>rfl
theorem SlD.cells : x.cells = [x]:=by rcases h with ⟨rfl,rfl⟩ | ⟨c,rfl⟩<;>rfl
theorem SlD.snap (m : Nat) (H : List Sk) : snap m H x = some x:=by rcases h with ⟨rfl,rfl⟩ | ⟨c,rfl⟩<;>rfl
theorem SlD.Sw (m : Nat) (H : List Sk) : Sw m H x = some x:=by rcases h with ⟨rfl,rfl⟩ | ⟨c,rfl⟩<;>rfl
theorem SlD.S9 (m : Nat) (H : List Sk) : S9 m H x = some x:=by rcases h with ⟨rfl,rfl⟩ | ⟨c,rfl⟩<;>rfl
theorem SlD.plain : Ao x = true:=by rcases h with ⟨rfl,rfl⟩ | ⟨c,rfl⟩<;>rfl
theorem SlD.Sv : Sv x = true:=by rcases h with ⟨rfl,rfl⟩ | ⟨c,rfl⟩<;>rfl
theorem SlD.len : Iw false x = some (.int .i64 rows.length):=by rcases h with ⟨rfl,rfl⟩ | ⟨c,rfl⟩<;>rfl
theorem SlD.read (S : St) : Dh S sz x = some rows:=by
 rcases h with ⟨rfl,rfl⟩ | ⟨c,rfl⟩
 ·
  rfl
 ·
  simp [Dh]
theorem SlD.Ti (S : St) (k : IntKind) {i : Int} {r : List D} (h0 : 0 ≤ i) (hr : rows[i.toNat]? = some r) : Fg S sz x (.int k i) = some (.Tn r 0):=by
 rcases h with ⟨rfl,rfl⟩ | ⟨c,rfl⟩
 ·
  simp at hr
 ·
  simp [Fg,h0,hr]
theorem SlD.iaddrN (S : St) (k : IntKind) {i : Nat} {r : List D} (hr : rows[i]? = some r) : Fg S sz x (.int k i) = some (.Tn r 0):=h.Ti S k (by omega) (by simpa using hr)
theorem SlD.fpi (n : Nat) (i r : D) (wr : Bool) : Ec (.Ti n) [x,i] r wr = Ak []:=by rcases h with ⟨rfl,rfl⟩ | ⟨c,rfl⟩<;>rfl
end
theorem SlD.of (sz : Nat) (rows : List (List D)) (c : Option Nat) : SlD sz rows (.sl sz rows c):=.inr ⟨c,rfl⟩
theorem SlD.nil (sz : Nat) : SlD sz [] .Tk:=.inl ⟨rfl,rfl⟩
def F5 (l : List ByteArray) : List (List D):=l.map fun s=>[.str s]
def strsD : List ByteArray→D
 | []=>.Tk
 | l=>.sl 1 (F5 l) none
theorem Nu {l : List ByteArray} {i : Nat} (h : i < l.length) : (F5 l)[i]? = some [.str l[i]]:=by simp [F5,h]
theorem I9 (l : List ByteArray) : (F5 l).length = l.length:=by simp [F5]
theorem Ii {α : Type} {n : Nat} {f g : Nat→α} (h : (List.range n).map f = (List.range n).map g) (i : Nat) (hi : i < n) : f i = g i:=by
 have:=congrArg (·[i]?) h
 simpa [hi] using this
def idxI {α : Type} (p : α→Bool) (l : List α) : Int:=match l.findIdx? p with | some i=>i | none=>-1
theorem Qh {α : Type} {p : α→Bool} {l : List α} (h : l.any p = false) : idxI p l = -1:=by
 have : l.findIdx? p = none:=by
  rw [List.findIdx?_eq_none_iff]
  intro x hx
  have:=List.any_eq_false.1 h x hx
  simpa using this
 simp [idxI,this]
theorem idxI_at {α : Type} {p : α→Bool} {l : List α} {i : Nat} (hi : i < l.length) (hp : p l[i] = true) (hb : (l.take i).any p = false) : idxI p l = i:=by
 have : l.findIdx? p = some i:=by
  rw [List.findIdx?_eq_some_iff_getElem]
  refine ⟨hi,hp,fun j hj=>?_⟩
  have:=List.any_eq_false.1 hb l[j] (by
   rw [List.mem_take_iff_getElem]
   exact ⟨j,by omega,rfl⟩)
  simpa using this
 simp [idxI,this]
theorem any_take_succ {α : Type} {p : α→Bool} {l : List α} {i : Nat} (hi : i < l.length) (hb : (l.take i).any p = false) (hp : p l[i] = false) : (l.take (i + 1)).any p = false:=by
 rw [List.take_add_one,Lg hi,List.any_append,hb]
 simp [hp]
theorem idxI_nonneg {α : Type} (p : α→Bool) (l : List α) : decide (idxI p l ≥ 0) = l.any p:=by
 cases h : l.any p with
 | false=>rw [Qh h]; rfl
 | true =>
  unfold idxI
  cases hf : l.findIdx? p with
  | some i=>simp
  | none =>
   rw [List.findIdx?_eq_none_iff] at hf
   obtain ⟨x,hx,hp⟩:=List.any_eq_true.1 h
   rw [hf x hx] at hp
   simp at hp
theorem Du (k : Nat) (h : k < 1000000000) : IntKind.i64.wrap ((k : Int) + 1) = ((k + 1 : Nat) : Int):=by rw [IntKind.wrap_i64]; omega
/-! footprints, one equation for each kind of value -/
theorem Pi (sz : Nat) (agg : Bool) (row : List D) (o : Nat) (r : D) (wr : Bool) : Ec (.load sz agg) [.Tn row o] r wr = Ak []:=rfl
theorem Rt (sz : Nat) (agg : Bool) (g v i o : Nat) (r : D) (wr : Bool) : Ec (.load sz agg) [.ptr g v i o] r wr = Ak [g]:=rfl
theorem Ru (n sz : Nat) (rows : List (List D)) (cap : Option Nat) (i r : D) (wr : Bool) : Ec (.Ti n) [.sl sz rows cap,i] r wr = Ak []:=rfl
theorem Pj (n g v lo m : Nat) (cap : Option Nat) (i r : D) (wr : Bool) : Ec (.Ti n) [.msl g v lo m cap,i] r wr = Ak [g]:=rfl
theorem fp_call (f : FuncId) (ds : List D) (r : D) (wr : Bool) : Ec (.call f) ds r wr = Bg wr:=rfl
theorem fp_callv (ds : List D) (r : D) (wr : Bool) : Ec .callv ds r wr = Bg wr:=rfl
theorem fp_append (e sz b k : Nat) (s x r : D) (wr : Bool) : Ec (.append e sz b k) [s,x] r wr = Co s x r wr:=rfl
theorem fp_bslice (e sz n : Nat) (z : List D) (ps : List Nat) (k : Nat) (ds : List D) (r : D) (wr : Bool) : Ec (.Tg e sz n z ps k) ds r wr = if k = 0 || ds.all Sv then Cb r wr else Bg wr:=rfl
theorem fp_store (sz g v i o : Nat) (x r : D) (wr : Bool) : Ec (.store sz) [.ptr g v i o,x] r wr = if Sv x then ⟨true,some [g],some [g],false,none⟩ else Bg wr:=rfl
theorem fp_box (e sz : Nat) (ds : List D) (g v i o : Nat) (wr : Bool) : Ec (.box e sz) ds (.ptr g v i o) wr = ⟨true,some [],some [g],true,none⟩:=rfl
theorem fp_alloc (e : Nat) (z ds : List D) (r : D) (wr : Bool) : Ec (.alloc e z) ds r wr = Bg wr:=rfl
theorem fp_bstr (ds : List D) (r : D) (wr : Bool) : Ec .bstr ds r wr = Bg wr:=rfl
theorem fp_strb (ds : List D) (r : D) (wr : Bool) : Ec .strb ds r wr = Ak []:=rfl
theorem Rs (n sz : Nat) (rows : List (List D)) (cap : Option Nat) (a b c : Bool) (ds : List D) (r : D) (wr : Bool) : Ec (.slice false n a b c) (.sl sz rows cap :: ds) r wr = Ak []:=rfl
theorem Ph (n g v lo m : Nat) (cap : Option Nat) (a b c : Bool) (ds : List D) (r : D) (wr : Bool) : Ec (.slice false n a b c) (.msl g v lo m cap :: ds) r wr = Ak [g]:=rfl
theorem fp_mapget (kf : Nat) (z : D) (ok : Bool) (rows : List (List D)) (k r : D) (wr : Bool) : Ec (.mapget kf z ok) [.mp rows,k] r wr = Ak []:=rfl
theorem fp_mkslice (e sz b : Nat) (z : List D) (k : Nat) (ds : List D) (g v lo n : Nat) (c : Option Nat) (wr : Bool) : Ec (.mkslice e sz b z k) ds (.msl g v lo n c) wr = ⟨true,some [],some [g],true,none⟩:=rfl
theorem fpAll_f : Bg false = ⟨true,none,some [],false,none⟩:=rfl
theorem fpAll_t : Bg true = ⟨true,none,none,true,none⟩:=rfl
/-! strings -/
theorem natOf_nat (k : IntKind) (n : Nat) : Eb (.int k (n : Int)) = some n:=by simp [Eb]
section
variable {call : Bi} {S : St}
end
/-! rows that a loop appends to: an object behind the heap H, or nothing yet -/
def AppS (H : List Sk) (lo : Nat) (e : TypeId) (sz : Nat) (rows : List (List D)) (S : St) (x : D) : Prop :=
 (rows = []∧S = ⟨H,lo⟩∧x = .Tk) ∨ ∃ v,S = ⟨H ++ [⟨e,sz,rows,v,1,true⟩],lo⟩∧x = .msl H.length v 0 rows.length none
theorem AppS.nil (H : List Sk) (lo : Nat) (e : TypeId) (sz : Nat) : AppS H lo e sz [] ⟨H,lo⟩ .Tk:=.inl ⟨rfl,rfl,rfl⟩
theorem AppS.app {H : List Sk} {lo : Nat} {e sz : Nat} {rows : List (List D)} {S : St} {x : D} (h : AppS H lo e sz rows S x) (hlo : lo ≤ H.length) (bytes : Nat) {new : List (List D)} {c : Option Nat} (hn : new.isEmpty = false) (hb : (rows.length + new.length) * bytes ≤ 140737488355328) :
  ∃ x' S',Cf e sz bytes 1 x (.sl sz new c) S = some (x',S',true)∧AppS H lo e sz (rows ++ new) S' x':=by
 rcases h with ⟨rfl,rfl,rfl⟩ | ⟨v,rfl,rfl⟩
 ·
  refine ⟨.msl H.length 0 0 new.length none,newAt ⟨H,lo⟩ ⟨e,sz,new,0,1,true⟩,?_,.inr ⟨0,rfl,by simp⟩⟩
  simp only [List.length_nil,Nat.zero_add] at hb
  simp [Cf,Bl,Dh,hn,hb]
 ·
  refine ⟨.msl H.length (v + 1) 0 (rows.length + new.length) none,⟨H ++ [⟨e,sz,rows ++ new,v + 1,1,true⟩],lo⟩,?_,.inr ⟨v + 1,rfl,by simp⟩⟩
  have hm : min lo H.length = lo:=by omega
  simp [Cf,Bl,Dh,rowsOf,hb,setAt,hm]
theorem AppS.len {H : List Sk} {lo : Nat} {e sz : Nat} {rows : List (List D)} {S : St} {x : D} (h : AppS H lo e sz rows S x) : Iw false x = some (.int .i64 rows.length):=by
 rcases h with ⟨rfl,rfl,rfl⟩ | ⟨v,rfl,rfl⟩<;>rfl
theorem AppS.snap {H : List Sk} {lo : Nat} {e sz : Nat} {rows : List (List D)} {S : St} {x : D} (h : AppS H lo e sz rows S x) (m : Nat) : ∃ y,SlD sz rows y∧Sw m S.heap x = some y:=by
 rcases h with ⟨rfl,rfl,rfl⟩ | ⟨v,rfl,rfl⟩
 ·
  exact ⟨.Tk,.nil sz,rfl⟩
 ·
  exact ⟨.sl sz rows none,.of _ _ _,by simp [Mw,H5]⟩
def selW {α : Type} (p : α→Bool) (l : List α) (w : Int) (t : Bool) (k : Nat) : Int × Bool:=if (l.drop k).any p then (k + idxI p (l.drop k),true) else (w,t)
theorem tmod_nat (a b : Nat) : (a : Int).tmod (b : Int) = ((a % b : Nat) : Int):=by
 rw [Int.tmod_eq_emod_of_nonneg (by omega)]; omega
def Dr (n : Nat) : D→D
 | .sl s rows cap=>.sl s (rows.drop n) (cap.map (· - n))
 | d=>d
theorem SlD.drop {sz : Nat} {rows : List (List D)} {x : D} (h : SlD sz rows x) (n : Nat) : SlD sz (rows.drop n) (Dr n x):=by
  rcases h with ⟨rfl,rfl⟩ | ⟨c,rfl⟩
  · exact .inl ⟨rfl,by simp⟩
  · exact .inr ⟨_,rfl⟩
theorem SlD.slice_lo {sz : Nat} {rows : List (List D)} {x : D} (h : SlD sz rows x) (S : St) (k : IntKind) {n : Nat} (hn : n ≤ rows.length) : D8 S sz x (some (.int k n)) none none = some (Dr n x):=by
 rcases h with ⟨rfl,rfl⟩ | ⟨c,rfl⟩
 ·
  simp at hn; subst hn; simp [D8,Cz,Fe,Eb,Dr]
 ·
  simp only [D8,ne_eq,not_true_eq_false,if_false,Cz,Fe,natOf_nat]
  simp only [hn,Nat.le_refl,and_self,if_true,Dr]
  rw [List.take_of_length_le (by simp)]
theorem SlD.slice_1 {sz : Nat} {rows : List (List D)} {x : D} (h : SlD sz rows x) (S : St) (hn : 1 ≤ rows.length) : D8 S sz x (some (.int .i64 1)) none none = some (Dr 1 x):=h.slice_lo S .i64 hn
def clipD : D→D
 | .sl s rows _=>.sl s rows (some rows.length)
 | d=>d
theorem SlD.clip {sz : Nat} {rows : List (List D)} {x : D} (h : SlD sz rows x) : SlD sz rows (clipD x):=by
 rcases h with ⟨rfl,rfl⟩ | ⟨c,rfl⟩
 ·
  exact .nil _
 ·
  exact .of _ _ _
theorem SlD.slice_clip {sz : Nat} {rows : List (List D)} {x : D} (h : SlD sz rows x) (S : St) : D8 S sz x none (some (.int .i64 rows.length)) (some (.int .i64 rows.length)) = some (clipD x):=by
 rcases h with ⟨rfl,rfl⟩ | ⟨c,rfl⟩
 ·
  simp [D8,Cz,Fe,Eb,clipD]
 ·
  simp [D8,Cz,Fe,natOf_nat,clipD]
theorem SlD.fps {sz : Nat} {rows : List (List D)} {x : D} (h : SlD sz rows x) (n : Nat) (a b c : Bool) (ds : List D) (r : D) (wr : Bool) : Ec (.slice false n a b c) (x :: ds) r wr = Ak []:=by
 rcases h with ⟨rfl,rfl⟩ | ⟨c,rfl⟩<;>rfl
/-! operations in a short form -/
abbrev qo (l : LOp) (a : List Sn) : Sm:=⟨l,a,none,[],none⟩
abbrev qg (l : LOp) (a : List Sn) (d : Nat) (b : Bool) : Sm:=⟨l,a,some (d,b),[],none⟩
abbrev qw (l : LOp) (a : List Sn) (n k : Nat) : Sm:=⟨l,a,none,ob n k,none⟩
abbrev qh (l : LOp) (a : List Sn) (d : Nat) (b : Bool) (n k : Nat) : Sm:=⟨l,a,some (d,b),ob n k,none⟩
theorem zr : (type_of% @Gt)∧(type_of% @Ey):=⟨@Gt,@Ey⟩
theorem SlD.q5 {sz : Nat} {rows : List (List D)} {x : D} (h : SlD sz rows x) : x.Tc = true∧x.val = true∧x.cells = [x]∧Iw false x = some (.int .i64 rows.length)∧Ao x = true:=⟨h.Tc,h.val,h.cells,h.len,h.plain⟩
set_option maxRecDepth 10000
/-! lists and numbers -/
section
universe u
noncomputable def nthR {α : Type u} (l : List α) : Nat→Option α :=
 List.rec (motive:=fun _=>Nat→Option α) (fun _=>none) (fun h _ ih n=>Nat.rec (motive:=fun _=>Option α) (some h) (fun m _=>ih m) n) l
noncomputable def setR {α : Type u} (l : List α) (x : α) : Nat→List α :=
 List.rec (motive:=fun _=>Nat→List α) (fun _=>[]) (fun h t ih n=>Nat.rec (motive:=fun _=>List α) (x :: t) (fun m _=>h :: ih m) n) l
noncomputable def Jw {α : Type u} (l : List α) : Nat:=List.rec (motive:=fun _=>Nat) 0 (fun _ _ ih=>Nat.succ ih) l
theorem Ex {α : Type u} : ∀ l : List α,Jw l = l.length
 | []=>rfl
 | a :: l=>congrArg Nat.succ (Ex l)
noncomputable def appR {α : Type u} (l m : List α) : List α:=List.rec (motive:=fun _=>List α) m (fun h _ ih=>h :: ih) l
theorem appR_eq {α : Type u} (m : List α) : ∀ l : List α,appR l m = l ++ m
 | []=>rfl
 | a :: l=>congrArg (a :: ·) (appR_eq m l)
noncomputable def dropR {α : Type u} (l : List α) : Nat→List α :=
 List.rec (motive:=fun _=>Nat→List α) (fun _=>[]) (fun h t ih n=>Nat.rec (motive:=fun _=>List α) (h :: t) (fun m _=>ih m) n) l
noncomputable def takeR {α : Type u} (l : List α) : Nat→List α :=
 List.rec (motive:=fun _=>Nat→List α) (fun _=>[]) (fun h _ ih n=>Nat.rec (motive:=fun _=>List α) [] (fun m _=>h :: ih m) n) l
noncomputable def repR {α : Type u} (x : α) (n : Nat) : List α:=Nat.rec (motive:=fun _=>List α) [] (fun _ ih=>x :: ih) n
theorem Sd {α : Type u} (x : α) : ∀ n,repR x n = List.replicate n x
 | 0=>rfl
 | n + 1=>by rw [List.replicate_succ,← Sd x n]; rfl
end

/-! answers -/
abbrev Ans:=Option (D × St × Bool)
abbrev K1:=D→St→Bool→Ans
abbrev Io:=FuncId→List D→St→K1→Ans
def CKs (c : Io) (cs : Bi) : Prop:=∀ f args S k a,c f args S k = some a→∃ r S' w,cs f args S = some (r,S',w)∧k r S' w = some a
noncomputable def frc (n : Nat) (k : Nat→Ans) : Ans:=Nat.rec (motive:=fun _=>Ans) none (fun m _=>k m) (Nat.succ n)
theorem I5 (n : Nat) (k : Nat→Ans) : frc n k = k n:=rfl
noncomputable def ifA (b : Bool) (t e : Ans) : Ans:=Bool.rec (motive:=fun _=>Ans) e t b
theorem Dc (b : Bool) (t e : Ans) : ifA b t e = if b = true then t else e:=by cases b<;>rfl
noncomputable def boolK (b : Bool) (k : D→Ans) : Ans:=Bool.rec (motive:=fun _=>Ans) (k (.bool false)) (k (.bool true)) b
theorem boolK_eq (b : Bool) (k : D→Ans) : boolK b k = k (.bool b):=by cases b<;>rfl
noncomputable def Jq {α : Type} (o : Option α) (k : α→Ans) : Ans:=Option.rec (motive:=fun _=>Ans) none k o
theorem Eg {α : Type} {o : Option α} {k : α→Ans} {a : D × St × Bool} (h : Jq o k = some a) : ∃ x,o = some x∧k x = some a:=by
 cases o with
 | none=>exact absurd h (by simp [Jq])
 | some x=>exact ⟨x,rfl,h⟩
noncomputable def ansK (o : Option (D × St × Bool)) (k : K1) : Ans:=Option.rec (motive:=fun _=>Ans) none (fun p=>Prod.rec (motive:=fun _=>Ans) (fun r q=>Prod.rec (motive:=fun _=>Ans) (fun S w=>k r S w) q) p) o
theorem Ka {o : Option (D × St × Bool)} {k : K1} {a : D × St × Bool} (h : ansK o k = some a) : ∃ r S w,o = some (r,S,w)∧k r S w = some a:=by
 cases o with
 | none=>exact absurd h (by simp [ansK])
 | some x=>obtain ⟨r,S,w⟩:=x; exact ⟨r,S,w,rfl,h⟩

/-! views of values -/
structure IV where
 ok : Bool
 k : IntKind
 n : Nat
def D.iv : D→IV
 | .int k (.ofNat n)=>⟨true,k,n⟩
 | _=>⟨false,.i8,0⟩
theorem D.iv_ok {d : D} {k : IntKind} {n : Nat} (h : d.iv = ⟨true,k,n⟩) : d = .int k n:=by
 unfold D.iv at h
 split at h
 ·
  simp only [IV.mk.injEq,true_and] at h; rw [h.1,h.2]; rfl
 ·
  simp at h
noncomputable def ivK (d : D) (f : IntKind→Nat→Ans) (e : Ans) : Ans:=IV.rec (motive:=fun _=>Ans) (fun ok k n=>ifA ok (f k n) e) d.iv
theorem Ff {d : D} {f : IntKind→Nat→Ans} {e : Ans} {a : D × St × Bool} (h : ivK d f e = some a) : (∃ k n,d = .int k (n : Nat)∧f k n = some a) ∨ e = some a:=by
 unfold ivK at h
 rcases hd : d.iv with ⟨ok,k,n⟩
 rw [hd] at h
 change ifA ok (f k n) e = some a at h
 cases ok with
 | true=>exact .inl ⟨k,n,D.iv_ok hd,h⟩
 | false=>exact .inr h
def D.bv : D→Nat
 | .bool true=>1
 | .bool false=>0
 | _=>2
theorem D.bv_1 {d : D} (h : d.bv = 1) : d = .bool true:=by unfold D.bv at h; split at h<;>simp_all
theorem D.bv_0 {d : D} (h : d.bv = 0) : d = .bool false:=by unfold D.bv at h; split at h<;>simp_all
noncomputable def bvK (d : D) (t e : Ans) : Ans:=Nat.rec (motive:=fun _=>Ans) e (fun m _=>Nat.rec (motive:=fun _=>Ans) t (fun _ _=>none) m) d.bv
theorem J9 {d : D} {t e : Ans} {a : D × St × Bool} (h : bvK d t e = some a) : (d = .bool true∧t = some a) ∨ (d = .bool false∧e = some a):=by
 unfold bvK at h
 match hd : d.bv with
 | 0=>rw [hd] at h; exact .inr ⟨D.bv_0 hd,h⟩
 | 1=>rw [hd] at h; exact .inl ⟨D.bv_1 hd,h⟩
 | n + 2=>rw [hd] at h; exact absurd h (by simp)
noncomputable def frcD (d : D) (k : D→Ans) : Ans:=ivK d (fun kk n=>frc n fun m=>k (.int kk (.ofNat m))) (k d)
theorem frcD_some {d : D} {k : D→Ans} {a : D × St × Bool} (h : frcD d k = some a) : k d = some a:=by
 unfold frcD at h
 rcases Ff h with ⟨kk,n,rfl,h⟩ | h
 ·
  exact h
 ·
  exact h
def D.flat : D→Bool
 | .int .. | .bool _ | .str _ | .nilp | .Tk | .nilfn | .nilm | .nili | .sl .. | .Tn .. | .mp _ | .ifc ..=>true
 | _=>false
theorem flat_snap {d : D} (h : d.flat = true) (m : Nat) (H : List Sk) : snap m H d = some d:=by cases d<;>simp_all [D.flat,snap]
theorem flat_free {d : D} (h : d.flat = true) : d.free = true:=by cases d<;>simp_all [D.flat,D.free,D.Td]
noncomputable def Od (l : List D) : Bool:=List.rec (motive:=fun _=>Bool) true (fun h _ ih=>Bool.rec (motive:=fun _=>Bool) false ih h.flat) l
theorem Ky : ∀ {l : List D},Od l = true→∀ d ∈ l,d.flat = true
 | [],_,d,h=>by simp at h
 | x :: l, h, d, hd => by
  have hx : x.flat = true:=by
   cases e : x.flat with
   | true=>rfl
   | false =>
    have : Od (x :: l) = Bool.rec (motive:=fun _=>Bool) false (Od l) x.flat:=rfl
    rw [this,e] at h; simp at h
  have hl : Od l = true:=by
   have : Od (x :: l) = Bool.rec (motive:=fun _=>Bool) false (Od l) x.flat:=rfl
   rw [this,hx] at h; exact h
  rcases List.mem_cons.1 hd with rfl | hd
  ·
   exact hx
  ·
   exact Ky hl d hd
noncomputable def D.flatV : D→Bool
 | .agg cs=>Od cs
 | d=>d.flat
theorem snaps_flat (m : Nat) (H : List Sk) : ∀ {l : List D},(∀ d ∈ l,d.flat = true)→Bw m H l = some l
 | [],_=>rfl
 | x :: l,h=>by simp [Bw,flat_snap (h x List.mem_cons_self),snaps_flat m H fun d hd=>h d (List.mem_cons_of_mem _ hd)]
theorem Mh {d : D} (h : d.flatV = true) (m : Nat) (H : List Sk) : Sw m H d = some d:=by
 cases d with
 | agg cs=>simp [Sw,snaps_flat m H (Ky h)]
 | _=>simp_all [D.flatV,D.flat,Sw,snap]
theorem Rv {d : D} (h : d.flatV = true) : d.Sy = true:=by
 cases d with
 | agg cs =>
  simp only [D.Sy,List.all_eq_true]
  exact fun x hx=>flat_free (Ky h x hx)
 | _=>simp_all [D.flatV,D.flat,D.Sy,D.free,D.Td]
noncomputable def Ha (l : List D) : Bool:=List.rec (motive:=fun _=>Bool) true (fun h _ ih=>Bool.rec (motive:=fun _=>Bool) false ih h.flatV) l
theorem Gz {x : D} {l : List D} (h : Ha (x :: l) = true) : x.flatV = true∧Ha l = true:=by
 have e : Ha (x :: l) = Bool.rec (motive:=fun _=>Bool) false (Ha l) x.flatV:=rfl
 cases hx : x.flatV with
 | true=>rw [e,hx] at h; exact ⟨rfl,h⟩
 | false=>rw [e,hx] at h; simp at h
theorem Ib (m : Nat) (H : List Sk) : ∀ {l : List D},Ha l = true→Ar m H l = some l
 | [],_=>rfl
 | x :: l,h=>by simp [Ar,Mh (Gz h).1,Ib m H (Gz h).2]
theorem Mg : ∀ {l : List D},Ha l = true→l.all D.Sy = true
 | [],_=>rfl
 | x :: l,h=>by
  rw [List.all_cons,Rv (Gz h).1,Mg (Gz h).2]; rfl
noncomputable def D.flatR : D→Bool
 | .tup ds=>Ha ds
 | d=>d.flatV
theorem Mj {d : D} (h : d.flatR = true) (m : Nat) (H : List Sk) : S9 m H d = some d:=by
 cases d with
 | tup ds=>simp [S9,Ib m H h]
 | agg cs=>exact Mh (d:=.agg cs) h m H
 | _=>simp_all [D.flatR,D.flatV,D.flat,S9,Sw,snap]
theorem Rw {d : D} (h : d.flatR = true) : d.Sz = true:=by
 cases d with
 | tup ds=>exact Mg h
 | agg cs=>exact Rv (d:=.agg cs) h
 | _=>simp_all [D.flatR,D.flatV,D.flat,D.Sz,D.Sy,D.free,D.Td]

/-! the slots of a function, as a tree -/
inductive ET where
 | nil
 | node (v : D) (l r : ET)
def ET.at : ET→List Bool→D
 | .nil,_=>.undef
 | .node v _ _,[]=>v
 | .node _ l _,true :: p=>l.at p
 | .node _ _ r,false :: p=>r.at p
def ET.put : ET→List Bool→D→ET
 | .nil,[],x=>.node x .nil .nil
 | .nil,true :: p,x=>.node .undef (ET.nil.put p x) .nil
 | .nil,false :: p,x=>.node .undef .nil (ET.nil.put p x)
 | .node _ l r,[],x=>.node x l r
 | .node v l r,true :: p,x=>.node v (l.put p x) r
 | .node v l r,false :: p,x=>.node v l (r.put p x)
theorem ET.at_put : ∀ (t : ET) (p q : List Bool) (x : D),(t.put p x).at q = if p = q then x else t.at q
 | .nil,[],[],x=>rfl
 | .nil,[],true :: q,x=>by simp [ET.put,ET.at]
 | .nil,[],false :: q,x=>by simp [ET.put,ET.at]
 | .nil,true :: p,[],x=>by simp [ET.put,ET.at]
 | .nil,true :: p,true :: q,x=>by simp [ET.put,ET.at,ET.at_put .nil p q x]
 | .nil,true :: p,false :: q,x=>by simp [ET.put,ET.at]
 | .nil,false :: p,[],x=>by simp [ET.put,ET.at]
 | .nil,false :: p,true :: q,x=>by simp [ET.put,ET.at]
 | .nil,false :: p,false :: q,x=>by simp [ET.put,ET.at,ET.at_put .nil p q x]
 | .node _ l r,[],[],x=>rfl
 | .node _ l r,[],true :: q,x=>by simp [ET.put,ET.at]
 | .node _ l r,[],false :: q,x=>by simp [ET.put,ET.at]
 | .node v l r,true :: p,[],x=>by simp [ET.put,ET.at]
 | .node v l r,true :: p,true :: q,x=>by simp [ET.put,ET.at,ET.at_put l p q x]
 | .node v l r,true :: p,false :: q,x=>by simp [ET.put,ET.at]
 | .node v l r,false :: p,[],x=>by simp [ET.put,ET.at]
 | .node v l r,false :: p,true :: q,x=>by simp [ET.put,ET.at]
 | .node v l r,false :: p,false :: q,x=>by simp [ET.put,ET.at,ET.at_put r p q x]
def pathOf : Nat→Nat→List Bool
 | 0,_=>[]
 | _ + 1,0=>[]
 | f + 1,j + 1=>if j % 2 = 0 then true :: pathOf f (j / 2) else false :: pathOf f (j / 2)
def P5 : List Bool→Nat
 | []=>0
 | true :: p=>2 * P5 p + 1
 | false :: p=>2 * P5 p + 2
theorem Hu : ∀ (f j : Nat), j < 2 ^ f → P5 (pathOf f j) = j
  | 0, j, h => by have : j = 0 := by simpa using h
                  subst this; rfl
  | f + 1,0,_=>rfl
  | f + 1, j + 1, h => by
    have h2 : j / 2 < 2 ^ f:=by rw [Nat.pow_succ] at h; omega
    unfold pathOf
    split
    · simp only [P5,Hu f _ h2]; omega
    · simp only [P5,Hu f _ h2]; omega
def path (j : Nat) : List Bool:=pathOf 12 j
theorem path_inj {i j : Nat} (hi : i < 4096) (hj : j < 4096) (h : path i = path j) : i = j:=by
 rw [← Hu 12 i hi,← Hu 12 j hj]; exact congrArg P5 h
structure ETR (n : Nat) (t : ET) (env : List D) : Prop where
 len : env.length = n
 le : n ≤ 4096
 eq : ∀ j,j < n→t.at (path j) = env.getD j .undef
theorem ETR.set {n : Nat} {t : ET} {env : List D} (h : ETR n t env) {j : Nat} (hj : j < n) (x : D) : ETR n (t.put (path j) x) (env.set j x):=by
  refine ⟨by rw [List.length_set,h.len],h.le,fun i hi=>?_⟩
  rw [ET.at_put]
  have hl:=h.le
  by_cases e : i = j
  · subst e
    rw [if_pos rfl,List.getD_eq_getElem?_getD,List.getElem?_set_self (by rw [h.len]; exact hi)]; rfl
  · rw [if_neg (fun hp=>e (path_inj (by omega) (by omega) hp).symm),h.eq i hi,List.getD_eq_getElem?_getD,List.getD_eq_getElem?_getD,Ln_ (fun hp=>e hp.symm)]

/-! compiled operands -/
structure TC where
 f : ET→(D→Ans)→Ans
noncomputable def getC (p : List Bool) : TC :=
 List.rec (motive:=fun _=>TC) ⟨fun t k=>ET.rec (motive:=fun _=>Ans) none (fun v _ _ _ _=>k v) t⟩
  (fun b _ ih=>Bool.rec (motive:=fun _=>TC) ⟨fun t k=>ET.rec (motive:=fun _=>Ans) none (fun _ _ r _ _=>ih.f r k) t⟩ ⟨fun t k=>ET.rec (motive:=fun _=>Ans) none (fun _ l _ _ _=>ih.f l k) t⟩ b) p
theorem J3 : ∀ (p : List Bool) {t : ET} {k : D→Ans} {a : D × St × Bool},(getC p).f t k = some a→k (t.at p) = some a
 | [],.nil,k,a,h=>by simp [getC] at h
 | [],.node v l r,k,a,h=>h
 | b :: p,.nil,k,a,h=>by cases b<;>simp [getC] at h
 | true :: p,.node v l r,k,a,h=>J3 p (t:=l) h
 | false :: p,.node v l r,k,a,h=>J3 p (t:=r) h
structure SC where
 f : D→ET→(ET→Ans)→Ans
noncomputable def setC (p : List Bool) : SC :=
 List.rec (motive:=fun _=>SC) ⟨fun x t k=>ET.rec (motive:=fun _=>Ans) none (fun _ l r _ _=>k (.node x l r)) t⟩
  (fun b _ ih=>Bool.rec (motive:=fun _=>SC) ⟨fun x t k=>ET.rec (motive:=fun _=>Ans) none (fun v l r _ _=>ih.f x r fun r'=>k (.node v l r')) t⟩ ⟨fun x t k=>ET.rec (motive:=fun _=>Ans) none (fun v l r _ _=>ih.f x l fun l'=>k (.node v l' r)) t⟩ b) p
theorem M3 : ∀ (p : List Bool) {x : D} {t : ET} {k : ET→Ans} {a : D × St × Bool},(setC p).f x t k = some a→k (t.put p x) = some a
 | [],x,.nil,k,a,h=>by simp [setC] at h
 | [],x,.node v l r,k,a,h=>h
 | b :: p,x,.nil,k,a,h=>by cases b<;>simp [setC] at h
 | true :: p,x,.node v l r,k,a,h=>M3 p (t:=l) (k:=fun l'=>k (.node v l' r)) h
 | false :: p,x,.node v l r,k,a,h=>M3 p (t:=r) (k:=fun r'=>k (.node v l r')) h
structure VC where
 f : List D→(D→Ans)→Ans
noncomputable def vC (n : Nat) : VC :=
 Nat.rec (motive:=fun _=>VC) ⟨fun l k=>List.rec (motive:=fun _=>Ans) none (fun h _ _=>k h) l⟩ (fun _ ih=>⟨fun l k=>List.rec (motive:=fun _=>Ans) none (fun _ t _=>ih.f t k) l⟩) n
theorem vC_some : ∀ (n : Nat) {l : List D} {k : D→Ans} {a : D × St × Bool},(vC n).f l k = some a→k (l.getD n .undef) = some a
 | 0,[],k,a,h=>by simp [vC] at h
 | 0,x :: l,k,a,h=>h
 | n + 1,[],k,a,h=>by simp [vC] at h
 | n + 1,x :: l,k,a,h=>vC_some n (l:=l) h
structure OdC where
 f : List D→ET→(D→Ans)→Ans
noncomputable def odC (n : Nat) : Sn→OdC
 | .env j=>Bool.rec (motive:=fun _=>OdC) ⟨fun _ _ _=>none⟩ ⟨fun _ t k=>(getC (path j)).f t k⟩ (Nat.blt j n)
 | .loc d=>⟨fun vals _ k=>(vC d).f vals k⟩
 | .const d=>⟨fun _ _ k=>k d⟩
theorem Lv {n : Nat} {o : Sn} {vals env : List D} {t : ET} {k : D→Ans} {a : D × St × Bool} (hR : ETR n t env) (h : (odC n o).f vals t k = some a) : k (opd vals env o) = some a:=by
 cases o with
 | env j =>
  cases e : Nat.blt j n with
  | false=>simp only [odC,e] at h; exact absurd h (by simp)
  | true =>
   simp only [odC,e] at h
   have:=J3 (path j) h
   rw [hR.eq j (by simpa [Nat.blt_eq] using e)] at this
   exact this
 | loc d=>exact vC_some d h
 | const d=>exact h
structure AC where
 f : List D→ET→(List D→Ans)→Ans
noncomputable def asC (n : Nat) (l : List Sn) : AC :=
 List.rec (motive:=fun _=>AC) ⟨fun _ _ k=>k []⟩ (fun o _ ih=>⟨fun vals t k=>(odC n o).f vals t fun x=>ih.f vals t fun xs=>k (x :: xs)⟩) l
theorem Mr {n : Nat} {vals env : List D} {t : ET} (hR : ETR n t env) : ∀ (l : List Sn) {k : List D→Ans} {a : D × St × Bool},(asC n l).f vals t k = some a→k (l.map (opd vals env)) = some a
 | [],k,a,h=>h
 | o :: l,k,a,h=>by
  have h1:=Lv (k:=fun x=>(asC n l).f vals t fun xs=>k (x :: xs)) hR h
  exact Mr hR l (k:=fun xs=>k (opd vals env o :: xs)) h1
theorem Mk (b : ByteArray) : b.size = b.data.toList.length:=rfl
theorem f_go (b : ByteArray) : ∀ (k i : Nat) (r : List UInt8),b.size - i = k→ByteArray.toList.loop b i r = r.reverse ++ b.data.toList.drop i
 | 0,i,r,h=>by
  rw [ByteArray.toList.loop,if_neg (by omega),List.drop_eq_nil_of_le (by rw [Mk] at h; omega)]
  simp
 | k + 1,i,r,h=>by
  rw [ByteArray.toList.loop,if_pos (by omega),f_go b k (i + 1) _ (by omega)]
  have hi : i < b.data.toList.length:=by rw [Mk] at h; omega
  rw [List.drop_eq_getElem_cons hi]
  have hi2 : i < b.data.size:=hi
  simp [ByteArray.get!,getElem!_pos b.data i hi2]
theorem f_toList (b : ByteArray) : b.toList = b.data.toList:=by
 have:=f_go b _ 0 [] rfl
 simpa [ByteArray.toList] using this
theorem f_get (b : ByteArray) (i : Nat) : b[i]? = b.data.toList[i]?:=by
 by_cases h : i < b.size
 ·
  rw [getElem?_pos b i h,getElem?_pos b.data.toList i h]
  simp [ByteArray.getElem_eq_getElem_data]
 ·
  rw [getElem?_neg b i h,getElem?_neg b.data.toList i h]
theorem f_ext {a : ByteArray} {l : List UInt8} (h : a.data.toList = l) : a = ⟨⟨l⟩⟩:=by
 apply ByteArray.ext; apply Array.ext'; exact h

/-! operations on two values -/
structure BC where
 f : D→D→(D→Ans)→Ans
def BOK (op : BinOp) (b : BC) : Prop:=∀ x y k a,b.f x y k = some a→∃ r,Bo op x y = some r∧k r = some a
noncomputable def Hf (op : BinOp) (x y : D) (k : D→Ans) : Ans:=match Bo op x y with | some r=>frcD r k | none=>none
theorem D6 {op : BinOp} {x y : D} {k : D→Ans} {a : D × St × Bool} (h : Hf op x y k = some a) : ∃ r,Bo op x y = some r∧k r = some a:=by
 unfold Hf at h
 split at h
 ·
  next r hr=>exact ⟨r,hr,frcD_some h⟩
 ·
  simp at h
def kn : IntKind→Nat
 | .i8=>0 | .i16=>1 | .i32=>2 | .i64=>3 | .u8=>4 | .u16=>5 | .u32=>6 | .u64=>7
def kb : IntKind→Nat
 | .i8=>128 | .i16=>32768 | .i32=>2147483648 | .i64=>9223372036854775808 | .u8=>256 | .u16=>65536 | .u32=>4294967296 | .u64=>18446744073709551616
theorem kn_inj {k k' : IntKind} (h : Nat.beq (kn k) (kn k') = true) : k = k':=by
 have h:=Nat.eq_of_beq_eq_true h
 cases k<;>cases k'<;>first | rfl | (exact absurd h (by decide))
theorem Kc {k : IntKind} {n : Nat} (h : n < kb k) : k.wrap (n : Int) = (n : Int):=by
 cases k<;>simp only [kb] at h<;>simp [IntKind.wrap,IntKind.bits,IntKind.signed]<;>(try split)<;>omega
noncomputable def twoK (x y : D) (f : IntKind→Nat→Nat→Ans) (e : Ans) : Ans :=
 ivK x (fun k m=>ivK y (fun k' n=>ifA (Nat.beq (kn k) (kn k')) (f k m n) e) e) e
theorem Jh {x y : D} {f : IntKind→Nat→Nat→Ans} {e : Ans} {a : D × St × Bool} (h : twoK x y f e = some a) : (∃ k m n,x = .int k (m : Nat)∧y = .int k (n : Nat)∧f k m n = some a) ∨ e = some a:=by
  unfold twoK at h
  rcases Ff h with ⟨k,m,hx,h1⟩ | h1
  · rcases Ff h1 with ⟨k', n, hy, h2⟩ | h2
    · rw [Dc] at h2
      split at h2
      · next hk=>exact .inl ⟨k,m,n,hx,by rw [hy,kn_inj hk],h2⟩
      · exact .inr h2
    · exact .inr h2
  · exact .inr h1
noncomputable def Qt (op : BinOp) (g : Nat→Nat→Nat) (ok : Nat→Nat→Bool) : BC:=⟨fun x y k=>twoK x y (fun kk m n=>ifA (ok m n) (frc (g m n) fun s=>ifA (Nat.blt s (kb kk)) (k (.int kk (.ofNat s))) (Hf op x y k)) (Hf op x y k)) (Hf op x y k)⟩
theorem Nl {op : BinOp} {g : Nat→Nat→Nat} {ok : Nat→Nat→Bool} (h : ∀ kk m n,ok m n = true→g m n < kb kk→Bo op (.int kk (m : Nat)) (.int kk (n : Nat)) = some (.int kk (g m n : Nat))) : BOK op (Qt op g ok):=by
  intro x y k a z0
  unfold Qt at z0; dsimp only at z0
  rcases Jh z0 with ⟨kk,m,n,hx,hy,e⟩ | e
  · clear z0; subst hx hy
    rw [Dc] at e
    split at e
    · next ho =>
      rw [I5,Dc] at e
      split at e
      · next hb=>exact ⟨_,h kk m n ho (by simpa [Nat.blt_eq] using hb),e⟩
      · exact D6 e
    · exact D6 e
  · exact D6 e
noncomputable def cmpC (op : BinOp) (g : Nat→Nat→Bool) : BC:=⟨fun x y k=>twoK x y (fun kk m n=>boolK (g m n) k) (Hf op x y k)⟩
theorem Sj {op : BinOp} {g : Nat→Nat→Bool} (h : ∀ kk m n,Bo op (.int kk (m : Nat)) (.int kk (n : Nat)) = some (.bool (g m n))) : BOK op (cmpC op g):=by
 intro x y k a z0
 unfold cmpC at z0; dsimp only at z0
 rcases Jh z0 with ⟨kk,m,n,hx,hy,e⟩ | e
 ·
  clear z0; subst hx hy; rw [boolK_eq] at e; exact ⟨_,h kk m n,e⟩
 ·
  exact D6 e
noncomputable def eqU (l : List UInt8) : List UInt8→Bool :=
 List.rec (motive:=fun _=>List UInt8→Bool) (fun m=>List.rec (motive:=fun _=>Bool) true (fun _ _ _=>false) m)
  (fun a _ ih m=>List.rec (motive:=fun _=>Bool) false (fun b t _=>Bool.rec (motive:=fun _=>Bool) false (ih t) (Nat.beq a.toNat b.toNat)) m) l
theorem eqU_eq : ∀ l m : List UInt8,eqU l m = (l == m)
 | [],[]=>rfl
 | [],b :: m=>rfl
 | a :: l,[]=>rfl
 | a :: l, b :: m => by
  have e : eqU (a :: l) (b :: m) = Bool.rec (motive:=fun _=>Bool) false (eqU l m) (Nat.beq a.toNat b.toNat):=rfl
  rw [e,eqU_eq l m]
  by_cases h : a = b
  ·
   subst h
   rw [show Nat.beq a.toNat a.toNat = true from Nat.beq_refl _]
   simp
  ·
   have hn : Nat.beq a.toNat b.toNat = false:=by
    cases hb : Nat.beq a.toNat b.toNat with
    | false=>rfl
    | true=>exact absurd (UInt8.toNat_inj.1 (Nat.eq_of_beq_eq_true hb)) h
   rw [hn]
   simp [h]
structure SV where
 ok : Bool
 l : List UInt8
def D.sv : D→SV
 | .str s=>⟨true,s.data.toList⟩
 | _=>⟨false,[]⟩
noncomputable def svK (d : D) (f : List UInt8→Ans) (e : Ans) : Ans:=SV.rec (motive:=fun _=>Ans) (fun ok l=>ifA ok (f l) e) d.sv
theorem G6 {d : D} {f : List UInt8→Ans} {e : Ans} {a : D × St × Bool} (h : svK d f e = some a) : (∃ s : ByteArray,d = .str s∧f s.data.toList = some a) ∨ e = some a:=by
 cases d with
 | str s=>exact .inl ⟨s,rfl,h⟩
 | _=>exact .inr h
noncomputable def eqC (op : BinOp) (neg : Bool) : BC:=⟨fun x y k=>twoK x y (fun kk m n=>boolK (Bool.rec (motive:=fun _=>Bool) (Nat.beq m n) (Bool.not (Nat.beq m n)) neg) k) (svK x (fun l=>svK y (fun m=>boolK (Bool.rec (motive:=fun _=>Bool) (eqU l m) (Bool.not (eqU l m)) neg) k) (Hf op x y k)) (Hf op x y k))⟩
theorem eqC_ok (neg : Bool) : BOK (if neg then .neq else .eql) (eqC (if neg then .neq else .eql) neg):=by
 intro x y k a z0
 unfold eqC at z0; dsimp only at z0
 rcases Jh z0 with ⟨kk,m,n,hx,hy,e⟩ | e
 ·
  clear z0; subst hx hy
  rw [boolK_eq] at e
  refine ⟨_,?_,e⟩
  have hb : Nat.beq m n = decide (m = n):=by rw [Bool.eq_iff_iff]; simp
  have hi : ((m : Int) == (n : Int)) = decide (m = n):=by rw [Bool.eq_iff_iff]; simp; omega
  cases neg<;>simp [Bo,hb,bne,hi]
 ·
  rcases G6 e with ⟨s,hs,e1⟩ | e1
  ·
   rcases G6 e1 with ⟨t,ht,e2⟩ | e2
   ·
    clear z0 e e1; subst hs ht
    rw [boolK_eq] at e2
    refine ⟨_,?_,e2⟩
    cases neg<;>simp [Bo,f_toList,eqU_eq]
   ·
    exact D6 e2
  ·
   exact D6 e1
noncomputable def addC : BC:=⟨fun x y k=>twoK x y (fun kk m n=>frc (Nat.add m n) fun s=>ifA (Nat.blt s (kb kk)) (k (.int kk (.ofNat s))) (Hf .add x y k)) (svK x (fun l=>svK y (fun m=>ifA (Nat.ble (Nat.add (Jw l) (Jw m)) 1000000) (k (.str ⟨⟨appR l m⟩⟩)) none) (Hf .add x y k)) (Hf .add x y k))⟩
theorem addC_ok : BOK .add addC := by
  intro x y k a z0
  unfold addC at z0; dsimp only at z0
  rcases Jh z0 with ⟨kk,m,n,hx,hy,e⟩ | e
  · clear z0; subst hx hy
    rw [I5,Dc] at e
    split at e
    · next hb =>
      have hb : m + n < kb kk:=by simpa [Nat.blt_eq] using hb
      refine ⟨_,?_,e⟩
      simp only [Bo,if_true]
      rw [show ((m : Int) + (n : Int)) = ((m + n : Nat) : Int) by omega,Kc hb]; rfl
    · exact D6 e
  · rcases G6 e with ⟨s, hs, e1⟩ | e1
    · rcases G6 e1 with ⟨t, ht, e2⟩ | e2
      · clear z0 e e1; subst hs ht
        rw [Dc] at e2
        split at e2
        · next hb =>
          refine ⟨_,?_,e2⟩
          have hb : s.data.toList.length + t.data.toList.length ≤ 1000000:=by rw [Ex,Ex] at hb; exact Nat.le_of_ble_eq_true hb
          have hm : ¬ (((s.size + t.size : Nat) : Int) > IntKind.i64.max):=by
            have : IntKind.i64.max = 9223372036854775807:=by decide
            rw [this,Mk,Mk]; omega
          simp only [Bo,if_neg hm,Oi,D.str.injEq]
          rw [appR_eq]
          apply f_ext
          simp [ByteArray.data_append]
        · simp at e2
      · exact D6 e2
    · exact D6 e1
/-! bits -/
noncomputable def bitC (op : BinOp) (g : Nat→Nat→Nat) : BC:=⟨fun x y k=>twoK x y (fun kk m n=>ifA (Nat.blt m (kb kk)) (ifA (Nat.blt n (kb kk)) (frc (g m n) fun s=>k (.int kk (.ofNat s))) (Hf op x y k)) (Hf op x y k)) (Hf op x y k)⟩
theorem bitC_ok {op : BinOp} {g : Nat→Nat→Nat} (h : ∀ kk m n,m < kb kk→n < kb kk→Bo op (.int kk (m : Nat)) (.int kk (n : Nat)) = some (.int kk (g m n : Nat))) : BOK op (bitC op g):=by
  intro x y k a z0
  unfold bitC at z0; dsimp only at z0
  rcases Jh z0 with ⟨kk,m,n,hx,hy,e⟩ | e
  · clear z0; subst hx hy
    rw [Dc] at e
    split at e
    · next h1 =>
      rw [Dc] at e
      split at e
      · next h2=>exact ⟨_,h kk m n (by simpa [Nat.blt_eq] using h1) (by simpa [Nat.blt_eq] using h2),e⟩
      · exact D6 e
    · exact D6 e
  · exact D6 e
def kp : IntKind→Nat
 | .i8=>7 | .i16=>15 | .i32=>31 | .i64=>63 | .u8=>8 | .u16=>16 | .u32=>32 | .u64=>64
theorem kb_pow (k : IntKind) : kb k = 2 ^ kp k:=by cases k<;>rfl
theorem kp_le (k : IntKind) : kp k ≤ k.bits:=by cases k<;>decide
theorem M6 {k : IntKind} {m : Nat} (h : m < kb k) : (BitVec.ofInt k.bits (m : Int)).toNat = m:=by
 have h2 : m < 2 ^ k.bits:=by rw [kb_pow] at h; exact Nat.lt_of_lt_of_le h (Nat.pow_le_pow_right (by decide) (kp_le k))
 simp [BitVec.toNat_ofInt]
 exact Nat.mod_eq_of_lt h2
theorem and_ok (kk : IntKind) (m n : Nat) (h1 : m < kb kk) (h2 : n < kb kk) : Bo .and (.int kk (m : Nat)) (.int kk (n : Nat)) = some (.int kk (Nat.land m n : Nat)):=by
 simp only [Bo,if_true,BitVec.toNat_and,M6 h1,M6 h2]
 have : m &&& n < kb kk:=Nat.lt_of_le_of_lt Nat.and_le_left h1
 rw [Kc this]; rfl
theorem or_ok (kk : IntKind) (m n : Nat) (h1 : m < kb kk) (h2 : n < kb kk) : Bo .or (.int kk (m : Nat)) (.int kk (n : Nat)) = some (.int kk (Nat.lor m n : Nat)):=by
 simp only [Bo,if_true,BitVec.toNat_or,M6 h1,M6 h2]
 have : m ||| n < kb kk:=by rw [kb_pow] at h1 h2 ⊢; exact Nat.or_lt_two_pow h1 h2
 rw [Kc this]; rfl
noncomputable def shrC : BC:=⟨fun x y k=>ivK x (fun kk m=>ivK y (fun _ n=>ifA (Nat.ble n 8) (frc (Nat.shiftRight m n) fun s=>k (.int kk (.ofNat s))) (Hf .shr x y k)) (Hf .shr x y k)) (Hf .shr x y k)⟩
theorem shrC_ok : BOK .shr shrC:=by
 intro x y k a z0
 unfold shrC at z0; dsimp only at z0
 rcases Ff z0 with ⟨kk,m,hx,e1⟩ | e1
 ·
  rcases Ff e1 with ⟨kk',n,hy,e2⟩ | e2
  ·
   clear z0 e1; subst hx hy
   rw [Dc] at e2
   split at e2
   ·
    next h =>
    have h : n ≤ 8:=Nat.le_of_ble_eq_true h
    refine ⟨_,?_,e2⟩
    have hb : min n kk.bits = n:=by cases kk<;>simp [IntKind.bits]<;>omega
    have hn : ¬ ((n : Int) < 0):=by omega
    simp only [Bo,if_neg hn,Int.toNat_natCast,hb,Oi,D.int.injEq,true_and]
    show (m : Int).fdiv (2 ^ n) = ((m >>> n : Nat) : Int)
    rw [Int.fdiv_eq_ediv_of_nonneg _ (by exact Int.pow_nonneg (by decide)),Nat.shiftRight_eq_div_pow]
    simp
   ·
    exact D6 e2
  ·
   exact D6 e2
 ·
  exact D6 e1
noncomputable def binC : BinOp→BC
 | .add=>addC
 | .sub=>Qt .sub Nat.sub (fun m n=>Nat.ble n m)
 | .mul=>Qt .mul Nat.mul (fun _ _=>true)
 | .quo=>Qt .quo Nat.div (fun _ n=>Nat.blt 0 n)
 | .rem=>Qt .rem Nat.mod (fun _ n=>Nat.blt 0 n)
 | .lss=>cmpC .lss Nat.blt
 | .leq=>cmpC .leq Nat.ble
 | .gtr=>cmpC .gtr (fun m n=>Nat.blt n m)
 | .geq=>cmpC .geq (fun m n=>Nat.ble n m)
 | .eql=>eqC .eql false
 | .neq=>eqC .neq true
 | .and=>bitC .and Nat.land
 | .or=>bitC .or Nat.lor
 | .shr=>shrC
 | op=>⟨Hf op⟩
theorem blt_dec (m n : Nat) : Nat.blt m n = decide ((m : Int) < (n : Int)):=by rw [Bool.eq_iff_iff]; simp [Nat.blt_eq]
theorem ble_dec (m n : Nat) : Nat.ble m n = decide ((m : Int) ≤ (n : Int)):=by rw [Bool.eq_iff_iff]; simp
theorem binC_ok : ∀ op,BOK op (binC op)
 | .add=>addC_ok
 | .sub=>Nl fun kk m n h1 h2=>by
  have h1 : n ≤ m:=by simpa using h1
  simp only [Bo,if_true]
  rw [show ((m : Int) - (n : Int)) = ((Nat.sub m n : Nat) : Int) by show _ = ((m - n : Nat) : Int); omega,Kc h2]
 | .mul=>Nl fun kk m n h1 h2=>by
  simp only [Bo,if_true]
  rw [show ((m : Int) * (n : Int)) = ((Nat.mul m n : Nat) : Int) from (Int.natCast_mul m n).symm,Kc h2]
 | .quo=>Nl fun kk m n h1 h2=>by
  have h1 : 0 < n:=by simpa [Nat.blt_eq] using h1
  simp only [Bo,if_true]
  rw [if_pos ⟨trivial,by omega⟩,show ((m : Int).tdiv (n : Int)) = ((Nat.div m n : Nat) : Int) from (Int.ofNat_tdiv m n).symm,Kc h2]
 | .rem=>Nl fun kk m n h1 h2=>by
  have h1 : 0 < n:=by simpa [Nat.blt_eq] using h1
  simp only [Bo,if_true]
  rw [if_pos ⟨trivial,by omega⟩,show ((m : Int).tmod (n : Int)) = ((Nat.mod m n : Nat) : Int) from (Int.ofNat_tmod m n).symm]
 | .lss=>Sj fun kk m n=>by simp [Bo,blt_dec]
 | .leq=>Sj fun kk m n=>by simp [Bo,ble_dec]
 | .gtr=>Sj fun kk m n=>by simp [Bo,blt_dec]
 | .geq=>Sj fun kk m n=>by simp [Bo,ble_dec]
 | .eql=>eqC_ok false
 | .neq=>eqC_ok true
 | .and=>bitC_ok and_ok
 | .or=>bitC_ok or_ok
 | .xor=>fun _ _ _ _ h=>D6 h
 | .andNot=>fun _ _ _ _ h=>D6 h
 | .shl=>fun _ _ _ _ h=>D6 h
 | .shr=>shrC_ok
/-! lists, brought to their elements -/
section
variable {α : Type}
noncomputable def Qc (l : List α) : Nat→(α→Ans)→Ans :=
 List.rec (motive:=fun _=>Nat→(α→Ans)→Ans) (fun _ _=>none) (fun h _ ih n k=>Nat.rec (motive:=fun _=>Ans) (k h) (fun m _=>ih m k) n) l
theorem Gg : ∀ {l : List α} {n : Nat} {k : α→Ans} {a : D × St × Bool},Qc l n k = some a→∃ x,l[n]? = some x∧k x = some a
 | [],n,k,a,h=>by simp [Qc] at h
 | x :: l,0,k,a,h=>⟨x,rfl,h⟩
 | x :: l,n + 1,k,a,h=>by
  obtain ⟨y,h1,h2⟩:=Gg (l:=l) (n:=n) h
  exact ⟨y,by simpa using h1,h2⟩
noncomputable def takeK (l : List α) : Nat→(List α→Ans)→Ans :=
 List.rec (motive:=fun _=>Nat→(List α→Ans)→Ans) (fun n k=>Nat.rec (motive:=fun _=>Ans) (k []) (fun _ _=>none) n)
  (fun h _ ih n k=>Nat.rec (motive:=fun _=>Ans) (k []) (fun m _=>ih m fun r=>k (h :: r)) n) l
theorem Ke : ∀ {l : List α} {n : Nat} {k : List α→Ans} {a : D × St × Bool},takeK l n k = some a→n ≤ l.length∧k (l.take n) = some a
 | [],0,k,a,h=>⟨Nat.le_refl _,h⟩
 | [],n + 1,k,a,h=>by simp [takeK] at h
 | x :: l,0,k,a,h=>⟨Nat.zero_le _,h⟩
 | x :: l,n + 1,k,a,h=>by
  obtain ⟨h1,h2⟩:=Ke (l:=l) (n:=n) (k:=fun r=>k (x :: r)) h
  exact ⟨by simpa using h1,by simpa using h2⟩
noncomputable def dropK (l : List α) : Nat→(List α→Ans)→Ans :=
 List.rec (motive:=fun _=>Nat→(List α→Ans)→Ans) (fun n k=>Nat.rec (motive:=fun _=>Ans) (k []) (fun _ _=>none) n)
  (fun h t ih n k=>Nat.rec (motive:=fun _=>Ans) (k (h :: t)) (fun m _=>ih m k) n) l
theorem K4 : ∀ {l : List α} {n : Nat} {k : List α→Ans} {a : D × St × Bool},dropK l n k = some a→n ≤ l.length∧k (l.drop n) = some a
 | [],0,k,a,h=>⟨Nat.le_refl _,h⟩
 | [],n + 1,k,a,h=>by simp [dropK] at h
 | x :: l,0,k,a,h=>⟨Nat.zero_le _,h⟩
 | x :: l,n + 1,k,a,h=>by
  obtain ⟨h1,h2⟩:=K4 (l:=l) (n:=n) h
  exact ⟨by simpa using h1,h2⟩
noncomputable def setK (x : α) (l : List α) : Nat→(List α→Ans)→Ans :=
 List.rec (motive:=fun _=>Nat→(List α→Ans)→Ans) (fun _ _=>none) (fun h t ih n k=>Nat.rec (motive:=fun _=>Ans) (k (x :: t)) (fun m _=>ih m fun r=>k (h :: r)) n) l
theorem Jk {x : α} : ∀ {l : List α} {n : Nat} {k : List α→Ans} {a : D × St × Bool},setK x l n k = some a→k (l.set n x) = some a
 | [],n,k,a,h=>by simp [setK] at h
 | y :: l,0,k,a,h=>h
 | y :: l,n + 1,k,a,h=>Jk (l:=l) (n:=n) (k:=fun r=>k (y :: r)) h
noncomputable def snocK (x : α) (l : List α) : (List α→Ans)→Ans :=
 List.rec (motive:=fun _=>(List α→Ans)→Ans) (fun k=>k [x]) (fun h _ ih k=>ih fun r=>k (h :: r)) l
theorem snocK_some {x : α} : ∀ {l : List α} {k : List α→Ans} {a : D × St × Bool},snocK x l k = some a→k (l ++ [x]) = some a
 | [],k,a,h=>h
 | y :: l,k,a,h=>snocK_some (l:=l) (k:=fun r=>k (y :: r)) h
noncomputable def Re (row : List α) : Nat→List α→(List α→Ans)→Ans :=
 List.rec (motive:=fun _=>Nat→List α→(List α→Ans)→Ans) (fun n cs k=>Nat.rec (motive:=fun _=>Ans) (List.rec (motive:=fun _=>Ans) (k []) (fun _ _ _=>none) cs) (fun _ _=>none) n)
  (fun h t ih n cs k=>Nat.rec (motive:=fun _=>Ans) (List.rec (motive:=fun _=>Ans) (k (h :: t)) (fun c cs' _=>ih 0 cs' fun r=>k (c :: r)) cs) (fun m _=>ih m cs fun r=>k (h :: r)) n) row
theorem Kl : ∀ {row : List D} {n : Nat} {cs : List D} {k : List D→Ans} {a : D × St × Bool},Re row n cs k = some a→n + cs.length ≤ row.length∧k (overlay row n cs) = some a
 | [],0,[],k,a,h=>⟨Nat.le_refl _,h⟩
 | [],0,c :: cs,k,a,h=>by simp [Re] at h
 | [],n + 1,cs,k,a,h=>by simp [Re] at h
 | x :: l,0,[],k,a,h=>⟨Nat.zero_le _,(by simp [overlay] : overlay (x :: l) 0 [] = x :: l) ▸ h⟩
 | x :: l,0,c :: cs,k,a,h=>by
  obtain ⟨h1,h2⟩:=Kl (row:=l) (n:=0) (cs:=cs) (k:=fun r=>k (c :: r)) h
  exact ⟨by simp at h1 ⊢; omega,by simpa [overlay] using h2⟩
 | x :: l,n + 1,cs,k,a,h=>by
  obtain ⟨h1,h2⟩:=Kl (row:=l) (n:=n) (cs:=cs) (k:=fun r=>k (x :: r)) h
  refine ⟨by simp at h1 ⊢; omega,?_⟩
  have e : n + 1 + cs.length = (n + cs.length) + 1:=by omega
  simpa [overlay,e] using h2
end

/-! operations on a list of values -/
structure LC where
 f : Io→List D→St→K1→Ans
def LOK (op : LOp) (L : LC) : Prop:=∀ c cs,CKs c cs→∀ xs S k a,L.f c xs S k = some a→∃ r S' w,Aw cs op xs S = some (r,S',w)∧k r S' w = some a
noncomputable def Np (xs : List D) (f : D→Ans) : Ans:=List.rec (motive:=fun _=>Ans) none (fun x t _=>List.rec (motive:=fun _=>Ans) (f x) (fun _ _ _=>none) t) xs
theorem Ef {xs : List D} {f : D→Ans} {a : D × St × Bool} (h : Np xs f = some a) : ∃ x,xs = [x]∧f x = some a:=by
 match xs,h with
 | [],h=>simp [Np] at h
 | [x],h=>exact ⟨x,rfl,h⟩
 | x :: y :: l,h=>simp [Np] at h
noncomputable def Sa (xs : List D) (f : D→D→Ans) : Ans:=List.rec (motive:=fun _=>Ans) none (fun x t _=>Np t (f x)) xs
theorem Gf {xs : List D} {f : D→D→Ans} {a : D × St × Bool} (h : Sa xs f = some a) : ∃ x y,xs = [x,y]∧f x y = some a:=by
 match xs,h with
 | [],h=>simp [Sa] at h
 | x :: t,h =>
  obtain ⟨y,rfl,h⟩:=Ef (f:=f x) h
  exact ⟨x,y,rfl,h⟩
noncomputable def un3K (xs : List D) (f : D→D→D→Ans) : Ans:=List.rec (motive:=fun _=>Ans) none (fun x t _=>Sa t (f x)) xs
theorem un3K_some {xs : List D} {f : D→D→D→Ans} {a : D × St × Bool} (h : un3K xs f = some a) : ∃ x y z,xs = [x,y,z]∧f x y z = some a:=by
 match xs,h with
 | [],h=>simp [un3K] at h
 | x :: t,h =>
  obtain ⟨y,z,rfl,h⟩:=Gf (f:=f x) h
  exact ⟨x,y,z,rfl,h⟩
noncomputable def Jj (op : LOp) : LC:=⟨fun _ xs S k=>ansK (aop op xs S) fun r S' w=>frcD r fun r=>k r S' w⟩
def noCall : LOp→Bool
 | .call _ | .callv | .invoke _=>false
 | _=>true
theorem exOp_aop {call : Bi} {op : LOp} (h : noCall op = true) (xs : List D) (S : St) : Aw call op xs S = aop op xs S:=by
 cases op<;>first | rfl | (simp [noCall] at h)
theorem Gb {op : LOp} (h : noCall op = true) : LOK op (Jj op):=by
 intro c cs hc xs S k a e0
 unfold Jj at e0; dsimp only at e0
 obtain ⟨r,S',w,h1,h2⟩:=Ka e0
 exact ⟨r,S',w,by rw [exOp_aop h,h1],frcD_some h2⟩
theorem Cv {op : LOp} (hl : op.loud = false) (hn : noCall op = true) {cs : Bi} {xs : List D} {S : St} {r : D} (h : pop op xs = some r) : Aw cs op xs S = some (r,S,false):=by
 rw [exOp_aop hn]; simp [aop,hl,h]
theorem G9 {op : LOp} (hl : op.loud = true) (hn : noCall op = true) {cs : Bi} {xs : List D} {S : St} {r : D} {S' : St} {w : Bool} (h : lop op xs S = some (r,S',w)) : Aw cs op xs S = some (r,S',w):=by
 rw [exOp_aop hn]; simp [aop,hl,h]

noncomputable def mvC : LC:=⟨fun _ xs S k=>Np xs fun x=>k x S false⟩
theorem mvC_ok : LOK .mv mvC:=by
 intro c cs hc xs S k a e0
 obtain ⟨x,rfl,e1⟩:=Ef e0
 exact ⟨x,S,false,Cv rfl rfl rfl,e1⟩
noncomputable def binL (op : BinOp) : LC:=⟨fun _ xs S k=>Sa xs fun x y=>(binC op).f x y fun r=>k r S false⟩
theorem binL_ok (op : BinOp) : LOK (.bin op) (binL op):=by
 intro c cs hc xs S k a e0
 obtain ⟨x,y,rfl,e1⟩:=Gf e0
 obtain ⟨r,h1,h2⟩:=binC_ok op x y _ a e1
 exact ⟨r,S,false,Cv rfl rfl h1,h2⟩
noncomputable def pickC : LC:=⟨fun _ xs S k=>un3K xs fun c x y=>bvK c (k x S false) (k y S false)⟩
theorem pickC_ok : LOK .pick pickC:=by
 intro c cs hc xs S k a e0
 obtain ⟨b,x,y,rfl,e1⟩:=un3K_some e0
 rcases J9 e1 with ⟨rfl,e2⟩ | ⟨rfl,e2⟩
 ·
  exact ⟨x,S,false,Cv rfl rfl rfl,e2⟩
 ·
  exact ⟨y,S,false,Cv rfl rfl rfl,e2⟩
noncomputable def notC : LC:=⟨fun _ xs S k=>Np xs fun x=>bvK x (k (.bool false) S false) (k (.bool true) S false)⟩
theorem notC_ok : LOK (.un .not) notC:=by
 intro c cs hc xs S k a e0
 obtain ⟨x,rfl,e1⟩:=Ef e0
 rcases J9 e1 with ⟨rfl,e2⟩ | ⟨rfl,e2⟩
 ·
  exact ⟨_,S,false,Cv rfl rfl rfl,e2⟩
 ·
  exact ⟨_,S,false,Cv rfl rfl rfl,e2⟩
noncomputable def convC (kk : IntKind) : LC:=⟨fun c xs S k=>Np xs fun x=>ivK x (fun _ n=>ifA (Nat.blt n (kb kk)) (k (.int kk (.ofNat n)) S false) ((Jj (.conv kk)).f c xs S k)) ((Jj (.conv kk)).f c xs S k)⟩
theorem convC_ok (kk : IntKind) : LOK (.conv kk) (convC kk):=by
  intro c cs hc xs S k a e0
  obtain ⟨x,rfl,e1⟩:=Ef e0
  rcases Ff e1 with ⟨k0,n,rfl,e2⟩ | e2
  · rw [Dc] at e2
    split at e2
    · next hb =>
      refine ⟨_,S,false,Cv rfl rfl ?_,e2⟩
      simp only [pop,Oi,D.int.injEq,true_and]
      exact Kc (by simpa [Nat.blt_eq] using hb)
    · exact Gb rfl c cs hc _ _ _ _ e2
  · exact Gb rfl c cs hc _ _ _ _ e2
noncomputable def idxC : LC:=⟨fun _ xs S k=>Sa xs fun x y=>svK x (fun l=>ivK y (fun _ n=>Qc l n fun b=>frc b.toNat fun m=>k (.int .u8 (.ofNat m)) S false) none) none⟩
theorem idxC_ok : LOK .index idxC:=by
 intro c cs hc xs S k a e0
 obtain ⟨x,y,rfl,e1⟩:=Gf e0
 rcases G6 e1 with ⟨s,rfl,e2⟩ | e2
 ·
  rcases Ff e2 with ⟨k0,n,rfl,e3⟩ | e3
  ·
   obtain ⟨b,h1,h2⟩:=Gg e3
   refine ⟨_,S,false,Cv rfl rfl ?_,h2⟩
   simp [pop,indexD,f_get,h1]
  ·
   simp at e3
 ·
  simp at e2
/-! views -/
inductive PtV where
 | Tn (row : List D) (o : Nat)
 | ptr (g v i o : Nat)
 | no
def D.pv : D→PtV
 | .Tn row o=>.Tn row o
 | .ptr g v i o=>.ptr g v i o
 | _=>.no
theorem D.pv_cptr {d : D} {row : List D} {o : Nat} (h : d.pv = .Tn row o) : d = .Tn row o:=by cases d<;>simp_all [D.pv]
theorem D.pv_ptr {d : D} {g v i o : Nat} (h : d.pv = .ptr g v i o) : d = .ptr g v i o:=by cases d<;>simp_all [D.pv]
noncomputable def pvK (d : D) (f : List D→Nat→Ans) (h : Nat→Nat→Nat→Nat→Ans) (e : Ans) : Ans:=PtV.rec (motive:=fun _=>Ans) f h e d.pv
theorem Lr {d : D} {f : List D→Nat→Ans} {h : Nat→Nat→Nat→Nat→Ans} {e : Ans} {a : D × St × Bool} (z : pvK d f h e = some a) : (∃ row o,d = .Tn row o∧f row o = some a) ∨ (∃ g v i o,d = .ptr g v i o∧h g v i o = some a) ∨ e = some a:=by
 unfold pvK at z
 match hd : d.pv with
 | .Tn row o=>rw [hd] at z; exact .inl ⟨row,o,D.pv_cptr hd,z⟩
 | .ptr g v i o=>rw [hd] at z; exact .inr (.inl ⟨g,v,i,o,D.pv_ptr hd,z⟩)
 | .no=>rw [hd] at z; exact .inr (.inr z)
inductive SlV where
 | sl (s : Nat) (rows : List (List D))
 | msl (g v lo n : Nat)
 | no
def D.lv : D→SlV
 | .sl s rows _=>.sl s rows
 | .msl g v lo n _=>.msl g v lo n
 | _=>.no
noncomputable def lvK (d : D) (f : Nat→List (List D)→Ans) (h : Nat→Nat→Nat→Nat→Ans) (e : Ans) : Ans:=SlV.rec (motive:=fun _=>Ans) f h e d.lv
theorem lvK_some {d : D} {f : Nat→List (List D)→Ans} {h : Nat→Nat→Nat→Nat→Ans} {e : Ans} {a : D × St × Bool} (z : lvK d f h e = some a) : (∃ s rows c,d = .sl s rows c∧f s rows = some a) ∨ (∃ g v lo n c,d = .msl g v lo n c∧h g v lo n = some a) ∨ e = some a:=by
 cases d with
 | sl s rows c=>exact .inl ⟨s,rows,c,rfl,z⟩
 | msl g v lo n c=>exact .inr (.inl ⟨g,v,lo,n,c,rfl,z⟩)
 | _=>exact .inr (.inr z)
noncomputable def hgetK (S : St) (g v : Nat) (f : TypeId→Nat→List (List D)→Nat→Nat→Bool→Ans) : Ans :=
 Qc S.heap g fun o=>Sk.rec (motive:=fun _=>Ans) (fun e sz rows ver kind grow=>ifA (Nat.beq ver v) (f e sz rows ver kind grow) none) o
theorem Oa {S : St} {g v : Nat} {f : TypeId→Nat→List (List D)→Nat→Nat→Bool→Ans} {a : D × St × Bool} (h : hgetK S g v f = some a) : ∃ o : Sk,S.heap[g]? = some o∧o.ver = v∧rowsOf S g v = some o∧f o.elem o.sz o.rows o.ver o.kind o.grow = some a:=by
  obtain ⟨o,h1,h2⟩:=Gg h
  change ifA (Nat.beq o.ver v) (f o.elem o.sz o.rows o.ver o.kind o.grow) none = some a at h2
  rw [Dc] at h2
  split at h2
  · next hv =>
    have hv:=Nat.eq_of_beq_eq_true hv
    exact ⟨o,h1,hv,by simp [rowsOf,h1,hv],h2⟩
  · simp at h2
noncomputable def partK (agg : Bool) (cs : List D) (o sz : Nat) (k : D→Ans) : Ans:=Bool.rec (motive:=fun _=>Ans) (Qc cs o k) (dropK cs o fun l=>takeK l sz fun l=>k (.agg l)) agg
theorem Nv {agg : Bool} {cs : List D} {o sz : Nat} {k : D→Ans} {a : D × St × Bool} (h : partK agg cs o sz k = some a) : ∃ r,Ay cs o sz agg = some r∧k r = some a:=by
 cases agg with
 | false=>exact Gg h
 | true =>
  obtain ⟨h1,h2⟩:=K4 h
  obtain ⟨h3,h4⟩:=Ke h2
  refine ⟨_,?_,h4⟩
  rw [List.length_drop] at h3
  simp only [Ay,if_true]
  rw [if_pos (by omega)]
noncomputable def loadC (sz : Nat) (agg : Bool) : LC:=⟨fun _ xs S k=>Np xs fun x=>pvK x (fun row o=>partK agg row o sz fun r=>k r S false) (fun g v i o=>hgetK S g v fun _ _ rows _ _ _=>Qc rows i fun row=>partK agg row o sz fun r=>k r S false) none⟩
theorem loadC_ok (sz : Nat) (agg : Bool) : LOK (.load sz agg) (loadC sz agg):=by
  intro c cs hc xs S k a e0
  obtain ⟨x,rfl,e1⟩:=Ef e0
  rcases Lr e1 with ⟨row,o,rfl,e2⟩ | ⟨g,v,i,o,rfl,e2⟩ | e2
  · obtain ⟨r, h1, h2⟩ := Nv e2
    exact ⟨r,S,false,G9 rfl rfl (by simp [lop,Gq,h1]),h2⟩
  · obtain ⟨ob, _, _, h1, e3⟩ := Oa e2
    obtain ⟨row,h2,e4⟩:=Gg e3
    obtain ⟨r,h3,h4⟩:=Nv e4
    exact ⟨r,S,false,G9 rfl rfl (by simp [lop,Gq,h1,h2,h3]),h4⟩
  · simp at e2
noncomputable def fieldC (o sz : Nat) (agg : Bool) : LC:=⟨fun _ xs S k=>Np xs fun x=>Jq (match x with | .agg cs=>some cs | _=>none) fun cs=>partK agg cs o sz fun r=>k r S false⟩
theorem fieldC_ok (o sz : Nat) (agg : Bool) : LOK (.field o sz agg) (fieldC o sz agg):=by
 intro c cs hc xs S k a e0
 obtain ⟨x,rfl,e1⟩:=Ef e0
 obtain ⟨l,h1,e2⟩:=Eg e1
 cases x with
 | agg l' =>
  obtain rfl : l' = l:=by simpa using h1
  obtain ⟨r,h1,h2⟩:=Nv e2
  exact ⟨r,S,false,Cv rfl rfl (by simp [pop,h1]),h2⟩
 | _=>simp at h1
noncomputable def extC (i : Nat) : LC:=⟨fun _ xs S k=>Np xs fun x=>Jq (match x with | .tup cs=>some cs | _=>none) fun cs=>Qc cs i fun r=>k r S false⟩
theorem extC_ok (i : Nat) : LOK (.extract i) (extC i):=by
 intro c cs hc xs S k a e0
 obtain ⟨x,rfl,e1⟩:=Ef e0
 obtain ⟨l,h1,e2⟩:=Eg e1
 cases x with
 | tup l' =>
  obtain rfl : l' = l:=by simpa using h1
  obtain ⟨r,h1,h2⟩:=Gg e2
  exact ⟨r,S,false,Cv rfl rfl (by simp [pop,h1]),h2⟩
 | _=>simp at h1
noncomputable def faddrC (f : Nat) : LC:=⟨fun _ xs S k=>Np xs fun x=>pvK x (fun row o=>frc (Nat.add o f) fun m=>k (.Tn row m) S false) (fun g v i o=>frc (Nat.add o f) fun m=>k (.ptr g v i m) S false) none⟩
theorem faddrC_ok (f : Nat) : LOK (.Tj f) (faddrC f):=by
 intro c cs hc xs S k a e0
 obtain ⟨x,rfl,e1⟩:=Ef e0
 rcases Lr e1 with ⟨row,o,rfl,e2⟩ | ⟨g,v,i,o,rfl,e2⟩ | e2
 ·
  exact ⟨_,S,false,Cv rfl rfl rfl,e2⟩
 ·
  exact ⟨_,S,false,Cv rfl rfl rfl,e2⟩
 ·
  simp at e2
noncomputable def nilckC : LC:=⟨fun c xs S k=>Np xs fun x=>pvK x (fun row o=>k (.Tn row o) S false) (fun g v i o=>k (.ptr g v i o) S false) ((Jj .nilck).f c xs S k)⟩
theorem nilckC_ok : LOK .nilck nilckC:=by
 intro c cs hc xs S k a e0
 obtain ⟨x,rfl,e1⟩:=Ef e0
 rcases Lr e1 with ⟨row,o,rfl,e1⟩ | ⟨g,v,i,o,rfl,e1⟩ | e1
 ·
  exact ⟨_,S,false,Cv rfl rfl rfl,e1⟩
 ·
  exact ⟨_,S,false,Cv rfl rfl rfl,e1⟩
 ·
  exact Gb rfl c cs hc _ _ _ _ e1
noncomputable def iaddrC (sz : Nat) : LC:=⟨fun _ xs S k=>Sa xs fun x y=>ivK y (fun _ j=>lvK x (fun s rows=>ifA (Nat.beq s sz) (Qc rows j fun row=>k (.Tn row 0) S false) none)
 (fun g v lo n=>hgetK S g v fun _ sz' _ _ _ _=>ifA (Nat.beq sz' sz) (ifA (Nat.blt j n) (frc (Nat.add lo j) fun m=>k (.ptr g v m 0) S false) none) none) none) none⟩
theorem iaddrC_ok (sz : Nat) : LOK (.Ti sz) (iaddrC sz) := by
  intro c cs hc xs S k a e0
  obtain ⟨x,y,rfl,e1⟩:=Gf e0
  rcases Ff e1 with ⟨k0,j,rfl,e2⟩ | e2
  · rcases lvK_some e2 with ⟨s, rows, cp, rfl, e3⟩ | ⟨g, v, lo, n, cp, rfl, e3⟩ | e3
    · rw [Dc] at e3
      split at e3
      · next hs =>
        obtain rfl:=Nat.eq_of_beq_eq_true hs
        obtain ⟨row,h1,h2⟩:=Gg e3
        exact ⟨_,S,false,G9 rfl rfl (by simp [lop,Fg,h1]),h2⟩
      · simp at e3
    · obtain ⟨ob, _, _, h1, e4⟩ := Oa e3
      rw [Dc] at e4
      split at e4
      · next hs =>
        have hs:=Nat.eq_of_beq_eq_true hs
        rw [Dc] at e4
        split at e4
        · next hj =>
          have hj : j < n:=by simpa [Nat.blt_eq] using hj
          exact ⟨_,S,false,G9 rfl rfl (by simp [lop,Fg,h1,hs,hj]),e4⟩
        · simp at e4
      · simp at e4
    · simp at e3
  · simp at e2
noncomputable def lenC (st : Bool) : LC:=Bool.rec (motive:=fun _=>LC)
 ⟨fun c xs S k=>Np xs fun x=>lvK x (fun _ rows=>frc (Jw rows) fun m=>k (.int .i64 (.ofNat m)) S false) (fun _ _ _ n=>k (.int .i64 (.ofNat n)) S false) ((Jj (.len false)).f c xs S k)⟩
 ⟨fun _ xs S k=>Np xs fun x=>svK x (fun l=>frc (Jw l) fun m=>k (.int .i64 (.ofNat m)) S false) none⟩ st
theorem lenC_ok (st : Bool) : LOK (.len st) (lenC st):=by
 intro c cs hc xs S k a e0
 cases st with
 | false =>
  obtain ⟨x,rfl,e1⟩:=Ef e0
  rcases lvK_some e1 with ⟨s,rows,cp,rfl,e2⟩ | ⟨g,v,lo,n,cp,rfl,e2⟩ | e2
  ·
   rw [I5,Ex] at e2
   exact ⟨_,S,false,Cv rfl rfl rfl,e2⟩
  ·
   exact ⟨_,S,false,Cv rfl rfl rfl,e2⟩
  ·
   exact Gb rfl c cs hc _ _ _ _ e2
 | true =>
  obtain ⟨x,rfl,e1⟩:=Ef e0
  rcases G6 e1 with ⟨s,rfl,e2⟩ | e2
  ·
   rw [I5,Ex] at e2
   exact ⟨_,S,false,Cv rfl rfl rfl,e2⟩
  ·
   simp at e2
noncomputable def newK (S : St) (o : Sk) (k : Nat→St→Ans) : Ans:=frc (Jw S.heap) fun n=>snocK o S.heap fun H=>k n ⟨H,S.low⟩
theorem Ju {S : St} {o : Sk} {k : Nat→St→Ans} {a : D × St × Bool} (h : newK S o k = some a) : k S.heap.length (newAt S o) = some a:=by
 unfold newK at h
 rw [I5,Ex] at h
 exact snocK_some h
noncomputable def allocC (e : TypeId) (z : List D) : LC:=⟨fun _ xs S k=>List.rec (motive:=fun _=>Ans) (newK S ⟨e,z.length,[z],0,0,false⟩ fun n S'=>k (.ptr n 0 0 0) S' true) (fun _ _ _=>none) xs⟩
theorem allocC_ok (e : TypeId) (z : List D) : LOK (.alloc e z) (allocC e z):=by
 intro c cs hc xs S k a h
 match xs,h with
 | [],h=>exact ⟨_,_,_,G9 rfl rfl rfl,Ju (S:=S) (k:=fun n S'=>k (.ptr n 0 0 0) S' true) h⟩
 | _ :: _,h=>exact absurd h (by simp [allocC])
def D.celB : D→Bool
 | .agg _ | .tup _ | .undef | .skip=>false
 | _=>true
theorem celB_is {d : D} (h : d.celB = true) : d.Tc = true∧d.val = true∧d.cells = [d]:=by cases d<;>simp_all [D.celB,D.Tc,D.val,D.cells]
noncomputable def setHK (S : St) (g : Nat) (o : Sk) (k : St→Ans) : Ans:=setK o S.heap g fun H=>frc (Bool.rec (motive:=fun _=>Nat) g S.low (Nat.ble S.low g)) fun lo=>k ⟨H,lo⟩
theorem setHK_some {S : St} {g : Nat} {o : Sk} {k : St→Ans} {a : D × St × Bool} (h : setHK S g o k = some a) : k (setAt S g o) = some a:=by
 have h:=Jk h
 rw [I5] at h
 have e : (Bool.rec (motive:=fun _=>Nat) g S.low (Nat.ble S.low g) : Nat) = min S.low g:=by
  cases hb : Nat.ble S.low g with
  | true=>have:=Nat.le_of_ble_eq_true hb; show S.low = _; omega
  | false =>
   have : ¬ S.low ≤ g:=fun h=>by rw [Nat.ble_eq_true_of_le h] at hb; cases hb
   show g = _; omega
 rw [e] at h
 exact h
noncomputable def storeC (sz : Nat) : LC:=⟨fun c xs S k=>Sa xs fun p x=>ifA x.celB (pvK p (fun _ _=>none) (fun g v i o=>hgetK S g v fun e sz' rows ver kind grow =>
 Nat.rec (motive:=fun _=>Ans) (ifA (Nat.beq sz 1) (Qc rows i fun row=>Re row o [x] fun row'=>setK row' rows i fun rows'=>setHK S g ⟨e,sz',rows',ver,kind,grow⟩ fun S'=>k .undef S' true) none)
  (fun _ _=>ifA x.flat (ifA (Nat.beq sz 1) (ifA (Nat.beq kind 2) (Qc rows i fun row=>Re row o [x] fun row'=>setK row' rows i fun rows'=>setHK S g ⟨e,sz',rows',ver,kind,grow⟩ fun S'=>k .undef S' true) none) none) ((Jj (.store sz)).f c xs S k)) kind) none)
 ((Jj (.store sz)).f c xs S k)⟩
noncomputable def callC (f : FuncId) : LC:=⟨fun c xs S k=>c f xs S k⟩
theorem callC_ok (f : FuncId) : LOK (.call f) (callC f):=fun c cs hc xs S k a e=>hc f xs S k a e
noncomputable def callvC : LC:=⟨fun c xs S k=>List.rec (motive:=fun _=>Ans) none (fun x ys _=>Jq (match x with | .fn f caps=>some (f,caps) | _=>none) fun p=>Prod.rec (motive:=fun _=>Ans) (fun f caps=>c f (appR ys caps) S k) p) xs⟩
theorem callvC_ok : LOK .callv callvC:=by
 intro c cs hc xs S k a e0
 match xs,e0 with
 | [],e0=>exact absurd e0 (by simp [callvC])
 | x :: ys, e0 =>
  obtain ⟨⟨f,caps⟩,h1,e1⟩:=Eg e0
  cases x with
  | fn f' caps' =>
   simp only [Oi,Pi_] at h1
   obtain ⟨rfl,rfl⟩:=h1
   change c f' (appR ys caps') S k = some a at e1
   rw [appR_eq] at e1
   exact hc _ _ _ _ _ e1
  | _=>simp at h1
noncomputable def lookR (t : TypeId) (l : List (TypeId × FuncId)) : Option FuncId:=List.rec (motive:=fun _=>Option FuncId) none (fun p _ ih=>Bool.rec (motive:=fun _=>Option FuncId) ih (some p.2) (Nat.beq t p.1)) l
theorem lookR_eq (t : TypeId) : ∀ l : List (TypeId × FuncId),lookR t l = l.lookup t
 | []=>rfl
 | (a, b) :: l => by
  have e : lookR t ((a,b) :: l) = Bool.rec (motive:=fun _=>Option FuncId) (lookR t l) (some b) (Nat.beq t a):=rfl
  rw [e,lookR_eq t l]
  by_cases h : t = a
  ·
   subst h; simp
  ·
   have h1 : Nat.beq t a = false:=by
    cases hb : Nat.beq t a with
    | false=>rfl
    | true=>exact absurd (Nat.eq_of_beq_eq_true hb) h
   have h2 : (t == a) = false:=by simpa using h
   rw [h1,List.lookup_cons,h2]
noncomputable def invC (tab : List (TypeId × FuncId)) : LC:=⟨fun c xs S k=>List.rec (motive:=fun _=>Ans) none (fun x ys _=>Jq (match x with | .ifc t d=>some (t,d) | .ifr t d=>some (t,d) | _=>none) fun p=>Prod.rec (motive:=fun _=>Ans) (fun t d=>Jq (lookR t tab) fun f=>c f (d :: ys) S k) p) xs⟩
theorem invC_ok (tab : List (TypeId × FuncId)) : LOK (.invoke tab) (invC tab):=by
 intro c cs hc xs S k a e0
 match xs,e0 with
 | [],e0=>exact absurd e0 (by simp [invC])
 | x :: ys, e0 =>
  obtain ⟨⟨t,d⟩,h1,e1⟩:=Eg e0
  change Jq (lookR t tab) (fun f=>c f (d :: ys) S k) = some a at e1
  obtain ⟨f,h2,e2⟩:=Eg e1
  rw [lookR_eq] at h2
  cases x with
  | ifc t' d' =>
   simp only [Oi,Pi_] at h1
   obtain ⟨rfl,rfl⟩:=h1
   obtain ⟨r,S',w,h3,h4⟩:=hc _ _ _ _ _ e2
   exact ⟨r,S',w,by simp [Aw,h2,h3],h4⟩
  | ifr t' d' =>
   simp only [Oi,Pi_] at h1
   obtain ⟨rfl,rfl⟩:=h1
   obtain ⟨r,S',w,h3,h4⟩:=hc _ _ _ _ _ e2
   exact ⟨r,S',w,by simp [Aw,h2,h3],h4⟩
  | _=>simp at h1
noncomputable def aaddrC (sz len : Nat) : LC:=⟨fun _ xs S k=>Sa xs fun x y=>ivK y (fun _ j=>ifA (Nat.blt j len) (pvK x (fun row o=>frc (Nat.add o (Nat.mul j sz)) fun m=>k (.Tn row m) S false) (fun g v i o=>frc (Nat.add o (Nat.mul j sz)) fun m=>k (.ptr g v i m) S false) none) none) none⟩
theorem aaddrC_ok (sz len : Nat) : LOK (.aaddr sz len) (aaddrC sz len):=by
  intro c cs hc xs S k a e0
  obtain ⟨x,y,rfl,e1⟩:=Gf e0
  rcases Ff e1 with ⟨k0,j,rfl,e2⟩ | e2
  · rw [Dc] at e2
    split at e2
    · next hj =>
      have hj : j < len:=by simpa [Nat.blt_eq] using hj
      rcases Lr e2 with ⟨row,o,rfl,e3⟩ | ⟨g,v,i,o,rfl,e3⟩ | e3
      · exact ⟨_,S,false,Cv rfl rfl (by simp [pop,Qu,hj]),e3⟩
      · exact ⟨_,S,false,Cv rfl rfl (by simp [pop,Qu,hj]),e3⟩
      · simp at e3
    · simp at e2
  · simp at e2
noncomputable def mkfnC (f : FuncId) : LC:=⟨fun _ xs S k=>k (.fn f xs) S false⟩
theorem mkfnC_ok (f : FuncId) : LOK (.mkfn f) (mkfnC f):=by
 intro c cs hc xs S k a e0
 exact ⟨_,S,false,Cv rfl rfl rfl,e0⟩
noncomputable def eqbC (neg : Bool) : LC:=⟨fun _ xs S k=>Sa xs fun x y=>bvK x (bvK y (k (.bool (true != neg)) S false) (k (.bool (false != neg)) S false)) (bvK y (k (.bool (false != neg)) S false) (k (.bool (true != neg)) S false))⟩
theorem eqbC_ok (neg : Bool) : LOK (.eqb neg) (eqbC neg):=by
 intro c cs hc xs S k a e0
 obtain ⟨x,y,rfl,e1⟩:=Gf e0
 rcases J9 e1 with ⟨rfl,e2⟩ | ⟨rfl,e2⟩
 ·
  rcases J9 e2 with ⟨rfl,e3⟩ | ⟨rfl,e3⟩
  ·
   exact ⟨_,S,false,Cv rfl rfl rfl,e3⟩
  ·
   exact ⟨_,S,false,Cv rfl rfl rfl,e3⟩
 ·
  rcases J9 e2 with ⟨rfl,e3⟩ | ⟨rfl,e3⟩
  ·
   exact ⟨_,S,false,Cv rfl rfl rfl,e3⟩
  ·
   exact ⟨_,S,false,Cv rfl rfl rfl,e3⟩
/-! parts of strings -/
theorem Qm (s : ByteArray) (l h : Nat) : s.extract l h = ⟨⟨(s.data.toList.drop l).take (h - l)⟩⟩:=by
 apply f_ext
 have : s = ⟨⟨s.data.toList⟩⟩:=by cases s; simp
 rw [this]
 simp [ByteArray.data_extract,List.extract_eq_take_drop]
noncomputable def subSC (z : Nat) (lo hi mx : Bool) : LC:=Bool.rec (motive:=fun _=>LC)
 (Bool.rec (motive:=fun _=>LC) (Jj (.slice true z lo hi mx))
  ⟨fun c xs S k=>Sa xs fun x y=>svK x (fun l=>ivK y (fun _ b=>takeK l b fun r=>k (.str ⟨⟨r⟩⟩) S false) none) none⟩ hi)
 (Bool.rec (motive:=fun _=>LC) ⟨fun c xs S k=>Sa xs fun x y=>svK x (fun l=>ivK y (fun _ b=>dropK l b fun r=>k (.str ⟨⟨r⟩⟩) S false) none) none⟩
  ⟨fun c xs S k=>un3K xs fun x y w=>svK x (fun l=>ivK y (fun _ b=>ivK w (fun _ d=>ifA (Nat.ble b d) (dropK l b fun r=>takeK r (Nat.sub d b) fun r=>k (.str ⟨⟨r⟩⟩) S false) none) none) none) none⟩ hi) lo
theorem subSC_ok (z : Nat) (lo hi : Bool) : LOK (.slice true z lo hi false) (subSC z lo hi false):=by
 intro c cs hc xs S k a e0
 cases lo with
 | false =>
  cases hi with
  | false=>exact Gb rfl c cs hc _ _ _ _ e0
  | true =>
   obtain ⟨x,y,rfl,e1⟩:=Gf e0
   rcases G6 e1 with ⟨s,rfl,e2⟩ | e2
   ·
    rcases Ff e2 with ⟨k0,b,rfl,e3⟩ | e3
    ·
     obtain ⟨h1,h2⟩:=Ke e3
     refine ⟨_,S,false,Cv rfl rfl ?_,h2⟩
     have h1 : b ≤ s.size:=by rw [Mk]; exact h1
     simp [pop,Ci,Cz,Fe,Eb,h1,Qm]
    ·
     simp at e3
   ·
    simp at e2
 | true =>
  cases hi with
  | false =>
   obtain ⟨x,y,rfl,e1⟩:=Gf e0
   rcases G6 e1 with ⟨s,rfl,e2⟩ | e2
   ·
    rcases Ff e2 with ⟨k0,b,rfl,e3⟩ | e3
    ·
     obtain ⟨h1,h2⟩:=K4 e3
     refine ⟨_,S,false,Cv rfl rfl ?_,h2⟩
     have h1 : b ≤ s.size:=by rw [Mk]; exact h1
     have h3 : (s.data.toList.drop b).take (s.size - b) = s.data.toList.drop b:=List.take_of_length_le (by rw [List.length_drop,Mk]; omega)
     simp only [pop,Ci,Cz,Fe,Eb,Int.natCast_nonneg,if_true,Int.toNat_natCast,h1,Nat.le_refl,and_self,Option.map_some,Qm,h3]
    ·
     simp at e3
   ·
    simp at e2
  | true =>
   obtain ⟨x,y,w,rfl,e1⟩:=un3K_some e0
   rcases G6 e1 with ⟨s,rfl,e2⟩ | e2
   ·
    rcases Ff e2 with ⟨k0,b,rfl,e3⟩ | e3
    ·
     rcases Ff e3 with ⟨k1,d,rfl,e4⟩ | e4
     ·
      rw [Dc] at e4
      split at e4
      ·
       next hbd =>
       have hbd : b ≤ d:=Nat.le_of_ble_eq_true hbd
       obtain ⟨h1,h2⟩:=K4 e4
       obtain ⟨h3,h4⟩:=Ke h2
       refine ⟨_,S,false,Cv rfl rfl ?_,h4⟩
       have h5 : d ≤ s.size:=by rw [Mk]; rw [List.length_drop] at h3; have h3 : d - b ≤ _:=h3; omega
       simp only [pop,Ci,Cz,Fe,Eb,Int.natCast_nonneg,if_true,Int.toNat_natCast,hbd,h5,and_self,Option.map_some,Qm]
       rfl
      ·
       simp at e4
     ·
      simp at e4
    ·
     simp at e3
   ·
    simp at e2
/-! cells of a value -/
noncomputable def celsR (l : List D) : Bool:=List.rec (motive:=fun _=>Bool) true (fun h _ ih=>Bool.rec (motive:=fun _=>Bool) false ih h.celB) l
theorem celsR_all : ∀ {l : List D},celsR l = true→l.all D.Tc = true
 | [],_=>rfl
 | x :: l,h=>by
  have e : celsR (x :: l) = Bool.rec (motive:=fun _=>Bool) false (celsR l) x.celB:=rfl
  cases hx : x.celB with
  | true=>rw [e,hx] at h; rw [List.all_cons,(celB_is hx).1,celsR_all h]; rfl
  | false=>rw [e,hx] at h; simp at h
noncomputable def D.vc : D→Option (List D)
 | .agg cs=>Bool.rec (motive:=fun _=>Option (List D)) none (some cs) (celsR cs)
 | d=>Bool.rec (motive:=fun _=>Option (List D)) none (some [d]) d.celB
theorem Mt {d : D} {cs : List D} (h : d.vc = some cs) : d.val = true∧d.cells = cs:=by
 cases d with
 | agg l =>
  have h : Bool.rec (motive:=fun _=>Option (List D)) none (some l) (celsR l) = some cs:=h
  cases hc : celsR l with
  | false=>rw [hc] at h; simp at h
  | true =>
   rw [hc] at h
   obtain rfl : l = cs:=by simpa using h
   exact ⟨celsR_all hc,rfl⟩
 | undef=>exact absurd h (by simp [D.vc,D.celB])
 | skip=>exact absurd h (by simp [D.vc,D.celB])
 | tup l=>exact absurd h (by simp [D.vc,D.celB])
 | _ =>
  simp only [D.vc,D.celB,Oi] at h
  subst h
  exact ⟨rfl,rfl⟩
theorem Mi {d : D} (h : d.flatV = true) : d.cells.all D.free = true:=by
 cases d with
 | agg l=>exact List.all_eq_true.2 fun x hx=>flat_free (Ky h x hx)
 | _=>simp_all [D.flatV,D.flat,D.cells,D.free,D.Td]
noncomputable def boxC' (e : TypeId) (sz : Nat) : LC:=⟨fun _ xs S k=>Np xs fun x=>Jq x.vc fun cs=>ifA (Nat.beq (Jw cs) sz) (newK S ⟨e,sz,[cs],0,0,false⟩ fun n S'=>k (.ptr n 0 0 0) S' true) none⟩
theorem boxC_ok (e : TypeId) (sz : Nat) : LOK (.box e sz) (boxC' e sz):=by
  intro c cs hc xs S k a e0
  obtain ⟨x,rfl,e1⟩:=Ef e0
  obtain ⟨l,h1,e2⟩:=Eg e1
  obtain ⟨h2,h3⟩:=Mt h1
  rw [Dc] at e2
  split at e2
  · next hl =>
    have hl : l.length = sz:=by rw [← Ex]; exact Nat.eq_of_beq_eq_true hl
    exact ⟨_,_,_,G9 rfl rfl (by simp [lop,h2,h3,hl]),Ju (S:=S) (k:=fun n S'=>k (.ptr n 0 0 0) S' true) e2⟩
  · simp at e2
noncomputable def boxcC (sz : Nat) : LC:=⟨fun _ xs S k=>Np xs fun x=>Jq x.vc fun cs=>ifA (Nat.beq (Jw cs) sz) (ifA x.flatV (k (.Tn cs 0) S false) (ifA (cs.all D.free) (k (.Tn cs 0) S false) none)) none⟩
theorem boxcC_ok (sz : Nat) : LOK (.boxc sz) (boxcC sz):=by
  intro c cs hc xs S k a e0
  obtain ⟨x,rfl,e1⟩:=Ef e0
  obtain ⟨l,h1,e2⟩:=Eg e1
  obtain ⟨h2,h3⟩:=Mt h1
  rw [Dc] at e2
  split at e2
  · next hl =>
    have hl : l.length = sz:=by rw [← Ex]; exact Nat.eq_of_beq_eq_true hl
    have fin : l.all D.free = true→k (.Tn l 0) S false = some a→∃ r S' w,Aw cs (.boxc sz) [x] S = some (r,S',w)∧k r S' w = some a:=fun hf e3 =>
      ⟨_,_,_,G9 rfl rfl (by simp only [lop,h2,h3,hl,hf,beq_self_eq_true,Bool.and_self,if_true]),e3⟩
    rw [Dc] at e2
    split at e2
    · next hf=>exact fin (by rw [← h3]; exact Mi hf) e2
    · rw [Dc] at e2
      split at e2
      · next hf=>exact fin hf e2
      · simp at e2
  · simp at e2
noncomputable def fillK (ps : List (Nat × Nat)) : List D→List D→(List D→Ans)→Ans :=
 List.rec (motive:=fun _=>List D→List D→(List D→Ans)→Ans) (fun xs z k=>List.rec (motive:=fun _=>Ans) (k z) (fun _ _ _=>none) xs)
  (fun p _ ih xs z k=>List.rec (motive:=fun _=>Ans) none (fun x t _=>Jq x.vc fun cs=>ifA (Nat.beq (Jw cs) p.2) (Re z p.1 cs fun z'=>ih t z' k) none) xs) ps
theorem fillK_some : ∀ (ps : List (Nat × Nat)) {xs z : List D} {k : List D→Ans} {a : D × St × Bool},fillK ps xs z k = some a→∃ r,Hd z ps xs = some r∧k r = some a
 | [],[],z,k,a,h=>⟨z,rfl,h⟩
 | [],x :: xs,z,k,a,h=>by simp [fillK] at h
 | (o,s) :: ps,[],z,k,a,h=>by simp [fillK] at h
 | (o, s) :: ps, x :: xs, z, k, a, h => by
  have h : (Jq x.vc fun cs=>ifA (Nat.beq (Jw cs) s) (Re z o cs fun z'=>fillK ps xs z' k) none) = some a:=h
  obtain ⟨cs,h1,h2⟩:=Eg h
  obtain ⟨h3,h4⟩:=Mt h1
  rw [Dc] at h2
  split at h2
  ·
   next hl =>
   have hl : cs.length = s:=by rw [← Ex]; exact Nat.eq_of_beq_eq_true hl
   obtain ⟨h5,h6⟩:=Kl h2
   obtain ⟨r,h7,h8⟩:=fillK_some ps h6
   refine ⟨r,?_,h8⟩
   have : o + s ≤ z.length:=by rw [← hl]; exact h5
   simp only [Hd,h3,h4,hl,beq_self_eq_true,this,decide_true,Bool.and_self,if_true,h7]
  ·
   simp at h2
noncomputable def buildC (z : List D) (ps : List (Nat × Nat)) : LC:=⟨fun _ xs S k=>fillK ps xs z fun r=>k (.agg r) S false⟩
theorem buildC_ok (z : List D) (ps : List (Nat × Nat)) : LOK (.build z ps) (buildC z ps):=by
 intro c cs hc xs S k a e0
 obtain ⟨r,h1,h2⟩:=fillK_some ps e0
 exact ⟨_,S,false,Cv rfl rfl (by simp [pop,h1]),h2⟩
noncomputable def putK (S : St) (g : Nat) (o i sz : Nat) (cs : List D) (e sz' : Nat) (rows : List (List D)) (ver kind : Nat) (grow : Bool) (k : K1) : Ans :=
 ifA (Nat.beq (Jw cs) sz) (Qc rows i fun row=>Re row o cs fun row'=>setK row' rows i fun rows'=>setHK S g ⟨e,sz',rows',ver,kind,grow⟩ fun S'=>k .undef S' true) none
noncomputable def stC (sz : Nat) : LC:=⟨fun c xs S k=>Sa xs fun p x=>Jq x.vc fun cs=>pvK p (fun _ _=>none) (fun g v i o=>hgetK S g v fun e sz' rows ver kind grow =>
 Nat.rec (motive:=fun _=>Ans) (putK S g o i sz cs e sz' rows ver kind grow k) (fun _ _=>ifA x.flatV (ifA (Nat.beq kind 2) (putK S g o i sz cs e sz' rows ver kind grow k) none) ((Jj (.store sz)).f c xs S k)) kind) none⟩
theorem stC_ok (sz : Nat) : LOK (.store sz) (stC sz) := by
  intro c cs hc xs S k a e0
  obtain ⟨p,x,rfl,e1⟩:=Gf e0
  obtain ⟨l,hv,e2⟩:=Eg e1
  obtain ⟨hx2,hx3⟩:=Mt hv
  rcases Lr e2 with ⟨row,o,rfl,e3⟩ | ⟨g,v,i,o,rfl,e3⟩ | e3
  · simp at e3
  · obtain ⟨ob, h0, hve, h1, e4⟩ := Oa e3
    have fin : ∀ {z : Ans},putK S g o i sz l ob.elem ob.sz ob.rows ob.ver ob.kind ob.grow k = some a→(ob.kind = 0 ∨ (ob.kind = 2∧x.flatV = true))→∃ r S' w,Aw cs (.store sz) [.ptr g v i o,x] S = some (r,S',w)∧k r S' w = some a:=by
      intro _ e5 hk
      unfold putK at e5
      rw [Dc] at e5
      split at e5
      · next hl =>
        have hl : l.length = sz:=by rw [← Ex]; exact Nat.eq_of_beq_eq_true hl
        obtain ⟨row,h2,e6⟩:=Gg e5
        obtain ⟨h3,e7⟩:=Kl e6
        have e8:=setHK_some (Jk e7)
        refine ⟨.undef,_,true,G9 rfl rfl ?_,e8⟩
        have hlen : o + sz ≤ row.length:=by rw [← hl]; exact h3
        have hsn : (if ob.kind = 0 then some x else Sw S.heap.length S.heap x) = some x:=by
          rcases hk with hk | ⟨hk,hf⟩
          · rw [if_pos hk]
          · rw [if_neg (by omega),Mh hf]
        have hok : (x.val && x.cells.length == sz && decide (o + sz ≤ row.length) && (decide (ob.kind = 0) || (decide (ob.kind = 2) && x.cells.all D.free))) = true:=by
          rw [hx3,hx2,decide_eq_true hlen,hl]
          rcases hk with hk | ⟨hk,hf⟩
          · simp [hk]
          · rw [← hx3,Mi hf]; simp [hk]
        simp only [lop,Bq,h1,h2,hsn]
        rw [if_pos hok,hx3]; rfl
      · simp at e5
    match hk : ob.kind with
    | 0 =>
      rw [hk] at e4
      exact fin (z:=none) (by rw [hk]; exact e4) (.inl hk)
    | n + 1 =>
      rw [hk] at e4
      change ifA x.flatV _ _ = some a at e4
      rw [Dc] at e4
      split at e4
      · next hf =>
        rw [Dc] at e4
        split at e4
        · next h2=>exact fin (z:=none) (by rw [hk]; exact e4) (.inr ⟨by rw [hk]; exact Nat.eq_of_beq_eq_true h2,hf⟩)
        · simp at e4
      · exact Gb rfl c cs hc _ _ _ _ e4
  · simp at e3
theorem setK_lt {α : Type} {x : α} : ∀ {l : List α} {n : Nat} {k : List α→Ans} {a : D × St × Bool},setK x l n k = some a→n < l.length
 | [],n,k,a,h=>by simp [setK] at h
 | y :: l,0,k,a,h=>Nat.zero_lt_succ _
 | y :: l,n + 1,k,a,h=>Nat.succ_lt_succ (setK_lt (l:=l) (n:=n) (k:=fun r=>k (y :: r)) h)
noncomputable def Lj (sz : Nat) (ps : List Nat) : List D→List (List D)→(List (List D)→Ans)→Ans :=
 List.rec (motive:=fun _=>List D→List (List D)→(List (List D)→Ans)→Ans) (fun xs z k=>List.rec (motive:=fun _=>Ans) (k z) (fun _ _ _=>none) xs)
  (fun p _ ih xs z k=>List.rec (motive:=fun _=>Ans) none (fun x t _=>Jq x.vc fun cs=>ifA (Nat.beq (Jw cs) sz) (setK cs z p fun z'=>ih t z' k) none) xs) ps
theorem rowsK_0 {sz : Nat} : ∀ (ps : List Nat) {xs : List D} {z : List (List D)} {k : List (List D)→Ans} {a : D × St × Bool},Lj sz ps xs z k = some a→∃ r,Dw z sz ps xs = some r∧k r = some a
 | [],[],z,k,a,h=>⟨z,rfl,h⟩
 | [],x :: xs,z,k,a,h=>by simp [Lj] at h
 | p :: ps,[],z,k,a,h=>by simp [Lj] at h
 | p :: ps, x :: xs, z, k, a, h => by
  have h : (Jq x.vc fun cs=>ifA (Nat.beq (Jw cs) sz) (setK cs z p fun z'=>Lj sz ps xs z' k) none) = some a:=h
  obtain ⟨cs,h1,h2⟩:=Eg h
  obtain ⟨h3,h4⟩:=Mt h1
  rw [Dc] at h2
  split at h2
  ·
   next hl =>
   have hl : cs.length = sz:=by rw [← Ex]; exact Nat.eq_of_beq_eq_true hl
   obtain ⟨r,h7,h8⟩:=rowsK_0 ps (Jk h2)
   refine ⟨r,?_,h8⟩
   simp only [Dw,h3,h4,hl,beq_self_eq_true,setK_lt h2,decide_true,Bool.and_self,if_true,h7]
  ·
   simp at h2
theorem rowsK_f {sz : Nat} : ∀ (ps : List Nat) {xs : List D} {z : List (List D)} {k : List (List D)→Ans} {a : D × St × Bool},Ha xs = true→Lj sz ps xs z k = some a→∃ r,Cw z sz ps xs = some r∧k r = some a
 | [],[],z,k,a,_,h=>⟨z,rfl,h⟩
 | [],x :: xs,z,k,a,_,h=>by simp [Lj] at h
 | p :: ps,[],z,k,a,_,h=>by simp [Lj] at h
 | p :: ps, x :: xs, z, k, a, hf, h => by
  have h : (Jq x.vc fun cs=>ifA (Nat.beq (Jw cs) sz) (setK cs z p fun z'=>Lj sz ps xs z' k) none) = some a:=h
  obtain ⟨cs,h1,h2⟩:=Eg h
  obtain ⟨h3,h4⟩:=Mt h1
  rw [Dc] at h2
  split at h2
  ·
   next hl =>
   have hl : cs.length = sz:=by rw [← Ex]; exact Nat.eq_of_beq_eq_true hl
   obtain ⟨r,h7,h8⟩:=rowsK_f ps (Gz hf).2 (Jk h2)
   refine ⟨r,?_,h8⟩
   have hfr : cs.all D.free = true:=by rw [← h4]; exact Mi (Gz hf).1
   simp only [Cw,h3,h4,hl,hfr,beq_self_eq_true,setK_lt h2,decide_true,Bool.and_self,if_true,h7]
  ·
   simp at h2
noncomputable def bsliceC (e sz len : Nat) (z : List D) (ps : List Nat) (kind : Nat) : LC :=
 if kind = 0 then ⟨fun _ xs S k=>Lj sz ps xs (repR z len) fun rs=>newK S ⟨e,sz,rs,0,0,false⟩ fun n S'=>k (.msl n 0 0 len none) S' true⟩
 else if kind = 2 then ⟨fun c xs S k=>ifA (Ha xs) (Lj sz ps xs (repR z len) fun rs=>newK S ⟨e,sz,rs,0,2,false⟩ fun n S'=>k (.msl n 0 0 len none) S' true) ((Jj (.Tg e sz len z ps kind)).f c xs S k)⟩
 else ⟨fun c xs S k=>ifA (Ha xs) (Lj sz ps xs (repR z len) fun rs=>k (.sl sz rs (some len)) S false) ((Jj (.Tg e sz len z ps kind)).f c xs S k)⟩
theorem bsliceC_ok (e sz len : Nat) (z : List D) (ps : List Nat) (kind : Nat) : LOK (.Tg e sz len z ps kind) (bsliceC e sz len z ps kind) := by
  intro c cs hc xs S k a e0
  unfold bsliceC at e0
  split at e0
  · next hk =>
    dsimp only at e0
    rw [Sd] at e0
    obtain ⟨rs,h1,h2⟩:=rowsK_0 ps e0
    exact ⟨_,_,_,G9 rfl rfl (by simp only [lop,hk,if_true,h1]),Ju (S:=S) (k:=fun n S'=>k (.msl n 0 0 len none) S' true) h2⟩
  · next hk =>
    split at e0
    · next hk2 =>
      dsimp only at e0
      rw [Dc] at e0
      split at e0
      · next hf =>
        rw [Sd] at e0
        obtain ⟨rs,h1,h2⟩:=rowsK_f ps hf e0
        exact ⟨_,_,_,G9 rfl rfl (by subst hk2; simp only [lop,Ib _ _ hf,h1,if_true]; rfl),Ju (S:=S) (k:=fun n S'=>k (.msl n 0 0 len none) S' true) h2⟩
      · exact Gb rfl c cs hc _ _ _ _ e0
    · next hk2 =>
      dsimp only at e0
      rw [Dc] at e0
      split at e0
      · next hf =>
        rw [Sd] at e0
        obtain ⟨rs,h1,h2⟩:=rowsK_f ps hf e0
        exact ⟨_,_,_,G9 rfl rfl (by simp only [lop,if_neg hk,if_neg hk2,Ib _ _ hf,h1]),h2⟩
      · exact Gb rfl c cs hc _ _ _ _ e0
noncomputable def lC : LOp→LC
 | .mv=>mvC
 | .bin op=>binL op
 | .pick=>pickC
 | .un .not=>notC
 | .conv k=>convC k
 | .index=>idxC
 | .load sz agg=>loadC sz agg
 | .field o sz agg=>fieldC o sz agg
 | .extract i=>extC i
 | .Tj f=>faddrC f
 | .nilck=>nilckC
 | .Ti sz=>iaddrC sz
 | .len st=>lenC st
 | .alloc e z=>allocC e z
 | .store sz=>stC sz
 | .aaddr sz len=>aaddrC sz len
 | .mkfn f=>mkfnC f
 | .eqb neg=>eqbC neg
 | .slice true z lo hi false=>subSC z lo hi false
 | .box e sz=>boxC' e sz
 | .boxc sz=>boxcC sz
 | .build z ps=>buildC z ps
 | .Tg e sz len z ps kind=>bsliceC e sz len z ps kind
 | .call f=>callC f
 | .callv=>callvC
 | .invoke tab=>invC tab
 | op=>Jj op
theorem lC_ok (op : LOp) : LOK op (lC op):=by
 cases op with
 | mv=>exact mvC_ok
 | bin op=>exact binL_ok op
 | pick=>exact pickC_ok
 | un u=>cases u<;>first | exact notC_ok | exact Gb rfl
 | conv k=>exact convC_ok k
 | index=>exact idxC_ok
 | load sz agg=>exact loadC_ok sz agg
 | field o sz agg=>exact fieldC_ok o sz agg
 | extract i=>exact extC_ok i
 | Tj f=>exact faddrC_ok f
 | nilck=>exact nilckC_ok
 | Ti sz=>exact iaddrC_ok sz
 | len st=>exact lenC_ok st
 | alloc e z=>exact allocC_ok e z
 | store sz=>exact stC_ok sz
 | aaddr sz len=>exact aaddrC_ok sz len
 | mkfn f=>exact mkfnC_ok f
 | eqb neg=>exact eqbC_ok neg
 | slice st z lo hi mx=>cases st<;>cases mx<;>first | exact subSC_ok z lo hi | exact Gb rfl
 | box e sz=>exact boxC_ok e sz
 | boxc sz=>exact boxcC_ok sz
 | build z ps=>exact buildC_ok z ps
 | Tg e sz len z ps kind=>exact bsliceC_ok e sz len z ps kind
 | call f=>exact callC_ok f
 | callv=>exact callvC_ok
 | invoke tab=>exact invC_ok tab
 | _=>exact Gb rfl
/-! operands that name earlier operations: moves leave no value of their own -/
def resO (al : List Sn) (m : Nat) : Sn→Option Sn
 | .loc d=>match al[d]? with
  | some (.loc i)=>if i < m then some (.loc (m - 1 - i)) else none
  | x=>x
 | x=>some x
def Jp (al : List Sn) (m : Nat) : List Sn→Option (List Sn)
 | []=>some []
 | x :: l=>match resO al m x,Jp al m l with
  | some y,some r=>some (y :: r)
  | _,_=>none
def alV (dv env : List D) (m : Nat) : Sn→D
 | .env j=>env.getD j .undef
 | .const c=>c
 | .loc i=>dv.getD (m - 1 - i) .undef
structure ALR (al : List Sn) (m : Nat) (vals dv env : List D) : Prop where
 len : dv.length = m
 all : al.length = vals.length
 eq : ∀ (d : Nat) (x : Sn),al[d]? = some x→vals.getD d .undef = alV dv env m x
 lt : ∀ (d i : Nat),al[d]? = some (Sn.loc i)→i < m
theorem ALR.res {al : List Sn} {m : Nat} {vals dv env : List D} (h : ALR al m vals dv env) {o o' : Sn} (ho : resO al m o = some o') : opd dv env o' = opd vals env o:=by
 cases o with
 | env j=>simp only [resO,Oi] at ho; subst ho; rfl
 | const c=>simp only [resO,Oi] at ho; subst ho; rfl
 | loc d =>
  simp only [resO] at ho
  split at ho
  ·
   next i hi =>
   split at ho
   ·
    injection ho with ho; subst ho
    have:=h.eq d _ hi
    simp only [alV] at this
    simp only [opd,this]
   ·
    simp at ho
  ·
   next x hx =>
   have:=h.eq d _ ho
   cases o' with
   | loc i=>exact absurd ho (hx i)
   | env j=>simp only [alV] at this; simp only [opd,this]
   | const c=>simp only [alV] at this; simp only [opd,this]
theorem ALR.ress {al : List Sn} {m : Nat} {vals dv env : List D} (h : ALR al m vals dv env) : ∀ {l l' : List Sn},Jp al m l = some l'→l'.map (opd dv env) = l.map (opd vals env)
 | [],l',e=>by simp only [Jp,Oi] at e; subst e; rfl
 | x :: l, l', e => by
  simp only [Jp] at e
  split at e
  ·
   next y r h1 h2 =>
   injection e with e; subst e
   simp only [List.map_cons,h.res h1,h.ress h2]
  ·
   simp at e
theorem ALR.push {al : List Sn} {m : Nat} {vals dv env : List D} (h : ALR al m vals dv env) (r : D) : ALR (.loc m :: al) (m + 1) (r :: vals) (r :: dv) env := by
  refine ⟨by simp [h.len],by simp [h.all],fun d x hx=>?_,fun d i hi=>?_⟩
  · cases d with
    | zero =>
      simp only [Lz,Oi] at hx; subst hx
      simp [alV]
    | succ d =>
      rw [Ls_] at hx
      rw [List.getD_cons_succ,h.eq d x hx]
      cases x with
      | loc i =>
        have hi:=h.lt d i hx
        simp only [alV]
        rw [show m + 1 - 1 - i = (m - 1 - i) + 1 by omega,List.getD_cons_succ]
      | env j=>rfl
      | const c=>rfl
  · cases d with
    | zero=>simp only [Lz,Oi,Sn.loc.injEq] at hi; omega
    | succ d=>rw [Ls_] at hi; have:=h.lt d i hi; omega
def mvO (al : List Sn) : Sn→Option Sn
 | .loc d=>al[d]?
 | x=>some x
theorem ALR.alias {al : List Sn} {m : Nat} {vals dv env : List D} (h : ALR al m vals dv env) {o x : Sn} (ho : mvO al o = some x) : ALR (x :: al) m (opd vals env o :: vals) dv env:=by
  refine ⟨h.len,by simp [h.all],fun d y hy=>?_,fun d i hi=>?_⟩
  · cases d with
    | zero =>
      simp only [Lz,Oi] at hy; subst hy
      rw [List.getD_cons_zero]
      cases o with
      | loc d=>exact h.eq d x ho
      | env j=>simp only [mvO,Oi] at ho; subst ho; rfl
      | const c=>simp only [mvO,Oi] at ho; subst ho; rfl
    | succ d=>rw [Ls_] at hy; rw [List.getD_cons_succ]; exact h.eq d y hy
  · cases d with
    | zero =>
      simp only [Lz,Oi] at hi; subst hi
      cases o with
      | loc d=>exact h.lt d i ho
      | env j=>simp [mvO] at ho
      | const c=>simp [mvO] at ho
    | succ d=>rw [Ls_] at hi; exact h.lt d i hi

structure OC where
 f : Io→List D→ET→St→(ET→St→Ans)→Ans
noncomputable def noOC : OC:=⟨fun _ _ _ _ _=>none⟩
def D.gv : D→Nat
 | .bool false=>0
 | .bool true=>1
 | .skip=>2
 | _=>3
noncomputable def gK (b : Bool) (x : D) (on off : Ans) : Ans :=
 Nat.rec (motive:=fun _=>Ans) (Bool.rec (motive:=fun _=>Ans) on off b) (fun m _=>Nat.rec (motive:=fun _=>Ans) (Bool.rec (motive:=fun _=>Ans) off on b) (fun m _=>Nat.rec (motive:=fun _=>Ans) off (fun _ _=>none) m) m) x.gv
theorem gK_some {b : Bool} {x : D} {on off : Ans} {a : D × St × Bool} (h : gK b x on off = some a) {vals : List D} {d : Nat} (hx : vals.getD d .undef = x) : (onG vals (some (d,b)) = some true∧on = some a) ∨ (onG vals (some (d,b)) = some false∧off = some a):=by
 unfold gK at h
 cases x with
 | bool c=>cases c<;>cases b<;>first | exact .inl ⟨by simp only [onG,hx]; rfl,h⟩ | exact .inr ⟨by simp only [onG,hx]; rfl,h⟩
 | skip=>exact .inr ⟨by simp only [onG,hx],h⟩
 | _=>exact absurd h (by simp [D.gv])
section
variable (n : Nat)
noncomputable def opK (op : LOp) (A : List Sn) (rest : OC) : OC:=⟨fun c dv t S k=>(asC n A).f dv t fun xs=>(lC op).f c xs S fun r S' _=>rest.f c (r :: dv) t S' k⟩
noncomputable def opsC (ops : List Sm) (fin : List Sn→Nat→OC) : List Sn→Nat→OC :=
 List.rec (motive:=fun _=>List Sn→Nat→OC) fin (fun o _ ih al m=>match o.guard with
  | none=>match o.op,o.args with
   | .mv,[x]=>(match mvO al x with | some y=>ih (y :: al) m | none=>noOC)
   | op,args=>(match Jp al m args with | some A=>opK n op A (ih (.loc m :: al) (m + 1)) | none=>noOC)
  | some (d,b)=>match resO al m (.loc d),Jp al m o.args with
   | some g,some A=>⟨fun c dv t S k=>(odC n g).f dv t fun x=>gK b x ((opK n o.op A (ih (.loc m :: al) (m + 1))).f c dv t S k) ((ih (.loc m :: al) (m + 1)).f c (.skip :: dv) t S k)⟩
   | _,_=>noOC) ops
theorem opK_some {op : LOp} {A : List Sn} {rest : OC} {c : Io} {cs : Bi} (hc : CKs c cs) {dv env : List D} {t : ET} (hR : ETR n t env) {S : St} {k : ET→St→Ans} {a : D × St × Bool} (h : (opK n op A rest).f c dv t S k = some a) :
  ∃ r S' w,Aw cs op (A.map (opd dv env)) S = some (r,S',w)∧rest.f c (r :: dv) t S' k = some a:=by
 have h1:=Mr (k:=fun xs=>(lC op).f c xs S fun r S' _=>rest.f c (r :: dv) t S' k) hR A h
 exact lC_ok op c cs hc _ _ _ _ h1
theorem Js {fin : List Sn → Nat → OC} {c : Io} {cs : Bi} (hc : CKs c cs) {env : List D} {t : ET} (hR : ETR n t env) {k : ET → St → Ans} {a : D × St × Bool} {P : List D → St → Prop}
    (hf : ∀ al m vals dv S,ALR al m vals dv env→(fin al m).f c dv t S k = some a→P vals S) :
    ∀ (ops : List Sm) {al : List Sn} {m : Nat} {vals dv : List D} {S : St},ALR al m vals dv env→(opsC n ops fin al m).f c dv t S k = some a→∃ vals' S',Gl cs ops vals env S = some (vals',S')∧P vals' S'
  | [],al,m,vals,dv,S,hA,h=>⟨vals,S,rfl,hf al m vals dv S hA h⟩
  | o :: os, al, m, vals, dv, S, hA, h => by
    obtain ⟨op,args,guard,ord,ho⟩:=o
    cases guard with
    | none =>
      have gen : ∀ A,Jp al m args = some A→(opK n op A (opsC n os fin (.loc m :: al) (m + 1))).f c dv t S k = some a→∃ vals' S',Gl cs (⟨op,args,none,ord,ho⟩ :: os) vals env S = some (vals',S')∧P vals' S':=by
        intro A hA' h'
        obtain ⟨r,S',w,h1,h2⟩:=opK_some n hc hR h'
        rw [hA.ress hA'] at h1
        obtain ⟨vals',S2,h3,h4⟩:=Js hc hR hf os (hA.push r) h2
        exact ⟨vals',S2,by simp only [Gl,onG,h1]; exact h3,h4⟩
      have key : ∀ (op' : LOp) (args' : List Sn),op' = op→args' = args→((match op',args' with
          | .mv,[x]=>(match mvO al x with | some y=>opsC n os fin (y :: al) m | none=>noOC)
          | op,args=>(match Jp al m args with | some A=>opK n op A (opsC n os fin (.loc m :: al) (m + 1)) | none=>noOC) : OC)).f c dv t S k = some a→∃ vals' S',Gl cs (⟨op,args,none,ord,ho⟩ :: os) vals env S = some (vals',S')∧P vals' S':=by
        intro op' args' e1 e2 h'
        split at h'
        · next x =>
          subst e1 e2
          split at h'
          · next y hy =>
            obtain ⟨vals',S2,h3,h4⟩:=Js hc hR hf os (hA.alias hy) h'
            exact ⟨vals',S2,by simp only [Gl,onG,List.map_cons,List.map_nil,Aw,aop,LOp.loud,pop,Option.map_some,Bool.false_eq_true,if_false]; exact h3,h4⟩
          · exact absurd h' (by simp [noOC])
        · split at h'
          · next A hA' =>
            subst e1 e2
            exact gen A hA' h'
          · exact absurd h' (by simp [noOC])
      exact key op args rfl rfl h
    | some g =>
      obtain ⟨d,b⟩:=g
      have h : (match resO al m (.loc d),Jp al m args with
        | some g,some A=>(⟨fun c dv t S k=>(odC n g).f dv t fun x=>gK b x ((opK n op A (opsC n os fin (.loc m :: al) (m + 1))).f c dv t S k) ((opsC n os fin (.loc m :: al) (m + 1)).f c (.skip :: dv) t S k)⟩ : OC)
        | _,_=>noOC).f c dv t S k = some a:=h
      split at h
      · next g A hg hA' =>
        have h1:=Lv (k:=fun x=>gK b x ((opK n op A (opsC n os fin (.loc m :: al) (m + 1))).f c dv t S k) ((opsC n os fin (.loc m :: al) (m + 1)).f c (.skip :: dv) t S k)) hR h
        rw [hA.res hg] at h1
        rcases gK_some h1 (vals:=vals) (d:=d) rfl with ⟨h2,h3⟩ | ⟨h2,h3⟩
        · obtain ⟨r, S', w, h4, h5⟩ := opK_some n hc hR h3
          rw [hA.ress hA'] at h4
          obtain ⟨vals',S2,h6,h7⟩:=Js hc hR hf os (hA.push r) h5
          exact ⟨vals',S2,by simp only [Gl,h2,h4]; exact h6,h7⟩
        · obtain ⟨vals', S2, h6, h7⟩ := Js hc hR hf os (hA.push .skip) h3
          exact ⟨vals',S2,by simp only [Gl,h2]; exact h6,h7⟩
      · exact absurd h (by simp [noOC])

/-! regions that draw their order -/
def fqs (l : List (Option FP)) : List FP:=l.map fun o=>o.getD Ai
noncomputable def okR (x : FP) (fs : List (Option FP)) : List Bool→Bool :=
 List.rec (motive:=fun _=>List Bool→Bool) (fun bs=>List.rec (motive:=fun _=>Bool) true (fun _ _ _=>false) bs)
  (fun f _ ih bs=>List.rec (motive:=fun _=>Bool) false (fun b t _=>Bool.rec (motive:=fun _=>Bool) false (ih t) (Option.rec (motive:=fun _=>Bool) true (fun g=>Al b g x) f)) bs) fs
theorem okPair_quiet (b : Bool) (x : FP) : Al b Ai x = true:=by
 unfold Al
 split<;>simp_all [Ai,Az,Ba]
theorem okR_ok (x : FP) : ∀ (fs : List (Option FP)) (bs : List Bool),okR x fs bs = true→Bp bs (fqs fs) x = true
 | [],[],h=>rfl
 | [],b :: bs,h=>by simp [okR] at h
 | f :: fs,[],h=>by simp [okR] at h
 | f :: fs, b :: bs, h => by
  have h : Bool.rec (motive:=fun _=>Bool) false (okR x fs bs) (Option.rec (motive:=fun _=>Bool) true (fun g=>Al b g x) f) = true:=h
  have key : Al b (f.getD Ai) x = true∧okR x fs bs = true:=by
   cases f with
   | none=>exact ⟨okPair_quiet b x,h⟩
   | some g =>
    have h : Bool.rec (motive:=fun _=>Bool) false (okR x fs bs) (Al b g x) = true:=h
    cases e : Al b g x with
    | true=>rw [e] at h; exact ⟨e,h⟩
    | false=>rw [e] at h; simp at h
  have:=okR_ok x fs bs key.2
  show (Al b (f.getD Ai) x && Bp bs (fqs fs) x) = true
  rw [key.1,this]; rfl
structure FC where
 f : List D→D→Bool→FP
def fpC : LOp→FC
 | .load ..=>⟨fun ds r wr=>match ds with
  | [.ptr g _ _ _]=>Ak [g]
  | _=>Ak []⟩
 | .store ..=>⟨fun ds r wr=>match ds with
  | [.ptr g _ _ _,x]=>if Sv x then ⟨true,some [g],some [g],false,none⟩ else Bg wr
  | _=>Bg wr⟩
 | .Ti ..=>⟨fun ds r wr=>match ds with
  | [.msl g _ _ _ _,_]=>Ak [g]
  | _=>Ak []⟩
 | .call _=>⟨fun _ _ wr=>Bg wr⟩
 | .callv=>⟨fun _ _ wr=>Bg wr⟩
 | .invoke _=>⟨fun _ _ wr=>Bg wr⟩
 | op=>⟨Ec op⟩
theorem fpC_eq (op : LOp) : (fpC op).f = Ec op:=by
 cases op<;>rfl
def quietB (op : LOp) : Bool:=!op.loud
theorem quiet_fp {op : LOp} (h : quietB op = true) (ds : List D) (r : D) (wr : Bool) : Ec op ds r wr = Ai:=by
 have h : op.loud = false:=by simpa [quietB] using h
 cases op with
 | slice st sz lo hi mx=>cases st<;>first | rfl | (simp [LOp.loud] at h)
 | _=>first | rfl | (simp [LOp.loud] at h)
structure DC where
 f : Io→Nat→List (Option FP)→List D→ET→St→(ET→St→Ans)→Ans
noncomputable def noDC : DC:=⟨fun _ _ _ _ _ _ _=>none⟩
noncomputable def opD (news : List (TypeId × List D)) (o : Sm) (q : Nat) (A : List Sn) (rest : DC) : DC :=
 match o.hoist with
 | some h=>⟨fun c n0 fq dv t S k=>(asC n A).f dv t fun xs=>(lC o.op).f c xs S fun r S' _=>frc (Nat.add n0 h) fun g=>ifA (okR ⟨false,some [],some [],false,some g⟩ fq o.ord) (rest.f c n0 (some ⟨false,some [],some [],false,some g⟩ :: fq) (r :: dv) t S' k) none⟩
 | none=>if quietB o.op && o.ord.length == q then ⟨fun c n0 fq dv t S k=>(asC n A).f dv t fun xs=>(lC o.op).f c xs S fun r S' _=>rest.f c n0 (none :: fq) (r :: dv) t S' k⟩
  else ⟨fun c n0 fq dv t S k=>(asC n A).f dv t fun xs=>(lC o.op).f c xs S fun r S' w=>(fun fp=>ifA (okR fp fq o.ord) (ifA (fp.writes.isSome || Aq n0 (Cs o.ord (fqs fq)) S'.heap news 0) (rest.f c n0 (some fp :: fq) (r :: dv) t S' k) none) none) ((fpC o.op).f xs r w)⟩
theorem opD_some {news : List (TypeId × List D)} {o : Sm} {q : Nat} {A : List Sn} {rest : DC} {c : Io} {cs : Bi} (hc : CKs c cs) {dv env : List D} {t : ET} (hR : ETR n t env) {S : St} {k : ET → St → Ans} {a : D × St × Bool} {n0 : Nat} {fq : List (Option FP)} (hq : fq.length = q)
    (h : (opD n news o q A rest).f c n0 fq dv t S k = some a) :
    ∃ r S' w f,Aw cs o.op (A.map (opd dv env)) S = some (r,S',w)∧f.getD Ai = Bd n0 o (A.map (opd dv env)) r w∧Am n0 news o (fqs fq) (Bd n0 o (A.map (opd dv env)) r w) S' = true∧rest.f c n0 (f :: fq) (r :: dv) t S' k = some a:=by
  obtain ⟨op,args,guard,ord,ho⟩:=o
  unfold opD at h
  dsimp only at h
  cases ho with
  | some g =>
    dsimp only at h
    have h1:=Mr (k:=fun xs=>(lC op).f c xs S fun r S' _=>frc (Nat.add n0 g) fun g=>ifA (okR ⟨false,some [],some [],false,some g⟩ fq ord) (rest.f c n0 (some ⟨false,some [],some [],false,some g⟩ :: fq) (r :: dv) t S' k) none) hR A h
    obtain ⟨r,S',w,h2,h3⟩:=lC_ok op c cs hc _ _ _ _ h1
    rw [I5,Dc] at h3
    split at h3
    · next hk=>exact ⟨r,S',w,_,h2,rfl,by show (Bp ord (fqs fq) ⟨false,some [],some [],false,some (Nat.add n0 g)⟩ && _) = true; rw [okR_ok _ _ _ hk]; rfl,h3⟩
    · simp at h3
  | none =>
    dsimp only at h
    split at h
    · next hquiet =>
      simp only [Bool.and_eq_true,beq_iff_eq] at hquiet
      have h1:=Mr (k:=fun xs=>(lC op).f c xs S fun r S' _=>rest.f c n0 (none :: fq) (r :: dv) t S' k) hR A h
      obtain ⟨r,S',w,h2,h3⟩:=lC_ok op c cs hc _ _ _ _ h1
      have e : Bd n0 ⟨op,args,guard,ord,none⟩ (A.map (opd dv env)) r w = Ai:=quiet_fp hquiet.1 _ _ _
      refine ⟨r,S',w,none,h2,e.symm,?_,h3⟩
      rw [e]
      simp only [Am]
      rw [Kn ord (fqs fq) (by simp [fqs,hquiet.2,hq])]; rfl
    · have h1 := Mr (k := fun xs => (lC op).f c xs S fun r S' w => (fun fp => ifA (okR fp fq ord) (ifA (fp.writes.isSome || Aq n0 (Cs ord (fqs fq)) S'.heap news 0) (rest.f c n0 (some fp :: fq) (r :: dv) t S' k) none) none) ((fpC op).f xs r w)) hR A h
      obtain ⟨r,S',w,h2,h3⟩:=lC_ok op c cs hc _ _ _ _ h1
      rw [fpC_eq] at h3
      dsimp only at h3
      rw [Dc] at h3
      split at h3
      · next hk =>
        rw [Dc] at h3
        split at h3
        · next hs=>exact ⟨r,S',w,some _,h2,rfl,by simp only [Am,Bd]; rw [okR_ok _ _ _ hk,hs]; rfl,h3⟩
        · simp at h3
      · simp at h3
def mvB (o : Sm) (q : Nat) : Bool:=match o.op,o.args,o.guard,o.hoist with
 | .mv,[_],none,none=>o.ord.length == q
 | _,_,_,_=>false
noncomputable def opsD (news : List (TypeId × List D)) (ops : List Sm) (fin : List Sn→Nat→OC) : List Sn→Nat→Nat→DC :=
 List.rec (motive:=fun _=>List Sn→Nat→Nat→DC) (fun al m _=>⟨fun c _ _ dv t S k=>(fin al m).f c dv t S k⟩) (fun o _ ih al m q =>
  if mvB o q then (match o.args with | [x]=>(match mvO al x with | some y=>⟨fun c n0 fq dv t S k=>(ih (y :: al) m (q + 1)).f c n0 (none :: fq) dv t S k⟩ | none=>noDC) | _=>noDC)
  else match o.guard with
  | none=>(match Jp al m o.args with | some A=>opD n news o q A (ih (.loc m :: al) (m + 1) (q + 1)) | none=>noDC)
  | some (d,b)=>match resO al m (.loc d),Jp al m o.args with
   | some g,some A=>⟨fun c n0 fq dv t S k=>(odC n g).f dv t fun x=>gK b x ((opD n news o q A (ih (.loc m :: al) (m + 1) (q + 1))).f c n0 fq dv t S k) ((ih (.loc m :: al) (m + 1) (q + 1)).f c n0 (none :: fq) (.skip :: dv) t S k)⟩
   | _,_=>noDC) ops
theorem Jr {news : List (TypeId × List D)} {fin : List Sn → Nat → OC} {c : Io} {cs : Bi} (hc : CKs c cs) {env : List D} {t : ET} (hR : ETR n t env) {k : ET → St → Ans} {a : D × St × Bool} {n0 : Nat} {P : List D → St → Prop}
    (hf : ∀ al m vals dv S,ALR al m vals dv env→(fin al m).f c dv t S k = some a→P vals S) :
    ∀ (ops : List Sm) {al : List Sn} {m q : Nat} {vals dv : List D} {S : St} {fq : List (Option FP)},ALR al m vals dv env→fq.length = q→(opsD n news ops fin al m q).f c n0 fq dv t S k = some a→∃ vals' S',Im cs n0 news ops (fqs fq) vals env S = some (vals',S')∧P vals' S'
  | [],al,m,q,vals,dv,S,fq,hA,hq,h=>⟨vals,S,rfl,hf al m vals dv S hA h⟩
  | o :: os, al, m, q, vals, dv, S, fq, hA, hq, h => by
    have h : (if mvB o q then (match o.args with | [x]=>(match mvO al x with | some y=>(⟨fun c n0 fq dv t S k=>(opsD n news os fin (y :: al) m (q + 1)).f c n0 (none :: fq) dv t S k⟩ : DC) | none=>noDC) | _=>noDC)
      else match o.guard with
      | none=>(match Jp al m o.args with | some A=>opD n news o q A (opsD n news os fin (.loc m :: al) (m + 1) (q + 1)) | none=>noDC)
      | some (d, b) => match resO al m (.loc d), Jp al m o.args with
        | some g,some A=>⟨fun c n0 fq dv t S k=>(odC n g).f dv t fun x=>gK b x ((opD n news o q A (opsD n news os fin (.loc m :: al) (m + 1) (q + 1))).f c n0 fq dv t S k) ((opsD n news os fin (.loc m :: al) (m + 1) (q + 1)).f c n0 (none :: fq) (.skip :: dv) t S k)⟩
        | _,_=>noDC).f c n0 fq dv t S k = some a:=h
    split at h
    · next hmv =>
      obtain ⟨op,args,guard,ord,ho⟩:=o
      unfold mvB at hmv
      dsimp only at hmv h
      split at hmv
      · next x h1 =>
        dsimp only at h1
        split at h1
        · next y hy =>
          obtain ⟨vals',S2,h3,h4⟩:=Jr hc hR hf os (fq:=none :: fq) (hA.alias hy) (by simp [hq]) h1
          refine ⟨vals',S2,?_,h4⟩
          have hl : ord.length = q:=by simpa using hmv
          have hok : ∀ S : St,Am n0 news ⟨.mv,[x],none,ord,none⟩ (fqs fq) Ai S = true:=fun S=>by
            simp only [Am]; rw [Kn ord (fqs fq) (by simp [fqs,hl,hq])]; rfl
          have hfp : ∀ ds r,Bd n0 ⟨.mv,[x],none,ord,none⟩ ds r false = Ai:=fun _ _=>rfl
          simp only [Im,onG,List.map_cons,List.map_nil,Aw,aop,LOp.loud,pop,Option.map_some,Bool.false_eq_true,if_false,hfp,hok,if_true]
          exact h3
        · exact absurd h1 (by simp [noDC])
      · simp at hmv
    · split at h
      · next hg =>
        split at h
        · next A hA' =>
          obtain ⟨r,S',w,f,h1,h2,h3,h4⟩:=opD_some n hc hR hq h
          rw [hA.ress hA'] at h1 h2 h3
          obtain ⟨vals',S2,h5,h6⟩:=Jr hc hR hf os (fq:=f :: fq) (hA.push r) (by simp [hq]) h4
          refine ⟨vals',S2,?_,h6⟩
          have e : fqs (f :: fq) = Bd n0 o (o.args.map (opd vals env)) r w :: fqs fq:=by rw [← h2]; rfl
          rw [e] at h5
          simp only [Im,hg,onG,h1,h3,if_true]
          exact h5
        · exact absurd h (by simp [noDC])
      · next d b hg =>
        split at h
        · next g A hg' hA' =>
          have h1:=Lv (k:=fun x=>gK b x ((opD n news o q A (opsD n news os fin (.loc m :: al) (m + 1) (q + 1))).f c n0 fq dv t S k) ((opsD n news os fin (.loc m :: al) (m + 1) (q + 1)).f c n0 (none :: fq) (.skip :: dv) t S k)) hR h
          rw [hA.res hg'] at h1
          rcases gK_some h1 (vals:=vals) (d:=d) rfl with ⟨h2,h3⟩ | ⟨h2,h3⟩
          · obtain ⟨r, S', w, f, h4, h5, h6, h7⟩ := opD_some n hc hR hq h3
            rw [hA.ress hA'] at h4 h5 h6
            obtain ⟨vals',S2,h8,h9⟩:=Jr hc hR hf os (fq:=f :: fq) (hA.push r) (by simp [hq]) h7
            refine ⟨vals',S2,?_,h9⟩
            have e : fqs (f :: fq) = Bd n0 o (o.args.map (opd vals env)) r w :: fqs fq:=by rw [← h5]; rfl
            rw [e] at h8
            simp only [Im,hg,h2,h4,h6,if_true]
            exact h8
          · obtain ⟨vals', S2, h8, h9⟩ := Jr hc hR hf os (fq := none :: fq) (hA.push .skip) (by simp [hq]) h3
            refine ⟨vals',S2,?_,h9⟩
            simp only [Im,hg,h2]
            exact h8
        · exact absurd h (by simp [noDC])

/-! exports -/
structure EC where
 f : List D→ET→ET→(ET→Ans)→Ans
noncomputable def exL (exps : List (Nat × Nat)) (al : List Sn) (m : Nat) : EC :=
 List.rec (motive:=fun _=>EC) ⟨fun _ _ t k=>k t⟩ (fun p _ ih=>match resO al m (.loc p.2) with
  | some o=>if p.1 < n then ⟨fun dv t0 t k=>(odC n o).f dv t0 fun x=>(setC (path p.1)).f x t fun t'=>ih.f dv t0 t' k⟩ else ⟨fun _ _ _ _=>none⟩
  | none=>⟨fun _ _ _ _=>none⟩) exps
theorem exL_some {al : List Sn} {m : Nat} {vals dv env : List D} {t0 : ET} (hA : ALR al m vals dv env) (hR : ETR n t0 env) : ∀ (exps : List (Nat × Nat)) {t : ET} {env1 : List D} {k : ET→Ans} {a : D × St × Bool},ETR n t env1→(exL n exps al m).f dv t0 t k = some a→∃ t',ETR n t' (exports exps vals env1)∧k t' = some a
 | [],t,env1,k,a,h1,h=>⟨t,h1,h⟩
 | (j, d) :: es, t, env1, k, a, h1, h => by
  have h : (match resO al m (.loc d) with
   | some o=>if j < n then (⟨fun dv t0 t k=>(odC n o).f dv t0 fun x=>(setC (path j)).f x t fun t'=>(exL n es al m).f dv t0 t' k⟩ : EC) else ⟨fun _ _ _ _=>none⟩
   | none=>⟨fun _ _ _ _=>none⟩).f dv t0 t k = some a:=h
  split at h
  ·
   next o ho =>
   split at h
   ·
    next hj =>
    have h2:=Lv (k:=fun x=>(setC (path j)).f x t fun t'=>(exL n es al m).f dv t0 t' k) hR h
    rw [hA.res ho] at h2
    have h3:=M3 (path j) (k:=fun t'=>(exL n es al m).f dv t0 t' k) h2
    exact exL_some hA hR es (h1.set hj _) h3
   ·
    simp at h
  ·
   simp at h
noncomputable def finC (exps : List (Nat × Nat)) (al : List Sn) (m : Nat) : OC:=⟨fun _ dv t S k=>(exL n exps al m).f dv t t fun t'=>k t' S⟩

/-! code -/
structure CC where
 f : Io→ET→St→(ET→St→Ans)→(Sr→ET→St→Ans)→Ans
noncomputable def blkX (i : Nat) (kn : ET→St→Ans) (kx : Sr→ET→St→Ans) (x : Sr) (t : ET) (S : St) : Ans :=
 Sr.rec (motive:=fun _=>Ans) none (kx .ret t S) (fun j=>ifA (Nat.beq j i) (kn t S) (kx (.exit j) t S)) x
noncomputable def loopX (b : CC) (c : Io) (kx : Sr→ET→St→Ans) (N : Nat) : ET→St→Ans :=
 Nat.rec (motive:=fun _=>ET→St→Ans) (fun _ _=>none) (fun _ ih t S=>b.f c t S ih kx) N
noncomputable def newsK (H : List Sk) (news : List (TypeId × List D)) : St→(St→Ans)→Ans :=
 List.rec (motive:=fun _=>St→(St→Ans)→Ans) (fun S k=>k S) (fun p _ ih S k=>newK S (Ew p) fun _ S'=>ih S' k) news
theorem newsK_some {H : List Sk} : ∀ (news : List (TypeId × List D)) {S : St} {k : St→Ans} {a : D × St × Bool},newsK H news S k = some a→k ⟨S.heap ++ news.map Ew,S.low⟩ = some a
 | [],S,k,a,h=>by
  have h : k S = some a:=h
  simpa using h
 | p :: l,S,k,a,h=>by
  have h1:=Ju (k:=fun _ S'=>newsK H l S' k) h
  have h2:=newsK_some l h1
  simpa [newAt] using h2
noncomputable def ptrsK (n0 : Nat) (k : Nat) (dv : List D) : (List D→Ans)→Ans :=
 Nat.rec (motive:=fun _=>(List D→Ans)→Ans) (fun kk=>kk dv) (fun j ih kk=>ih fun l=>frc (Nat.add n0 j) fun g=>kk (.ptr g 0 0 0 :: l)) k
theorem ptrsK_some (n0 : Nat) : ∀ (j : Nat) {kk : List D→Ans} {a : D × St × Bool},ptrsK n0 j [] kk = some a→kk (Db n0 j) = some a
 | 0,kk,a,h=>h
 | j + 1, kk, a, h => by
  have h1:=ptrsK_some n0 j (kk:=fun l=>frc (Nat.add n0 j) fun g=>kk (.ptr g 0 0 0 :: l)) h
  rw [I5] at h1
  have e : Db n0 (j + 1) = .ptr (n0 + j) 0 0 0 :: Db n0 j:=by
   simp [Db,List.range_succ]
  rw [e]; exact h1
def Nw (k : Nat) : List Sn:=((List.range k).map Sn.loc).reverse
theorem newsAl_at (k d : Nat) (x : Sn) (h : (Nw k)[d]? = some x) : d < k∧x = .loc (k - 1 - d):=by
 have hd : d < k:=by
  have:=(List.getElem?_eq_some_iff.1 h).1
  simpa [Nw] using this
 refine ⟨hd,?_⟩
 rw [Nw,List.getElem?_reverse (by simpa using hd)] at h
 simp only [List.length_map,List.length_range,Lp_] at h
 rw [List.getElem?_range (by omega)] at h
 simpa using h.symm
theorem newsALR (n0 k : Nat) (env : List D) : ALR (Nw k) k (Db n0 k) (Db n0 k) env:=by
  refine ⟨by simp [Db],by simp [Nw,Db],fun d x hx=>?_,fun d i hi=>?_⟩
  · obtain ⟨hd, rfl⟩ := newsAl_at k d x hx
    simp only [alV]
    rw [show k - 1 - (k - 1 - d) = d by omega]
  · obtain ⟨hd, h⟩ := newsAl_at k d _ hi
    injection h with h; omega
noncomputable def condV (o : Sn) : OdC:=odC n o
noncomputable def K8 (N : Nat) (c : Sq) : CC :=
 Sq.rec (motive:=fun _=>CC) ⟨fun _ t S kn _=>kn t S⟩ ⟨fun _ t S _ kx=>kx .ret t S⟩ (fun i=>⟨fun _ t S _ kx=>kx (.exit i) t S⟩)
  (fun ops exps=>⟨fun c t S kn _=>(opsC n ops (finC n exps) [] 0).f c [] t S kn⟩)
  (fun ops exps news=>⟨fun c t S kn _=>frc (Jw S.heap) fun n0=>newsK [] news S fun S'=>ptrsK n0 news.length [] fun dv=>(opsD n news ops (finC n exps) (Nw news.length) news.length 0).f c n0 [] dv t S' kn⟩)
  (fun _ _ A B=>⟨fun c t S kn kx=>A.f c t S (fun t' S'=>B.f c t' S' kn kx) kx⟩)
  (fun o _ _ A B=>match o with
   | .loc _=>⟨fun _ _ _ _ _=>none⟩
   | o=>⟨fun c t S kn kx=>(odC n o).f [] t fun x=>bvK x (A.f c t S kn kx) (B.f c t S kn kx)⟩)
  (fun i _ A=>⟨fun c t S kn kx=>A.f c t S kn (blkX i kn kx)⟩)
  (fun _ A=>⟨fun c t S _ kx=>loopX A c kx N t S⟩)
  (fun _=>⟨fun _ _ _ _ _=>none⟩)
  ⟨fun _ _ _ _ _=>none⟩ c
def COK (N : Nat) (C : CC) (code : Sq) : Prop:=∀ c cs,CKs c cs→∀ t env S kn kx a,ETR n t env→C.f c t S kn kx = some a →
 ∃ e env' S' t',Bn cs N code env S = some (e,env',S')∧ETR n t' env'∧((e = .normal∧kn t' S' = some a) ∨ (e ≠ .normal∧kx e t' S' = some a))
theorem loopX_some {N0 : Nat} {b : CC} {code : Sq} (hb : COK n N0 b code) {c : Io} {cs : Bi} (hc : CKs c cs) {kx : Sr→ET→St→Ans} {a : D × St × Bool} : ∀ (N : Nat) {t : ET} {env : List D} {S : St},ETR n t env→loopX b c kx N t S = some a →
    ∃ e env' S' t',Gp (Bn cs N0 code) N env S = some (e,env',S')∧ETR n t' env'∧e ≠ .normal∧kx e t' S' = some a
  | 0,t,env,S,hR,h=>by simp [loopX] at h
  | N + 1, t, env, S, hR, h => by
    have h : b.f c t S (loopX b c kx N) kx = some a:=h
    obtain ⟨e,env',S',t',h1,h2,h3⟩:=hb c cs hc t env S _ kx a hR h
    rcases h3 with ⟨rfl,h3⟩ | ⟨he,h3⟩
    · obtain ⟨e2, env2, S2, t2, h4, h5, h6, h7⟩ := loopX_some hb hc N h2 h3
      exact ⟨e2,env2,S2,t2,by simp only [Gp,h1]; exact h4,h5,h6,h7⟩
    · refine ⟨e, env', S', t', ?_, h2, he, h3⟩
      simp only [Gp,h1]
      cases e<;>first | rfl | (exact absurd rfl he)
theorem I8 (N : Nat) : ∀ code : Sq, COK n N (K8 n N code) code
  | .skip=>fun c cs hc t env S kn kx a hR h=>⟨_,_,_,t,rfl,hR,.inl ⟨rfl,h⟩⟩
  | .ret=>fun c cs hc t env S kn kx a hR h=>⟨_,_,_,t,rfl,hR,.inr ⟨by simp,h⟩⟩
  | .exit i=>fun c cs hc t env S kn kx a hR h=>⟨_,_,_,t,rfl,hR,.inr ⟨by simp,h⟩⟩
  | .region ops exps => fun c cs hc t env S kn kx a hR h => by
    have h : (opsC n ops (finC n exps) [] 0).f c [] t S kn = some a:=h
    obtain ⟨vals',S',h1,t',h2,h3⟩:=Js n hc hR (P:=fun vals S'=>∃ t',ETR n t' (exports exps vals env)∧kn t' S' = some a)
      (fun al m vals dv S hA hf=>exL_some n hA hR exps (k:=fun t'=>kn t' S) hR hf) ops (al:=[]) (m:=0) (vals:=[]) (dv:=[]) ⟨rfl,rfl,fun d x hx=>by simp at hx,fun d i hi=>by simp at hi⟩ h
    exact ⟨.normal,_,_,t',by simp only [Bn,h1],h2,.inl ⟨rfl,h3⟩⟩
  | .drawn ops exps news => fun c cs hc t env S kn kx a hR h => by
    have h : (frc (Jw S.heap) fun n0=>newsK [] news S fun S'=>ptrsK n0 news.length [] fun dv=>(opsD n news ops (finC n exps) (Nw news.length) news.length 0).f c n0 [] dv t S' kn) = some a:=h
    rw [I5,Ex] at h
    have h1:=ptrsK_some _ _ (newsK_some news h)
    obtain ⟨vals',S',h1,t',h2,h3⟩:=Jr n hc hR (P:=fun vals S'=>∃ t',ETR n t' (exports exps vals env)∧kn t' S' = some a)
      (fun al m vals dv S hA hf=>exL_some n hA hR exps (k:=fun t'=>kn t' S) hR hf) ops (fq:=[]) (newsALR S.heap.length news.length env) rfl h1
    have h1 : Im cs S.heap.length news ops [] (Db S.heap.length news.length) env ⟨S.heap ++ news.map Ew,S.low⟩ = some (vals',S'):=h1
    exact ⟨.normal,_,_,t',by simp only [Bn,h1],h2,.inl ⟨rfl,h3⟩⟩
  | .seq x y => fun c cs hc t env S kn kx a hR h => by
    have h : (K8 n N x).f c t S (fun t' S'=>(K8 n N y).f c t' S' kn kx) kx = some a:=h
    obtain ⟨e,env',S',t',h1,h2,h3⟩:=I8 N x c cs hc t env S _ kx a hR h
    rcases h3 with ⟨rfl,h3⟩ | ⟨he,h3⟩
    · obtain ⟨e2, env2, S2, t2, h4, h5, h6⟩ := I8 N y c cs hc t' env' S' kn kx a h2 h3
      exact ⟨e2,env2,S2,t2,by simp only [Bn,h1]; exact h4,h5,h6⟩
    · refine ⟨e, env', S', t', ?_, h2, .inr ⟨he, h3⟩⟩
      simp only [Bn,h1]
      cases e<;>first | rfl | (exact absurd rfl he)
  | .cond o x y => fun c cs hc t env S kn kx a hR h => by
    have key : (o = o)→(∀ d,o ≠ .loc d)→((odC n o).f [] t fun v=>bvK v ((K8 n N x).f c t S kn kx) ((K8 n N y).f c t S kn kx)) = some a→∃ e env' S' t',Bn cs N (.cond o x y) env S = some (e,env',S')∧ETR n t' env'∧((e = .normal∧kn t' S' = some a) ∨ (e ≠ .normal∧kx e t' S' = some a)):=by
      intro _ ho h
      have h1:=Lv (k:=fun v=>bvK v ((K8 n N x).f c t S kn kx) ((K8 n N y).f c t S kn kx)) hR h
      rcases J9 h1 with ⟨hb,h2⟩ | ⟨hb,h2⟩
      · obtain ⟨e, env', S', t', h3, h4, h5⟩ := I8 N x c cs hc t env S kn kx a hR h2
        exact ⟨e,env',S',t',by simp only [Bn,hb]; exact h3,h4,h5⟩
      · obtain ⟨e, env', S', t', h3, h4, h5⟩ := I8 N y c cs hc t env S kn kx a hR h2
        exact ⟨e,env',S',t',by simp only [Bn,hb]; exact h3,h4,h5⟩
    cases o with
    | loc d=>exact absurd (show (none : Ans) = some a from h) (by simp)
    | env j=>exact key rfl (by simp) h
    | const d=>exact key rfl (by simp) h
  | .block i x => fun c cs hc t env S kn kx a hR h => by
    have h : (K8 n N x).f c t S kn (blkX i kn kx) = some a:=h
    obtain ⟨e,env',S',t',h1,h2,h3⟩:=I8 N x c cs hc t env S kn _ a hR h
    rcases h3 with ⟨rfl,h3⟩ | ⟨he,h3⟩
    · exact ⟨.normal,env',S',t',by simp only [Bn,h1],h2,.inl ⟨rfl,h3⟩⟩
    · cases e with
      | normal=>exact absurd rfl he
      | ret=>exact ⟨.ret,env',S',t',by simp only [Bn,h1],h2,.inr ⟨by simp,h3⟩⟩
      | exit j =>
        have h3 : ifA (Nat.beq j i) (kn t' S') (kx (.exit j) t' S') = some a:=h3
        rw [Dc] at h3
        split at h3
        · next hj=>exact ⟨.normal,env',S',t',by simp only [Bn,h1,Nat.eq_of_beq_eq_true hj,if_true],h2,.inl ⟨rfl,h3⟩⟩
        · next hj =>
          have hj : ¬ j = i:=fun e=>hj (by rw [e]; exact Nat.beq_refl i)
          exact ⟨.exit j,env',S',t',by simp only [Bn,h1,hj,if_false],h2,.inr ⟨by simp,h3⟩⟩
  | .loop x => fun c cs hc t env S kn kx a hR h => by
    obtain ⟨e,env',S',t',h1,h2,h3,h4⟩:=loopX_some n (I8 N x) hc N hR (show loopX (K8 n N x) c kx N t S = some a from h)
    exact ⟨e,env',S',t',by simp only [Bn]; exact h1,h2,.inr ⟨h3,h4⟩⟩
  | .dfr _=>fun c cs hc t env S kn kx a hR h=>by exact absurd (show (none : Ans) = some a from h) (by simp)
  | .fail=>fun c cs hc t env S kn kx a hR h=>by exact absurd (show (none : Ans) = some a from h) (by simp)
end
end Go.Proofs.YtkaedpmmopigkaaGreatDoor

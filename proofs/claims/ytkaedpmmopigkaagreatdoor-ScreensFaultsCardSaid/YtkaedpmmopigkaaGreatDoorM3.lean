/- Proved here: parts of the proof, joined (Lo15, Lo16, LoP, Lo17, LoF, LoG, LoH, LoH2, LoI, LoJ): an abstract machine, its soundness, what functions of the program compute in it; no condition. -/
import Derived.LoopN
import Derived.Scope
import Derived.Recover
import Derived.Test.YtkaedpmmopigkaaGreatDoorM2
namespace Go.Proofs.YtkaedpmmopigkaaGreatDoor
open Go.RowKit
set_option linter.unusedVariables false
set_option linter.unusedSimpArgs false
def Mt:Vn→Exit
 | .normal=>.normal
 | .ret=>.ret
 | .exit i=>.exit i
def dfOf:Value→Deferred
 | .func fn first caps=>⟨.fn fn caps,first⟩
 | _=>⟨.nil,#[]⟩
def DX (w:World) (ρ:Vo) (H:List Vi) (n:Nat) (env:List D) (df:List Deferred):Prop:=n≤env.length∧∃vs,VL w ρ H (env.drop n) vs∧df=(vs.map dfOf).reverse
theorem DX.nil{w:World}{ρ:Vo}{H:List Vi}{n:Nat}{env:List D}(h:env.length=n):DX w ρ H n env []:=⟨by omega,[],by rw[List.drop_eq_nil_of_le (by omega)];exact .nil,rfl⟩
theorem DX.mono{w w':World}{ρ ρ':Vo}{S S':St}{n:Nat}{env:List D}{df:List Deferred}(hs:Stp w ρ S w' ρ' S')(h:DX w ρ S.heap n env df):DX w' ρ' S'.heap n env df:=by
 obtain⟨h1,vs,h2,h3⟩:=h;exact⟨h1,vs,h2.mono hs,h3⟩
theorem DX.exps{w:World}{ρ:Vo}{H:List Vi}{dsts:List (Option Tmp)}{slots:List Nat}{vals env:List D}{df:List Deferred}(h:DX w ρ H slots.length env df):DX w ρ H slots.length (exports (Il dsts slots 0) vals env) df:=by
 obtain⟨h1,vs,h2,h3⟩:=h;refine⟨by rw[Kb];exact h1,vs,?_,h3⟩;rw[R4 fun p hp=>by have:=Tc p hp;omega];exact h2
theorem DX.push{w:World}{ρ:Vo}{H:List Vi}{n:Nat}{env:List D}{df:List Deferred}{d:D}{v:Value}(h:DX w ρ H n env df)(hv:VR w ρ H d v):DX w ρ H n (env++[d]) (dfOf v::df):=by
 obtain⟨h1,vs,h2,h3⟩:=h;refine⟨by simp;omega,vs++[v],?_,by simp[h3]⟩;rw[List.drop_append_of_le_length h1];exact h2.append (.cons hv .nil)
def CQ (w:World) (ρ:Vo) (S:St) (slots:List Nat) (nt:Nat) (e:Vn) (env':List D) (S':St) (ex:Exit) (a':Act) (w':World):Prop :=
 ∃ρ',Mt e=ex∧Rel w' ρ' S'.heap∧Stp w ρ S w' ρ' S'∧FR w' ρ' S'.heap nt (sig slots [] [] env') a'∧DX w' ρ' S'.heap slots.length env' a'.defers
theorem R5{ops:Array Oper}{t:Tmp}(h:deferOf ops=some t):∃(ys:Array Oper) (o:Oper) (args:Array Operand) (tys:Array TypeId),ops=ys.push o∧o.op=.defer ⟨.value (.tmp t),args,tys⟩∧args.isEmpty=true∧o.guard=none∧o.dst=none:=by
 unfold deferOf at h;split at h
 ·
  rename_i o ho;obtain⟨ys,rfl⟩:=Array.back?_eq_some_iff.1 ho;split at h
  ·
   rename_i c yZ hg hd;obtain⟨ce,args,tys⟩:=c;simp only at h;split at h
   ·
    rename_i t' hc;split at h
    ·
     rename_i ha;simp only[Oi]at h;subst h;exact⟨ys,o,args,tys,rfl,yZ,ha,hg,hd⟩
    simp at h
   simp at h
  simp at h
 simp at h
theorem sig_more{slots:List Nat}{env l:List D}(h:slots.length≤env.length)(t:Nat):sig slots [] [] (env++l) t=sig slots [] [] env t:=by
 unfold sig;simp only[Gb]
 cases hj:idxOf slots t with
 | none=>rfl
 | some j =>
  have:=lt_of_some (Hd hj);simp only[List.getD,La_ (show j<env.length by omega)]
section
variable {P:Program} {call:Bp} {kd:Kd} {nt:Nat} {slots:List Nat} {N:Nat}
theorem Nw {G : Nat → Option (List D)} (zQ : ∀ g row, kd.glob g = some row → G g = some row) (hm : P.follows .mixedOrders = true) (xO : Im P G call) (y7 : Er call) (hs : slots.all (· < nt) = true) :
    ∀ (c : Code) (lc : Vm) (env : List D) (S : St) (e : Vn) (env' : List D) (S' : St) (a : Act) (w : World) (ρ : Vo) (Q : Exit → Act → World → Prop), Db P kd nt slots c = some lc → Cj call N lc env S = some (e, env', S') → DX w ρ S.heap slots.length env a.defers → Rel w ρ S.heap → ρ.X.G = G → FR w ρ S.heap nt (sig slots [] [] env) a →
      (∀ex a' w',CQ w ρ S slots nt e env' S' ex a' w'→Q ex a' w')→c.wp P Q a w:=by
  intro c
  induction c with
  | skip =>
    intro lc env S e env' S' a w ρ Q hl hx xg hr hG hf hQ;simp only[Db,Oi]at hl;subst hl;simp only[Cj,Oi,Pi_]at hx;obtain⟨rfl,rfl,rfl⟩:=hx;exact wp_skip (hQ _ _ _ ⟨ρ,rfl,hr,Stp.refl _ _ _,hf,xg⟩)
  | ret =>
    intro lc env S e env' S' a w ρ Q hl hx xg hr hG hf hQ;simp only[Db,Oi]at hl;subst hl;simp only[Cj,Oi,Pi_]at hx;obtain⟨rfl,rfl,rfl⟩:=hx;exact wp_ret (hQ _ _ _ ⟨ρ,rfl,hr,Stp.refl _ _ _,hf,xg⟩)
  | exit i =>
    intro lc env S e env' S' a w ρ Q hl hx xg hr hG hf hQ;simp only[Db,Oi]at hl;subst hl;simp only[Cj,Oi,Pi_]at hx;obtain⟨rfl,rfl,rfl⟩:=hx;exact wp_exit (hQ _ _ _ ⟨ρ,rfl,hr,Stp.refl _ _ _,hf,xg⟩)
  | region id ops draw =>
    intro lc env S e env' S' a w ρ Q hl hx xg hr hG hf hQ;simp only[Db]at hl;split at hl
    · rename_i t hdo;split at hl
      · simp at hl
      rename_i vF;obtain rfl:draw=false:=by simpa using vF
      split at hl
      · rename_i lr j hlr hj;simp only[Oi]at hl;subst hl;obtain⟨ys,o,args,tys,rfl,yZ,yw,hog,hod⟩:=R5 hdo;simp only[Array.pop_push,Kq,Bool.false_eq_true,if_false,Om]at hlr;obtain⟨los,uj,rfl⟩:=hlr;simp only[Cj]at hx
        cases zH:He call los [] env S with
        | none=>simp[zH]at hx
        | some q =>
          obtain⟨vals,S1⟩:=q;simp only[zH]at hx;split at hx
          · rename_i f caps zA;simp only[Oi,Pi_]at hx;obtain⟨rfl,rfl,rfl⟩:=hx;refine wp_region ?_;rw[List.range_eq_range',show (ys.push o).size=ys.toList.length+[o].length by simp];refine Ri xO [o] zQ hs ys.toList 0 [] [] los S vals S1 a w ρ (by simp) (by simp) (by simp) (Mh uj) zH hr hG hf fun a' w' ρ' h1 h2 h3 h4=>?_;have hd:((((ys.push o).toList.take (0+ys.toList.length)).map (·.dst)).reverse)=dstsOf ys.toList:=by simp[dstsOf]
            rw[hd]at h3;have h5:=h3.end_ xg.1;have hm:=Hd hj;have yO:=lt_of_some hm
            have kC:t<nt:=by
              have:=List.all_eq_true.1 hs t (Lm hm);simpa using this
            have hv:=h5.2 t kC
            rw[show sig slots [] [] (exports (Il (dstsOf ys.toList) slots 0) vals env) t=D.fn f caps by
              unfold sig;simp only[Gb,hj]
              exact zA]at hv
            have hrg:List.range' (0+ys.toList.length) [o].length=[ys.size]:=by simp
            have zP:(ys.push o)[ys.size]?=some o:=by simp
            have hwn:Region.wanted o (yielded (ys.push o) a'.tmps)=true:=by simp[Region.wanted,hog]
            rw[hrg];simp only[wpOps,zP,hwn,if_true];left
            have yg:(execOp a'.eval o).run P w'=.ok (.defer (dfOf (a'.tmps.getD t undef))) w':=by
              have ha:args=#[]:=by simpa using yw
              subst ha;generalize hu:a'.tmps.getD t undef=u at hv;have hev:a'.eval (.tmp t)=u:=hu
              cases hv with
              | fn _ _ vs hl hh=>simp[execOp,yZ,resolve,hev,Deferred.ofValue,dfOf]
            unfold Oper.wp;rw[yg];simp only[Oper.upon,hod,Act.put];refine hQ _ _ _ ⟨ρ',rfl,h1,h2,⟨h5.1,fun t' ht'=>?_⟩,?_⟩
            · rw [sig_more (by rw [Kb]; exact xg.1)];exact h5.2 t' ht'
            rw[h4];exact (xg.mono h2).exps.push hv
          simp at hx
      simp at hl
    rename_i hdo;simp only[Kq]at hl
    cases draw with
    | false =>
      simp only[Bool.false_eq_true,if_false,Om]at hl;obtain⟨los,uj,rfl⟩:=hl;simp only[Cj]at hx;split at hx
      · rename_i vals S1 zH;simp only[Oi,Pi_]at hx;obtain⟨rfl,rfl,rfl⟩:=hx;refine wp_region ?_;rw[List.range_eq_range',←Array.length_toList];exact seq_ok xO zQ hs ops.toList 0 [] [] los S vals S1 a w ρ (by simp) (by simp) (by simp) uj zH hr hG hf fun a' w' ρ' h1 h2 h3 h4=>hQ _ _ _ ⟨ρ',rfl,h1,h2,h3.end_ xg.1,by rw[h4];exact (xg.mono h2).exps⟩
      simp at hx
    | true =>
      simp only[if_true]at hl;split at hl
      · rename_i vF;simp only[Om]at hl;obtain⟨los,uj,rfl⟩:=hl;simp only[Cj]at hx;split at hx
        · rename_i vals S1 zH;simp only[Oi,Pi_]at hx;obtain⟨rfl,rfl,rfl⟩:=hx;exact draw_ok zQ hm xO y7 hs vF uj zH hr hG hf fun a' w' ρ' h1 h2 h3 h4=>hQ _ _ _ ⟨ρ',rfl,h1,h2,h3.end_ xg.1,by rw[h4];exact (xg.mono h2).exps⟩
        simp at hx
      simp at hl
  | seq x y ihx ihy =>
    intro lc env S e env' S' a w ρ Q hl hx xg hr hG hf hQ;simp only[Db]at hl;split at hl
    · rename_i lx ly zu hly;simp only[Oi]at hl;subst hl;simp only[Cj]at hx;refine wp_seq ?_
      cases yg:Cj call N lx env S with
      | none=>simp[yg]at hx
      | some q =>
        obtain⟨e1,env1,S1⟩:=q;rw[yg]at hx;refine ihx lx env S e1 env1 S1 a w ρ _ zu yg xg hr hG hf ?_;rintro ex a' w' ⟨ρ',h1,h2,h3,h4,h5⟩
        cases e1 with
        | normal =>
          simp only at hx;simp only[Mt]at h1;subst h1;refine ihy ly env1 S1 e env' S' a' w' ρ' Q hly hx h5 h2 (by rw[h3.hid];exact hG) h4 ?_;rintro ex a2 w2 ⟨ρ2,k1,k2,k3,k4,k5⟩;exact hQ _ _ _ ⟨ρ2,k1,k2,h3.trans k3,k4,k5⟩
        | ret =>
          simp only[Oi,Pi_]at hx;obtain⟨rfl,rfl,rfl⟩:=hx;simp only[Mt]at h1;subst h1;exact hQ _ _ _ ⟨ρ',rfl,h2,h3,h4,h5⟩
        | exit i =>
          simp only[Oi,Pi_]at hx;obtain⟨rfl,rfl,rfl⟩:=hx;simp only[Mt]at h1;subst h1;exact hQ _ _ _ ⟨ρ',rfl,h2,h3,h4,h5⟩
    simp at hl
  | cond c x y ihx ihy =>
    intro lc env S e env' S' a w ρ Q hl hx xg hr hG hf hQ;simp only[Db]at hl;split at hl
    · rename_i z lx ly hz zu hly;simp only[Oi]at hl;subst hl;have hc:VR w ρ S.heap (opd [] env z) (a.eval c):=opd_ok (fun g row hg=>(hr.glob g row (by rw[hG];exact zQ g row hg)).1) hz hs (by simp) fun t ht=>hf.2 t (tmp_in (ht▸hz) hs (by simp));simp only[Cj]at hx;split at hx
      · rename_i hb;rw[hb]at hc;generalize hv:a.eval c=v at hc;cases hc;exact wp_cond_true hv (ihx lx env S e env' S' a w ρ Q zu hx xg hr hG hf hQ)
      · rename_i hb;rw[hb]at hc;generalize hv:a.eval c=v at hc;cases hc;exact wp_cond_false hv (ihy ly env S e env' S' a w ρ Q hly hx xg hr hG hf hQ)
      simp at hx
    simp at hl
  | block i c ih =>
    intro lc env S e env' S' a w ρ Q hl hx xg hr hG hf hQ;simp only[Db,Om]at hl;obtain⟨lc,zY,rfl⟩:=hl;simp only[Cj]at hx;refine wp_block ?_
    cases yg:Cj call N lc env S with
    | none=>simp[yg]at hx
    | some q =>
      obtain⟨e1,env1,S1⟩:=q;rw[yg]at hx;refine ih lc env S e1 env1 S1 a w ρ _ zY yg xg hr hG hf ?_;rintro ex a' w' ⟨ρ',h1,h2,h3,h4,h5⟩
      cases e1 with
      | normal =>
        simp only[Oi,Pi_]at hx;obtain⟨rfl,rfl,rfl⟩:=hx;simp only[Mt]at h1;subst h1;exact hQ _ _ _ ⟨ρ',rfl,h2,h3,h4,h5⟩
      | ret =>
        simp only[Oi,Pi_]at hx;obtain⟨rfl,rfl,rfl⟩:=hx;simp only[Mt]at h1;subst h1;exact hQ _ _ _ ⟨ρ',rfl,h2,h3,h4,h5⟩
      | exit j =>
        simp only[Mt]at h1;subst h1;simp only at hx;simp only[Exit.inBlock];split at hx
        · rename_i hj;rw[if_pos hj];simp only[Oi,Pi_]at hx;obtain⟨rfl,rfl,rfl⟩:=hx;exact hQ _ _ _ ⟨ρ',rfl,h2,h3,h4,h5⟩
        rename_i hj;rw[if_neg hj];simp only[Oi,Pi_]at hx;obtain⟨rfl,rfl,rfl⟩:=hx;exact hQ _ _ _ ⟨ρ',rfl,h2,h3,h4,h5⟩
  | loop c ih =>
    intro lc env S e env' S' a w ρ Q hl hx xg hr hG hf hQ;simp only[Db,Om]at hl;obtain⟨lc,zY,rfl⟩:=hl;simp only[Cj]at hx
    have key:∀(n:Nat) (env:List D) (S:St) (a:Act) (w:World) (ρ:Vo),Ic (Cj call N lc) n env S=some (e,env',S')→DX w ρ S.heap slots.length env a.defers→Rel w ρ S.heap→ρ.X.G=G→FR w ρ S.heap nt (sig slots [] [] env) a→(∀ex a' w',CQ w ρ S slots nt e env' S' ex a' w'→Q ex a' w')→Code.rounds P c Q n a w:=by
      intro n
      induction n with
      | zero=>intro env S a w ρ hx;simp[Ic]at hx
      | succ n ihn =>
        intro env S a w ρ hx xg hr hG hf hQ;rw[rounds_succ];simp only[Ic]at hx
        cases yg:Cj call N lc env S with
        | none=>simp[yg]at hx
        | some q =>
          obtain⟨e1,env1,S1⟩:=q;rw[yg]at hx;refine ih lc env S e1 env1 S1 a w ρ _ zY yg xg hr hG hf ?_;rintro ex a' w' ⟨ρ',h1,h2,h3,h4,h5⟩
          cases e1 with
          | normal =>
            simp only at hx;simp only[Mt]at h1;subst h1;refine ihn env1 S1 a' w' ρ' hx h5 h2 (by rw[h3.hid];exact hG) h4 ?_;rintro ex a2 w2 ⟨ρ2,k1,k2,k3,k4,k5⟩;exact hQ _ _ _ ⟨ρ2,k1,k2,h3.trans k3,k4,k5⟩
          | ret =>
            simp only[Oi,Pi_]at hx;obtain⟨rfl,rfl,rfl⟩:=hx;simp only[Mt]at h1;subst h1;exact hQ _ _ _ ⟨ρ',rfl,h2,h3,h4,h5⟩
          | exit i =>
            simp only[Oi,Pi_]at hx;obtain⟨rfl,rfl,rfl⟩:=hx;simp only[Mt]at h1;subst h1;exact hQ _ _ _ ⟨ρ',rfl,h2,h3,h4,h5⟩
    exact wp_loop_rounds N (key N env S a w ρ hx xg hr hG hf hQ)
  | rangeFunc=>intro lc env S e env' S' a w ρ Q hl hx;simp only[Db,Oi]at hl;subst hl;simp[Cj]at hx
  | scope c ih =>
    intro lc env S e env' S' a w ρ Q hl hx xg hr hG hf hQ;simp only[Db]at hl;refine wp_scope_straight (ih lc env S e env' S' a w ρ _ hl hx xg hr hG hf ?_);intro ex a' w' hc;have hq:=hQ ex a' w' hc;obtain⟨ρ',h1,_⟩:=hc;cases e<;>simp only[Mt]at h1<;>subst h1<;>exact hq
  | label =>
    intro lc env S e env' S' a w ρ Q hl hx xg hr hG hf hQ;simp only[Db,Oi]at hl;subst hl;simp only[Cj,Oi,Pi_]at hx;obtain⟨rfl,rfl,rfl⟩:=hx;exact wp_label (hQ _ _ _ ⟨ρ,rfl,hr,Stp.refl _ _ _,hf,xg⟩)
  | goto=>intro lc env S e env' S' a w ρ Q hl hx;simp only[Db,Oi]at hl;subst hl;simp[Cj]at hx
  | refuse=>intro lc env S e env' S' a w ρ Q hl hx;simp only[Db,Oi]at hl;subst hl;simp[Cj]at hx
end
theorem O7{α β:Type}{f:α→Option β}:∀{l:List α} {l':List β},l.mapM f=some l'→l'.length=l.length∧∀(i:Nat) (x:α),l[i]?=some x→∃y,l'[i]?=some y∧f x=some y
 | [],l',h=>by
  simp only[List.mapM_nil,Option.pure_def,Oi]at h;subst h;exact⟨rfl,fun i x hx=>by simp at hx⟩
 | a::l,l',h=>by
  simp only[List.mapM_cons,Option.pure_def,Option.bind_eq_bind,Option.bind_eq_some_iff,Oi]at h;obtain⟨y,hy,ys,hys,rfl⟩:=h;obtain⟨h1,h2⟩:=O7 hys;refine⟨by simp[h1],fun i x hx=>?_⟩
  cases i with
  | zero=>simp at hx;subst hx;exact⟨y,rfl,hy⟩
  | succ i=>simpa using h2 i x (by simpa using hx)
theorem snapD_msl(m:Nat)(H:List Vi)(k g v lo n:Nat)(cap:Option Nat):N7 m H (k+1) (.msl g v lo n cap)=match H[g]? with
  | some o => if o.ver = v ∧ m ≤ g ∧ o.kind = 0 then (match ((o.rows.drop lo).take n).mapM (fun r => r.mapM (N7 m H k)) with
    | some rows=>if rows.all (fun r=>r.all D.free) then some (.sl o.sz rows (match cap with | some c=>some c | none=>if o.grow then none else some (o.rows.length-lo))) else none
    | none=>none) else snap m H (.msl g v lo n cap)
  | none=>none:=rfl
theorem Tx(m:Nat)(H:List Vi)(k:Nat){d:D}(h:∀g v lo n cap,d≠.msl g v lo n cap):N7 m H k d=snap m H d:=by
 cases k with
 | zero=>rfl
 | succ k=>cases d<;>first | rfl | exact absurd rfl (h _ _ _ _ _)
theorem Sg{m:Nat}{H:List Vi}{d r:D}(h:snap m H d=some r):((∀cs,d≠.agg cs)→∀cs,r≠.agg cs)∧((∀cs,d≠.tup cs)→∀cs,r≠.tup cs):=by
 unfold snap at h
 repeat' (first | (simp at h;done) | (split at h))
 all_goals
  simp only[Oi]at h;subst h
  first
   | exact⟨fun h=>h,fun h=>h⟩
   | exact⟨fun _ cs h=>(by cases h),fun _ cs h=>(by cases h)⟩
theorem snapD_cell {m : Nat} {H : List Vi} {k : Nat} {d r : D} (h : N7 m H k d = some r) : ((∀ cs, d ≠ .agg cs) → ∀ cs, r ≠ .agg cs) ∧ ((∀ cs, d ≠ .tup cs) → ∀ cs, r ≠ .tup cs) := by
  by_cases hm:∃g v lo n cap,d=.msl g v lo n cap
  · obtain ⟨g, v, lo, n, cap, rfl⟩ := hm
    cases k with
    | zero=>exact Sg h
    | succ k =>
      rw[snapD_msl]at h
      cases hg:H[g]? with
      | none=>rw[hg]at h;simp at h
      | some o =>
        rw[hg]at h;simp only at h;by_cases hc:o.ver=v∧m≤g∧o.kind=0
        · rw [if_pos hc] at h
          cases hr:((o.rows.drop lo).take n).mapM (fun r=>r.mapM (N7 m H k)) with
          | none=>rw[hr]at h;simp at h
          | some rows =>
            rw[hr]at h;simp only at h;rw[Option.ite_none_right_eq_some]at h;obtain⟨_,h⟩:=h;simp only[Oi]at h;subst h;exact⟨fun _ cs h=>(by cases h),fun _ cs h=>(by cases h)⟩
        rw[if_neg hc]at h;exact Sg h
  rw[Tx m H k (fun g v lo n cap he=>hm ⟨g,v,lo,n,cap,he⟩)]at h;exact Sg h
theorem freeV_cell{r:D}(h:∀cs,r≠.agg cs)(hf:r.Vr=true):r.free=true:=by
 cases r<;>first | exact hf | exact absurd rfl (h _)
theorem freeR_val{r:D}(h:∀cs,r≠.tup cs)(hf:r.Vs=true):r.Vr=true:=by
 cases r<;>first | exact hf | exact absurd rfl (h _)
def resSem (tmps:Array Value):ResultVar→Sem Value
 | .tmp t=>pure (tmps.getD t undef)
 | .cell a t=>do loadVar t (←asAddr (tmps.getD a undef))
theorem results_eq(fn:Func)(tmps:Array Value):results fn tmps=(do let vs ←fn.results.mapM (resSem tmps);pure (if h:vs.size=1 then vs[0] else .tuple vs)):=by
 unfold results;congr 1
section
variable {P:Program} {w:World} {ρ:Vo} {S:St}
theorem res_ok {nt : Nat} {slots : List Nat} {env : List D} {a : Act} (hr : Rel w ρ S.heap) (hs : slots.all (· < nt) = true) (hf : FR w ρ S.heap nt (sig slots [] [] env) a) : ∀ {rs : List ResultVar} {ls : List LRes} {ds : List D}, Kh P slots rs = some ls → Cz env S ls = some ds →
    ∃vs,(rs.mapM (resSem a.tmps)).run P w=.ok vs w∧VL w ρ S.heap ds vs
  | [], ls, ds, hl, hd => by
    simp only[Kh,Oi]at hl;subst hl;simp only[Cz,Oi]at hd;subst hd;exact⟨[],by simp,.nil⟩
  | .tmp t :: rs, ls, ds, hl, hd => by
    simp only[Kh]at hl;split at hl
    · rename_i j m hj hm;simp only[Oi]at hl;subst hl;simp only[Cz,Ei]at hd;split at hd
      · rename_i x y hx hy;simp only[Oi]at hd hx;subst hd hx;obtain⟨vs,h1,h2⟩:=res_ok hr hs hf hm hy
        have ht:t<nt:=by
          have:=List.all_eq_true.1 hs t (Lm (Hd hj));simpa using this
        have h3:=hf.2 t ht;unfold sig at h3;simp only[Gb,hj]at h3;exact⟨a.tmps.getD t undef::vs,by rw[List.mapM_cons,Ag (a:=a.tmps.getD t undef) (w':=w) rfl,Ag h1];rfl,.cons h3 h2⟩
      simp at hd
    simp at hl
  | .cell ad t :: rs, ls, ds, hl, hd => by
    simp only[Kh]at hl;split at hl
    · rename_i j n m hj hn hm;simp only[Oi]at hl;subst hl;simp only[Cz,Ei]at hd;split at hd
      · rename_i x y hx hy;simp only[Oi]at hd;subst hd;obtain⟨vs,h1,h2⟩:=res_ok hr hs hf hm hy
        have ht:ad<nt:=by
          have:=List.all_eq_true.1 hs ad (Lm (Hd hj));simpa using this
        have h3:=hf.2 ad ht;unfold sig at h3;simp only[Gb,hj]at h3;obtain⟨v,h4,h5⟩:=load_ok (P:=P) hr h3 hx hn rfl
        have h6:(resSem a.tmps (.cell ad t)).run P w=.ok v w:=by
          rw[←h4];show (do loadVar t (←asAddr (a.tmps.getD ad undef)):Sem Value).run P w=_;generalize a.tmps.getD ad undef=u at h3 ⊢;generalize env.getD j .undef=du at h3 hx;unfold Jn at hx;split at hx
          · cases h3;simp[Instr.loadAt,Instr.sureAddr,asAddr]
          · cases h3;simp[Instr.loadAt,Instr.sureAddr,asAddr]
          simp at hx
        exact⟨v::vs,by rw[List.mapM_cons,Ag h6,Ag h1];rfl,.cons h5 h2⟩
      simp at hd
    simp at hl
theorem Nc{nt:Nat}{slots:List Nat}{env:List D}{a:Act}{fn:Func}{ls:List LRes}{r:D}(hr:Rel w ρ S.heap)(hs:slots.all (·<nt)=true)(hf:FR w ρ S.heap nt (sig slots [] [] env) a)(hl:Kh P slots fn.results.toList=some ls)(hd:Bw env S ls=some r) :
  ∃v,(results fn a.tmps).run P w=.ok v w∧VR w ρ S.heap r v:=by
 unfold Bw at hd
 cases vK:Cz env S ls with
 | none=>simp[vK]at hd
 | some ds =>
  obtain⟨vs,h1,h2⟩:=res_ok (P:=P) hr hs hf hl vK
  have xD:(results fn a.tmps).run P w=.ok (if h:vs.toArray.size=1 then vs.toArray[0] else .tuple vs.toArray) w:=by
   rw[results_eq];have e:fn.results=fn.results.toList.toArray:=by simp
   rw[e,List.mapM_toArray]
   have:(List.toArray <$> fn.results.toList.mapM (resSem a.tmps)).run P w=.ok vs.toArray w:=by
    rw[map_eq_pure_bind,Ag h1];rfl
   rw[Ag this];rfl
  refine⟨_,xD,?_⟩;have xg:=h2.len;rw[vK]at hd;split at hd
  ·
   rename_i x hx;simp only[Oi]at hd hx;subst hd hx
   cases h2 with
   | cons h t=>cases t with
    | nil=>simpa using h
  ·
   rename_i xs xB yP;simp only[Oi]at hd yP;subst hd yP
   have h1:¬vs.toArray.size=1:=by
    intro h;simp only[List.size_toArray]at h;rw[xg]at h;obtain⟨x,hx⟩:=List.length_eq_one_iff.1 h;exact xB x (by rw[hx])
   rw[dif_neg h1];exact .tup ds vs xg (fun j d v=>h2.get)
  rename_i h;simp at h
theorem Stp.relow{w':World}{ρ':Vo}{n:Nat}{S2:St}(h:Stp w ρ ⟨S.heap,n⟩ w' ρ' S2):Stp w ρ S w' ρ' ⟨S2.heap,min S.low S2.low⟩ :=
 ⟨h.hid,h.os,h.tape,h.output,h.size,Nat.min_le_left _ _,h.out,h.imm,fun g b o ho hg hb=>h.keep g b o ho (Nat.lt_of_lt_of_le hg (Nat.min_le_right _ _)) hb,fun g o ho=>by
  obtain⟨o',h1,h2,h3,h4⟩:=h.obj g o ho
  exact⟨o',h1,h2,fun hg=>h3 (Nat.lt_of_lt_of_le hg (Nat.min_le_right _ _)),h4⟩⟩
theorem Stp.clean{w':World}{ρ':Vo}{S2:St}(hr:Rel w ρ S.heap)(h:Stp w ρ ⟨S.heap,S.heap.length⟩ w' ρ' S2)(x9:S.heap.length≤S2.low):Stp w ρ S w' ρ S :=
 ⟨rfl,h.os,h.tape,h.output,h.size,Nat.le_refl _,fun b hb hg=>⟨(h.out b hb hg).1,hg⟩,fun b q hi=>⟨(h.imm b q hi).1,Nat.lt_of_lt_of_le hi.1 h.size,hi.2⟩,
  fun g b o ho hg hb=>h.keep g b o ho (Nat.lt_of_lt_of_le (lt_of_some ho) x9) hb,fun g o ho=>⟨o,ho,⟨Nat.le_refl _,rfl⟩,fun _=>rfl,fun _=>⟨rfl,rfl,rfl,Nat.le_refl _,fun b cur hb hc=>⟨cur,(h.keep g b o ho (Nat.lt_of_lt_of_le (lt_of_some ho) x9) hb).trans hc,rfl⟩⟩⟩⟩
section
variable {w':World} {ρ':Vo} {S2:St} (hr:Rel w ρ S.heap) (zX:Rel w' ρ' S2.heap) (h:Stp w ρ ⟨S.heap,S.heap.length⟩ w' ρ' S2) (x9:S.heap.length≤S2.low)
include hr h x9
theorem Mk{g b:Nat}(hb:ρ g=some b):g<S.heap.length∧ρ' g=some b∧S2.heap[g]?=S.heap[g]?:=by
 have hg:=hr.in hb;obtain⟨o',h1,h2,h3,h4⟩:=h.obj g S.heap[g] (Lg hg);have:=h3 (Nat.lt_of_lt_of_le hg x9);subst this;exact⟨hg,by rw[(h4 rfl).1];exact hb,by rw[h1,Lg hg]⟩
theorem Qf{b q:Nat}(hi:Imm w' ρ' S2.heap b q):Imm w' ρ S.heap b q :=
 ⟨hi.1,by rw[←h.hid];exact hi.2.1,fun g hg=>by
  obtain⟨_,h1,h2⟩:=Mk hr h x9 hg;rw[←h2]
  exact hi.2.2 g h1⟩
theorem Qe:∀b es c,w'.heap[b]?=some (.map es c)→(∀g,ρ' g≠some b)→¬ρ'.X b 0→w'.heap[b]?=w'.heap[b]?∧(∀g,ρ g≠some b)∧¬ρ.X b 0 :=
 fun b _ _ _ hg hx=>⟨rfl,fun g hb=>hg g (Mk hr h x9 hb).2.1,by rw[←h.hid];exact hx⟩
include zX
theorem Kw {d r : D} {v : Value} (hv : VR w' ρ' S2.heap d v) (hs : snap S.heap.length S2.heap d = some r) (hf : r.free = true) : VR w' ρ S.heap r v := by
  unfold snap at hs;split at hs
  · rename_i g ver lo n cap
    cases hv with
    | msl _ _ _ _ _ A c ob yh xM hg yD xY xP =>
      simp only[hg]at hs;split at hs
      · rename_i hk;simp only[Oi]at hs;subst hs;obtain⟨b,hρ,xI,hA,qp⟩:=xP hk.1;obtain⟨o1,xQ,cur,hc,hz,⟨cc,yR,yB,uy,uL⟩,hl,zC,hh⟩:=zX.cel hρ hg xY;rw[hg]at xQ;injection xQ with xQ;subst xQ;have xg:((ob.rows.drop lo).take n).length=n:=by simp;omega
        have xU:∀i r' j d,((ob.rows.drop lo).take n)[i]?=some r'→r'[j]?=some d→w'.cell? ⟨b,lo*ob.sz+i*ob.sz+j,none⟩=some (cur.getD ((lo+i)*ob.sz+j) undef)∧Imm w' ρ S.heap b (lo*ob.sz+i*ob.sz+j)∧d.free=true∧VR w' ρ' S2.heap d (cur.getD ((lo+i)*ob.sz+j) undef):=by
          intro i r' j d hi hj;obtain⟨h1,h2⟩:=Dz hi;obtain⟨h3,h4,v,zS,wY⟩:=hh _ r' j d h1 hj;obtain⟨h5,h6⟩:=Array.getElem?_eq_some_iff.1 zS;have yT:cur.getD ((lo+i)*ob.sz+j) undef=v:=by simp[Array.getD,h5,h6]
          rw[yT];refine⟨?_,⟨lt_of_heap hc,fun hx=>(zX.hid _ _ (by rw[h.hid];exact hx)).2 g hρ,fun g' hg'=>?_⟩,h4 (by omega),wY⟩
          · rw [cell_of_row w' b _ cur ob.elem (0, 0) hc, ← zS];congr 1;rw[Nat.add_mul]
          obtain⟨q1,q2,q3⟩:=Mk hr h x9 hg';have:=zX.inj g' g b q2 hρ;subst this;rcases hk.2 with xS | xS
          · refine ⟨ob, by rw [← q3]; exact hg, xS, ?_⟩;have h7:j<ob.sz:=by rw[←hl r' (Lm h1)];exact lt_of_some hj
            have h8:lo+i<ob.rows.length:=lt_of_some h1;have:=row_in h8 h7;rwa [Nat.add_mul]at this
          omega
        refine .sl ob.sz _ _ A n c xg.symm yh (fun k hk'=>?_) (fun r hr'=>hl r (Et hr')) b (lo*ob.sz) (fun i j=>cur.getD ((lo+i)*ob.sz+j) undef) (fun xB=>hA ?_) (fun i r' j d hi hj=>?_) (fun i r' j d hi hj=>?_)
        · cases cap with
          | some c'=>simp only[Oi]at hk';subst hk';exact xM _ rfl
          | none =>
            simp only at hk';split at hk'
            · simp at hk'
            rename_i rE;simp only[Oi]at hk';obtain⟨cur',yC,wz⟩:=qp rfl;rw[hc]at yC;injection yC with yC;injection yC with yC;subst yC;have h1:=uL (by simpa using rE);rw[yR]at wz;have:=Nat.eq_of_mul_eq_mul_right hz wz;omega
        · left;intro h0;subst h0;simp at xB
        · obtain ⟨q1, q2, q3, _⟩ := xU i r' j d hi hj;exact⟨q1,q2,q3⟩
        obtain⟨_,_,q3,q4⟩:=xU i r' j d hi hj;exact q4.free_mono (fun b q hi=>⟨rfl,Qf hr h x9 hi⟩) (Qe hr h x9) q3
      simp only[Oi]at hs;subst hs;simp[D.free,D.Vw]at hf
  · rename_i g ver;split at hs
    · rename_i yL
      cases hv with
      | mref _ _ b ob hg yD xP =>
        simp only[hg]at hs;split at hs
        · rename_i hk;simp only[Oi]at hs;subst hs;have hρ:=xP hk.1;obtain⟨es,clock,hc,xK,hl,xA⟩:=zX.map hρ hg hk.2.1 hk.2.2
          have vN:∀i,i<ob.rows.length→∃e,es[i]?=some e∧e.key=((es[i]?).map (·.key)).getD undef∧e.val=((es[i]?).map (·.val)).getD undef:=by
            intro i hi;have hie:i<es.size:=by omega
            exact⟨es[i],Array.getElem?_eq_getElem hie,by simp[hie],by simp[hie]⟩
          refine .mp ob.rows b clock es (fun i j=>if j=0 then ((es[i]?).map (·.key)).getD undef else ((es[i]?).map (·.val)).getD undef) hc (fun hx=>(zX.hid _ _ (by rw[h.hid];exact hx)).2 g hρ) (fun g' hg'=>?_) xK hl (fun i hi=>?_) (fun i r' j d hi hj=>?_) (fun i r' j d hi hj=>?_)
          · obtain ⟨q1, q2, _⟩ := Mk hr h x9 hg';have:=zX.inj g' g b q2 hρ;omega
          · obtain ⟨e, h1, h2, h3⟩ := vN i hi;exact⟨e,h1,by simpa using h2,by simpa using h3⟩
          · obtain ⟨e, k, v, h1, h2, h3, h4, _, _⟩ := xA i r' hi;subst h2
            match j,hj with
            | 0,hj=>simp at hj;subst hj;exact h3
            | 1,hj=>simp at hj;subst hj;exact h4
          obtain⟨e,k,v,h1,h2,h3,h4,h5,h6⟩:=xA i r' hi;subst h2
          match j,hj with
          | 0, hj =>
            simp at hj;subst hj;simp only[if_true,h1,Option.map_some,Option.getD_some];exact h5.freeV_mono (fun b q hi=>⟨rfl,Qf hr h x9 hi⟩) (Qe hr h x9) h3.1
          | 1, hj =>
            simp at hj;subst hj;simp only[Nat.one_ne_zero,if_false,h1,Option.map_some,Option.getD_some];exact h6.freeV_mono (fun b q hi=>⟨rfl,Qf hr h x9 hi⟩) (Qe hr h x9) h4.1
        simp only[Oi]at hs;subst hs;simp[D.free,D.Vw]at hf
    simp only[Oi]at hs;subst hs;simp[D.free,D.Vw]at hf
  simp only[Oi]at hs;subst hs;exact hv.free_mono (fun b q hi=>⟨rfl,Qf hr h x9 hi⟩) (Qe hr h x9) hf
theorem Tq:∀{ds rs:List D} {vs:List Value},VL w' ρ' S2.heap ds vs→Cg S.heap.length S2.heap ds=some rs→rs.all D.free=true→VL w' ρ S.heap rs vs
 | [],rs,_,.nil,hs,_=>by simp only[Cg,Oi]at hs;subst hs;exact .nil
 | d :: ds, rs, _, .cons hd ht, hs, hf => by
  unfold Cg at hs;split at hs
  ·
   rename_i x y hx hy;simp only[Oi]at hs;subst hs;simp only[List.all_cons,Bool.and_eq_true]at hf;exact .cons (Kw hr zX h x9 hd hx hf.1) (Tq ht hy hf.2)
  simp at hs
theorem Tv{d r:D}{v:Value}(hv:VR w' ρ' S2.heap d v)(hs:Vq S.heap.length S2.heap d=some r)(hf:r.Vr=true):VR w' ρ S.heap r v:=by
 unfold Vq at hs;split at hs
 ·
  simp only[Om]at hs;obtain⟨rs,vS,rfl⟩:=hs
  cases hv with
  | agg _ vs hl hc hh =>
   have h1:=Tq hr zX h x9 (VL.of hl hh) vS hf;exact .agg rs vs h1.len (List.all_eq_true.2 fun x hx=>Ms (List.all_eq_true.1 hf x hx)) (fun j d v=>h1.get)
 rename_i hna;refine Kw hr zX h x9 hv hs ?_;unfold D.Vr at hf;split at hf
 ·
  rename_i cs;unfold snap at hs
  repeat' (first | (simp at hs;done) | (split at hs))
  all_goals try (simp at hs;done)
  all_goals
   simp only[Oi]at hs;subst hs;exact absurd rfl (hna cs)
 exact hf
theorem Re:∀{ds rs:List D} {vs:List Value},VL w' ρ' S2.heap ds vs→Av S.heap.length S2.heap ds=some rs→rs.all D.Vr=true→VL w' ρ S.heap rs vs
 | [],rs,_,.nil,hs,_=>by simp only[Av,Oi]at hs;subst hs;exact .nil
 | d :: ds, rs, _, .cons hd ht, hs, hf => by
  unfold Av at hs;split at hs
  ·
   rename_i x y hx hy;simp only[Oi]at hs;subst hs;simp only[List.all_cons,Bool.and_eq_true]at hf;exact .cons (Tv hr zX h x9 hd hx hf.1) (Re ht hy hf.2)
  simp at hs
theorem snapR_leave{d r:D}{v:Value}(hv:VR w' ρ' S2.heap d v)(hs:Vt S.heap.length S2.heap d=some r)(hf:r.Vs=true):VR w' ρ S.heap r v:=by
 unfold Vt at hs;split at hs
 ·
  simp only[Om]at hs;obtain⟨rs,vS,rfl⟩:=hs
  cases hv with
  | tup _ vs hl hh =>
   have h1:=Re hr zX h x9 (VL.of hl hh) vS hf;exact .tup rs vs h1.len (fun j d v=>h1.get)
 rename_i hna;refine Tv hr zX h x9 hv hs ?_;unfold D.Vs at hf;split at hf
 ·
  rename_i cs;unfold Vq at hs;split at hs
  ·
   simp at hs
  unfold snap at hs
  repeat' (first | (simp at hs;done) | (split at hs))
  all_goals try (simp at hs;done)
  all_goals
   simp only[Oi]at hs;subst hs;exact absurd rfl (hna cs)
 exact hf
theorem Ot : ∀ (k : Nat) {d r : D} {v : Value}, VR w' ρ' S2.heap d v → N7 S.heap.length S2.heap k d = some r → r.free = true → VR w' ρ S.heap r v
  | 0,d,r,v,hv,hs,hf=>Kw hr zX h x9 hv (by simpa only [N7] using hs) hf
  | k + 1, d, r, v, hv, hs, hf => by
    by_cases hm:∃g v lo n cap,d=.msl g v lo n cap
    · obtain ⟨g, ver, lo, n, cap, rfl⟩ := hm;rw[snapD_msl]at hs
      cases hv with
      | msl _ _ _ _ _ A c ob yh xM hg yD xY xP =>
        simp only[hg]at hs;by_cases hk:ob.ver=ver∧S.heap.length≤g∧ob.kind=0
        · rw [if_pos hk] at hs
          cases xH:((ob.rows.drop lo).take n).mapM (fun r=>r.mapM (N7 S.heap.length S2.heap k)) with
          | none=>rw[xH]at hs;simp at hs
          | some rows =>
              rw[xH]at hs;simp only at hs;rw[Option.ite_none_right_eq_some]at hs;obtain⟨xA,hs⟩:=hs;simp only[Oi]at hs;subst hs;obtain⟨b,hρ,xI,hA,qp⟩:=xP hk.1;obtain⟨o1,xQ,cur,hc,hz,⟨cc,yR,yB,uy,uL⟩,hl,zC,hh⟩:=zX.cel hρ hg xY;rw[hg]at xQ;injection xQ with xQ;subst xQ;obtain⟨m1,m2⟩:=O7 xH;have xg:((ob.rows.drop lo).take n).length=n:=by simp;omega
              have back:∀(i:Nat) (r':List D),rows[i]?=some r'→∃r0,((ob.rows.drop lo).take n)[i]?=some r0∧r'.length=r0.length∧∀(j:Nat) (d':D),r'[j]?=some d'→∃d0,r0[j]?=some d0∧N7 S.heap.length S2.heap k d0=some d':=by
                intro i r' hi;have zi:i<((ob.rows.drop lo).take n).length:=by rw[←m1];exact lt_of_some hi
                obtain⟨r1,h1,h2⟩:=m2 i _ (Lg zi);rw[hi]at h1;injection h1 with h1;subst h1;obtain⟨m3,m4⟩:=O7 h2;refine⟨_,Lg zi,m3,fun j d' hj=>?_⟩;have yO:j<((ob.rows.drop lo).take n)[i].length:=by rw[←m3];exact lt_of_some hj
                obtain⟨d1,h3,h4⟩:=m4 j _ (Lg yO);rw[hj]at h3;injection h3 with h3;subst h3;exact⟨_,Lg yO,h4⟩
              have yN:∀(i:Nat) (r':List D) (j:Nat) (d':D),rows[i]?=some r'→r'[j]?=some d'→d'.free=true:=by
                intro i r' j d' hi hj;have:=List.all_eq_true.1 xA r' (Lm hi);exact List.all_eq_true.1 this d' (Lm hj)
              have xU:∀(i:Nat) (r':List D) (j:Nat) (d':D),rows[i]?=some r'→r'[j]?=some d'→w'.cell? ⟨b,lo*ob.sz+i*ob.sz+j,none⟩=some (cur.getD ((lo+i)*ob.sz+j) undef)∧Imm w' ρ S.heap b (lo*ob.sz+i*ob.sz+j)∧VR w' ρ S.heap d' (cur.getD ((lo+i)*ob.sz+j) undef):=by
                intro i r' j d' hi hj;obtain⟨r0,h1,h2,h3⟩:=back i r' hi;obtain⟨d0,h4,h5⟩:=h3 j d' hj;obtain⟨h6,h7⟩:=Dz h1;obtain⟨q1,q2,v,zS,wY⟩:=hh _ r0 j d0 h6 h4;obtain⟨h8,h9⟩:=Array.getElem?_eq_some_iff.1 zS;have yT:cur.getD ((lo+i)*ob.sz+j) undef=v:=by simp[Array.getD,h8,h9]
                rw[yT];refine⟨?_,⟨lt_of_heap hc,fun hx=>(zX.hid _ _ (by rw[h.hid];exact hx)).2 g hρ,fun g' hg'=>?_⟩,Ot k wY h5 (yN i r' j d' hi hj)⟩
                · rw [cell_of_row w' b _ cur ob.elem (0, 0) hc, ← zS];congr 1;rw[Nat.add_mul]
                obtain⟨q1,q2,q3⟩:=Mk hr h x9 hg';have:=zX.inj g' g b q2 hρ;omega
              refine .sl ob.sz _ _ A n c (by rw[m1,xg]) yh (fun k hk'=>?_) (fun r' hr'=>?_) b (lo*ob.sz) (fun i j=>cur.getD ((lo+i)*ob.sz+j) undef) (fun xB=>hA ?_) (fun i r' j d' hi hj=>?_) (fun i r' j d' hi hj=>(xU i r' j d' hi hj).2.2)
              · cases cap with
                | some c'=>simp only[Oi]at hk';subst hk';exact xM _ rfl
                | none =>
                  simp only at hk';split at hk'
                  · simp at hk'
                  rename_i rE;simp only[Oi]at hk';obtain⟨cur',yC,wz⟩:=qp rfl;rw[hc]at yC;injection yC with yC;injection yC with yC;subst yC;have h1:=uL (by simpa using rE);rw[yR]at wz;have:=Nat.eq_of_mul_eq_mul_right hz wz;omega
              · obtain ⟨i, hi, rfl⟩ := List.mem_iff_getElem.1 hr';obtain⟨r0,h1,h2,_⟩:=back i _ (Lg hi);rw[h2];exact hl r0 (Et (Lm h1))
              · left;intro h0;apply xB;apply List.eq_nil_of_length_eq_zero;rw[m1,xg,h0]
              exact⟨(xU i r' j d' hi hj).1,(xU i r' j d' hi hj).2.1,yN i r' j d' hi hj⟩
        rw[if_neg hk]at hs;exact Kw hr zX h x9 (.msl _ _ _ _ _ A c ob yh xM hg yD xY xP) hs hf
    rw[Tx _ _ _ (fun g v lo n cap he=>hm ⟨g,v,lo,n,cap,he⟩)]at hs;exact Kw hr zX h x9 hv hs hf
theorem Rf {d r : D} {v : Value} (hv : VR w' ρ' S2.heap d v) (hs : snapDV S.heap.length S2.heap d = some r) (hf : r.Vr = true) : VR w' ρ S.heap r v := by
  unfold snapDV at hs;split at hs
  · rename_i cs;simp only[Om]at hs;obtain⟨cs',h1,rfl⟩:=hs;obtain⟨m1,m2⟩:=O7 h1
    cases hv with
    | agg _ vs hl hc hh =>
      simp only[D.Vr,List.all_eq_true]at hf
      have hx:∀(j:Nat) (d:D) (v:Value),cs'[j]?=some d→vs[j]?=some v→VR w' ρ S.heap d v:=by
        intro j d v hj hvj;have yO:j<cs.length:=by rw[←m1];exact lt_of_some hj
        obtain⟨y,h3,h4⟩:=m2 j _ (Lg yO);rw[hj]at h3;injection h3 with h3;subst h3;exact Ot hr zX h x9 6 (hh j _ v (Lg yO) hvj) h4 (hf d (Lm hj))
      exact .agg cs' vs (by rw[hl,m1]) (List.all_eq_true.2 fun d hd=>Ms (hf d hd)) hx
  rename_i hn;exact Ot hr zX h x9 6 hv hs (freeV_cell ((snapD_cell hs).1 fun cs he=>hn cs he) hf)
theorem snapDR_leave{d r:D}{v:Value}(hv:VR w' ρ' S2.heap d v)(hs:snapDR S.heap.length S2.heap d=some r)(hf:r.Vs=true):VR w' ρ S.heap r v:=by
 unfold snapDR at hs;split at hs
 ·
  rename_i ds;simp only[Om]at hs;obtain⟨ds',h1,rfl⟩:=hs;obtain⟨m1,m2⟩:=O7 h1
  cases hv with
  | tup _ vs hl hh =>
   simp only[D.Vs,List.all_eq_true]at hf;refine .tup ds' vs (by rw[hl,m1]) fun j d v hj hvj=>?_;have yO:j<ds.length:=by rw[←m1];exact lt_of_some hj
   obtain⟨y,h3,h4⟩:=m2 j _ (Lg yO);rw[hj]at h3;injection h3 with h3;subst h3;exact Rf hr zX h x9 (hh j _ v (Lg yO) hvj) h4 (hf d (Lm hj))
 rename_i hn;refine Rf hr zX h x9 hv hs (freeR_val (fun cs=>?_) hf);unfold snapDV at hs;split at hs
 ·
  simp only[Om]at hs;obtain⟨_,_,rfl⟩:=hs;intro he;cases he
 exact (snapD_cell hs).2 (fun cs he=>hn cs he) cs
end
theorem leaveD_ok{w':World}{ρ':Vo}{S2 S' T:St}{r0 r:D}{v:Value}{wr:Bool}(hr:Rel w ρ S.heap)(zX:Rel w' ρ' S2.heap)(h:Stp w ρ ⟨S.heap,S.heap.length⟩ w' ρ' S2)(hv:VR w' ρ' S2.heap r0 v)(hl:leaveD S T r0 S2=some (r,S',wr)):S'=T∧wr=false∧r.Vs=true∧Vu w ρ S r S false v w':=by
 unfold leaveD at hl;split at hl
 ·
  rename_i x9;split at hl
  ·
   rename_i r1 hs;split at hl
   ·
    rename_i hf;simp only[Oi,Pi_]at hl;obtain⟨rfl,rfl,rfl⟩:=hl;have xX:=h.clean hr x9;refine⟨rfl,rfl,hf,ρ,⟨hr.inj,fun g b hb=>?_,hr.hids xX,hr.globs xX⟩,xX,snapDR_leave hr zX h x9 hv hs hf,fun _=>⟨⟨h.os,h.tape,h.output,h.size,fun b hb=>?_⟩,rfl,rfl⟩⟩
    ·
     obtain⟨o,ho,hk⟩:=hr.obj g b hb;exact⟨o,ho,hk.mono xX (h.keep g b o ho (Nat.lt_of_lt_of_le (lt_of_some ho) x9) hb)⟩
    by_cases yg:∃g,ρ g=some b
    ·
     obtain⟨g,hg⟩:=yg;obtain⟨o,ho,_⟩:=hr.obj g b hg;exact h.keep g b o ho (Nat.lt_of_lt_of_le (lt_of_some ho) x9) hg
    exact (h.out b hb fun g hg=>yg ⟨g,hg⟩).1
   simp at hl
  simp at hl
 simp at hl
theorem leave_ok {w' : World} {ρ' : Vo} {S2 S' : St} {raw : Bool} {r0 r : D} {v : Value} {wr : Bool} (hr : Rel w ρ S.heap) (zX : Rel w' ρ' S2.heap) (h : Stp w ρ ⟨S.heap, S.heap.length⟩ w' ρ' S2) (hv : VR w' ρ' S2.heap r0 v) (hl : leave raw S r0 S2 = some (r, S', wr)) : Vu w ρ S r S' wr v w' := by
  unfold leave at hl;split at hl
  · simp only [Oi, Pi_] at hl;obtain⟨rfl,rfl,rfl⟩:=hl;exact⟨ρ',zX,h.relow,hv,by simp⟩
  split at hl
  · rename_i r' hc;simp only[Oi,Pi_]at hl;obtain⟨rfl,rfl,rfl⟩:=hl;split at hc
    · rename_i x9;split at hc
      · rename_i r1 hs;split at hc
        · rename_i hf;simp only[Oi]at hc;subst hc;have xX:=h.clean hr x9;refine⟨ρ,⟨hr.inj,fun g b hb=>?_,hr.hids xX,hr.globs xX⟩,xX,snapR_leave hr zX h x9 hv hs hf,fun _=>⟨⟨h.os,h.tape,h.output,h.size,fun b hb=>?_⟩,rfl,rfl⟩⟩
          · obtain ⟨o, ho, hk⟩ := hr.obj g b hb;exact⟨o,ho,hk.mono xX (h.keep g b o ho (Nat.lt_of_lt_of_le (lt_of_some ho) x9) hb)⟩
          by_cases yg:∃g,ρ g=some b
          · obtain ⟨g, hg⟩ := yg;obtain⟨o,ho,_⟩:=hr.obj g b hg;exact h.keep g b o ho (Nat.lt_of_lt_of_le (lt_of_some ho) x9) hg
          exact (h.out b hb fun g hg=>yg ⟨g,hg⟩).1
        simp at hc
      simp at hc
    simp at hc
  split at hl
  · rename_i r' hs;split at hl
    · rename_i hc;obtain⟨x9,xg⟩:=hc;simp only[Oi,Pi_]at hl;obtain⟨rfl,rfl,rfl⟩:=hl;have xX:=h.clean hr x9
      have hheap:S2.heap=S.heap:=by
        refine List.ext_getElem? fun g=>?_
        cases hg:S.heap[g]? with
        | none =>
          have:=List.getElem?_eq_none_iff.1 hg;exact List.getElem?_eq_none (by omega)
        | some o =>
          obtain⟨o',h1,_,h3,_⟩:=h.obj g o hg;rw[h1,h3 (Nat.lt_of_lt_of_le (lt_of_some hg) x9)]
      have hρ : ρ' = ρ := by
        have hX:=h.hid
        have hF:∀g,ρ' g=ρ g:=by
          intro g
          cases hg:S.heap[g]? with
          | none =>
            have hn:=List.getElem?_eq_none_iff.1 hg
            have e1:ρ g=none:=by
              cases hb:ρ g with
              | none=>rfl
              | some b=>obtain⟨o,ho,_⟩:=hr.obj g b hb;rw[hg]at ho;cases ho
            have e2:ρ' g=none:=by
              cases hb:ρ' g with
              | none=>rfl
              | some b=>obtain⟨o,ho,_⟩:=zX.obj g b hb;rw[hheap,hg]at ho;cases ho
            rw[e1,e2]
          | some o =>
            obtain⟨o',h1,_,h3,h4⟩:=h.obj g o hg;have:=h3 (Nat.lt_of_lt_of_le (lt_of_some hg) x9);subst this;exact (h4 rfl).1
        obtain⟨f,X⟩:=ρ;obtain⟨f',X'⟩:=ρ';have hX:X'=X:=hX;have hF:∀g,f' g=f g:=hF;rw[hX,funext hF]
      subst hρ;rw[hheap]at zX hv hs;refine⟨ρ',zX,xX,snapR_ok zX (Nat.le_refl _) hv hs,fun _=>⟨⟨h.os,h.tape,h.output,h.size,fun b hb=>?_⟩,rfl,rfl⟩⟩;by_cases yg:∃g,ρ' g=some b
      · obtain ⟨g, hg⟩ := yg;obtain⟨o,ho,_⟩:=hr.obj g b hg;exact h.keep g b o ho (Nat.lt_of_lt_of_le (lt_of_some ho) x9) hg
      exact (h.out b hb fun g hg=>yg ⟨g,hg⟩).1
    simp only[Oi,Pi_]at hl;obtain⟨rfl,rfl,rfl⟩:=hl;exact⟨ρ',zX,h.relow,snapR_ok zX (Nat.le_refl _) hv hs,by simp⟩
  simp at hl
end
def FnsOK (P:Program) (G:Nat→Option (List D)) (L:Prg):Prop:=∀f F,L.fns f=some F→∃fn kd slots,P.funcs[f]?=some fn∧Qs P kd slots fn=some F∧(∀g row,kd.glob g=some row→G g=some row)∧(L.dfs f=true∨Ib F.body=true)
def DfnOK (P:Program) (G:Nat→Option (List D)) (L:Prg):Prop:=∀f F,L.dfn f=some F→∃fn kd slots,P.funcs[f]?=some fn∧lowFnD P kd slots fn=some F∧∀g row,kd.glob g=some row→G g=some row
def ExtOK (P:Program) (G:Nat→Option (List D)) (ext:FuncId→List D→Option D):Prop :=
 ∀f ds r,ext f ds=some r→∀(S:St) w (ρ:Vo) vs,ρ.X.G=G→Rel w ρ S.heap→VL w ρ S.heap ds vs →
  (callFunc f vs.toArray).run P w=.ok (.enter f vs.toArray) w∧Calls P f vs.toArray w fun e w'=>∃v,e=.returned v∧Vu w ρ S r S false v w'
def R9 (P:Program) (G:Nat→Option (List D)) (L:Prg):Prop:=FnsOK P G L∧ExtOK P G L.ext∧DfnOK P G L
theorem F5{call:Bp}{N:Nat}:∀(c:Vm),Ib c=true→∀(env:List D) (S:St) (e:Vn) (env':List D) (S':St),Cj call N c env S=some (e,env',S')→env'.length=env.length
 | .skip,_,env,S,e,env',S',h=>by simp only[Cj,Oi,Pi_]at h;rw[←h.2.1]
 | .ret,_,env,S,e,env',S',h=>by simp only[Cj,Oi,Pi_]at h;rw[←h.2.1]
 | .exit i,_,env,S,e,env',S',h=>by simp only[Cj,Oi,Pi_]at h;rw[←h.2.1]
 | .region ops exps, _, env, S, e, env', S', h => by
  simp only[Cj]at h;split at h
  ·
   simp only[Oi,Pi_]at h;rw[←h.2.1,Kb]
  simp at h
 | .drawn ops exps news, _, env, S, e, env', S', h => by
  simp only[Cj]at h;split at h
  ·
   simp only[Oi,Pi_]at h;rw[←h.2.1,Kb]
  simp at h
 | .seq a b, hn, env, S, e, env', S', h => by
  simp only[Ib,Bool.and_eq_true]at hn;simp only[Cj]at h;split at h
  ·
   rename_i env1 S1 h1;rw[F5 b hn.2 _ _ _ _ _ h,F5 a hn.1 _ _ _ _ _ h1]
  exact F5 a hn.1 _ _ _ _ _ h
 | .cond c a b, hn, env, S, e, env', S', h => by
  simp only[Ib,Bool.and_eq_true]at hn;simp only[Cj]at h;split at h
  ·
   exact F5 a hn.1 _ _ _ _ _ h
  ·
   exact F5 b hn.2 _ _ _ _ _ h
  simp at h
 | .block i c, hn, env, S, e, env', S', h => by
  simp only[Ib]at hn;simp only[Cj]at h;split at h
  ·
   rename_i j env1 S1 h1;have h2:=F5 c hn _ _ _ _ _ h1;split at h
   ·
    simp only[Oi,Pi_]at h;rw[←h.2.1,h2]
   simp only[Oi,Pi_]at h;rw[←h.2.1,h2]
  exact F5 c hn _ _ _ _ _ h
 | .loop c, hn, env, S, e, env', S', h => by
  simp only[Ib]at hn;simp only[Cj]at h
  have key:∀(n:Nat) (env:List D) (S:St),Ic (Cj call N c) n env S=some (e,env',S')→env'.length=env.length:=by
   intro n
   induction n with
   | zero=>intro env S h;simp[Ic]at h
   | succ n ih =>
    intro env S h;simp only[Ic]at h;split at h
    ·
     rename_i env1 S1 h1;rw[ih _ _ h,F5 c hn _ _ _ _ _ h1]
    exact F5 c hn _ _ _ _ _ h
  exact key N env S h
 | .dfr x,hn,env,S,e,env',S',h=>by simp[Ib]at hn
 | .fail,_,env,S,e,env',S',h=>by simp[Cj]at h
theorem VL.reverse{w:World}{ρ:Vo}{H:List Vi}{ds:List D}{vs:List Value}(h:VL w ρ H ds vs):VL w ρ H ds.reverse vs.reverse:=by
 induction h with
 | nil=>exact .nil
 | cons h _ ih=>rw[List.reverse_cons,List.reverse_cons];exact ih.append (.cons h .nil)
theorem FR.mono{w w':World}{ρ ρ':Vo}{S S':St}{nt:Nat}{σ:Nat→D}{a:Act}(hs:Stp w ρ S w' ρ' S')(h:FR w ρ S.heap nt σ a):FR w' ρ' S'.heap nt σ a:=⟨h.1,fun t ht=>(h.2 t ht).mono hs⟩
theorem Mv{w:World}{ρ:Vo}{H:List Vi}{ds:List D}{vs:List Value}{slots:List Nat}{nt:Nat}(hv:VL w ρ H ds vs)(hn:vs.length≤nt):FR w ρ H nt (sig slots [] [] (slots.map fun s=>ds.getD s .undef)) { tmps:=vs.toArray++Array.replicate (nt-vs.toArray.size) undef,defers:=[] }:=by
 have qc:=hv.len;refine⟨by simp;omega,fun t ht=>?_⟩;unfold sig;simp only[Gb]
 cases hj:idxOf slots t with
 | none=>exact .undef _
 | some j =>
  have hm:=Hd hj;simp only[List.getD,Lp_,hm,Option.map_some,Option.getD_some];by_cases uV:t<vs.length
  ·
   have h1:ds[t]?=some (ds[t]'(by omega)):=Lg (by omega)
   have h2:(vs.toArray++Array.replicate (nt-vs.toArray.size) undef).getD t undef=vs[t]:=by
    rw[Array.getD_eq_getD_getElem?,Array.getElem?_append_left (by simpa using uV)];simp[uV]
   rw[h1,h2];exact hv.get h1 (Lg uV)
  rw[List.getElem?_eq_none (by omega)];exact .undef _
theorem mvOf_some{o:Op}{t:Tmp}(h:mvOf o=some t):o=.move (.tmp t)∨o=.assign (.tmp t):=by
 unfold mvOf at h;split at h<;>simp_all
theorem Oy {ops : Array Oper} {t u : Tmp} (h : Ma ops = some (t, u)) : ∃ (a b : Oper) (args : Array Operand) (tys : Array TypeId), ops = #[a, b] ∧ a.op = .call ⟨.builtin .recover, args, tys⟩ ∧ a.guard = none ∧ a.dst = some t ∧ (b.op = .move (.tmp t) ∨ b.op = .assign (.tmp t)) ∧ b.guard = none ∧ b.dst = some u ∧ t ≠ u := by
  unfold Ma at h;split at h
  · rename_i a b hab;split at h
    · rename_i c t1 t2 u1 h1 h2 h3 h4 h5 h6;obtain⟨ce,args,tys⟩:=c;simp only at h;split at h
      · split at h
        · rename_i hh;simp only[Oi,Pi_]at h;obtain⟨rfl,rfl⟩:=h;obtain⟨rfl,xB⟩:=hh;exact⟨a,b,args,tys,by rw[←Array.toList_inj];simpa using hab,h1,h2,h3,mvOf_some h4,h5,h6,xB⟩
        simp at h
      simp at h
    simp at h
  simp at h
theorem defs_ok {P : Program} {G : Nat → Option (List D)} {L : Prg} {call : Bp} {N : Nat} (hm : P.follows .mixedOrders = true) (hL : DfnOK P G L) (xO : Im P G call) (y7 : Er call) {fn : Func} {tmps : Array Value} {R : Ending → World → Prop} :
    ∀ (ds : List D) (vs : List Value) (S S' : St) (w : World) (ρ : Vo), Lt L.dfn call N ds S = some S' → VL w ρ S.heap ds vs → Rel w ρ S.heap → ρ.X.G = G →
      (∀w' ρ',Rel w' ρ' S'.heap→Stp w ρ S w' ρ' S'→Leaves P fn tmps R [] .returning w')→Leaves P fn tmps R (vs.map dfOf) .returning w
  | [], _, S, S', w, ρ, h, .nil, hr, hG, hk => by
    simp only[Lt,Oi]at h;subst h;exact hk w ρ hr (Stp.refl _ _ _)
  | d :: ds, v :: us, S, S', w, ρ, h, .cons hv rJ, hr, hG, hk => by
    obtain⟨f,caps,rfl⟩:∃f caps,d=.fn f caps:=by cases d<;>first | exact⟨_,_,rfl⟩ | (simp[Lt]at h;done)
    simp only[Lt]at h
    cases hF:L.dfn f with
    | none=>simp[hF]at h
    | some F =>
      simp only[hF]at h;split at h
      · rename_i hc;obtain⟨yB,hnd,qU⟩:=hc;obtain⟨fn2,kd,slots,zA,x9,zQ⟩:=hL f F hF
        cases yg:Cj call N F.body (F.slots.map fun s=>caps.getD s .undef) S with
        | none=>rw[yg]at h;exact absurd h (by simp)
        | some q =>
          obtain⟨e,env',S1⟩:=q
          have hx:Lt L.dfn call N ds S1=some S'∧(e=.normal∨e=.ret):=by
            rw[yg]at h
            cases e with
            | normal=>exact⟨h,.inl rfl⟩
            | ret=>exact⟨h,.inr rfl⟩
            | exit i=>simp at h
          obtain⟨hx,he⟩:=hx;unfold lowFnD at x9
          cases hb:fn2.body with
          | none=>simp[hb]at x9
          | some c =>
            simp only[hb]at x9;split at x9
            · rename_i lc ls zY hls;split at x9
              · simp at x9
              rename_i yt;split at x9
              · rename_i yJ;simp only[Bool.and_eq_true,decide_eq_true_eq]at yJ;obtain⟨yJ,zx⟩:=yJ;simp only[Oi]at x9;subst x9;simp only at yB hnd qU yg;subst qU;generalize hdv:D.fn f caps=dd at hv;cases hv<;>try (simp at hdv;done)
                rename_i f2 cs2 cvs yS hh2;simp only[D.fn.injEq]at hdv;obtain⟨rfl,rfl⟩:=hdv;have hcv:VL w ρ S.heap caps cvs:=VL.of yS fun j d v h1 h2=>hh2 j d v h1 h2;have qc:=hcv.len;have hnt:cvs.length≤fn2.ntmps:=by omega
                show Leaves P fn tmps R (⟨.fn (.func f) cvs.toArray,#[]⟩::_) .returning w;refine leaves_cons (f:=f) (args:=cvs.toArray) (by simp) ?_ ?_
                · have hnm : (fn2.name == "runtime.NumGoroutine") = false := by simpa using yt
                  simp[invoke,callFunc,zA,yt,hb]
                refine callsD_of_wpS zA hb fun c₀ cs hu=>?_;have zZ:=Mv (slots:=slots) hcv hnt;have hdx:DX w ρ S.heap slots.length (slots.map fun s=>caps.getD s .undef) []:=DX.nil (by simp)
                -- what lies behind the closure's code
                have fin:∀(ex:Exit) (a':Act) (w':World),CQ w ρ S slots fn2.ntmps e env' S1 ex a' w'→bodyPostS P fn2 c₀ cs (fun
                    | .returned _,u',w'=>Leaves P fn tmps R (List.map dfOf us) (settle u') w'
                    | .panicked chain,u',w'=>Leaves P fn tmps R (List.map dfOf us) (raised u' chain) w'
                    | .outgrown,_,w'=>R .outgrown w') ex a' (c₀::cs) w':=by
                  rintro ex a' w' ⟨ρ',h1,h2,h3,h4,h5⟩;obtain⟨v,h7,h8⟩:=Nc (P:=P) (r:=.tup []) h2 yJ h4 hls rfl
                  have hd0:a'.defers=[]:=by
                    obtain⟨_,us,wH,uU⟩:=h5;have:=F5 lc hnd _ _ _ _ _ yg;rw[List.drop_eq_nil_of_le (by simp at this;omega)]at wH;cases wH;exact uU
                  have hgo:Leaves P fn tmps R (List.map dfOf us) (settle .returning) w':=defs_ok hm hL xO y7 ds _ S1 S' w' ρ' hx (rJ.mono h3) h2 (by rw[h3.hid];exact hG) fun w2 ρ2 k1 k2=>hk w2 ρ2 k1 (h3.trans k2);have yR:c₀::cs={ c₀ with mode:=.returning }::cs:=by rw[←hu]
                  rcases he with rfl | rfl
                  · simp only [Mt] at h1;subst h1;exact⟨hd0,.returning,yR,v,h7,hgo⟩
                  simp only[Mt]at h1;subst h1;exact⟨hd0,.returning,yR,v,h7,hgo⟩
                have plain:Db P kd fn2.ntmps slots c=some lc→c.wpS P (bodyPostS P fn2 c₀ cs _) { tmps:=cvs.toArray++Array.replicate (fn2.ntmps-cvs.toArray.size) undef,defers:=[] } (c₀::cs) w:=fun zY =>
                  wpS_of_wp (Nw zQ hm xO y7 yJ c lc _ S e env' S1 _ w ρ _ zY yg hdx hr hG zZ fin)
                unfold lowBodyD at zY;split at zY
                · rename_i id ops y;split at zY
                  · rename_i t u hrec;split at zY
                    · rename_i j ly kC hj hly;split at zY
                      · rename_i qR;simp only[Oi]at zY;subst zY;obtain⟨oa,ob,args,tys,rfl,ha1,ha2,ha3,uX,hb2,hb3,htu⟩:=Oy hrec;have hmj:=Hd hj
                        have hun:u<fn2.ntmps:=by
                          have:=List.all_eq_true.1 yJ u (Lm hmj);simpa using this
                        simp only[Cj,He,onG,Ce,aop,LOp.loud,Bool.false_eq_true,if_false,List.map_cons,List.map_nil,opd,pop,Option.map_some,exports,List.getD_cons_zero]at yg;refine wpS_seq (wpS_region ?_);have qV:List.range (#[oa,ob]:Array Oper).size=[0,1]:=rfl;rw[qV];have h0:(#[oa,ob]:Array Oper)[0]?=some oa:=rfl;have h1:(#[oa,ob]:Array Oper)[1]?=some ob:=rfl;generalize hact:({ tmps:=cvs.toArray++Array.replicate (fn2.ntmps-cvs.toArray.size) undef,defers:=[] }:Act)=act at zZ;have hw0:∀b:Act,Region.wanted oa (yielded #[oa,ob] b.tmps)=true:=fun b=>by simp[Region.wanted,ha2]
                        have hw1:∀b:Act,Region.wanted ob (yielded #[oa,ob] b.tmps)=true:=fun b=>by simp[Region.wanted,hb2]
                        have hx0:(execOp act.eval oa).run P w=.ok .recover w:=by simp[execOp,ha1,resolve,invoke,builtin]
                        have hrd:recoverD (c₀::cs)=none:=by simp[recoverD,hu]
                        have hx1:(execOp (act.put (some t) .nilIface).eval ob).run P w=.ok (.value .nilIface) w:=by
                          have:(act.put (some t) .nilIface).eval (.tmp t)=.nilIface:=by
                            show (act.tmps.setIfInBounds t .nilIface).getD t undef=.nilIface;have xK:=zZ.1;simp[Array.getD_eq_getD_getElem?,xK,qR]
                          rcases uX with uX | uX<;>simp[execOp,uX,this]
                        simp only[wpOpsS,h0,hw0,if_true,hx0,hrd,h1,ha3,hw1,hx1,Oper.upon,hb3,Exit.thenS];refine wpS_of_wp ?_;have hp1:=zZ.put (dst:=some t) (r:=.nili) (v:=.nilIface) (σ':=fun x=>if some t=some x then D.nili else sig slots [] [] (slots.map fun s=>caps.getD s .undef) x) (Stp.refl w ρ S) .nili (by simpa [G5] using qR) fun x=>rfl;have hp2:=hp1.put (dst:=some u) (r:=.nili) (v:=.nilIface) (σ':=fun x=>if some u=some x then D.nili else if some t=some x then D.nili else sig slots [] [] (slots.map fun s=>caps.getD s .undef) x) (Stp.refl w ρ S) .nili (by simpa [G5] using hun) fun x=>rfl
                        have hfr2:FR w ρ S.heap fn2.ntmps (sig slots [] [] ((slots.map fun s=>caps.getD s .undef).set j .nili)) ((act.put (some t) .nilIface).put (some u) .nilIface):=by
                          refine⟨hp2.1,fun x hx=>?_⟩;have h3:=hp2.2 x hx;dsimp only at h3;unfold sig;simp only[Gb]
                          cases hi:idxOf slots x with
                          | none=>exact .undef _
                          | some i =>
                            have hmi:=Hd hi;have yO:=lt_of_some hmj;by_cases hxu:u=x
                            · subst hxu;rw[if_pos rfl]at h3;have:i=j:=by rw[hi]at hj;injection hj
                              subst this
                              have hgs:((slots.map fun s=>caps.getD s D.undef).set i D.nili).getD i D.undef=D.nili:=by
                                rw[List.getD_eq_getElem?_getD,List.getElem?_set_self (by simpa using yO)];rfl
                              show VR w ρ S.heap (((slots.map fun s=>caps.getD s D.undef).set i D.nili).getD i D.undef) _;rw[hgs];exact h3
                            have hxt:t≠x:=fun h=>by subst h;rw[kC]at hi;cases hi
                            rw[if_neg (by simpa using hxu),if_neg (by simpa using hxt)]at h3;have kJ:j≠i:=fun h=>by subst h;rw[hmj]at hmi;injection hmi with hmi;exact hxu hmi
                            unfold sig at h3;simp only[Gb,hi]at h3;simp only[List.getD,Ln_ kJ];simpa only [List.getD] using h3
                        have hdf:((act.put (some t) .nilIface).put (some u) .nilIface).defers=[]:=by rw[←hact];rfl
                        have hdx2:DX w ρ S.heap slots.length ((slots.map fun s=>caps.getD s .undef).set j .nili) ((act.put (some t) .nilIface).put (some u) .nilIface).defers:=by rw[hdf];exact DX.nil (by simp)
                        refine Nw zQ hm xO y7 yJ y ly _ S e env' S1 _ w ρ _ hly yg hdx2 hr hG hfr2 fin
                      simp at zY
                    simp at zY
                  exact plain zY
                exact plain zY
              simp at x9
            simp at x9
      simp at h
theorem Jb(L:Prg)(N:Nat):∀d,Er (Bh L N d)
 | 0=>fun f ds S r S' h=>by simp[Bh]at h
 | d + 1 => fun f ds S r S' h => by
  simp only[Bh]at h;split at h
  ·
   simp only[Oi,Pi_]at h;exact h.2.1.symm
  repeat' (first | (simp at h;done) | (split at h))
  all_goals try (simp at h;done)
  all_goals
   first | unfold leaveD at h | unfold Eu at h | unfold leave at h
   repeat' (first | (simp at h;done) | (split at h))
   all_goals first
    | (simp at h;done)
    | (simp only[Oi,Pi_]at h;exact h.2.1.symm)
theorem VR.freeR_mono{w w':World}{ρ ρ':Vo}{H H':List Vi}(hi:∀b q,Imm w ρ H b q→w'.cell? ⟨b,q,none⟩=w.cell? ⟨b,q,none⟩∧Imm w' ρ' H' b q)(ho:∀b es c,w.heap[b]?=some (.map es c)→(∀g,ρ g≠some b)→¬ρ.X b 0→w'.heap[b]?=w.heap[b]?∧(∀g,ρ' g≠some b)∧¬ρ'.X b 0){d:D}{v:Value}(h:VR w ρ H d v)(hf:d.Vs=true):VR w' ρ' H' d v:=by
 unfold D.Vs at hf;split at hf
 ·
  cases h with
  | tup _ vs hl hh=>exact .tup _ vs hl fun j d v h1 h2=>(hh j d v h1 h2).freeV_mono hi ho (List.all_eq_true.1 hf d (Lm h1))
 exact h.freeV_mono hi ho hf
def hide (ρ:Vo) (H:List Vi):Vo:=⟨fun _=>none,⟨fun b q=>ρ.X b q∨∃g,ρ g=some b∧¬∃o,H[g]?=some o∧o.kind=1∧q<o.rows.length*o.sz,ρ.X.G⟩⟩
theorem hide_in{w:World}{ρ:Vo}{H:List Vi}{d:D}{v:Value}(h:VR w ρ H d v)(hf:d.Vr=true):VR w (hide ρ H) [] d v:=by
  refine h.freeV_mono (fun b q hi=>⟨rfl,hi.1,fun hx=>?_,fun g h=>(by cases h)⟩) (fun b es c hb hg hx=>⟨rfl,fun g h=>(by cases h),fun hx'=>?_⟩) hf
  · rcases hx with hx | ⟨g, hg, hn⟩
    · exact hi.2.1 hx
    exact hn (hi.2.2 g hg)
  rcases hx' with hx' | ⟨g,hg',_⟩
  · exact hx hx'
  exact hg g hg'
theorem hide_rel{w:World}{ρ:Vo}{H:List Vi}(hr:Rel w ρ H):Rel w (hide ρ H) [] :=
 ⟨fun g g' b h=>(by cases h),fun g b h=>(by cases h),fun b q hx=>⟨(by
  rcases hx with hx | ⟨g,hg,_⟩
  ·
   exact (hr.hid b q hx).1
  exact hr.lt hg),fun g h=>(by cases h)⟩,fun g row hg=>⟨hide_in (hr.glob g row hg).1 rfl,fun k h=>(by cases h),(hr.glob g row hg).2.2⟩⟩
theorem hide_out{w:World}{ρ:Vo}{H:List Vi}(hr:Rel w ρ H){d:D}{v:Value}(h:VR w (hide ρ H) [] d v)(hf:d.Vs=true):VR w ρ H d v:=by
 have key:∀b q,¬(hide ρ H).X b q→¬ρ.X b q∧∀g,ρ g=some b→∃o,H[g]?=some o∧o.kind=1∧q<o.rows.length*o.sz:=by
  intro b q hx;refine⟨fun h=>hx (.inl h),fun g hg=>?_⟩;exact Classical.byContradiction fun hn=>hx (.inr ⟨g,hg,hn⟩)
 refine h.freeR_mono (fun b q hi=>⟨rfl,hi.1,key b q hi.2.1⟩) (fun b es c hb hg hx=>⟨rfl,fun g hg'=>?_,(key b 0 hx).1⟩) hf;obtain⟨o,ho,hk,_⟩:=(key b 0 hx).2 g hg';obtain⟨o',ho',yM⟩:=hr.obj g b hg';rw[ho]at ho';injection ho' with ho';subst ho';obtain⟨cur,hc,_⟩:=yM.1 (by omega);rw[hb]at hc;cases hc
theorem below_post{w w':World}{ρ:Vo}{S:St}{r:D}{v:Value}(hr:Rel w ρ S.heap)(zB:Ext w w')(hv:Rel w' ρ S.heap→Stp w ρ S w' ρ S→VR w' ρ S.heap r v):Vu w ρ S r S false v w':=by
 have xX:Stp w ρ S w' ρ S:=⟨rfl,zB.os,zB.tape,zB.output,zB.size,Nat.le_refl _,fun b hb hg=>⟨zB.block b hb,hg⟩,fun b q hi=>⟨Hq (zB.block b hi.1) q,Nat.lt_of_lt_of_le hi.1 zB.size,hi.2⟩,
  fun g b o ho hg hb=>zB.block b (hr.lt hb),fun g o ho=>⟨o,ho,⟨Nat.le_refl _,rfl⟩,fun _=>rfl,fun _=>⟨rfl,rfl,rfl,Nat.le_refl _,fun b cur hb hc=>⟨cur,(zB.block b (hr.lt hb)).trans hc,rfl⟩⟩⟩⟩
 have vo:Rel w' ρ S.heap:=⟨hr.inj,fun g b hb=>by
  obtain⟨o,ho,hk⟩:=hr.obj g b hb
  exact⟨o,ho,hk.mono xX (zB.block b (hr.lt hb))⟩,hr.hids xX,hr.globs xX⟩
 exact⟨ρ,vo,xX,hv vo xX,fun _=>⟨zB,rfl,rfl⟩⟩
def Ol (L : Prg) (call : Bp) (N : Nat) : Bp := fun f args S => match L.ext f args with
   | some r=>some (r,S,false)
   | none => match L.fns f with
    | none=>none
    | some F => match (if L.raw f then some args else Av S.heap.length S.heap args) with
      | none=>none
      | some args' =>
        if args'.length≠F.nargs then none else
        if L.pure f&&args'.all D.Vr then
          match Cj call N F.body (F.slots.map fun s=>args'.getD s .undef) ⟨[],0⟩ with
          | some (.exit _,_,_) | none=>none
          | some (_, env', S1) => match behind L call N f F env' S1 with
            | none=>none
            | some S' => match Bw env' S' F.res with
              | none=>none
              | some r=>if L.deep f then leaveD ⟨[],0⟩ S r S' else Eu S r S'
        else
        match Cj call N F.body (F.slots.map fun s=>args'.getD s .undef) ⟨S.heap,S.heap.length⟩ with
        | some (.exit _,_,_) | none=>none
        | some (_, env', S1) => match behind L call N f F env' S1 with
          | none=>none
          | some S' => match Bw env' S' F.res with
            | none=>none
            | some r=>if L.deep f then leaveD S S r S' else leave (L.raw f) S r S'
theorem step_ok {P : Program} {G : Nat → Option (List D)} {L : Prg} (hm : P.follows .mixedOrders = true) (hL : R9 P G L) (N : Nat) {call : Bp} (ih : Im P G call) (yB : Er call) : Im P G (Ol L call N) := by
  intro f ds S r S' wr h w ρ vs hG hr hv;simp only[Ol]at h;by_cases hE:(L.ext f ds).isSome=true
  · obtain ⟨r0, hE⟩ := Option.isSome_iff_exists.1 hE;simp only[hE,Oi,Pi_]at h;obtain⟨rfl,rfl,rfl⟩:=h;exact hL.2.1 f ds _ hE _ w ρ vs hG hr hv
  replace hE:L.ext f ds=none:=by simpa using hE
  simp only[hE]at h
  cases hF:L.fns f with
  | none=>simp[hF]at h
  | some F =>
    simp only[hF]at h;obtain⟨fn,kd,slots,zA,x9,zQ,hnd⟩:=hL.1 f F hF;unfold Qs at x9
    cases hb:fn.body with
    | none=>simp[hb]at x9
    | some c =>
      simp only[hb]at x9;split at x9
      · rename_i lc ls zY hls;split at x9
        · simp at x9
        rename_i yt;split at x9
        · rename_i yJ;simp only[Bool.and_eq_true,decide_eq_true_eq]at yJ;obtain⟨yJ,zx⟩:=yJ;simp only[Oi]at x9;subst x9;split at h
          · simp at h
          rename_i args' yw
          have qQ:VL w ρ S.heap args' vs:=by
            split at yw
            · simp only[Oi]at yw;subst yw;exact hv
            exact Jt hr (Nat.le_refl _) hv yw
          simp only[ne_eq,ite_not]at h;split at h
          · rename_i xg
            have body:∀(ρ0:Vo) (S0 S1 S2:St) (e:Vn) (env':List D) (r0:D) (Post:Value→World→Prop),ρ0.X.G=G→Rel w ρ0 S0.heap→VL w ρ0 S0.heap args' vs→Cj call N lc (slots.map fun s=>args'.getD s .undef) ⟨S0.heap,S0.heap.length⟩=some (e,env',S1)→(e=.normal∨e=.ret)→behind L call N f ⟨slots,fn.params.size+fn.nfree,lc,ls⟩ env' S1=some S2→Bw env' S2 ls=some r0 →
                (∀w' ρ' v,Rel w' ρ' S2.heap→Stp w ρ0 ⟨S0.heap,S0.heap.length⟩ w' ρ' S2→VR w' ρ' S2.heap r0 v→Post v w')→(callFunc f vs.toArray).run P w=.ok (.enter f vs.toArray) w∧Calls P f vs.toArray w fun e w'=>∃v,e=.returned v∧Post v w':=by
              intro ρ0 S0 S1 S2 e env' r0 Post hG0 hr qQ yg he qI qj hpost
              have hnm : (fn.name == "runtime.NumGoroutine") = false := by simpa using yt
              refine⟨by simp[callFunc,zA,yt,hb],?_⟩;refine calls_of_wp_defers zA hb ?_;have qc:=qQ.len;have hnt:fn.params.size+fn.nfree=vs.length:=by rw[qc,xg]
              have zZ:FR w ρ0 S0.heap fn.ntmps (sig slots [] [] (slots.map fun s=>args'.getD s .undef)) { tmps:=vs.toArray++Array.replicate (fn.ntmps-vs.toArray.size) undef,defers:=[] }:=Mv qQ (by omega);refine Nw zQ hm ih yB yJ c lc _ ⟨S0.heap,S0.heap.length⟩ e env' S1 _ w ρ0 _ zY yg (DX.nil (by simp)) hr hG0 zZ ?_;rintro ex a' w' ⟨ρ',h1,h2,h3,h4,h5⟩
              have fin:Leaves P fn a'.tmps (fun e w'=>∃v,e=.returned v∧Post v w') a'.defers .returning w':=by
                obtain⟨_,us,wH,uU⟩:=h5
                have last:∀w2 ρ2,Rel w2 ρ2 S2.heap→Stp w' ρ' S1 w2 ρ2 S2→Leaves P fn a'.tmps (fun e w'=>∃v,e=.returned v∧Post v w') [] .returning w2:=by
                  intro w2 ρ2 k1 k2;obtain⟨v,h7,h8⟩:=Nc (P:=P) k1 yJ (h4.mono k2) hls qj;exact⟨v,h7,v,rfl,hpost w2 ρ2 v k1 (h3.trans k2) h8⟩
                unfold behind at qI;split at qI
                · rw [uU, ← List.map_reverse];exact defs_ok hm hL.2.2 ih yB _ _ S1 S2 w' ρ' qI wH.reverse h2 (by rw[h3.hid];exact hG0) last
                rename_i hdf;simp only[Oi]at qI;subst qI
                have hnd':Ib lc=true:=by
                  rcases hnd with h | h
                  · exact absurd h hdf
                  exact h
                have:=F5 lc hnd' _ _ _ _ _ yg;rw[List.drop_eq_nil_of_le (by simp at this;omega)]at wH;cases wH;rw[uU];exact last w' ρ' h2 (Stp.refl _ _ _)
              rcases he with rfl | rfl
              · simp only [Mt] at h1;subst h1;exact fin
              simp only[Mt]at h1;subst h1;exact fin
            split at h
            · rename_i hpure;simp only[Bool.and_eq_true]at hpure
              cases yg:Cj call N lc (slots.map fun s=>args'.getD s .undef) ⟨[],0⟩ with
              | none=>rw[yg]at h;simp at h
              | some q =>
                obtain⟨e,env',S1⟩:=q;simp only[yg]at h
                have xB:(e=.normal∨e=.ret)∧∃S2,behind L call N f ⟨slots,fn.params.size+fn.nfree,lc,ls⟩ env' S1=some S2∧∃r0,Bw env' S2 ls=some r0∧(if L.deep f then leaveD ⟨[],0⟩ S r0 S2 else Eu S r0 S2)=some (r,S',wr):=by
                  cases e with
                  | exit i=>simp at h
                  | normal =>
                    refine⟨.inl rfl,?_⟩;simp only at h;split at h
                    · simp at h
                    rename_i S2 qI;split at h
                    · simp at h
                    rename_i r0 qj;exact⟨S2,qI,r0,qj,h⟩
                  | ret =>
                    refine⟨.inr rfl,?_⟩;simp only at h;split at h
                    · simp at h
                    rename_i S2 qI;split at h
                    · simp at h
                    rename_i r0 qj;exact⟨S2,qI,r0,qj,h⟩
                obtain⟨he,S2,qI,r0,qj,yF⟩:=xB;have hr0':=hide_rel hr
                have key:r.Vs=true∧S'=S∧wr=false∧∃S3,∀w' ρ' v,Rel w' ρ' S2.heap→Stp w (hide ρ S.heap) ⟨[],0⟩ w' ρ' S2→VR w' ρ' S2.heap r0 v→Vu w (hide ρ S.heap) ⟨[],0⟩ r S3 false v w':=by
                  split at yF
                  · have h0 := yF;unfold leaveD at h0;split at h0
                    · split at h0
                      · split at h0
                        · rename_i yN;simp only[Oi,Pi_]at h0;obtain⟨rfl,rfl,rfl⟩:=h0;exact⟨yN,rfl,rfl,_,fun w' ρ' v q1 q2 q3=>(leaveD_ok (S:=⟨[],0⟩) hr0' q1 q2 q3 yF).2.2.2⟩
                        simp at h0
                      simp at h0
                    simp at h0
                  unfold Eu at yF;split at yF
                  · rename_i r' S3 hl;split at yF
                    · rename_i yN;simp only[Oi,Pi_]at yF;obtain⟨rfl,rfl,rfl⟩:=yF;exact⟨yN,rfl,rfl,S3,fun w' ρ' v q1 q2 q3=>leave_ok (S:=⟨[],0⟩) hr0' q1 q2 q3 hl⟩
                    simp at yF
                  simp at yF
                obtain⟨yN,rfl,rfl,S3,key⟩:=key;refine body (hide ρ S'.heap) ⟨[],0⟩ S1 S2 e env' r0 _ (by simpa [hide] using hG) hr0' (VL.of qQ.len fun j d v h1 h2=>hide_in (qQ.get h1 h2) (List.all_eq_true.1 hpure.2 d (Lm h1))) yg he qI qj fun w' ρ' v q1 q2 q3=>?_;obtain⟨ρ2,p1,p2,p3,p4⟩:=key w' ρ' v q1 q2 q3;obtain⟨zB,rfl,rfl⟩:=p4 rfl
                have xX:Stp w ρ S' w' ρ S':=⟨rfl,q2.os,q2.tape,q2.output,q2.size,Nat.le_refl _,fun b hb hg=>⟨zB.block b hb,hg⟩,fun b q hi=>⟨Hq (zB.block b hi.1) q,Nat.lt_of_lt_of_le hi.1 q2.size,hi.2⟩,
                  fun g b o ho hg hb=>zB.block b (hr.lt hb),fun g o ho=>⟨o,ho,⟨Nat.le_refl _,rfl⟩,fun _=>rfl,fun _=>⟨rfl,rfl,rfl,Nat.le_refl _,fun b cur hb hc=>⟨cur,(zB.block b (hr.lt hb)).trans hc,rfl⟩⟩⟩⟩
                have vo:Rel w' ρ S'.heap:=⟨hr.inj,fun g b hb=>by
                  obtain⟨o,ho,hk⟩:=hr.obj g b hb
                  exact⟨o,ho,hk.mono xX (zB.block b (hr.lt hb))⟩,hr.hids xX,hr.globs xX⟩
                exact⟨ρ,vo,xX,hide_out vo p3 yN,fun _=>⟨zB,rfl,rfl⟩⟩
            cases yg:Cj call N lc (slots.map fun s=>args'.getD s .undef) ⟨S.heap,S.heap.length⟩ with
            | none=>rw[yg]at h;simp at h
            | some q =>
              obtain⟨e,env',S1⟩:=q;simp only[yg]at h
              have xB:(e=.normal∨e=.ret)∧∃S2,behind L call N f ⟨slots,fn.params.size+fn.nfree,lc,ls⟩ env' S1=some S2∧∃r0,Bw env' S2 ls=some r0∧(if L.deep f then leaveD S S r0 S2 else leave (L.raw f) S r0 S2)=some (r,S',wr):=by
                cases e with
                | exit i=>simp at h
                | normal =>
                  refine⟨.inl rfl,?_⟩;simp only at h;split at h
                  · simp at h
                  rename_i S2 qI;split at h
                  · simp at h
                  rename_i r0 qj;exact⟨S2,qI,r0,qj,h⟩
                | ret =>
                  refine⟨.inr rfl,?_⟩;simp only at h;split at h
                  · simp at h
                  rename_i S2 qI;split at h
                  · simp at h
                  rename_i r0 qj;exact⟨S2,qI,r0,qj,h⟩
              obtain⟨he,S2,qI,r0,qj,yF⟩:=xB;refine body ρ S S1 S2 e env' r0 _ hG hr qQ yg he qI qj fun w' ρ' v q1 q2 q3=>?_;split at yF
              · obtain ⟨rfl, rfl, _, hp⟩ := leaveD_ok hr q1 q2 q3 yF;exact hp
              exact leave_ok hr q1 q2 q3 yF
          simp at h
        simp at x9
      simp at x9
theorem Na{P:Program}{G:Nat→Option (List D)}{L:Prg}(hm:P.follows .mixedOrders=true)(hL:R9 P G L)(N:Nat):∀d,Im P G (Bh L N d)
 | 0=>fun f ds S r S' wr h=>by simp[Bh]at h
 | d+1=>fun f ds S r S' wr h=>step_ok hm hL N (Na hm hL N d) (Jb L N d) f ds S r S' wr (by simp only[Bh]at h;exact h)
def NN:Nat:=18446744073709551616
section
variable {call:Bp}
def CW (call:Bp) (c:Vm) (Q:Vn→List D→St→Prop) (env:List D) (S:St):Prop :=
 ∃e env' S',Cj call NN c env S=some (e,env',S')∧Q e env' S'
def OW (call:Bp) (ops:List Vk) (vals env:List D) (S:St) (K:List D→St→Prop):Prop :=
 ∃vals' S',He call ops vals env S=some (vals',S')∧K vals' S'
def DW (call:Bp) (n:Nat) (news:List (TypeId × List D)) (ops:List Vk) (fps:List FP) (vals env:List D) (S:St) (K:List D→St→Prop):Prop :=
 ∃vals' S',Js call n news ops fps vals env S=some (vals',S')∧K vals' S'
def SeqK (call:Bp) (b:Vm) (Q:Vn→List D→St→Prop):Vn→List D→St→Prop
 | .normal,env,S=>CW call b Q env S
 | e,env,S=>Q e env S
def BlkK (i:Nat) (Q:Vn→List D→St→Prop):Vn→List D→St→Prop
 | .exit j,env,S=>if j=i then Q .normal env S else Q (.exit j) env S
 | e,env,S=>Q e env S
variable {Q:Vn→List D→St→Prop} {env:List D} {S:St}
theorem Bn(h:Q .normal env S):CW call .skip Q env S:=⟨_,_,_,rfl,h⟩
theorem Cy(h:Q .ret env S):CW call .ret Q env S:=⟨_,_,_,rfl,h⟩
theorem Eh{i:Nat}(h:Q (.exit i) env S):CW call (.exit i) Q env S:=⟨_,_,_,rfl,h⟩
theorem Ak{a b:Vm}(h:CW call a (SeqK call b Q) env S):CW call (.seq a b) Q env S:=by
 obtain⟨e,env',S',h1,h2⟩:=h
 cases e with
 | normal =>
  obtain⟨e2,env2,S2,h3,h4⟩:=h2;exact⟨e2,env2,S2,by simp only[Cj,h1];exact h3,h4⟩
 | ret=>exact⟨.ret,env',S',by simp only[Cj,h1],h2⟩
 | exit i=>exact⟨.exit i,env',S',by simp only[Cj,h1],h2⟩
theorem Bo{i:Nat}{c:Vm}(h:CW call c (BlkK i Q) env S):CW call (.block i c) Q env S:=by
  obtain⟨e,env',S',h1,h2⟩:=h
  cases e with
  | normal=>exact⟨.normal,env',S',by simp only[Cj,h1],h2⟩
  | ret=>exact⟨.ret,env',S',by simp only[Cj,h1],h2⟩
  | exit j =>
    by_cases hj:j=i
    · exact⟨.normal,env',S',by simp only[Cj,h1,hj,if_true],by simpa [BlkK,hj] using h2⟩
    exact⟨.exit j,env',S',by simp only[Cj,h1,hj,if_false],by simpa [BlkK,hj] using h2⟩
theorem J2{c:Vl}{a b:Vm}(hc:opd [] env c=.bool true)(h:CW call a Q env S):CW call (.cond c a b) Q env S:=by
 obtain⟨e,env',S',h1,h2⟩:=h;exact⟨e,env',S',by simp only[Cj,hc];exact h1,h2⟩
theorem Hy{c:Vl}{a b:Vm}(hc:opd [] env c=.bool false)(h:CW call b Q env S):CW call (.cond c a b) Q env S:=by
 obtain⟨e,env',S',h1,h2⟩:=h;exact⟨e,env',S',by simp only[Cj,hc];exact h1,h2⟩
theorem Dl{c:Vl}{a b:Vm}{t:Bool}(hc:opd [] env c=.bool t)(ht:t=true→CW call a Q env S)(hf:t=false→CW call b Q env S):CW call (.cond c a b) Q env S:=by
 cases t with
 | true=>exact J2 hc (ht rfl)
 | false=>exact Hy hc (hf rfl)
theorem Al{ops:List Vk}{exps:List (Nat × Nat)}(h:OW call ops [] env S (fun vals S'=>Q .normal (exports exps vals env) S')):CW call (.region ops exps) Q env S:=by
 obtain⟨vals,S',h1,h2⟩:=h;exact⟨_,_,_,by simp only[Cj,h1],h2⟩
theorem Ew{ops:List Vk}{exps:List (Nat × Nat)}{news:List (TypeId × List D)}{tl:List D}{S0:St}(ht:Ci S.heap.length news.length=tl)(hS:(⟨S.heap++news.map D9,S.low⟩:St)=S0)(h:DW call S.heap.length news ops [] tl env S0 (fun vals S'=>Q .normal (exports exps vals env) S')):CW call (.drawn ops exps news) Q env S:=by
 subst ht hS;obtain⟨vals,S',h1,h2⟩:=h;exact⟨_,_,_,by simp only[Cj,h1],h2⟩
theorem cw_mono{c:Vm}{Q':Vn→List D→St→Prop}(h:CW call c Q env S)(hq:∀e env' S',Q e env' S'→Q' e env' S'):CW call c Q' env S:=by
 obtain⟨e,env',S',h1,h2⟩:=h;exact⟨e,env',S',h1,hq _ _ _ h2⟩
variable {vals:List D} {K:List D→St→Prop} {os:List Vk} {l:LOp} {args:List Vl} {od:List Bool} {ho:Option Nat}
theorem Ab(h:K vals S):OW call [] vals env S K:=⟨_,_,rfl,h⟩
theorem Aa{r:D}{S':St}{wr:Bool}(hx:Ce call l (args.map (opd vals env)) S=some (r,S',wr))(h:OW call os (r::vals) env S' K):OW call (⟨l,args,none,od,ho⟩::os) vals env S K:=by
 obtain⟨vals',S2,h1,h2⟩:=h;refine⟨vals',S2,?_,h2⟩;simp only[He,onG,hx];exact h1
theorem exOp_pop{r:D}(hl:l.loud=false)(hx:pop l (args.map (opd vals env))=some r):Ce call l (args.map (opd vals env)) S=some (r,S,false):=by
 have:Ce call l (args.map (opd vals env)) S=aop l (args.map (opd vals env)) S:=by cases l<;>first | rfl | (simp[LOp.loud]at hl;done)
 rw[this];simp[aop,hl,hx]
theorem ow_pop{r:D}(hl:l.loud=false)(hx:pop l (args.map (opd vals env))=some r)(h:OW call os (r::vals) env S K):OW call (⟨l,args,none,od,ho⟩::os) vals env S K:=Aa (exOp_pop hl hx) h
theorem Bd{d:Nat}{b:Bool}(hg:vals.getD d .undef=.bool b)(h:OW call (⟨l,args,none,od,ho⟩::os) vals env S K):OW call (⟨l,args,some (d,b),od,ho⟩::os) vals env S K:=by
 obtain⟨vals',S2,h1,h2⟩:=h;refine⟨vals',S2,?_,h2⟩;simp only[He,onG,hg,beq_self_eq_true]at h1 ⊢;exact h1
theorem Cn{d:Nat}{b b':Bool}(hg:vals.getD d .undef=.bool b')(hb:(b'==b)=false)(h:OW call os (.skip::vals) env S K):OW call (⟨l,args,some (d,b),od,ho⟩::os) vals env S K:=by
 obtain⟨vals',S2,h1,h2⟩:=h;refine⟨vals',S2,?_,h2⟩;simp only[He,onG,hg,hb];exact h1
theorem El{d:Nat}{b:Bool}(hg:vals.getD d .undef=.skip)(h:OW call os (.skip::vals) env S K):OW call (⟨l,args,some (d,b),od,ho⟩::os) vals env S K:=by
 obtain⟨vals',S2,h1,h2⟩:=h;refine⟨vals',S2,?_,h2⟩;simp only[He,onG,hg];exact h1
theorem set_getD{vals:List D}{d:Nat}{x:D}(h:vals.getD d .undef=x)(hx:x≠.undef):vals.set d x=vals:=by
 induction vals generalizing d with
 | nil=>simp at h;exact (hx h.symm).elim
 | cons a l ih =>
  cases d with
  | zero=>simp at h;simp[h]
  | succ d=>simp at h;simp;exact ih (by simpa using h)
theorem O5{ops:List Vk}{vt vf:List D}(d:Nat){b:Bool}(hg:vals.getD d .undef=.bool b)(ht:vals.set d (.bool true)=vt)(hf:vals.set d (.bool false)=vf)(h1:b=true→OW call ops vt env S K)(h2:b=false→OW call ops vf env S K):OW call ops vals env S K:=by
 cases b with
 | true=>rw[←set_getD hg (by simp)];rw[ht];exact h1 rfl
 | false=>rw[←set_getD hg (by simp)];rw[hf];exact h2 rfl
variable {n:Nat} {news:List (TypeId × List D)} {fps:List FP}
theorem Cw(h:K vals S):DW call n news [] fps vals env S K:=⟨_,_,rfl,h⟩
theorem Bb{r:D}{S':St}{wr:Bool}{fp:FP}(hx:Ce call l (args.map (opd vals env)) S=some (r,S',wr))(hf:Ao n ⟨l,args,none,od,ho⟩ (args.map (opd vals env)) r wr=fp)(yM:Ai n news ⟨l,args,none,od,ho⟩ fps fp S'=true)(h:DW call n news os (fp::fps) (r::vals) env S' K):DW call n news (⟨l,args,none,od,ho⟩::os) fps vals env S K:=by
 obtain⟨vals',S2,h1,h2⟩:=h;subst hf;refine⟨vals',S2,?_,h2⟩;simp only[Js,onG,hx,yM,if_true];exact h1
theorem Ni:∀(bs:List Bool) (fs:List FP),bs.length=fs.length→Bl bs fs Ae=true
 | [],[],_=>rfl
 | b::bs,f::fs,h=>by
  simp only[Bl,Bool.and_eq_true];refine⟨?_,Ni bs fs (by simpa using h)⟩;unfold Aj;split<;>simp_all [Ae,Aq,Au]
 | [],_::_,h=>by simp at h
 | _::_,[],h=>by simp at h
theorem dw_pop{r:D}(hl:l.loud=false)(hx:pop l (args.map (opd vals env))=some r)(hn:od.length=fps.length)(h:DW call n news os (Ae::fps) (r::vals) env S K):DW call n news (⟨l,args,none,od,none⟩::os) fps vals env S K:=by
 have hf:F3 l (args.map (opd vals env)) r false=Ae:=by
  cases l<;>first | rfl | (simp[LOp.loud]at hl;done) | skip
  rename_i st _ _ _ _;cases st
  ·
   simp[LOp.loud]at hl
  rfl
 refine Bb (exOp_pop hl hx) (fp:=Ae) hf ?_ h;simp only[Ai,Bool.and_eq_true];exact⟨Ni od fps hn,rfl⟩
theorem Am{r:D}{wr:Bool}{S':St}(hx:Ce call l (args.map (opd vals env)) S=some (r,S',wr))(hl:l.loud=false)(hn:od.length=fps.length)(h:DW call n news os (Ae::fps) (r::vals) env S' K):DW call n news (⟨l,args,none,od,none⟩::os) fps vals env S K:=by
 have:Ce call l (args.map (opd vals env)) S=aop l (args.map (opd vals env)) S:=by cases l<;>first | rfl | (simp[LOp.loud]at hl;done)
 rw[this]at hx;simp only[aop,hl,Bool.false_eq_true,if_false,Om,Pi_]at hx;obtain⟨r',h1,rfl,rfl,rfl⟩:=hx;exact dw_pop hl h1 hn h
def LoopK (I:Nat→List D→St→Prop) (n:Nat) (Q:Vn→List D→St→Prop):Vn→List D→St→Prop
 | .normal,env,S=>∃m,m<n∧I m env S
 | e,env,S=>Q e env S
theorem E8{c:Vm}(I:Nat→List D→St→Prop)(n:Nat)(hn:n<18446744073709551616)(h0:I n env S)(hr:∀n env S,I n env S→CW call c (LoopK I n Q) env S):CW call (.loop c) Q env S:=by
 have key:∀n k env S,n<k→I n env S→∃e env' S',Ic (Cj call NN c) k env S=some (e,env',S')∧Q e env' S':=by
  intro n
  induction n using Nat.strongRecOn with
  | _ n ih =>
   intro k env S hk hI;obtain⟨e,env1,S1,h1,h2⟩:=hr n env S hI;obtain⟨k',rfl⟩:∃k',k=k'+1:=⟨k-1,by omega⟩;simp only[Ic,h1]
   cases e with
   | normal =>
    obtain⟨m,hm,hI'⟩:=h2;exact ih m hm k' env1 S1 (by omega) hI'
   | ret=>exact⟨.ret,env1,S1,rfl,h2⟩
   | exit i=>exact⟨.exit i,env1,S1,rfl,h2⟩
 obtain⟨e,env',S',h1,h2⟩:=key n NN env S (by unfold NN;exact hn) h0;exact⟨e,env',S',by simp only[Cj];exact h1,h2⟩
end
def FinK (L:Prg) (f:FuncId) (F:Vj) (S:St) (x:D × St × Bool):Vn→List D→St→Prop
 | .exit _,_,_=>False
 | _,env',S2=>∃r0,Bw env' S2 F.res=some r0∧leave (L.raw f) S r0 S2=some x
def FinP (F:Vj) (r:D):Vn→List D→St→Prop
 | .exit _,_,_=>False
 | _,env',S2=>∃r0,Bw env' S2 F.res=some r0∧Eu ⟨[],0⟩ r0 S2=some (r,⟨[],0⟩,false)
theorem Nl{S T:St}{r0 r:D}{S2:St}(h:Eu T r0 S2=some (r,T,false)):Eu S r0 S2=some (r,S,false):=by
 unfold Eu at h ⊢;split at h
 ·
  rename_i r' S3 hl;split at h
  ·
   rename_i hf;simp only[Oi,Pi_]at h;obtain⟨rfl,_⟩:=h;simp[hf]
  simp at h
 simp at h
theorem Eg{L:Prg}{d:Nat}{f:FuncId}{F:Vj}{args args' env0:List D}{S:St}{x:D × St × Bool}(hF:L.fns f=some F)(ha:(if L.raw f then some args else Av S.heap.length S.heap args)=some args')(hl:args'.length=F.nargs)(hp:(L.pure f&&args'.all D.Vr)=false)(he:(F.slots.map fun s=>args'.getD s .undef)=env0)(hd:0<d)
  (hb:∀d',d=d'+1→CW (Bh L NN d') F.body (FinK L f F S x) env0 ⟨S.heap,S.heap.length⟩) (hdp:L.deep f=false:=by rfl) (hE:L.ext f args=none:=by rfl) (vK:L.dfs f=false:=by rfl):Bh L NN d f args S=some x:=by
 subst he;obtain⟨d',rfl⟩:∃d',d=d'+1:=⟨d-1,by omega⟩;obtain⟨e,env',S2,h1,h2⟩:=hb d' rfl;simp only[Bh,behind,vK,hE,hF,ha,hl,hp,ne_eq,not_true_eq_false,if_false,Bool.false_eq_true,h1,hdp]
 cases e with
 | exit i=>exact h2.elim
 | normal =>
  obtain⟨r0,h3,h4⟩:=h2;simp only[h3];exact h4
 | ret =>
  obtain⟨r0,h3,h4⟩:=h2;simp only[h3];exact h4
theorem run_pure{L:Prg}{d:Nat}{f:FuncId}{F:Vj}{args args' env0:List D}{S:St}{r:D}(hF:L.fns f=some F)(ha:(if L.raw f then some args else Av S.heap.length S.heap args)=some args')(hl:args'.length=F.nargs)(hp:(L.pure f&&args'.all D.Vr)=true)(he:(F.slots.map fun s=>args'.getD s .undef)=env0)(hd:0<d)
  (hb:∀d',d=d'+1→CW (Bh L NN d') F.body (FinP F r) env0 ⟨[],0⟩) (hdp:L.deep f=false:=by rfl) (hE:L.ext f args=none:=by rfl) (vK:L.dfs f=false:=by rfl):Bh L NN d f args S=some (r,S,false):=by
 subst he;obtain⟨d',rfl⟩:∃d',d=d'+1:=⟨d-1,by omega⟩;obtain⟨e,env',S2,h1,h2⟩:=hb d' rfl;simp only[Bh,behind,vK,hE,hF,ha,hl,hp,ne_eq,not_true_eq_false,if_false,if_true,h1,hdp,Bool.false_eq_true]
 cases e with
 | exit i=>exact h2.elim
 | normal =>
  obtain⟨r0,h3,h4⟩:=h2;simp only[h3];exact Nl h4
 | ret =>
  obtain⟨r0,h3,h4⟩:=h2;simp only[h3];exact Nl h4
def FinE (S2:St):Vn→List D→St→Prop
 | .exit _,_,_=>False
 | _,_,S=>S=S2
theorem exDefs_one{tab:FuncId→Option Vj}{call:Bp}{f:FuncId}{caps env0:List D}{F:Vj}{S S2:St}(hF:tab f=some F)(hl:caps.length=F.nargs)(hn:Ib F.body=true)(hr:F.res=[])(he:(F.slots.map fun s=>caps.getD s .undef)=env0)(h:CW call F.body (FinE S2) env0 S):Lt tab call NN [.fn f caps] S=some S2:=by
 subst he;obtain⟨e,env',S',h1,h2⟩:=h;simp only[Lt,hF,hl,hn,hr,and_self,if_true,h1]
 cases e with
 | exit i=>exact h2.elim
 | normal=>exact congrArg some h2
 | ret=>exact congrArg some h2
section
variable {call:Bp} {b:Vm} {Q:Vn→List D→St→Prop} {env env':List D} {S:St} {i j:Nat}
theorem Cb(he:env'=env)(h:CW call b Q env S):SeqK call b Q .normal env' S:=he▸h
theorem Kg(h:Q .ret env S):SeqK call b Q .ret env S:=h
theorem J4(h:Q (.exit i) env S):SeqK call b Q (.exit i) env S:=h
theorem Fu(h:Q .normal env S):BlkK i Q .normal env S:=h
theorem Oc(h:Q .ret env S):BlkK i Q .ret env S:=h
theorem Kc(h:Q .normal env S):BlkK i Q (.exit i) env S:=by simpa [BlkK] using h
theorem Jh{I:Nat→List D→St→Prop}{n:Nat}(he:env'=env)(h:∃m,m<n∧I m env S):LoopK I n Q .normal env' S:=he▸h
theorem lk_r{I:Nat→List D→St→Prop}{n:Nat}(h:Q .ret env S):LoopK I n Q .ret env S:=h
theorem K4{I:Nat→List D→St→Prop}{n:Nat}(h:Q (.exit i) env S):LoopK I n Q (.exit i) env S:=h
end
theorem Dq{α:Type}(H L:List α)(k:Nat):(H++L)[H.length+k]?=L[k]?:=by
 rw[Lr_ (by omega),Nat.add_sub_cancel_left]
theorem Dm{α:Type}(H L:List α):(H++L)[H.length]?=L[0]?:=Dq H L 0
theorem D8{α:Type}(H L:List α)(k:Nat)(x:α):(H++L).set (H.length+k) x=H++L.set k x:=by
 rw[List.set_append,if_neg (by omega),Nat.add_sub_cancel_left]
theorem Dt{α:Type}(H L:List α)(x:α):(H++L).set H.length x=H++L.set 0 x:=D8 H L 0 x
theorem min_low(n k:Nat):min n (n+k)=n:=by omega
open Go.RowKit
def I6 (call:Bp) (c:Vm):Nat→List D→St→List D→St→Prop
 | 0,env,S,env',S'=>env'=env∧S'=S
 | n+1,env,S,env',S'=>∃e1 S1,Cj call NN c env S=some (.normal,e1,S1)∧I6 call c n e1 S1 env' S'
def G6:D:=.ifc 0 .undef
theorem panD_not:¬Real G6:=by
 rintro⟨w,ρ,H,v,h⟩
 cases h with
 | ifc _ _ _ hf=>cases hf
open Classical in
noncomputable def U1 (call:Bp) (f:FuncId) (SP:St) (XS:List D→Prop):Bp:=fun g xs S=>if g=f∧S=SP∧XS xs then some (G6,SP,false) else call g xs S
theorem Fg{call:Bp}{f:FuncId}{SP:St}{XS:List D→Prop}{xs:List D}(h:XS xs):U1 call f SP XS f xs SP=some (G6,SP,false):=if_pos ⟨rfl,rfl,h⟩
theorem callX_clean{call:Bp}{f:FuncId}{SP:St}{XS:List D→Prop}(h:Er call):Er (U1 call f SP XS):=by
 intro g xs S r S' hx;unfold U1 at hx;split at hx
 ·
  rename_i hc;simp only[Oi,Pi_]at hx;rw[←hx.2.1,hc.2.1]
 exact h g xs S r S' hx
inductive PW (call:Bp):Vm→List D→St→List D→St→FuncId→(List D→Prop)→Prop
 | seqL {a b:Vm} {env eP:List D} {S SP:St} {f:FuncId} {XS:List D→Prop} (h:PW call a env S eP SP f XS):PW call (.seq a b) env S eP SP f XS
 | seqR {a b:Vm} {env e1 eP:List D} {S S1 SP:St} {f:FuncId} {XS:List D→Prop} (h1:Cj call NN a env S=some (.normal,e1,S1)) (h:PW call b e1 S1 eP SP f XS):PW call (.seq a b) env S eP SP f XS
 | condT {c:Vl} {a b:Vm} {env eP:List D} {S SP:St} {f:FuncId} {XS:List D→Prop} (hc:opd [] env c=.bool true) (h:PW call a env S eP SP f XS):PW call (.cond c a b) env S eP SP f XS
 | condF {c:Vl} {a b:Vm} {env eP:List D} {S SP:St} {f:FuncId} {XS:List D→Prop} (hc:opd [] env c=.bool false) (h:PW call b env S eP SP f XS):PW call (.cond c a b) env S eP SP f XS
 | block {i:Nat} {c:Vm} {env eP:List D} {S SP:St} {f:FuncId} {XS:List D→Prop} (h:PW call c env S eP SP f XS):PW call (.block i c) env S eP SP f XS
 | loop {n:Nat} {c:Vm} {env e1 eP:List D} {S S1 SP:St} {f:FuncId} {XS:List D→Prop} (hn:n<NN) (h1:I6 call c n env S e1 S1) (h:PW call c e1 S1 eP SP f XS):PW call (.loop c) env S eP SP f XS
 | region {pre post:List Vk} {args:List Vl} {od:List Bool} {ho:Option Nat} {exps:List (Nat × Nat)} {env vals:List D} {S SP:St} {f:FuncId} {XS:List D→Prop} (h1:He call pre [] env S=some (vals,SP)) (hx:XS (args.map (opd vals env))):PW call (.region (pre++⟨.call f,args,none,od,ho⟩::post) exps) env S (exports exps [] env) SP f XS
 | drawn {ops:List Vk} {exps:List (Nat × Nat)} {news:List (TypeId × List D)} {env vals:List D} {S S' SP:St} {f:FuncId} {XS:List D→Prop} (h1:Js (U1 call f SP XS) S.heap.length news ops [] (Ci S.heap.length news.length) env ⟨S.heap++news.map D9,S.low⟩=some (vals,S')) (d:Nat) (hd:d<ops.length) (hp:vals.getD d .undef=G6):PW call (.drawn ops exps news) env S (exports exps [] env) SP f XS
section
variable {P:Program} {call:Bp} {kd:Kd} {nt:Nat} {slots:List Nat}
theorem lowL_split{post:List Vk}{o:Vk}:∀{pre:List Vk} {os:List Oper} {prev:List (Option Tmp)},LowL P kd nt slots os prev (pre++o::post) →
  ∃os1 oo os2,os=os1++oo::os2∧LowL P kd nt slots os1 prev pre∧∃l xs args g mt,Jv P (kd.lit mt) oo=some (l,xs)∧Km kd.glob slots ((os1.map (·.dst)).reverse++prev) xs=some args∧Ht ((os1.map (·.dst)).reverse++prev) oo.guard=some g∧o=⟨l,args,g,[],none⟩
 | [], os, prev, h => by
  cases os with
  | nil=>simp[LowL]at h
  | cons o1 os =>
   obtain⟨l,xs,args,g,rest,mt,h1,h2,h3,_,_,h6⟩:=h;simp only[List.nil_append,List.cons.injEq]at h6;exact⟨[],o1,os,rfl,rfl,l,xs,args,g,mt,h1,by simpa using h2,by simpa using h3,h6.1⟩
 | p :: pre, os, prev, h => by
  cases os with
  | nil=>simp[LowL]at h
  | cons o1 os =>
   obtain⟨l,xs,args,g,rest,mt,h1,h2,h3,h4,h5,h6⟩:=h;simp only[List.cons_append,List.cons.injEq]at h6;obtain⟨rfl,rfl⟩:=h6;obtain⟨os1,oo,os2,rfl,k2,l',xs',args',g',mt',k3,k4,k5,k6⟩:=lowL_split h5;exact⟨o1::os1,oo,os2,rfl,⟨l,xs,args,g,pre,mt,h1,h2,h3,h4,k2,rfl⟩,l',xs',args',g',mt',k3,by simpa using k4,by simpa using k5,k6⟩
theorem lowOpF_call{kd:Kd}{o:Oper}{f:FuncId}{xs:List Operand}(h:Jv P kd o=some (.call f,xs)):O8 P kd o=some (.call f,xs):=by
 unfold Jv at h;split at h
 ·
  rename_i x hx;rw[hx];exact h
 simp at h
theorem lowGuard_none{prev:List (Option Tmp)}{g:Option (Nat × Bool)}(h:Ht prev g=some none):g=none:=by
 cases g with
 | none=>rfl
 | some jb =>
  exfalso;unfold Ht at h;simp only at h
  repeat' (first | (simp at h;done) | (split at h))
theorem locOf_none{t:Nat}:∀{l:List (Option Tmp)},(∀x∈l,x≠some t)→Gb l t=none
  | [],_=>rfl
  | x :: l, h => by
    unfold Gb;have:=h x List.mem_cons_self;split
    · rename_i h1;exact absurd (by simpa using h1) this
    rw[locOf_none fun y hy=>h y (List.mem_cons_of_mem _ hy)];rfl
theorem K3{t:Nat}:∀{l:List (Option Tmp)},Gb l t=none→∀x∈l,x≠some t
 | x :: l, h, y, hy => by
  unfold Gb at h;split at h
  ·
   simp at h
  rename_i h1;rcases List.mem_cons.1 hy with rfl | hy
  ·
   simpa using h1
  exact K3 (by simpa using h) y hy
theorem locOf_part{t:Nat}{os1 os2:List Oper}{oo:Oper}(h:Gb (dstsOf (os1++oo::os2)) t=none):Gb ((os1.map (·.dst)).reverse) t=none:=by
 refine locOf_none fun x hx=>K3 h x ?_;unfold dstsOf;simp only[List.map_append,List.reverse_append,List.mem_append];exact .inr hx
def PQ (P:Program) (G:Nat→Option (List D)) (w:World) (ρ:Vo) (S:St) (nt:Nat) (slots:List Nat) (eP:List D) (SP:St) (f:FuncId) (XS:List D→Prop) (Q:Exit→Act→World→Prop):Prop :=
 ∀(xs:List D) (a1:Act) (w1:World) (ρ1:Vo) (vs:List Value),XS xs→ρ1.X.G=G→Rel w1 ρ1 SP.heap→Stp w ρ S w1 ρ1 SP→DX w1 ρ1 SP.heap slots.length eP a1.defers→FR w1 ρ1 SP.heap nt (sig slots [] [] eP) a1→VL w1 ρ1 SP.heap xs vs →
  (callFunc f vs.toArray).run P w1=.ok (.enter f vs.toArray) w1∧Calls P f vs.toArray w1 fun e w'=>∃ch,e=.panicked ch∧Q (.panic ch) a1 w'
theorem PQ.after{G:Nat→Option (List D)}{w w1:World}{ρ ρ1:Vo}{S S1 SP:St}{eP:List D}{f:FuncId}{XS:List D→Prop}{Q:Exit→Act→World→Prop}(h:PQ P G w ρ S nt slots eP SP f XS Q)(hs:Stp w ρ S w1 ρ1 S1):PQ P G w1 ρ1 S1 nt slots eP SP f XS Q :=
 fun xs a1 w2 ρ2 vs hx hG hr xX=>h xs a1 w2 ρ2 vs hx hG hr (hs.trans xX)
theorem pan_region{G:Nat→Option (List D)}(zQ:∀g row,kd.glob g=some row→G g=some row)(xO:Im P G call)(hs:slots.all (·<nt)=true){ops:Array Oper}{os tl:List Oper}{pre post:List Vk}{args:List Vl}{od:List Bool}{ho:Option Nat}{env vals:List D}{S SP:St}{a:Act}{w:World}{ρ:Vo}{f:FuncId}{XS:List D→Prop}{Q:Exit→Act→World→Prop}
  {exps:List (Nat × Nat)} (zH:ops.toList=os++tl) (hexp:exps=Il (dstsOf os) slots 0) (x9:LowL P kd nt slots os [] (pre++⟨.call f,args,none,od,ho⟩::post)) (hx:He call pre [] env S=some (vals,SP)) (yP:XS (args.map (opd vals env))) (hd:DX w ρ S.heap slots.length env a.defers) (hr:Rel w ρ S.heap) (hG:ρ.X.G=G) (hf:FR w ρ S.heap nt (sig slots [] [] env) a) (hQ:PQ P G w ρ S nt slots (exports exps [] env) SP f XS Q) :
  wpOps P ops Q (List.range ops.size) a w:=by
 obtain⟨os1,oo,os2,rfl,h1,l,ys,args',g,mt,h2,h3,h4,h5⟩:=lowL_split (post:=post) x9;simp only[Vk.mk.injEq]at h5;obtain⟨rfl,rfl,rfl,_,_⟩:=h5
 have hpd:∀d∈(os1.map (·.dst)).reverse,G5 nt d=true:=by
  have key:∀(os:List Oper) (prev:List (Option Tmp)) (los:List Vk),LowL P kd nt slots os prev los→∀d∈os.map (·.dst),G5 nt d=true:=by
   intro os
   induction os with
   | nil=>intro prev los _ d hd;simp at hd
   | cons o os ih =>
    intro prev los h d hd;obtain⟨_,_,_,_,_,_,_,_,_,k4,k5,_⟩:=h;rcases List.mem_cons.1 hd with rfl | hd
    ·
     exact k4
    exact ih _ _ k5 d hd
  intro d hd;exact key _ _ _ h1 d (List.mem_reverse.1 hd)
 have xK:ops.size=os1.length+(oo::(os2++tl)).length:=by
  rw[←Array.length_toList,zH];simp
 rw[List.range_eq_range',xK];refine Ri xO (oo::(os2++tl)) zQ hs os1 0 [] [] pre S vals SP a w ρ (by simp[zH]) (by simp) (by simp) h1 hx hr hG hf fun a1 w1 ρ1 k1 k2 k3 k4=>?_;have htk:ops.toList.take (0+os1.length)=os1:=by rw[zH];simp
 rw[htk]at k3;rw[show 0+os1.length=os1.length by omega,List.length_cons,List.range'_succ]
 have zP:ops[os1.length]?=some oo:=by
  rw[←Array.getElem?_toList,zH];simp
 have vY:oo.guard=none:=lowGuard_none h4;have hw:Region.wanted oo (yielded ops a1.tmps)=true:=by simp[Region.wanted,vY]
 simp only[wpOps,zP,hw,if_true];left;simp only[List.append_nil]at h3;have hG1:ρ1.X.G=G:=by rw[k2.hid];exact hG
 have hv:VL w1 ρ1 SP.heap (args.map (opd vals env)) (ys.map a1.eval) :=
  Vd (fun g row hg=>(k1.glob g row (by rw[hG1];exact zQ g row (kd_glob hg))).1) hs hpd h3 fun t _ ht=>k3.2 t ht
 obtain⟨cargs,tys,yZ,rfl⟩:=lowOp_call (lowOpF_call h2)
 have zZ:FR w1 ρ1 SP.heap nt (sig slots [] [] (exports exps [] env)) a1:=by
  refine⟨k3.1,fun t ht=>?_⟩;rw[hexp,sig_end hd.1]
  cases hj:idxOf slots t with
  | none=>exact .undef _
  | some j =>
   simp only;unfold sig
   cases hl:Gb (dstsOf (os1++oo::os2)) t with
   | some d=>exact .undef _
   | none =>
    have h0:=k3.2 t ht;unfold sig at h0;rw[locOf_part hl]at h0;exact h0
 obtain⟨q1,q2⟩:=hQ _ a1 w1 ρ1 _ yP hG1 k1 k2 (by rw[k4,hexp];exact (hd.mono k2).exps) zZ hv;have he:(cargs.toList.map a1.eval).toArray=cargs.map a1.eval:=by apply Array.ext';simp
 rw[he]at q1 q2;have yg:(execOp a1.eval oo).run P w1=(callFunc f (cargs.map a1.eval)).run P w1:=by simp[execOp,yZ,resolve,Deferred.ofValue,invoke,Act.eval]
 unfold Oper.wp;rw[yg,q1,Oper.upon_enter];refine q2.mono ?_;rintro e w' ⟨ch,rfl,hq⟩;exact hq
theorem pw_ok {G : Nat → Option (List D)} (zQ : ∀ g row, kd.glob g = some row → G g = some row) (hm : P.follows .mixedOrders = true) (xO : Im P G call) (y7 : Er call) (hs : slots.all (· < nt) = true) :
    ∀ (c : Code) (lc : Vm) (env eP : List D) (S SP : St) (f : FuncId) (XS : List D → Prop) (a : Act) (w : World) (ρ : Vo) (Q : Exit → Act → World → Prop), Db P kd nt slots c = some lc → PW call lc env S eP SP f XS → DX w ρ S.heap slots.length env a.defers → Rel w ρ S.heap → ρ.X.G = G → FR w ρ S.heap nt (sig slots [] [] env) a →
      PQ P G w ρ S nt slots eP SP f XS Q→c.wp P Q a w:=by
  intro c
  induction c with
  | skip=>intro lc env eP S SP f XS a w ρ Q hl hx;simp only[Db,Oi]at hl;subst hl;cases hx
  | ret=>intro lc env eP S SP f XS a w ρ Q hl hx;simp only[Db,Oi]at hl;subst hl;cases hx
  | exit i=>intro lc env eP S SP f XS a w ρ Q hl hx;simp only[Db,Oi]at hl;subst hl;cases hx
  | label=>intro lc env eP S SP f XS a w ρ Q hl hx;simp only[Db,Oi]at hl;subst hl;cases hx
  | rangeFunc=>intro lc env eP S SP f XS a w ρ Q hl hx;simp only[Db,Oi]at hl;subst hl;cases hx
  | goto=>intro lc env eP S SP f XS a w ρ Q hl hx;simp only[Db,Oi]at hl;subst hl;cases hx
  | refuse=>intro lc env eP S SP f XS a w ρ Q hl hx;simp only[Db,Oi]at hl;subst hl;cases hx
  | region id ops draw =>
    intro lc env eP S SP f XS a w ρ Q hl hx hd hr hG hf hQ;simp only[Db]at hl;split at hl
    · rename_i t hdo;split at hl
      · simp at hl
      rename_i vF;obtain rfl:draw=false:=by simpa using vF
      split at hl
      · rename_i lr j hlr hj;simp only[Oi]at hl;subst hl;obtain⟨ys,o,args,tys,rfl,yZ,yw,hog,hod⟩:=R5 hdo;simp only[Array.pop_push,Kq,Bool.false_eq_true,if_false,Om]at hlr;obtain⟨los,uj,rfl⟩:=hlr
        cases hx with
        | seqL h =>
          generalize hlp:Vm.region los _=lp at h;cases h<;>try (cases hlp;done)
          rename_i h1 h2;injection hlp with e1 e2;subst e1;exact wp_region (pan_region zQ xO hs (tl:=[o]) (by simp) e2.symm (Mh uj) h1 h2 hd hr hG hf hQ)
        | seqR h1 h=>cases h
      simp at hl
    simp only[Kq]at hl
    cases draw with
    | false =>
      simp only[Bool.false_eq_true,if_false,Om]at hl;obtain⟨los,uj,rfl⟩:=hl;generalize hlp:Vm.region los _=lp at hx;cases hx<;>try (cases hlp;done)
      rename_i h1 h2;injection hlp with e1 e2;subst e1;exact wp_region (pan_region zQ xO hs (tl:=[]) (by simp) e2.symm (Mh uj) h1 h2 hd hr hG hf hQ)
    | true =>
      simp only[if_true]at hl;split at hl
      · rename_i vF;simp only[Om]at hl;obtain⟨los,uj,rfl⟩:=hl;generalize hlp:Vm.drawn los _ _=lp at hx;cases hx<;>try (cases hlp;done)
        rename_i dd h2 h3 h1;injection hlp with e1 e2 e3;subst e1 e2 e3;obtain⟨rW,_,_⟩:=Nk uj;refine draw_okQ zQ hm (callX_clean y7) hs vF uj h1 hr hG hf (fun g ds S1 r S2 wr a1 w1 ρ1 vs hc hG1 hr1 zS xX xR=>?_) (fun a' w' ρ' _ _ _ _ hreal=>?_)
        · unfold U1 at hc;split at hc
          · rename_i yR;obtain⟨rfl,rfl,hx⟩:=yR;have hd1:DX w1 ρ1 S1.heap slots.length (exports (Il (dstsOf ops.toList) slots 0) [] env) a1.defers:=by rw[xR.2.1];exact (hd.mono xX).exps
            have zZ:FR w1 ρ1 S1.heap nt (sig slots [] [] (exports (Il (dstsOf ops.toList) slots 0) [] env)) a1:=by
              refine⟨xR.1,fun t ht=>?_⟩;rw[sig_end hd.1]
              cases hj:idxOf slots t with
              | none=>exact .undef _
              | some j =>
                simp only
                cases hl:Gb (dstsOf ops.toList) t with
                | some d=>unfold sig;rw[hl];exact .undef _
                | none =>
                  have h0:=xR.2.2 t ht (fun k o ho=>by
                    refine K3 hl _ ?_;unfold dstsOf;rw[List.mem_reverse,List.mem_map]
                    exact⟨o,by rw[Array.mem_toList_iff];exact Array.mem_of_getElem? ho,rfl⟩)
                  unfold sig at h0 ⊢;rw[hl];simp only[Gb]at h0;exact h0
            obtain⟨q1,q2⟩:=hQ ds a1 w1 ρ1 vs hx hG1 hr1 xX hd1 zZ zS;exact⟨q1,q2.mono fun e w' h=>.inr h⟩
          obtain⟨q1,q2⟩:=xO g ds S1 r S2 wr hc w1 ρ1 vs hG1 hr1 zS;exact⟨q1,q2.mono fun e w' h=>.inl h⟩
        have:=hreal _ (by rw[rW,Array.length_toList]at h2;exact h2);rw[h3]at this;exact absurd this panD_not
      simp at hl
  | seq x y ihx ihy =>
    intro lc env eP S SP f XS a w ρ Q hl hx hd hr hG hf hQ;simp only[Db]at hl;split at hl
    · rename_i lx ly zu hly;simp only[Oi]at hl;subst hl;refine wp_seq ?_
      cases hx with
      | seqL h =>
        refine ihx lx env eP S SP f XS a w ρ _ zu h hd hr hG hf fun xs a1 w1 ρ1 vs g0 g1 g2 g3 g4 g6 g5=>?_;obtain⟨q1,q2⟩:=hQ xs a1 w1 ρ1 vs g0 g1 g2 g3 g4 g6 g5;exact⟨q1,q2⟩
      | seqR h1 h =>
        refine Nw zQ hm xO y7 hs x lx env S _ _ _ a w ρ _ zu h1 hd hr hG hf ?_;rintro ex a' w' ⟨ρ',k1,k2,k3,k4,k5⟩;simp only[Mt]at k1;subst k1;exact ihy ly _ eP _ SP f XS a' w' ρ' Q hly h k5 k2 (by rw[k3.hid];exact hG) k4 (hQ.after k3)
    simp at hl
  | cond c x y ihx ihy =>
    intro lc env eP S SP f XS a w ρ Q hl hx hd hr hG hf hQ;simp only[Db]at hl;split at hl
    · rename_i z lx ly hz zu hly;simp only[Oi]at hl;subst hl;have hc:VR w ρ S.heap (opd [] env z) (a.eval c):=opd_ok (fun g row hg=>(hr.glob g row (by rw[hG];exact zQ g row hg)).1) hz hs (by simp) fun t ht=>hf.2 t (tmp_in (ht▸hz) hs (by simp))
      cases hx with
      | condT hb h =>
        rw[hb]at hc;generalize hv:a.eval c=v at hc;cases hc;exact wp_cond_true hv (ihx lx env eP S SP f XS a w ρ Q zu h hd hr hG hf hQ)
      | condF hb h =>
        rw[hb]at hc;generalize hv:a.eval c=v at hc;cases hc;exact wp_cond_false hv (ihy ly env eP S SP f XS a w ρ Q hly h hd hr hG hf hQ)
    simp at hl
  | block i c ih =>
    intro lc env eP S SP f XS a w ρ Q hl hx hd hr hG hf hQ;simp only[Db,Om]at hl;obtain⟨lc,zY,rfl⟩:=hl
    cases hx with
    | block h =>
      refine wp_block (ih lc env eP S SP f XS a w ρ _ zY h hd hr hG hf fun xs a1 w1 ρ1 vs g0 g1 g2 g3 g4 g6 g5=>?_);exact hQ xs a1 w1 ρ1 vs g0 g1 g2 g3 g4 g6 g5
  | loop c ih =>
    intro lc env eP S SP f XS a w ρ Q hl hx hd hr hG hf hQ;simp only[Db,Om]at hl;obtain⟨lc,zY,rfl⟩:=hl
    cases hx with
    | @loop n _ _ e1 _ _ S1 _ _ _ hn h1 h =>
      have key:∀(n m:Nat) (env:List D) (S:St) (a:Act) (w:World) (ρ:Vo),n<m→I6 call lc n env S e1 S1→DX w ρ S.heap slots.length env a.defers→Rel w ρ S.heap→ρ.X.G=G→FR w ρ S.heap nt (sig slots [] [] env) a→PQ P G w ρ S nt slots eP SP f XS Q→Code.rounds P c Q m a w:=by
        intro n
        induction n with
        | zero =>
          intro m env S a w ρ hm' hx hd hr hG hf hQ;obtain⟨rfl,rfl⟩:=hx;obtain⟨m,rfl⟩:∃k,m=k+1:=⟨m-1,by omega⟩;rw[rounds_succ];exact ih lc _ eP _ SP f XS a w ρ _ zY h hd hr hG hf fun xs a1 w1 ρ1 vs g0 g1 g2 g3 g4 g6 g5=>hQ xs a1 w1 ρ1 vs g0 g1 g2 g3 g4 g6 g5
        | succ n ihn =>
          intro m env S a w ρ hm' hx hd hr hG hf hQ;obtain⟨e2,S2,x1,x2⟩:=hx;obtain⟨m,rfl⟩:∃k,m=k+1:=⟨m-1,by omega⟩;rw[rounds_succ];refine Nw zQ hm xO y7 hs c lc env S _ _ _ a w ρ _ zY x1 hd hr hG hf ?_;rintro ex a' w' ⟨ρ',k1,k2,k3,k4,k5⟩;simp only[Mt]at k1;subst k1;exact ihn m e2 S2 a' w' ρ' (by omega) x2 k5 k2 (by rw[k3.hid];exact hG) k4 (hQ.after k3)
      exact wp_loop_rounds NN (key n NN env S a w ρ hn h1 hd hr hG hf hQ)
  | scope c ih =>
    intro lc env eP S SP f XS a w ρ Q hl hx hd hr hG hf hQ;simp only[Db]at hl;exact wp_scope_straight (ih lc env eP S SP f XS a w ρ _ hl hx hd hr hG hf fun xs a1 w1 ρ1 vs g0 g1 g2 g3 g4 g6 g5=>hQ xs a1 w1 ρ1 vs g0 g1 g2 g3 g4 g6 g5)
end
def Df (P:Program) (G:Nat→Option (List D)) (lo:Nat) (d:D) (f:FuncId) (args:List D) (S:St):Prop :=
 ∀w (ρ:Vo) vs,ρ.X.G=G→Rel w ρ S.heap→VL w ρ S.heap args vs→(callFunc f vs.toArray).run P w=.ok (.enter f vs.toArray) w ∧
  Calls P f vs.toArray w fun e w'=>∃pv,e=.panicked [{ v:=pv,recovered:=false }]∧∃ρ' S',Rel w' ρ' S'.heap∧Stp w ρ ⟨S.heap,S.heap.length⟩ w' ρ' S'∧lo≤S'.low∧VR w' ρ' S'.heap d pv
theorem lowFn_some {P : Program} {kd : Kd} {slots : List Nat} {fn : Func} {F : Vj} (h : Qs P kd slots fn = some F) : ∃ c lc ls, fn.body = some c ∧ Db P kd fn.ntmps slots c = some lc ∧ Kh P slots fn.results.toList = some ls ∧ ¬ fn.name = "runtime.NumGoroutine" ∧ slots.all (· < fn.ntmps) = true ∧ fn.params.size + fn.nfree ≤ fn.ntmps ∧ F = ⟨slots, fn.params.size + fn.nfree, lc, ls⟩ := by
 unfold Qs at h
 cases hb:fn.body with
 | none=>simp[hb]at h
 | some c =>
  simp only[hb]at h;split at h
  ·
   rename_i lc ls zY hls;split at h
   ·
    simp at h
   rename_i yt;split at h
   ·
    rename_i yJ;simp only[Bool.and_eq_true,decide_eq_true_eq]at yJ;simp only[Oi]at h;exact⟨c,lc,ls,rfl,zY,hls,yt,yJ.1,yJ.2,h.symm⟩
   simp at h
  simp at h
theorem pan_fn{P:Program}{G:Nat→Option (List D)}{L:Prg}(hm:P.follows .mixedOrders=true)(hL:R9 P G L){lo dd:Nat}{d:D}{f g:FuncId}{F:Vj}{args args' env0 eP:List D}{XS:List D→Prop}{S SP:St}(hF:L.fns f=some F)(ha:Av S.heap.length S.heap args=some args')(hl:args'.length=F.nargs)(he:(F.slots.map fun s=>args'.getD s .undef)=env0)
  (h:PW (Bh L NN dd) F.body env0 ⟨S.heap,S.heap.length⟩ eP SP g XS) (xI:lo≤SP.low) (hn:eP.length≤F.slots.length) (hg:∀xs,XS xs→Df P G lo d g xs SP):Df P G lo d f args S:=by
 intro w ρ vs hG hr hv;obtain⟨fn,kd,slots,zA,x9,zQ,hnd⟩:=hL.1 f F hF;obtain⟨c,lc,ls,hb,zY,hls,yt,yJ,zx,rfl⟩:=lowFn_some x9;have qQ:VL w ρ S.heap args' vs:=Jt hr (Nat.le_refl _) hv ha;refine⟨by simp[callFunc,zA,yt,hb],?_⟩;refine calls_of_wp_defers zA hb ?_;have qc:=qQ.len;have hnt:fn.params.size+fn.nfree=vs.length:=by rw[qc,hl]
 have zZ:FR w ρ S.heap fn.ntmps (sig slots [] [] (slots.map fun s=>args'.getD s .undef)) { tmps:=vs.toArray++Array.replicate (fn.ntmps-vs.toArray.size) undef,defers:=[] }:=Mv qQ (by omega);rw[he]at zZ;refine pw_ok zQ hm (Na hm hL NN dd) (Jb L NN dd) yJ c lc env0 eP ⟨S.heap,S.heap.length⟩ SP g XS _ w ρ _ zY h (DX.nil (by rw[←he];simp)) hr hG zZ fun xs a1 w1 ρ1 us g0 g1 g2 g3 g4 g6 g5=>?_;obtain⟨q1,q2⟩:=hg xs g0 w1 ρ1 us g1 g2 g5;refine⟨q1,q2.mono ?_⟩;rintro e w' ⟨pv,rfl,ρ',S',p1,p2,p3,p4⟩;refine⟨_,rfl,?_⟩
 have hd0:a1.defers=[]:=by
  obtain⟨_,us,wH,uU⟩:=g4;rw[List.drop_eq_nil_of_le hn]at wH;cases wH;exact uU
 show Leaves P fn a1.tmps _ a1.defers (.panicking _) w';rw[hd0];exact⟨pv,rfl,ρ',⟨S'.heap,min SP.low S'.low⟩,p1,g3.trans p2.relow,by simp only;omega,p4⟩
def lowFnR (P:Program) (kd:Kd) (slots:List Nat) (fn:Func):Option (Nat × Vj):=match fn.body with
 | some (.seq (.region _ ops false) y) => (match Ma ops with
  | some (t,u)=>match idxOf slots t,idxOf slots u,Db P kd fn.ntmps slots y,Kh P slots fn.results.toList with
   | none, some j, some ly, some ls => if fn.name = "runtime.NumGoroutine" then none else if slots.all (· < fn.ntmps) && decide (fn.params.size + fn.nfree ≤ fn.ntmps) && decide (t < fn.ntmps) then some (j, ⟨slots, fn.params.size + fn.nfree, ly, ls⟩) else none
   | _,_,_,_=>none
  | none=>none)
 | _=>none
theorem lowFnR_some {P : Program} {kd : Kd} {slots : List Nat} {fn : Func} {j : Nat} {F : Vj} (h : lowFnR P kd slots fn = some (j, F)) : ∃ id ops y t u ly ls, fn.body = some (.seq (.region id ops false) y) ∧ Ma ops = some (t, u) ∧ idxOf slots t = none ∧ idxOf slots u = some j ∧ Db P kd fn.ntmps slots y = some ly ∧ Kh P slots fn.results.toList = some ls ∧ ¬ fn.name = "runtime.NumGoroutine" ∧ slots.all (· < fn.ntmps) = true ∧ fn.params.size + fn.nfree ≤ fn.ntmps ∧ t < fn.ntmps ∧ F = ⟨slots, fn.params.size + fn.nfree, ly, ls⟩ := by
 unfold lowFnR at h;split at h
 ·
  rename_i id ops y hb;split at h
  ·
   rename_i t u hrec;split at h
   ·
    rename_i k ly ls h1 h2 h3 h4;split at h
    ·
     simp at h
    rename_i yt;split at h
    ·
     rename_i yJ;simp only[Bool.and_eq_true,decide_eq_true_eq]at yJ;simp only[Oi,Pi_]at h;obtain⟨rfl,rfl⟩:=h;exact⟨id,ops,y,t,u,ly,ls,hb,hrec,h1,h2,h3,h4,yt,yJ.1.1,yJ.1.2,yJ.2,rfl⟩
    simp at h
   simp at h
  simp at h
 simp at h
theorem catch_ok {P : Program} {G : Nat → Option (List D)} {call : Bp} (hm : P.follows .mixedOrders = true) (xO : Im P G call) (y7 : Er call) {fn fc : Func} {tmps : Array Value} {R : Ending → World → Prop} {c : FuncId} {kd : Kd} {slots : List Nat} {j : Nat} {FC : Vj} (kY : P.funcs[c]? = some fc) (x9 : lowFnR P kd slots fc = some (j, FC)) (zQ : ∀ g row, kd.glob g = some row → G g = some row)
    {caps env':List D} {cvs:List Value} {d:D} {pv:Value} {S S2:St} {e:Vn} {w:World} {ρ:Vo} (yB:caps.length=FC.nargs) (hnd:Ib FC.body=true) (qU:FC.res=[]) (yg:Cj call NN FC.body ((FC.slots.map fun s=>caps.getD s .undef).set j d) S=some (e,env',S2)) (he:e=.normal∨e=.ret) (hcv:VL w ρ S.heap caps cvs) (kR:VR w ρ S.heap d pv) (hr:Rel w ρ S.heap) (hG:ρ.X.G=G)
    (hk:∀w' ρ',Rel w' ρ' S2.heap→Stp w ρ S w' ρ' S2→Leaves P fn tmps R [] .returning w'):Leaves P fn tmps R [⟨.fn (.func c) cvs.toArray,#[]⟩] (.panicking [{ v:=pv,recovered:=false }]) w:=by
  obtain⟨id,ops,y,t,u,ly,ls,hb,hrec,kC,hj,hly,hls,yt,yJ,zx,qR,rfl⟩:=lowFnR_some x9;simp only at yB hnd qU yg;subst qU;have qc:=hcv.len;have hnt:cvs.length≤fc.ntmps:=by omega
  refine leaves_cons (f:=c) (args:=cvs.toArray) (by simp) ?_ ?_
  · simp[invoke,callFunc,kY,yt,hb]
  refine callsD_of_wpS kY hb fun c₀ cs hu=>?_;have zZ:=Mv (slots:=slots) hcv hnt;generalize uK:({ c₀ with mode:=.panicking [{ v:=pv,recovered:=true }] }:Frame)::cs=cs2
  have fin:∀(ex:Exit) (a':Act) (w':World),CQ w ρ S slots fc.ntmps e env' S2 ex a' w'→bodyPostS P fc c₀ cs (fun
      | .returned _,u',w'=>Leaves P fn tmps R [] (settle u') w'
      | .panicked chain,u',w'=>Leaves P fn tmps R [] (raised u' chain) w'
      | .outgrown,_,w'=>R .outgrown w') ex a' cs2 w':=by
    rintro ex a' w' ⟨ρ',h1,h2,h3,h4,h5⟩;obtain⟨v,h7,h8⟩:=Nc (P:=P) (r:=.tup []) h2 yJ h4 hls rfl
    have hd0:a'.defers=[]:=by
      obtain⟨_,us,wH,uU⟩:=h5;have:=F5 ly hnd _ _ _ _ _ yg;rw[List.drop_eq_nil_of_le (by simp at this;omega)]at wH;cases wH;exact uU
    have hgo:Leaves P fn tmps R [] (settle (.panicking [{ v:=pv,recovered:=true }])) w':=hk w' ρ' h2 h3;rcases he with rfl | rfl
    · simp only [Mt] at h1;subst h1;exact⟨hd0,_,uK.symm,v,h7,hgo⟩
    simp only[Mt]at h1;subst h1;exact⟨hd0,_,uK.symm,v,h7,hgo⟩
  obtain⟨oa,ob,args,tys,rfl,ha1,ha2,ha3,uX,hb2,hb3,htu⟩:=Oy hrec;have hmj:=Hd hj
  have hun:u<fc.ntmps:=by
    have:=List.all_eq_true.1 yJ u (Lm hmj);simpa using this
  refine wpS_seq (wpS_region ?_);have qV:List.range (#[oa,ob]:Array Oper).size=[0,1]:=rfl;rw[qV];have h0:(#[oa,ob]:Array Oper)[0]?=some oa:=rfl;have h1:(#[oa,ob]:Array Oper)[1]?=some ob:=rfl;generalize hact:({ tmps:=cvs.toArray++Array.replicate (fc.ntmps-cvs.toArray.size) undef,defers:=[] }:Act)=act at zZ;have hw0:∀b:Act,Region.wanted oa (yielded #[oa,ob] b.tmps)=true:=fun b=>by simp[Region.wanted,ha2]
  have hw1:∀b:Act,Region.wanted ob (yielded #[oa,ob] b.tmps)=true:=fun b=>by simp[Region.wanted,hb2]
  have hx0:(execOp act.eval oa).run P w=.ok .recover w:=by simp[execOp,ha1,resolve,invoke,builtin]
  have hrd:recoverD (c₀::cs)=some (pv,cs2):=by rw[←uK];simp[recoverD,hu]
  have hx1:(execOp (act.put (some t) pv).eval ob).run P w=.ok (.value pv) w:=by
    have:(act.put (some t) pv).eval (.tmp t)=pv:=by
      show (act.tmps.setIfInBounds t pv).getD t undef=pv;have xK:=zZ.1;simp[Array.getD_eq_getD_getElem?,xK,qR]
    rcases uX with uX | uX<;>simp[execOp,uX,this]
  simp only[wpOpsS,h0,hw0,if_true,hx0,hrd,h1,ha3,hw1,hx1,Oper.upon,hb3,Exit.thenS];refine wpS_of_wp ?_;have hp1:=zZ.put (dst:=some t) (r:=d) (v:=pv) (σ':=fun x=>if some t=some x then d else sig slots [] [] (slots.map fun s=>caps.getD s .undef) x) (Stp.refl w ρ S) kR (by simpa [G5] using qR) fun x=>rfl;have hp2:=hp1.put (dst:=some u) (r:=d) (v:=pv) (σ':=fun x=>if some u=some x then d else if some t=some x then d else sig slots [] [] (slots.map fun s=>caps.getD s .undef) x) (Stp.refl w ρ S) kR (by simpa [G5] using hun) fun x=>rfl
  have hfr2:FR w ρ S.heap fc.ntmps (sig slots [] [] ((slots.map fun s=>caps.getD s .undef).set j d)) ((act.put (some t) pv).put (some u) pv):=by
    refine⟨hp2.1,fun x hx=>?_⟩;have h3:=hp2.2 x hx;dsimp only at h3;unfold sig;simp only[Gb]
    cases hi:idxOf slots x with
    | none=>exact .undef _
    | some i =>
      have hmi:=Hd hi;have yO:=lt_of_some hmj;by_cases hxu:u=x
      · subst hxu;rw[if_pos rfl]at h3;have:i=j:=by rw[hi]at hj;injection hj
        subst this
        have hgs:((slots.map fun s=>caps.getD s D.undef).set i d).getD i D.undef=d:=by
          rw[List.getD_eq_getElem?_getD,List.getElem?_set_self (by simpa using yO)];rfl
        show VR w ρ S.heap (((slots.map fun s=>caps.getD s D.undef).set i d).getD i D.undef) _;rw[hgs];exact h3
      have hxt:t≠x:=fun h=>by subst h;rw[kC]at hi;cases hi
      rw[if_neg (by simpa using hxu),if_neg (by simpa using hxt)]at h3;have kJ:j≠i:=fun h=>by subst h;rw[hmj]at hmi;injection hmi with hmi;exact hxu hmi
      unfold sig at h3;simp only[Gb,hi]at h3;simp only[List.getD,Ln_ kJ];simpa only [List.getD] using h3
  have hdf:((act.put (some t) pv).put (some u) pv).defers=[]:=by rw[←hact];rfl
  have hdx2:DX w ρ S.heap slots.length ((slots.map fun s=>caps.getD s .undef).set j d) ((act.put (some t) pv).put (some u) pv).defers:=by rw[hdf];exact DX.nil (by simp)
  exact Nw zQ hm xO y7 yJ y ly _ S e env' S2 _ w ρ _ hly yg hdx2 hr hG hfr2 fin
theorem pan_catch{P:Program}{G:Nat→Option (List D)}{L:Prg}(hm:P.follows .mixedOrders=true)(hL:R9 P G L){lo dd j:Nat}{d r:D}{wr:Bool}{f g c:FuncId}{F FC:Vj}{fc:Func}{kdc:Kd}{slotsc:List Nat}{args args' env0 eP caps:List D}{XS:List D→Prop}{S SP S':St}(hF:L.fns f=some F)(kY:P.funcs[c]?=some fc)(hlowc:lowFnR P kdc slotsc fc=some (j,FC))(hkGc:∀g row,kdc.glob g=some row→G g=some row)
  (ha:Av S.heap.length S.heap args=some args') (hl:args'.length=F.nargs) (he:(F.slots.map fun s=>args'.getD s .undef)=env0) (h:PW (Bh L NN dd) F.body env0 ⟨S.heap,S.heap.length⟩ eP SP g XS) (hg:∀xs,XS xs→Df P G lo d g xs SP) (vF:eP.drop F.slots.length=[.fn c caps])
  (yB:caps.length=FC.nargs) (hnd:Ib FC.body=true) (qU:FC.res=[]) (xD:∀T:St,(∀k o,k<lo→SP.heap[k]?=some o→T.heap[k]?=some o)→min SP.low lo≤T.low→∃e env' S2 r0,Cj (Bh L NN dd) NN FC.body ((FC.slots.map fun s=>caps.getD s .undef).set j d) T=some (e,env',S2)∧(e=.normal∨e=.ret)∧Bw eP S2 F.res=some r0∧leave false S r0 S2=some (r,S',wr)) :
  ∀w (ρ:Vo) vs,ρ.X.G=G→Rel w ρ S.heap→VL w ρ S.heap args vs→(callFunc f vs.toArray).run P w=.ok (.enter f vs.toArray) w∧Calls P f vs.toArray w fun e w'=>∃v,e=.returned v∧Vu w ρ S r S' wr v w':=by
 intro w ρ vs hG hr hv;obtain⟨fn,kd,slots,zA,x9,zQ,hnd'⟩:=hL.1 f F hF;obtain⟨co,lc,ls,hb,zY,hls,yt,yJ,zx,rfl⟩:=lowFn_some x9;have qQ:VL w ρ S.heap args' vs:=Jt hr (Nat.le_refl _) hv ha;refine⟨by simp[callFunc,zA,yt,hb],?_⟩;refine calls_of_wp_defers zA hb ?_;have qc:=qQ.len;have hnt:fn.params.size+fn.nfree=vs.length:=by rw[qc,hl]
 have zZ:FR w ρ S.heap fn.ntmps (sig slots [] [] (slots.map fun s=>args'.getD s .undef)) { tmps:=vs.toArray++Array.replicate (fn.ntmps-vs.toArray.size) undef,defers:=[] }:=Mv qQ (by omega);rw[he]at zZ;refine pw_ok zQ hm (Na hm hL NN dd) (Jb L NN dd) yJ co lc env0 eP ⟨S.heap,S.heap.length⟩ SP g XS _ w ρ _ zY h (DX.nil (by rw[←he];simp)) hr hG zZ fun xs a1 w1 ρ1 us g0 g1 g2 g3 g4 g6 g5=>?_;obtain⟨q1,q2⟩:=hg xs g0 w1 ρ1 us g1 g2 g5;refine⟨q1,q2.mono ?_⟩;rintro e w2 ⟨pv,rfl,ρ2,S2,p1,p2,p3,p4⟩;refine⟨_,rfl,?_⟩;obtain⟨_,ds,wH,uU⟩:=g4;rw[vF]at wH
 cases wH with
 | cons zS ht =>
  cases ht;generalize hdv:D.fn c caps=dd' at zS;cases zS<;>try (simp at hdv;done)
  rename_i f2 cs2 cvs yS hh2;simp only[D.fn.injEq]at hdv;obtain⟨rfl,rfl⟩:=hdv;have wR:Stp w1 ρ1 SP w2 ρ2 ⟨S2.heap,min SP.low S2.low⟩:=p2.relow;have hcv:VL w2 ρ2 S2.heap caps cvs:=(VL.of yS fun j d v h1 h2=>hh2 j d v h1 h2).mono wR
  obtain⟨e,env',S3,r0,x1,x2,x3,x4⟩:=xD ⟨S2.heap,min SP.low S2.low⟩ (fun k o hk ho=>by
   obtain⟨o',ho',_,hs,_⟩:=p2.obj k o ho
   rw[ho',hs (by omega)]) (by simp only;omega)
  show Leaves P fn a1.tmps _ a1.defers (.panicking _) w2;rw[uU];show Leaves P fn a1.tmps _ [⟨.fn (.func c) cvs.toArray,#[]⟩] (.panicking _) w2;refine catch_ok hm (Na hm hL NN dd) (Jb L NN dd) kY hlowc hkGc yB hnd qU x1 x2 hcv p4 p1 (by rw[p2.hid];exact g1) fun w3 ρ3 k1 k2=>?_;have vP:=g3.trans (wR.trans k2);obtain⟨v,h7,h8⟩:=Nc (P:=P) k1 yJ (g6.mono (wR.trans k2)) hls x3;exact⟨v,h7,v,rfl,leave_ok hr k1 vP h8 x4⟩
section
variable {call:Bp} {f:FuncId} {Kp:(List D→Prop)→List D→St→Prop}
def XW (call:Bp) (f:FuncId) (Kp:(List D→Prop)→List D→St→Prop) (c:Vm) (Q:Vn→List D→St→Prop) (env:List D) (S:St):Prop :=
 CW call c Q env S∨∃eP SP XS,PW call c env S eP SP f XS∧Kp XS eP SP
def XSeqK (call:Bp) (f:FuncId) (Kp:(List D→Prop)→List D→St→Prop) (b:Vm) (Q:Vn→List D→St→Prop):Vn→List D→St→Prop
 | .normal,env,S=>XW call f Kp b Q env S
 | e,env,S=>Q e env S
variable {Q:Vn→List D→St→Prop} {env env':List D} {S:St}
theorem xw_cw{c:Vm}(h:CW call c Q env S):XW call f Kp c Q env S:=.inl h
theorem I5(h:Q .normal env S):XW call f Kp .skip Q env S:=.inl (Bn h)
theorem Bq{a b:Vm}(h:XW call f Kp a (XSeqK call f Kp b Q) env S):XW call f Kp (.seq a b) Q env S:=by
  rcases h with⟨e,env',S',h1,h2⟩ | ⟨eP,SP,XS,h1,h2⟩
  · cases e with
    | normal =>
      rcases h2 with⟨e2,env2,S2,h3,h4⟩ | ⟨eP,SP,XS,h3,h4⟩
      · exact .inl ⟨e2,env2,S2,by simp only[Cj,h1];exact h3,h4⟩
      exact .inr ⟨eP,SP,XS,.seqR h1 h3,h4⟩
    | ret=>exact .inl ⟨.ret,env',S',by simp only[Cj,h1],h2⟩
    | exit i=>exact .inl ⟨.exit i,env',S',by simp only[Cj,h1],h2⟩
  exact .inr ⟨eP,SP,XS,.seqL h1,h2⟩
theorem Lu{i:Nat}{c:Vm}(h:XW call f Kp c (BlkK i Q) env S):XW call f Kp (.block i c) Q env S:=by
 rcases h with h | ⟨eP,SP,XS,h1,h2⟩
 ·
  exact .inl (Bo h)
 exact .inr ⟨eP,SP,XS,.block h1,h2⟩
theorem Io{c:Vl}{a b:Vm}(hc:opd [] env c=.bool true)(h:XW call f Kp a Q env S):XW call f Kp (.cond c a b) Q env S:=by
 rcases h with h | ⟨eP,SP,XS,h1,h2⟩
 ·
  exact .inl (J2 hc h)
 exact .inr ⟨eP,SP,XS,.condT hc h1,h2⟩
theorem F7{c:Vl}{a b:Vm}(hc:opd [] env c=.bool false)(h:XW call f Kp b Q env S):XW call f Kp (.cond c a b) Q env S:=by
 rcases h with h | ⟨eP,SP,XS,h1,h2⟩
 ·
  exact .inl (Hy hc h)
 exact .inr ⟨eP,SP,XS,.condF hc h1,h2⟩
theorem Bi{ops:List Vk}{exps:List (Nat × Nat)}(h:OW call ops [] env S (fun vals S'=>Q .normal (exports exps vals env) S')):XW call f Kp (.region ops exps) Q env S:=.inl (Al h)
theorem Hr{ops:List Vk}{exps:List (Nat × Nat)}{news:List (TypeId × List D)}{tl:List D}{S0:St}(ht:Ci S.heap.length news.length=tl)(hS:(⟨S.heap++news.map D9,S.low⟩:St)=S0)(h:DW call S.heap.length news ops [] tl env S0 (fun vals S'=>Q .normal (exports exps vals env) S')):XW call f Kp (.drawn ops exps news) Q env S:=.inl (Ew ht hS h)
theorem Ll(n:Nat){ops pre:List Vk}{exps:List (Nat × Nat)}{args:List Vl}{od:List Bool}{ho:Option Nat}(hp:ops.take n=pre)(hn:ops[n]?=some ⟨.call f,args,none,od,ho⟩)(h:OW call pre [] env S (fun vals S'=>Kp (·=args.map (opd vals env)) (exports exps [] env) S')):XW call f Kp (.region ops exps) Q env S:=by
 obtain⟨vals,S',h1,h2⟩:=h
 have e:ops=pre++⟨.call f,args,none,od,ho⟩::ops.drop (n+1):=by
  have hl:n<ops.length:=(List.getElem?_eq_some_iff.1 hn).1
  conv=>lhs;rw[←List.take_append_drop n ops,hp,List.drop_eq_getElem_cons hl]
  rw[Lg hl]at hn;injection hn with hn;rw[hn]
 refine .inr ⟨exports exps [] env,S',_,?_,h2⟩;rw[e];exact .region h1 rfl
theorem xw_drawnP{ops:List Vk}{exps:List (Nat × Nat)}{news:List (TypeId × List D)}{tl:List D}{S0:St}(SP:St)(XS:List D→Prop)(ht:Ci S.heap.length news.length=tl)(hS:(⟨S.heap++news.map D9,S.low⟩:St)=S0)(hK:Kp XS (exports exps [] env) SP)(h:DW (U1 call f SP XS) S.heap.length news ops [] tl env S0 (fun vals S'=>∃d,d<ops.length∧vals.getD d .undef=G6)):XW call f Kp (.drawn ops exps news) Q env S:=by
 subst ht hS;obtain⟨vals,S',h1,d,h2,h3⟩:=h;exact .inr ⟨exports exps [] env,SP,XS,.drawn h1 d h2 h3,hK⟩
theorem H6{ops:List Vk}{exps:List (Nat × Nat)}{news:List (TypeId × List D)}{tl:List D}{S0:St}(XS:List D→Prop)(ht:Ci S.heap.length news.length=tl)(hS:(⟨S.heap++news.map D9,S.low⟩:St)=S0)(hK:Kp XS (exports exps [] env) S0)(h:DW (U1 call f S0 XS) S.heap.length news ops [] tl env S0 (fun vals S'=>∃d,d<ops.length∧vals.getD d .undef=G6)):XW call f Kp (.drawn ops exps news) Q env S:=xw_drawnP S0 XS ht hS hK h
theorem callX_miss{SP:St}{XS:List D→Prop}{g:FuncId}{xs:List D}(h:¬XS xs):U1 call f SP XS g xs S=call g xs S:=if_neg fun h'=>h h'.2.2
theorem De{b:Vm}(he:env'=env)(h:XW call f Kp b Q env S):XSeqK call f Kp b Q .normal env' S:=he▸h
theorem xw_out{c:Vm}(h:XW call f Kp c (fun _ _ _=>False) env S):∃eP SP XS,PW call c env S eP SP f XS∧Kp XS eP SP:=by
 rcases h with⟨_,_,_,_,h⟩ | h
 ·
  exact h.elim
 exact h
theorem xw_loop{c:Vm}{n:Nat}{e1:List D}{S1:St}(hn:n<NN)(h1:I6 call c n env S e1 S1)(h:XW call f Kp c (fun _ _ _=>False) e1 S1):XW call f Kp (.loop c) Q env S:=by
 obtain⟨eP,SP,XS,h2,h3⟩:=xw_out h;exact .inr ⟨eP,SP,XS,.loop hn h1 h2,h3⟩
end
section
variable {call:Bp} {Q:Vn→List D→St→Prop} {env:List D} {S:St}
def RetK (Q:Vn→List D→St→Prop):Vn→List D→St→Prop
 | .normal,_,_=>False
 | e,env,S=>Q e env S
theorem rk_r(h:Q .ret env S):RetK Q .ret env S:=h
theorem T9{c:Vm}{e1:List D}{S1:St}{r:Vn × List D × St}(h:Cj call NN c e1 S1=some r)(hr:r.1≠.normal):∀(n:Nat) (env:List D) (S:St) (m:Nat),n<m→I6 call c n env S e1 S1→Ic (Cj call NN c) m env S=some r
 | 0,env,S,m,hm,h1=>by
  obtain⟨rfl,rfl⟩:=h1;obtain⟨m,rfl⟩:∃k,m=k+1:=⟨m-1,by omega⟩;rw[Ic,h];obtain⟨e,env',S'⟩:=r
  cases e with
  | normal=>exact absurd rfl hr
  | ret=>rfl
  | exit i=>rfl
 | n+1,env,S,m,hm,h1=>by
  obtain⟨e2,S2,h2,h3⟩:=h1;obtain⟨m,rfl⟩:∃k,m=k+1:=⟨m-1,by omega⟩;rw[Ic,h2];exact T9 h hr n e2 S2 m (by omega) h3
theorem cw_rounds{c:Vm}{n:Nat}{e1:List D}{S1:St}(hn:n<NN)(h1:I6 call c n env S e1 S1)(h:CW call c (RetK Q) e1 S1):CW call (.loop c) Q env S:=by
  obtain⟨e,env',S',h2,h3⟩:=h;refine⟨e,env',S',?_,?_⟩
  · simp only [Cj];exact T9 h2 (by intro he;simp only at he;subst he;exact h3) n env S NN hn h1
  cases e with
  | normal=>exact h3.elim
  | ret=>exact h3
  | exit i=>exact h3
end
def KPan (P:Program) (G:Nat→Option (List D)) (lo:Nat) (d:D) (g:FuncId) (n:Nat):(List D→Prop)→List D→St→Prop :=
 fun XS eP SP=>lo≤SP.low∧eP.length≤n∧∀xs,XS xs→Df P G lo d g xs SP
theorem Fx{P:Program}{G:Nat→Option (List D)}{L:Prg}(hm:P.follows .mixedOrders=true)(hL:R9 P G L){lo dd:Nat}{d:D}{f g:FuncId}{F:Vj}{args args' env0:List D}{S:St}(hF:L.fns f=some F)(ha:Av S.heap.length S.heap args=some args')(hl:args'.length=F.nargs)(he:(F.slots.map fun s=>args'.getD s .undef)=env0)
  (h:XW (Bh L NN dd) g (KPan P G lo d g F.slots.length) F.body (fun _ _ _=>False) env0 ⟨S.heap,S.heap.length⟩):Df P G lo d f args S:=by
 obtain⟨eP,SP,XS,h1,h2,h3,h4⟩:=xw_out h;exact pan_fn hm hL hF ha hl he h1 h2 h3 h4
theorem step_pure{L:Prg}{call:Bp}{f:FuncId}{F:Vj}{args args' env0:List D}{S:St}{r:D}(hF:L.fns f=some F)(ha:(if L.raw f then some args else Av S.heap.length S.heap args)=some args')(hl:args'.length=F.nargs)(hp:(L.pure f&&args'.all D.Vr)=true)(he:(F.slots.map fun s=>args'.getD s .undef)=env0)
  (hb:CW call F.body (FinP F r) env0 ⟨[],0⟩) (hdp:L.deep f=false:=by rfl) (hE:L.ext f args=none:=by rfl) (vK:L.dfs f=false:=by rfl):Ol L call NN f args S=some (r,S,false):=by
 subst he;obtain⟨e,env',S2,h1,h2⟩:=hb;simp only[Ol,behind,vK,hE,hF,ha,hl,hp,ne_eq,not_true_eq_false,if_false,if_true,h1,hdp,Bool.false_eq_true]
 cases e with
 | exit i=>exact h2.elim
 | normal =>
  obtain⟨r0,h3,h4⟩:=h2;simp only[h3];exact Nl h4
 | ret =>
  obtain⟨r0,h3,h4⟩:=h2;simp only[h3];exact Nl h4
theorem raise_fn {P : Program} {G : Nat → Option (List D)} {call : Bp} (hm : P.follows .mixedOrders = true) (xO : Im P G call) (y7 : Er call) {f : FuncId} {fn : Func} {kd : Kd} {slots : List Nat} {c0 : Code} {lc0 : Vm} {id : Nat} {ops : Array Oper} {os : List Oper} {o : Oper} {t : Tmp} {T : TypeId} {los : List Vk} {args args' env0 env1 vals : List D} {d : D} {S S1 SP : St} {lo : Nat} (zA : P.funcs[f]? = some fn) (hb : fn.body = some (.seq c0 (.region id ops false))) (yt : ¬ fn.name = "runtime.NumGoroutine") (yJ : slots.all (· < fn.ntmps) = true) (hnt : args'.length ≤ fn.ntmps) (zQ : ∀ g row, kd.glob g = some row → G g = some row)
  (zY:Db P kd fn.ntmps slots c0=some lc0) (zH:ops.toList=os++[o]) (yZ:o.op=.panic (.tmp t)) (vY:o.guard=none) (x9:Qw P kd fn.ntmps slots os []=some los) (kC:t<fn.ntmps) (ha:Av S.heap.length S.heap args=some args') (he:(slots.map fun s=>args'.getD s .undef)=env0)
  (hx0:Cj call NN lc0 env0 ⟨S.heap,S.heap.length⟩=some (.normal,env1,S1)) (hel:env1.length=env0.length) (hx:He call los [] env1 S1=some (vals,SP)) (hsig:sig slots (dstsOf os) vals env1 t=.ifc T d) (xI:lo≤SP.low):Df P G lo (.ifc T d) f args S:=by
 intro w ρ vs hG hr hv;have qQ:VL w ρ S.heap args' vs:=Jt hr (Nat.le_refl _) hv ha;refine⟨by simp[callFunc,zA,yt,hb],?_⟩;refine calls_of_wp_defers zA hb ?_;have qc:=qQ.len;have zZ:FR w ρ S.heap fn.ntmps (sig slots [] [] (slots.map fun s=>args'.getD s .undef)) { tmps:=vs.toArray++Array.replicate (fn.ntmps-vs.toArray.size) undef,defers:=[] }:=Mv qQ (by omega);rw[he]at zZ;refine wp_seq ?_;refine Nw zQ hm xO y7 yJ c0 lc0 env0 ⟨S.heap,S.heap.length⟩ _ env1 S1 _ w ρ _ zY hx0 (DX.nil (by rw[←he];simp)) hr hG zZ ?_;rintro ex a1 w1 ⟨ρ1,h1,h2,h3,h4,h5⟩;simp only[Mt]at h1;subst h1;refine wp_region ?_;have xK:ops.size=os.length+[o].length:=by rw[←Array.length_toList,zH];simp
 rw[List.range_eq_range',xK];refine Ri xO [o] zQ yJ os 0 [] [] los S1 vals SP a1 w1 ρ1 (by simp[zH]) (by simp) (by simp) (Mh x9) hx h2 (by rw[h3.hid];exact hG) h4 fun a2 w2 ρ2 k1 k2 k3 k4=>?_;have htk:ops.toList.take (0+os.length)=os:=by rw[zH];simp
 rw[htk]at k3;rw[show 0+os.length=os.length by omega,List.length_cons,List.range'_succ];have zP:ops[os.length]?=some o:=by rw[←Array.getElem?_toList,zH];simp
 have hw:Region.wanted o (yielded ops a2.tmps)=true:=by simp[Region.wanted,vY]
 simp only[wpOps,zP,hw,if_true];left;have wG:=k3.2 t kC;have hsig':sig slots ((os.map (·.dst)).reverse) vals env1 t=.ifc T d:=hsig;rw[hsig']at wG
 have hd0:a2.defers=[]:=by
  obtain⟨_,us,wH,uU⟩:=h5;rw[List.drop_eq_nil_of_le (by rw[hel,←he];simp)]at wH;cases wH;rw[k4];exact uU
 have wY:∃u,a2.eval (.tmp t)=.iface T u:=by
  show ∃u,a2.tmps.getD t undef=.iface T u;generalize a2.tmps.getD t undef=x at wG
  cases wG with
  | ifc _ _ u _ _ _=>exact⟨u,rfl⟩
 obtain⟨u,hu⟩:=wY;have hu':a2.tmps.getD t undef=.iface T u:=hu;rw[hu']at wG;unfold Oper.wp
 have yg:(execOp a2.eval o).run P w2=.halt (.panic (.iface T u)) w2:=by
  simp[execOp,yZ,hu,Instr.panic]
 rw[yg,Oper.upon_panic];show Leaves P fn a2.tmps _ a2.defers (.panicking _) w2;rw[hd0];exact⟨_,rfl,ρ2,SP,k1,h3.trans k2,xI,wG⟩
theorem Oo(m:Nat)(H:List Vi)(k:IntKind)(n:Int):snap m H (.int k n)=some (.int k n):=rfl
theorem Si(m:Nat)(H:List Vi)(k:IntKind)(n:Int):Vq m H (.int k n)=some (.int k n):=rfl
theorem snap_bool(m:Nat)(H:List Vi)(b:Bool):snap m H (.bool b)=some (.bool b):=rfl
theorem M8(m:Nat)(H:List Vi)(b:Bool):Vq m H (.bool b)=some (.bool b):=rfl
theorem Rc(m:Nat)(H:List Vi)(s:ByteArray):snap m H (.str s)=some (.str s):=rfl
theorem snapV_str(m:Nat)(H:List Vi)(s:ByteArray):Vq m H (.str s)=some (.str s):=rfl
theorem snap_nilp(m:Nat)(H:List Vi) :snap m H .nilp=some .nilp:=rfl
theorem snapV_nilp(m:Nat)(H:List Vi) :Vq m H .nilp=some .nilp:=rfl
theorem snap_nils(m:Nat)(H:List Vi) :snap m H .V5=some .V5:=rfl
theorem snapV_nils(m:Nat)(H:List Vi) :Vq m H .V5=some .V5:=rfl
theorem snap_nilfn(m:Nat)(H:List Vi) :snap m H .nilfn=some .nilfn:=rfl
theorem Tu(m:Nat)(H:List Vi) :Vq m H .nilfn=some .nilfn:=rfl
theorem snap_nilm(m:Nat)(H:List Vi) :snap m H .nilm=some .nilm:=rfl
theorem snapV_nilm(m:Nat)(H:List Vi) :Vq m H .nilm=some .nilm:=rfl
theorem snap_sl(m:Nat)(H:List Vi)(sz:Nat)(rows:List (List D))(cap:Option Nat):snap m H (.sl sz rows cap)=some (.sl sz rows cap):=rfl
theorem snapV_sl(m:Nat)(H:List Vi)(sz:Nat)(rows:List (List D))(cap:Option Nat):Vq m H (.sl sz rows cap)=some (.sl sz rows cap):=rfl
theorem snap_cptr(m:Nat)(H:List Vi)(row:List D)(o:Nat):snap m H (.V7 row o)=some (.V7 row o):=rfl
theorem snapV_cptr(m:Nat)(H:List Vi)(row:List D)(o:Nat):Vq m H (.V7 row o)=some (.V7 row o):=rfl
theorem snap_mp(m:Nat)(H:List Vi)(rows:List (List D)):snap m H (.mp rows)=some (.mp rows):=rfl
theorem snapV_mp(m:Nat)(H:List Vi)(rows:List (List D)):Vq m H (.mp rows)=some (.mp rows):=rfl
theorem snap_ptr(m:Nat)(H:List Vi)(g v i o:Nat):snap m H (.ptr g v i o)=some (.ptr g v i o):=rfl
theorem Gw(m:Nat)(H:List Vi)(g v i o:Nat):Vq m H (.ptr g v i o)=some (.ptr g v i o):=rfl
theorem snap_fn(m:Nat)(H:List Vi)(f:FuncId)(cs:List D):snap m H (.fn f cs)=some (.fn f cs):=rfl
theorem snapV_fn(m:Nat)(H:List Vi)(f:FuncId)(cs:List D):Vq m H (.fn f cs)=some (.fn f cs):=rfl
theorem P5(m:Nat)(H:List Vi)(g v lo n:Nat)(cap:Option Nat):Vq m H (.msl g v lo n cap)=snap m H (.msl g v lo n cap):=rfl
theorem snapV_mref(m:Nat)(H:List Vi)(g v:Nat):Vq m H (.mref g v)=snap m H (.mref g v):=rfl
theorem Kv(m:Nat)(H:List Vi)(g v lo n:Nat)(cap:Option Nat):snap m H (.msl g v lo n cap)=match H[g]? with | some o=>if o.ver=v∧(o.kind=1∨(m≤g∧o.kind=2)) then some (.sl o.sz ((o.rows.drop lo).take n) (match cap with | some c=>some c | none=>if o.grow then none else some (o.rows.length-lo))) else some (.msl g v lo n cap) | none=>none:=rfl
theorem snap_mref(m:Nat)(H:List Vi)(g v:Nat):snap m H (.mref g v)=if m≤g then (match H[g]? with | some o=>if o.ver=v∧o.kind=3∧o.elem=0 then some (.mp o.rows) else some (.mref g v) | none=>none) else some (.mref g v):=rfl
theorem Lx(m:Nat)(H:List Vi)(cs:List D):Vq m H (.agg cs)=(Cg m H cs).map .agg:=rfl
theorem P6(m:Nat)(H:List Vi)(cs:List D):Vt m H (.tup cs)=(Av m H cs).map .tup:=rfl
theorem snapR_int(m:Nat)(H:List Vi)(k:IntKind)(n:Int):Vt m H (.int k n)=Vq m H (.int k n):=rfl
theorem snapR_bool(m:Nat)(H:List Vi)(b:Bool):Vt m H (.bool b)=Vq m H (.bool b):=rfl
theorem snapR_str(m:Nat)(H:List Vi)(s:ByteArray):Vt m H (.str s)=Vq m H (.str s):=rfl
theorem snapR_nilp(m:Nat)(H:List Vi) :Vt m H .nilp=Vq m H .nilp:=rfl
theorem snapR_nils(m:Nat)(H:List Vi) :Vt m H .V5=Vq m H .V5:=rfl
theorem Tw(m:Nat)(H:List Vi) :Vt m H .nilfn=Vq m H .nilfn:=rfl
theorem snapR_nilm(m:Nat)(H:List Vi) :Vt m H .nilm=Vq m H .nilm:=rfl
theorem snapR_sl(m:Nat)(H:List Vi)(sz:Nat)(rows:List (List D))(cap:Option Nat):Vt m H (.sl sz rows cap)=Vq m H (.sl sz rows cap):=rfl
theorem snapR_cptr(m:Nat)(H:List Vi)(row:List D)(o:Nat):Vt m H (.V7 row o)=Vq m H (.V7 row o):=rfl
theorem snapR_mp(m:Nat)(H:List Vi)(rows:List (List D)):Vt m H (.mp rows)=Vq m H (.mp rows):=rfl
theorem snapR_ptr(m:Nat)(H:List Vi)(g v i o:Nat):Vt m H (.ptr g v i o)=Vq m H (.ptr g v i o):=rfl
theorem snapR_fn(m:Nat)(H:List Vi)(f:FuncId)(cs:List D):Vt m H (.fn f cs)=Vq m H (.fn f cs):=rfl
theorem snapR_msl(m:Nat)(H:List Vi)(g v lo n:Nat)(cap:Option Nat):Vt m H (.msl g v lo n cap)=Vq m H (.msl g v lo n cap):=rfl
theorem snapR_mref(m:Nat)(H:List Vi)(g v:Nat):Vt m H (.mref g v)=Vq m H (.mref g v):=rfl
theorem snapR_agg(m:Nat)(H:List Vi)(cs:List D):Vt m H (.agg cs)=Vq m H (.agg cs):=rfl
theorem Ph(k:IntKind)(n:Int):D.free (.int k n)=true:=rfl
theorem freeV_int(k:IntKind)(n:Int):D.Vr (.int k n)=true:=rfl
theorem freeR_int(k:IntKind)(n:Int):D.Vs (.int k n)=true:=rfl
theorem K5(k:IntKind)(n:Int):D.Vv (.int k n)=true:=rfl
theorem val_int(k:IntKind)(n:Int):D.val (.int k n)=true:=rfl
theorem cells_int(k:IntKind)(n:Int):D.cells (.int k n)=[(.int k n)]:=rfl
theorem Su(b:Bool):D.free (.bool b)=true:=rfl
theorem Nq(b:Bool):D.Vr (.bool b)=true:=rfl
theorem freeR_bool(b:Bool):D.Vs (.bool b)=true:=rfl
theorem Uk(b:Bool):D.Vv (.bool b)=true:=rfl
theorem val_bool(b:Bool):D.val (.bool b)=true:=rfl
theorem cells_bool(b:Bool):D.cells (.bool b)=[(.bool b)]:=rfl
theorem Pg(s:ByteArray):D.free (.str s)=true:=rfl
theorem freeV_str(s:ByteArray):D.Vr (.str s)=true:=rfl
theorem freeR_str(s:ByteArray):D.Vs (.str s)=true:=rfl
theorem isCell_str(s:ByteArray):D.Vv (.str s)=true:=rfl
theorem val_str(s:ByteArray):D.val (.str s)=true:=rfl
theorem cells_str(s:ByteArray):D.cells (.str s)=[(.str s)]:=rfl
theorem free_nilp :D.free .nilp=true:=rfl
theorem freeV_nilp :D.Vr .nilp=true:=rfl
theorem freeR_nilp :D.Vs .nilp=true:=rfl
theorem Ue :D.Vv .nilp=true:=rfl
theorem val_nilp :D.val .nilp=true:=rfl
theorem cells_nilp :D.cells .nilp=[.nilp]:=rfl
theorem Sr :D.free .V5=true:=rfl
theorem freeV_nils :D.Vr .V5=true:=rfl
theorem freeR_nils :D.Vs .V5=true:=rfl
theorem Ud :D.Vv .V5=true:=rfl
theorem val_nils :D.val .V5=true:=rfl
theorem cells_nils :D.cells .V5=[.V5]:=rfl
theorem free_nilfn :D.free .nilfn=true:=rfl
theorem Um :D.Vr .nilfn=true:=rfl
theorem Un :D.Vs .nilfn=true:=rfl
theorem Rt :D.Vv .nilfn=true:=rfl
theorem val_nilfn :D.val .nilfn=true:=rfl
theorem U0 :D.cells .nilfn=[.nilfn]:=rfl
theorem free_nilm :D.free .nilm=true:=rfl
theorem freeV_nilm :D.Vr .nilm=true:=rfl
theorem freeR_nilm :D.Vs .nilm=true:=rfl
theorem Uf :D.Vv .nilm=true:=rfl
theorem val_nilm :D.val .nilm=true:=rfl
theorem cells_nilm :D.cells .nilm=[.nilm]:=rfl
theorem free_sl(sz:Nat)(rows:List (List D))(cap:Option Nat):D.free (.sl sz rows cap)=true:=rfl
theorem freeV_sl(sz:Nat)(rows:List (List D))(cap:Option Nat):D.Vr (.sl sz rows cap)=true:=rfl
theorem freeR_sl(sz:Nat)(rows:List (List D))(cap:Option Nat):D.Vs (.sl sz rows cap)=true:=rfl
theorem isCell_sl(sz:Nat)(rows:List (List D))(cap:Option Nat):D.Vv (.sl sz rows cap)=true:=rfl
theorem val_sl(sz:Nat)(rows:List (List D))(cap:Option Nat):D.val (.sl sz rows cap)=true:=rfl
theorem cells_sl(sz:Nat)(rows:List (List D))(cap:Option Nat):D.cells (.sl sz rows cap)=[(.sl sz rows cap)]:=rfl
theorem free_cptr(row:List D)(o:Nat):D.free (.V7 row o)=true:=rfl
theorem freeV_cptr(row:List D)(o:Nat):D.Vr (.V7 row o)=true:=rfl
theorem freeR_cptr(row:List D)(o:Nat):D.Vs (.V7 row o)=true:=rfl
theorem Uj(row:List D)(o:Nat):D.Vv (.V7 row o)=true:=rfl
theorem val_cptr(row:List D)(o:Nat):D.val (.V7 row o)=true:=rfl
theorem cells_cptr(row:List D)(o:Nat):D.cells (.V7 row o)=[(.V7 row o)]:=rfl
theorem free_mp(rows:List (List D)):D.free (.mp rows)=true:=rfl
theorem freeV_mp(rows:List (List D)):D.Vr (.mp rows)=true:=rfl
theorem freeR_mp(rows:List (List D)):D.Vs (.mp rows)=true:=rfl
theorem isCell_mp(rows:List (List D)):D.Vv (.mp rows)=true:=rfl
theorem val_mp(rows:List (List D)):D.val (.mp rows)=true:=rfl
theorem cells_mp(rows:List (List D)):D.cells (.mp rows)=[(.mp rows)]:=rfl
theorem free_ptr(g v i o:Nat):D.free (.ptr g v i o)=false:=rfl
theorem freeV_ptr(g v i o:Nat):D.Vr (.ptr g v i o)=false:=rfl
theorem freeR_ptr(g v i o:Nat):D.Vs (.ptr g v i o)=false:=rfl
theorem isCell_ptr(g v i o:Nat):D.Vv (.ptr g v i o)=true:=rfl
theorem val_ptr(g v i o:Nat):D.val (.ptr g v i o)=true:=rfl
theorem cells_ptr(g v i o:Nat):D.cells (.ptr g v i o)=[(.ptr g v i o)]:=rfl
theorem free_fn(f:FuncId)(cs:List D):D.free (.fn f cs)=cs.all D.Vw:=rfl
theorem freeV_fn(f:FuncId)(cs:List D):D.Vr (.fn f cs)=cs.all D.Vw:=rfl
theorem freeR_fn(f:FuncId)(cs:List D):D.Vs (.fn f cs)=cs.all D.Vw:=rfl
theorem isCell_fn(f:FuncId)(cs:List D):D.Vv (.fn f cs)=true:=rfl
theorem val_fn(f:FuncId)(cs:List D):D.val (.fn f cs)=true:=rfl
theorem cells_fn(f:FuncId)(cs:List D):D.cells (.fn f cs)=[(.fn f cs)]:=rfl
theorem free_msl(g v lo n:Nat)(cap:Option Nat):D.free (.msl g v lo n cap)=false:=rfl
theorem freeV_msl(g v lo n:Nat)(cap:Option Nat):D.Vr (.msl g v lo n cap)=false:=rfl
theorem freeR_msl(g v lo n:Nat)(cap:Option Nat):D.Vs (.msl g v lo n cap)=false:=rfl
theorem isCell_msl(g v lo n:Nat)(cap:Option Nat):D.Vv (.msl g v lo n cap)=true:=rfl
theorem val_msl(g v lo n:Nat)(cap:Option Nat):D.val (.msl g v lo n cap)=true:=rfl
theorem cells_msl(g v lo n:Nat)(cap:Option Nat):D.cells (.msl g v lo n cap)=[(.msl g v lo n cap)]:=rfl
theorem free_mref(g v:Nat):D.free (.mref g v)=false:=rfl
theorem freeV_mref(g v:Nat):D.Vr (.mref g v)=false:=rfl
theorem freeR_mref(g v:Nat):D.Vs (.mref g v)=false:=rfl
theorem Uh(g v:Nat):D.Vv (.mref g v)=true:=rfl
theorem val_mref(g v:Nat):D.val (.mref g v)=true:=rfl
theorem cells_mref(g v:Nat):D.cells (.mref g v)=[(.mref g v)]:=rfl
theorem Qg(cs:List D):D.Vr (.agg cs)=cs.all D.free:=rfl
theorem freeR_agg(cs:List D):D.Vs (.agg cs)=cs.all D.free:=rfl
theorem Qh(cs:List D):D.Vs (.tup cs)=cs.all D.Vr:=rfl
theorem val_agg(cs:List D):D.val (.agg cs)=cs.all D.Vv:=rfl
theorem Ti(cs:List D):D.cells (.agg cs)=cs:=rfl
theorem snap_nili(m:Nat)(H:List Vi) :snap m H .nili=some .nili:=rfl
theorem snapV_nili(m:Nat)(H:List Vi) :Vq m H .nili=some .nili:=rfl
theorem snapR_nili(m:Nat)(H:List Vi) :Vt m H .nili=Vq m H .nili:=rfl
theorem free_nili :D.free .nili=true:=rfl
theorem freeV_nili :D.Vr .nili=true:=rfl
theorem freeR_nili :D.Vs .nili=true:=rfl
theorem Ug :D.Vv .nili=true:=rfl
theorem val_nili :D.val .nili=true:=rfl
theorem cells_nili :D.cells .nili=[.nili]:=rfl
theorem snap_ifc(m:Nat)(H:List Vi)(t:TypeId)(d:D):snap m H (.ifc t d)=some (.ifc t d):=rfl
theorem snapV_ifc(m:Nat)(H:List Vi)(t:TypeId)(d:D):Vq m H (.ifc t d)=some (.ifc t d):=rfl
theorem snapR_ifc(m:Nat)(H:List Vi)(t:TypeId)(d:D):Vt m H (.ifc t d)=Vq m H (.ifc t d):=rfl
theorem free_ifc(t:TypeId)(d:D):D.free (.ifc t d)=true:=rfl
theorem freeV_ifc(t:TypeId)(d:D):D.Vr (.ifc t d)=true:=rfl
theorem freeR_ifc(t:TypeId)(d:D):D.Vs (.ifc t d)=true:=rfl
theorem isCell_ifc(t:TypeId)(d:D):D.Vv (.ifc t d)=true:=rfl
theorem val_ifc(t:TypeId)(d:D):D.val (.ifc t d)=true:=rfl
theorem cells_ifc(t:TypeId)(d:D):D.cells (.ifc t d)=[(.ifc t d)]:=rfl
theorem snap_ifr(m:Nat)(H:List Vi)(t:TypeId)(d:D):snap m H (.ifr t d)=some (.ifr t d):=rfl
theorem snapV_ifr(m:Nat)(H:List Vi)(t:TypeId)(d:D):Vq m H (.ifr t d)=some (.ifr t d):=rfl
theorem snapR_ifr(m:Nat)(H:List Vi)(t:TypeId)(d:D):Vt m H (.ifr t d)=Vq m H (.ifr t d):=rfl
theorem free_ifr(t:TypeId)(d:D):D.free (.ifr t d)=false:=rfl
theorem freeV_ifr(t:TypeId)(d:D):D.Vr (.ifr t d)=false:=rfl
theorem freeR_ifr(t:TypeId)(d:D):D.Vs (.ifr t d)=false:=rfl
theorem isCell_ifr(t:TypeId)(d:D):D.Vv (.ifr t d)=true:=rfl
theorem val_ifr(t:TypeId)(d:D):D.val (.ifr t d)=true:=rfl
theorem cells_ifr(t:TypeId)(d:D):D.cells (.ifr t d)=[(.ifr t d)]:=rfl
theorem snap_iter(m:Nat)(H:List Vi)(g v:Nat):snap m H (.iter g v)=some (.iter g v):=rfl
theorem snapV_iter(m:Nat)(H:List Vi)(g v:Nat):Vq m H (.iter g v)=some (.iter g v):=rfl
theorem snapR_iter(m:Nat)(H:List Vi)(g v:Nat):Vt m H (.iter g v)=Vq m H (.iter g v):=rfl
theorem free_iter(g v:Nat):D.free (.iter g v)=false:=rfl
theorem freeV_iter(g v:Nat):D.Vr (.iter g v)=false:=rfl
theorem freeR_iter(g v:Nat):D.Vs (.iter g v)=false:=rfl
theorem Ui(g v:Nat):D.Vv (.iter g v)=true:=rfl
theorem val_iter(g v:Nat):D.val (.iter g v)=true:=rfl
theorem cells_iter(g v:Nat):D.cells (.iter g v)=[(.iter g v)]:=rfl
theorem Mj:Ji false .V5=some (.int .i64 0):=rfl
theorem Kn(sz:Nat)(rows:List (List D))(cap:Option Nat):Ji false (.sl sz rows cap)=some (.int .i64 rows.length):=rfl
theorem Ij(g v lo n:Nat)(cap:Option Nat):Ji false (.msl g v lo n cap)=some (.int .i64 n):=rfl
theorem Mm(S:St)(sz s:Nat)(rows:List (List D))(cap:Option Nat)(k:IntKind)(i:Int):Gd S sz (.sl s rows cap) (.int k i)=if s=sz∧0≤i then rows[i.toNat]?.map (fun r=>.V7 r 0) else none:=rfl
theorem Ch(S:St)(sz g v lo n:Nat)(cap:Option Nat)(k:IntKind)(i:Int):Gd S sz (.msl g v lo n cap) (.int k i)=match rowsOf S g v with | some ob=>if ob.sz=sz∧0≤i∧i<n then some (.ptr g v (lo+i.toNat) 0) else none | none=>none:=rfl
theorem Jc(S:St)(sz s:Nat)(rows:List (List D))(cap:Option Nat):Ef S sz (.sl s rows cap)=if s=sz then some rows else none:=rfl
theorem Jk(S:St)(sz g v lo n:Nat)(cap:Option Nat):Ef S sz (.msl g v lo n cap)=match rowsOf S g v with | some o=>if o.sz=sz∧(o.kind=1∨o.kind=2) then some ((o.rows.drop lo).take n) else none | none=>none:=rfl
theorem loadD_cptr(sz:Nat)(agg:Bool)(S:St)(row:List D)(o:Nat):Jn sz agg S (.V7 row o)=Ay row o sz agg:=rfl
theorem Kr(sz:Nat)(agg:Bool)(S:St)(g v i o:Nat):Jn sz agg S (.ptr g v i o)=match rowsOf S g v with | some x=>(match x.rows[i]? with | some row=>Ay row o sz agg | none=>none) | none=>none:=rfl
theorem Ad(f g v i o:Nat):S9 f (.ptr g v i o)=some (.ptr g v i (o+f)):=rfl
theorem E5(f:Nat)(row:List D)(o:Nat):S9 f (.V7 row o)=some (.V7 row (o+f)):=rfl
def SlD (sz:Nat) (rows:List (List D)) (x:D):Prop:=(x=.V5∧rows=[])∨∃cap,x=.sl sz rows cap
section
variable {sz:Nat} {rows:List (List D)} {x:D} (h:SlD sz rows x)
include h
theorem SlD.free:x.free=true:=by rcases h with⟨rfl,rfl⟩ | ⟨c,rfl⟩<;>rfl
theorem SlD.Vr:x.Vr=true:=by rcases h with⟨rfl,rfl⟩ | ⟨c,rfl⟩<;>rfl
theorem SlD.Vs:x.Vs=true:=by rcases h with⟨rfl,rfl⟩ | ⟨c,rfl⟩<;>rfl
theorem SlD.Vv:x.Vv=true:=by rcases h with⟨rfl,rfl⟩ | ⟨c,rfl⟩<;>rfl
theorem SlD.val:x.val=true:=by rcases h with⟨rfl,rfl⟩ | ⟨c,rfl⟩<;>rfl
theorem SlD.cells:x.cells=[x]:=by rcases h with⟨rfl,rfl⟩ | ⟨c,rfl⟩<;>rfl
theorem SlD.snap(m:Nat)(H:List Vi):snap m H x=some x:=by rcases h with⟨rfl,rfl⟩ | ⟨c,rfl⟩<;>rfl
theorem SlD.Vq(m:Nat)(H:List Vi):Vq m H x=some x:=by rcases h with⟨rfl,rfl⟩ | ⟨c,rfl⟩<;>rfl
theorem SlD.Vt(m:Nat)(H:List Vi):Vt m H x=some x:=by rcases h with⟨rfl,rfl⟩ | ⟨c,rfl⟩<;>rfl
theorem SlD.plain:Ac x=true:=by rcases h with⟨rfl,rfl⟩ | ⟨c,rfl⟩<;>rfl
theorem SlD.Vp:Vp x=true:=by rcases h with⟨rfl,rfl⟩ | ⟨c,rfl⟩<;>rfl
theorem SlD.len:Ji false x=some (.int .i64 rows.length):=by rcases h with⟨rfl,rfl⟩ | ⟨c,rfl⟩<;>rfl
theorem SlD.read(S:St):Ef S sz x=some rows:=by
 rcases h with⟨rfl,rfl⟩ | ⟨c,rfl⟩
 ·
  rfl
 simp[Ef]
theorem SlD.V3(S:St)(k:IntKind){i:Int}{r:List D}(h0:0≤i)(hr:rows[i.toNat]?=some r):Gd S sz x (.int k i)=some (.V7 r 0):=by
 rcases h with⟨rfl,rfl⟩ | ⟨c,rfl⟩
 ·
  simp at hr
 simp[Gd,h0,hr]
theorem SlD.iaddrN(S:St)(k:IntKind){i:Nat}{r:List D}(hr:rows[i]?=some r):Gd S sz x (.int k i)=some (.V7 r 0):=h.V3 S k (by omega) (by simpa using hr)
theorem SlD.fpi(n:Nat)(i r:D)(wr:Bool):F3 (.V3 n) [x,i] r wr=Ah []:=by rcases h with⟨rfl,rfl⟩ | ⟨c,rfl⟩<;>rfl
end
theorem SlD.of(sz:Nat)(rows:List (List D))(c:Option Nat):SlD sz rows (.sl sz rows c):=.inr ⟨c,rfl⟩
theorem SlD.nil(sz:Nat):SlD sz [] .V5:=.inl ⟨rfl,rfl⟩
def Fv (l:List ByteArray):List (List D):=l.map fun s=>[.str s]
theorem Qt{l:List ByteArray}{i:Nat}(h:i<l.length):(Fv l)[i]?=some [.str l[i]]:=by simp[Fv,h]
theorem La(l:List ByteArray):(Fv l).length=l.length:=by simp[Fv]
theorem Ku{α:Type}{n:Nat}{f g:Nat→α}(h:(List.range n).map f=(List.range n).map g)(i:Nat)(hi:i<n):f i=g i:=by
 have:=congrArg (·[i]?) h;simpa [hi] using this
def idxI {α:Type} (p:α→Bool) (l:List α):Int:=match l.findIdx? p with | some i=>i | none=>-1
theorem Ml{α:Type}{p:α→Bool}{l:List α}(h:l.any p=false):idxI p l=-1:=by
 have:l.findIdx? p=none:=by
  rw[List.findIdx?_eq_none_iff];intro x hx;have:=List.any_eq_false.1 h x hx;simpa using this
 simp[idxI,this]
theorem Vf{α:Type}{p:α→Bool}{l:List α}{i:Nat}(hi:i<l.length)(hp:p l[i]=true)(hb:(l.take i).any p=false):idxI p l=i:=by
 have:l.findIdx? p=some i:=by
  rw[List.findIdx?_eq_some_iff_getElem];refine⟨hi,hp,fun j hj=>?_⟩
  have:=List.any_eq_false.1 hb l[j] (by
   rw[List.mem_take_iff_getElem]
   exact⟨j,by omega,rfl⟩)
  simpa using this
 simp[idxI,this]
theorem any_take_succ{α:Type}{p:α→Bool}{l:List α}{i:Nat}(hi:i<l.length)(hb:(l.take i).any p=false)(hp:p l[i]=false):(l.take (i+1)).any p=false:=by
 rw[List.take_add_one,Lg hi,List.any_append,hb];simp[hp]
theorem idxI_nonneg{α:Type}(p:α→Bool)(l:List α):decide (idxI p l≥0)=l.any p:=by
 cases h:l.any p with
 | false=>rw[Ml h];rfl
 | true =>
  unfold idxI
  cases hf:l.findIdx? p with
  | some i=>simp
  | none =>
   rw[List.findIdx?_eq_none_iff]at hf;obtain⟨x,hx,hp⟩:=List.any_eq_true.1 h;rw[hf x hx]at hp;simp at hp
theorem Ee(k:Nat)(h:k<1000000000):IntKind.i64.wrap ((k:Int)+1)=((k+1:Nat):Int):=by rw[IntKind.wrap_i64];omega
theorem Rw(sz:Nat)(agg:Bool)(row:List D)(o:Nat)(r:D)(wr:Bool):F3 (.load sz agg) [.V7 row o] r wr=Ah []:=rfl
theorem Uq(sz:Nat)(agg:Bool)(g v i o:Nat)(r:D)(wr:Bool):F3 (.load sz agg) [.ptr g v i o] r wr=Ah [g]:=rfl
theorem Ur(n sz:Nat)(rows:List (List D))(cap:Option Nat)(i r:D)(wr:Bool):F3 (.V3 n) [.sl sz rows cap,i] r wr=Ah []:=rfl
theorem Rx(n g v lo m:Nat)(cap:Option Nat)(i r:D)(wr:Bool):F3 (.V3 n) [.msl g v lo m cap,i] r wr=Ah [g]:=rfl
theorem fp_call(f:FuncId)(ds:List D)(r:D)(wr:Bool):F3 (.call f) ds r wr=Ba wr:=rfl
theorem fp_callv(ds:List D)(r:D)(wr:Bool):F3 .callv ds r wr=Ba wr:=rfl
theorem fp_append(e sz b k:Nat)(s x r:D)(wr:Bool):F3 (.append e sz b k) [s,x] r wr=Fq s x r wr:=rfl
theorem fp_bslice(e sz n:Nat)(z:List D)(ps:List Nat)(k:Nat)(ds:List D)(r:D)(wr:Bool):F3 (.Vz e sz n z ps k) ds r wr=if k=0||ds.all Vp then Bv r wr else Ba wr:=rfl
theorem fp_store(sz g v i o:Nat)(x r:D)(wr:Bool):F3 (.store sz) [.ptr g v i o,x] r wr=if Vp x then ⟨true,some [g],some [g],false,none⟩ else Ba wr:=rfl
theorem fp_box(e sz:Nat)(ds:List D)(g v i o:Nat)(wr:Bool):F3 (.box e sz) ds (.ptr g v i o) wr=⟨true,some [],some [g],true,none⟩:=rfl
theorem fp_alloc(e:Nat)(z ds:List D)(r:D)(wr:Bool):F3 (.alloc e z) ds r wr=Ba wr:=rfl
theorem fp_bstr(ds:List D)(r:D)(wr:Bool):F3 .bstr ds r wr=Ba wr:=rfl
theorem fp_strb(ds:List D)(r:D)(wr:Bool):F3 .strb ds r wr=Ah []:=rfl
theorem Uo(n sz:Nat)(rows:List (List D))(cap:Option Nat)(a b c:Bool)(ds:List D)(r:D)(wr:Bool):F3 (.slice false n a b c) (.sl sz rows cap::ds) r wr=Ah []:=rfl
theorem Rv(n g v lo m:Nat)(cap:Option Nat)(a b c:Bool)(ds:List D)(r:D)(wr:Bool):F3 (.slice false n a b c) (.msl g v lo m cap::ds) r wr=Ah [g]:=rfl
theorem fp_mapget(kf:Nat)(z:D)(ok:Bool)(rows:List (List D))(k r:D)(wr:Bool):F3 (.mapget kf z ok) [.mp rows,k] r wr=Ah []:=rfl
theorem fp_mkslice(e sz b:Nat)(z:List D)(k:Nat)(ds:List D)(g v lo n:Nat)(c:Option Nat)(wr:Bool):F3 (.mkslice e sz b z k) ds (.msl g v lo n c) wr=⟨true,some [],some [g],true,none⟩:=rfl
theorem fpAll_f:Ba false=⟨true,none,some [],false,none⟩:=rfl
theorem fpAll_t:Ba true=⟨true,none,none,true,none⟩:=rfl
theorem natOf_nat(k:IntKind)(n:Nat):Fb (.int k (n:Int))=some n:=by simp[Fb]
section
variable {call:Bp} {S:St}
end
def AppS (H:List Vi) (lo:Nat) (e:TypeId) (sz:Nat) (rows:List (List D)) (S:St) (x:D):Prop :=
 (rows=[]∧S=⟨H,lo⟩∧x=.V5)∨∃v,S=⟨H++[⟨e,sz,rows,v,1,true⟩],lo⟩∧x=.msl H.length v 0 rows.length none
theorem AppS.nil(H:List Vi)(lo:Nat)(e:TypeId)(sz:Nat):AppS H lo e sz [] ⟨H,lo⟩ .V5:=.inl ⟨rfl,rfl,rfl⟩
theorem AppS.app{H:List Vi}{lo:Nat}{e sz:Nat}{rows:List (List D)}{S:St}{x:D}(h:AppS H lo e sz rows S x)(xI:lo≤H.length)(bytes:Nat){new:List (List D)}{c:Option Nat}(hn:new.isEmpty=false)(hb:(rows.length+new.length)*bytes≤140737488355328) :
  ∃x' S',Di e sz bytes 1 x (.sl sz new c) S=some (x',S',true)∧AppS H lo e sz (rows++new) S' x':=by
 rcases h with⟨rfl,rfl,rfl⟩ | ⟨v,rfl,rfl⟩
 ·
  refine⟨.msl H.length 0 0 new.length none,newAt ⟨H,lo⟩ ⟨e,sz,new,0,1,true⟩,?_,.inr ⟨0,rfl,by simp⟩⟩;simp only[List.length_nil,Nat.zero_add]at hb;simp[Di,Cs,Ef,hn,hb]
 refine⟨.msl H.length (v+1) 0 (rows.length+new.length) none,⟨H++[⟨e,sz,rows++new,v+1,1,true⟩],lo⟩,?_,.inr ⟨v+1,rfl,by simp⟩⟩;have hm:min lo H.length=lo:=by omega
 simp[Di,Cs,Ef,rowsOf,hb,setAt,hm]
theorem AppS.len{H:List Vi}{lo:Nat}{e sz:Nat}{rows:List (List D)}{S:St}{x:D}(h:AppS H lo e sz rows S x):Ji false x=some (.int .i64 rows.length):=by
 rcases h with⟨rfl,rfl,rfl⟩ | ⟨v,rfl,rfl⟩<;>rfl
theorem AppS.snap{H:List Vi}{lo:Nat}{e sz:Nat}{rows:List (List D)}{S:St}{x:D}(h:AppS H lo e sz rows S x)(m:Nat):∃y,SlD sz rows y∧Vq m S.heap x=some y:=by
 rcases h with⟨rfl,rfl,rfl⟩ | ⟨v,rfl,rfl⟩
 ·
  exact⟨.V5,.nil sz,rfl⟩
 exact⟨.sl sz rows none,.of _ _ _,by simp[P5,Kv]⟩
theorem tmod_nat(a b:Nat):(a:Int).tmod (b:Int)=((a % b:Nat):Int):=by
 rw[Int.tmod_eq_emod_of_nonneg (by omega)];omega
theorem wrap_u8(a:Nat)(h:a<256):IntKind.u8.wrap (a:Int)=a:=by
 simp only[IntKind.wrap,IntKind.signed,IntKind.bits,Bool.false_and,Bool.false_eq_true,if_false];omega
def Cv (n:Nat):D→D
 | .sl s rows cap=>.sl s (rows.drop n) (cap.map (·-n))
 | d=>d
theorem SlD.drop{sz:Nat}{rows:List (List D)}{x:D}(h:SlD sz rows x)(n:Nat):SlD sz (rows.drop n) (Cv n x):=by
  rcases h with⟨rfl,rfl⟩ | ⟨c,rfl⟩
  · exact .inl ⟨rfl,by simp⟩
  exact .inr ⟨_,rfl⟩
theorem SlD.slice_lo{sz:Nat}{rows:List (List D)}{x:D}(h:SlD sz rows x)(S:St)(k:IntKind){n:Nat}(hn:n≤rows.length):Eb S sz x (some (.int k n)) none none=some (Cv n x):=by
 rcases h with⟨rfl,rfl⟩ | ⟨c,rfl⟩
 ·
  simp at hn;subst hn;simp[Eb,Dr,Gn,Fb,Cv]
 simp only[Eb,ne_eq,not_true_eq_false,if_false,Dr,Gn,natOf_nat];simp only[hn,Nat.le_refl,and_self,if_true,Cv];rw[List.take_of_length_le (by simp)]
theorem SlD.slice_1{sz:Nat}{rows:List (List D)}{x:D}(h:SlD sz rows x)(S:St)(hn:1≤rows.length):Eb S sz x (some (.int .i64 1)) none none=some (Cv 1 x):=h.slice_lo S .i64 hn
def clipD:D→D
 | .sl s rows _=>.sl s rows (some rows.length)
 | d=>d
theorem SlD.clip{sz:Nat}{rows:List (List D)}{x:D}(h:SlD sz rows x):SlD sz rows (clipD x):=by
 rcases h with⟨rfl,rfl⟩ | ⟨c,rfl⟩
 ·
  exact .nil _
 exact .of _ _ _
theorem SlD.slice_clip{sz:Nat}{rows:List (List D)}{x:D}(h:SlD sz rows x)(S:St):Eb S sz x none (some (.int .i64 rows.length)) (some (.int .i64 rows.length))=some (clipD x):=by
 rcases h with⟨rfl,rfl⟩ | ⟨c,rfl⟩
 ·
  simp[Eb,Dr,Gn,Fb,clipD]
 simp[Eb,Dr,Gn,natOf_nat,clipD]
theorem SlD.fps{sz:Nat}{rows:List (List D)}{x:D}(h:SlD sz rows x)(n:Nat)(a b c:Bool)(ds:List D)(r:D)(wr:Bool):F3 (.slice false n a b c) (x::ds) r wr=Ah []:=by
 rcases h with⟨rfl,rfl⟩ | ⟨c,rfl⟩<;>rfl
abbrev qo (l:LOp) (a:List Vl):Vk:=⟨l,a,none,[],none⟩
abbrev qg (l:LOp) (a:List Vl) (d:Nat) (b:Bool):Vk:=⟨l,a,some (d,b),[],none⟩
abbrev qw (l:LOp) (a:List Vl) (n k:Nat):Vk:=⟨l,a,none,ob n k,none⟩
theorem zr:(type_of% @Ad)∧(type_of% @E5):=⟨@Ad,@E5⟩
theorem SlD.q5{sz:Nat}{rows:List (List D)}{x:D}(h:SlD sz rows x):x.Vv=true∧x.val=true∧x.cells=[x]∧Ji false x=some (.int .i64 rows.length)∧Ac x=true:=⟨h.Vv,h.val,h.cells,h.len,h.plain⟩
set_option maxRecDepth 10000
section
universe u
noncomputable def Mi {α:Type u} (l:List α):Nat:=List.rec (motive:=fun _=>Nat) 0 (fun _ _ ih=>Nat.succ ih) l
theorem Gx{α:Type u}:∀l:List α,Mi l=l.length
 | []=>rfl
 | a::l=>congrArg Nat.succ (Gx l)
noncomputable def appR {α:Type u} (l m:List α):List α:=List.rec (motive:=fun _=>List α) m (fun h _ ih=>h::ih) l
theorem appR_eq{α:Type u}(m:List α):∀l:List α,appR l m=l++m
 | []=>rfl
 | a::l=>congrArg (a::·) (appR_eq m l)
noncomputable def repR {α:Type u} (x:α) (n:Nat):List α:=Nat.rec (motive:=fun _=>List α) [] (fun _ ih=>x::ih) n
theorem Va{α:Type u}(x:α):∀n,repR x n=List.replicate n x
 | 0=>rfl
 | n+1=>by rw[List.replicate_succ,←Va x n];rfl
end
abbrev Ans:=Option (D × St × Bool)
abbrev K1:=D→St→Bool→Ans
abbrev Kj:=FuncId→List D→St→K1→Ans
def CKs (c:Kj) (cs:Bp):Prop:=∀f args S k a,c f args S k=some a→∃r S' w,cs f args S=some (r,S',w)∧k r S' w=some a
noncomputable def frc (n:Nat) (k:Nat→Ans):Ans:=Nat.rec (motive:=fun _=>Ans) none (fun m _=>k m) (Nat.succ n)
theorem K6(n:Nat)(k:Nat→Ans):frc n k=k n:=rfl
noncomputable def ifA (b:Bool) (t e:Ans):Ans:=Bool.rec (motive:=fun _=>Ans) e t b
theorem Dy(b:Bool)(t e:Ans):ifA b t e=if b=true then t else e:=by cases b<;>rfl
noncomputable def boolK (b:Bool) (k:D→Ans):Ans:=Bool.rec (motive:=fun _=>Ans) (k (.bool false)) (k (.bool true)) b
theorem boolK_eq(b:Bool)(k:D→Ans):boolK b k=k (.bool b):=by cases b<;>rfl
noncomputable def Mc {α:Type} (o:Option α) (k:α→Ans):Ans:=Option.rec (motive:=fun _=>Ans) none k o
theorem Gh{α:Type}{o:Option α}{k:α→Ans}{a:D × St × Bool}(h:Mc o k=some a):∃x,o=some x∧k x=some a:=by
 cases o with
 | none=>exact absurd h (by simp[Mc])
 | some x=>exact⟨x,rfl,h⟩
noncomputable def ansK (o:Option (D × St × Bool)) (k:K1):Ans:=Option.rec (motive:=fun _=>Ans) none (fun p=>Prod.rec (motive:=fun _=>Ans) (fun r q=>Prod.rec (motive:=fun _=>Ans) (fun S w=>k r S w) q) p) o
theorem M3{o:Option (D × St × Bool)}{k:K1}{a:D × St × Bool}(h:ansK o k=some a):∃r S w,o=some (r,S,w)∧k r S w=some a:=by
 cases o with
 | none=>exact absurd h (by simp[ansK])
 | some x=>obtain⟨r,S,w⟩:=x;exact⟨r,S,w,rfl,h⟩
structure IV where
 ok:Bool
 k:IntKind
 n:Nat
def D.iv:D→IV
 | .int k (.ofNat n)=>⟨true,k,n⟩
 | _=>⟨false,.i8,0⟩
theorem D.iv_ok{d:D}{k:IntKind}{n:Nat}(h:d.iv=⟨true,k,n⟩):d=.int k n:=by
 unfold D.iv at h;split at h
 ·
  simp only[IV.mk.injEq,true_and]at h;rw[h.1,h.2];rfl
 simp at h
noncomputable def ivK (d:D) (f:IntKind→Nat→Ans) (e:Ans):Ans:=IV.rec (motive:=fun _=>Ans) (fun ok k n=>ifA ok (f k n) e) d.iv
theorem Ha{d:D}{f:IntKind→Nat→Ans}{e:Ans}{a:D × St × Bool}(h:ivK d f e=some a):(∃k n,d=.int k (n:Nat)∧f k n=some a)∨e=some a:=by
 unfold ivK at h;rcases hd:d.iv with⟨ok,k,n⟩;rw[hd]at h;change ifA ok (f k n) e=some a at h
 cases ok with
 | true=>exact .inl ⟨k,n,D.iv_ok hd,h⟩
 | false=>exact .inr h
def D.bv:D→Nat
 | .bool true=>1
 | .bool false=>0
 | _=>2
theorem D.bv_1{d:D}(h:d.bv=1):d=.bool true:=by unfold D.bv at h;split at h<;>simp_all
theorem D.bv_0{d:D}(h:d.bv=0):d=.bool false:=by unfold D.bv at h;split at h<;>simp_all
noncomputable def bvK (d:D) (t e:Ans):Ans:=Nat.rec (motive:=fun _=>Ans) e (fun m _=>Nat.rec (motive:=fun _=>Ans) t (fun _ _=>none) m) d.bv
theorem M0{d:D}{t e:Ans}{a:D × St × Bool}(h:bvK d t e=some a):(d=.bool true∧t=some a)∨(d=.bool false∧e=some a):=by
 unfold bvK at h
 match hd:d.bv with
 | 0=>rw[hd]at h;exact .inr ⟨D.bv_0 hd,h⟩
 | 1=>rw[hd]at h;exact .inl ⟨D.bv_1 hd,h⟩
 | n+2=>rw[hd]at h;exact absurd h (by simp)
noncomputable def frcD (d:D) (k:D→Ans):Ans:=ivK d (fun kk n=>frc n fun m=>k (.int kk (.ofNat m))) (k d)
theorem frcD_some{d:D}{k:D→Ans}{a:D × St × Bool}(h:frcD d k=some a):k d=some a:=by
 unfold frcD at h;rcases Ha h with⟨kk,n,rfl,h⟩ | h
 ·
  exact h
 exact h
def D.flat:D→Bool
 | .int .. | .bool _ | .str _ | .nilp | .V5 | .nilfn | .nilm | .nili | .sl .. | .V7 .. | .mp _ | .ifc ..=>true
 | _=>false
theorem flat_snap{d:D}(h:d.flat=true)(m:Nat)(H:List Vi):snap m H d=some d:=by cases d<;>simp_all [D.flat,snap]
theorem flat_free{d:D}(h:d.flat=true):d.free=true:=by cases d<;>simp_all [D.flat,D.free,D.Vw]
noncomputable def Q4 (l:List D):Bool:=List.rec (motive:=fun _=>Bool) true (fun h _ ih=>Bool.rec (motive:=fun _=>Bool) false ih h.flat) l
theorem Nr:∀{l:List D},Q4 l=true→∀d∈l,d.flat=true
 | [],_,d,h=>by simp at h
 | x :: l, h, d, hd => by
  have hx:x.flat=true:=by
   cases e:x.flat with
   | true=>rfl
   | false =>
    have:Q4 (x::l)=Bool.rec (motive:=fun _=>Bool) false (Q4 l) x.flat:=rfl;rw[this,e]at h;simp at h
  have hl:Q4 l=true:=by
   have:Q4 (x::l)=Bool.rec (motive:=fun _=>Bool) false (Q4 l) x.flat:=rfl;rw[this,hx]at h;exact h
  rcases List.mem_cons.1 hd with rfl | hd
  ·
   exact hx
  exact Nr hl d hd
noncomputable def D.flatV:D→Bool
 | .agg cs=>Q4 cs
 | d=>d.flat
theorem snaps_flat(m:Nat)(H:List Vi):∀{l:List D},(∀d∈l,d.flat=true)→Cg m H l=some l
 | [],_=>rfl
 | x::l,h=>by simp[Cg,flat_snap (h x List.mem_cons_self),snaps_flat m H fun d hd=>h d (List.mem_cons_of_mem _ hd)]
theorem Pk{d:D}(h:d.flatV=true)(m:Nat)(H:List Vi):Vq m H d=some d:=by
 cases d with
 | agg cs=>simp[Vq,snaps_flat m H (Nr h)]
 | _=>simp_all [D.flatV,D.flat,Vq,snap]
theorem Us{d:D}(h:d.flatV=true):d.Vr=true:=by
 cases d with
 | agg cs =>
  simp only[D.Vr,List.all_eq_true];exact fun x hx=>flat_free (Nr h x hx)
 | _=>simp_all [D.flatV,D.flat,D.Vr,D.free,D.Vw]
noncomputable def Jp (l:List D):Bool:=List.rec (motive:=fun _=>Bool) true (fun h _ ih=>Bool.rec (motive:=fun _=>Bool) false ih h.flatV) l
theorem Jf{x:D}{l:List D}(h:Jp (x::l)=true):x.flatV=true∧Jp l=true:=by
 have e:Jp (x::l)=Bool.rec (motive:=fun _=>Bool) false (Jp l) x.flatV:=rfl
 cases hx:x.flatV with
 | true=>rw[e,hx]at h;exact⟨rfl,h⟩
 | false=>rw[e,hx]at h;simp at h
theorem Ka(m:Nat)(H:List Vi):∀{l:List D},Jp l=true→Av m H l=some l
 | [],_=>rfl
 | x::l,h=>by simp[Av,Pk (Jf h).1,Ka m H (Jf h).2]
theorem Pj:∀{l:List D},Jp l=true→l.all D.Vr=true
 | [],_=>rfl
 | x::l,h=>by
  rw[List.all_cons,Us (Jf h).1,Pj (Jf h).2];rfl
noncomputable def D.flatR:D→Bool
 | .tup ds=>Jp ds
 | d=>d.flatV
theorem Pn{d:D}(h:d.flatR=true)(m:Nat)(H:List Vi):Vt m H d=some d:=by
 cases d with
 | tup ds=>simp[Vt,Ka m H h]
 | agg cs=>exact Pk (d:=.agg cs) h m H
 | _=>simp_all [D.flatR,D.flatV,D.flat,Vt,Vq,snap]
theorem Ut{d:D}(h:d.flatR=true):d.Vs=true:=by
 cases d with
 | tup ds=>exact Pj h
 | agg cs=>exact Us (d:=.agg cs) h
 | _=>simp_all [D.flatR,D.flatV,D.flat,D.Vs,D.Vr,D.free,D.Vw]
inductive ET where
 | nil
 | node (v:D) (l r:ET)
def ET.at:ET→List Bool→D
 | .nil,_=>.undef
 | .node v _ _,[]=>v
 | .node _ l _,true::p=>l.at p
 | .node _ _ r,false::p=>r.at p
def ET.put:ET→List Bool→D→ET
 | .nil,[],x=>.node x .nil .nil
 | .nil,true::p,x=>.node .undef (ET.nil.put p x) .nil
 | .nil,false::p,x=>.node .undef .nil (ET.nil.put p x)
 | .node _ l r,[],x=>.node x l r
 | .node v l r,true::p,x=>.node v (l.put p x) r
 | .node v l r,false::p,x=>.node v l (r.put p x)
theorem ET.at_put:∀(t:ET) (p q:List Bool) (x:D),(t.put p x).at q=if p=q then x else t.at q
 | .nil,[],[],x=>rfl
 | .nil,[],true::q,x=>by simp[ET.put,ET.at]
 | .nil,[],false::q,x=>by simp[ET.put,ET.at]
 | .nil,true::p,[],x=>by simp[ET.put,ET.at]
 | .nil,true::p,true::q,x=>by simp[ET.put,ET.at,ET.at_put .nil p q x]
 | .nil,true::p,false::q,x=>by simp[ET.put,ET.at]
 | .nil,false::p,[],x=>by simp[ET.put,ET.at]
 | .nil,false::p,true::q,x=>by simp[ET.put,ET.at]
 | .nil,false::p,false::q,x=>by simp[ET.put,ET.at,ET.at_put .nil p q x]
 | .node _ l r,[],[],x=>rfl
 | .node _ l r,[],true::q,x=>by simp[ET.put,ET.at]
 | .node _ l r,[],false::q,x=>by simp[ET.put,ET.at]
 | .node v l r,true::p,[],x=>by simp[ET.put,ET.at]
 | .node v l r,true::p,true::q,x=>by simp[ET.put,ET.at,ET.at_put l p q x]
 | .node v l r,true::p,false::q,x=>by simp[ET.put,ET.at]
 | .node v l r,false::p,[],x=>by simp[ET.put,ET.at]
 | .node v l r,false::p,true::q,x=>by simp[ET.put,ET.at]
 | .node v l r,false::p,false::q,x=>by simp[ET.put,ET.at,ET.at_put r p q x]
def pathOf:Nat→Nat→List Bool
 | 0,_=>[]
 | _+1,0=>[]
 | f+1,j+1=>if j % 2=0 then true::pathOf f (j / 2) else false::pathOf f (j / 2)
def Sb:List Bool→Nat
 | []=>0
 | true::p=>2*Sb p+1
 | false::p=>2*Sb p+2
theorem Jy : ∀ (f j : Nat), j < 2 ^ f → Sb (pathOf f j) = j
  | 0, j, h => by have : j = 0 := by simpa using h
                  subst this;rfl
  | f+1,0,_=>rfl
  | f + 1, j + 1, h => by
    have h2:j / 2<2 ^ f:=by rw[Nat.pow_succ]at h;omega
    unfold pathOf;split
    · simp only[Sb,Jy f _ h2];omega
    simp only[Sb,Jy f _ h2];omega
def path (j:Nat):List Bool:=pathOf 12 j
theorem path_inj{i j:Nat}(hi:i<4096)(hj:j<4096)(h:path i=path j):i=j:=by
 rw[←Jy 12 i hi,←Jy 12 j hj];exact congrArg Sb h
structure ETR (n:Nat) (t:ET) (env:List D):Prop where
 len:env.length=n
 le:n≤4096
 eq:∀j,j<n→t.at (path j)=env.getD j .undef
theorem ETR.set{n:Nat}{t:ET}{env:List D}(h:ETR n t env){j:Nat}(hj:j<n)(x:D):ETR n (t.put (path j) x) (env.set j x):=by
  refine⟨by rw[List.length_set,h.len],h.le,fun i hi=>?_⟩;rw[ET.at_put];have hl:=h.le;by_cases e:i=j
  · subst e;rw[if_pos rfl,List.getD_eq_getElem?_getD,List.getElem?_set_self (by rw[h.len];exact hi)];rfl
  rw[if_neg (fun hp=>e (path_inj (by omega) (by omega) hp).symm),h.eq i hi,List.getD_eq_getElem?_getD,List.getD_eq_getElem?_getD,Ln_ (fun hp=>e hp.symm)]
structure TC where
 f:ET→(D→Ans)→Ans
noncomputable def getC (p:List Bool):TC :=
 List.rec (motive:=fun _=>TC) ⟨fun t k=>ET.rec (motive:=fun _=>Ans) none (fun v _ _ _ _=>k v) t⟩
  (fun b _ ih=>Bool.rec (motive:=fun _=>TC) ⟨fun t k=>ET.rec (motive:=fun _=>Ans) none (fun _ _ r _ _=>ih.f r k) t⟩ ⟨fun t k=>ET.rec (motive:=fun _=>Ans) none (fun _ l _ _ _=>ih.f l k) t⟩ b) p
theorem Mr:∀(p:List Bool) {t:ET} {k:D→Ans} {a:D × St × Bool},(getC p).f t k=some a→k (t.at p)=some a
 | [],.nil,k,a,h=>by simp[getC]at h
 | [],.node v l r,k,a,h=>h
 | b::p,.nil,k,a,h=>by cases b<;>simp[getC]at h
 | true::p,.node v l r,k,a,h=>Mr p (t:=l) h
 | false::p,.node v l r,k,a,h=>Mr p (t:=r) h
structure SC where
 f:D→ET→(ET→Ans)→Ans
noncomputable def setC (p:List Bool):SC :=
 List.rec (motive:=fun _=>SC) ⟨fun x t k=>ET.rec (motive:=fun _=>Ans) none (fun _ l r _ _=>k (.node x l r)) t⟩
  (fun b _ ih=>Bool.rec (motive:=fun _=>SC) ⟨fun x t k=>ET.rec (motive:=fun _=>Ans) none (fun v l r _ _=>ih.f x r fun r'=>k (.node v l r')) t⟩ ⟨fun x t k=>ET.rec (motive:=fun _=>Ans) none (fun v l r _ _=>ih.f x l fun l'=>k (.node v l' r)) t⟩ b) p
theorem P7:∀(p:List Bool) {x:D} {t:ET} {k:ET→Ans} {a:D × St × Bool},(setC p).f x t k=some a→k (t.put p x)=some a
 | [],x,.nil,k,a,h=>by simp[setC]at h
 | [],x,.node v l r,k,a,h=>h
 | b::p,x,.nil,k,a,h=>by cases b<;>simp[setC]at h
 | true::p,x,.node v l r,k,a,h=>P7 p (t:=l) (k:=fun l'=>k (.node v l' r)) h
 | false::p,x,.node v l r,k,a,h=>P7 p (t:=r) (k:=fun r'=>k (.node v l r')) h
structure VC where
 f:List D→(D→Ans)→Ans
noncomputable def vC (n:Nat):VC :=
 Nat.rec (motive:=fun _=>VC) ⟨fun l k=>List.rec (motive:=fun _=>Ans) none (fun h _ _=>k h) l⟩ (fun _ ih=>⟨fun l k=>List.rec (motive:=fun _=>Ans) none (fun _ t _=>ih.f t k) l⟩) n
theorem vC_some:∀(n:Nat) {l:List D} {k:D→Ans} {a:D × St × Bool},(vC n).f l k=some a→k (l.getD n .undef)=some a
 | 0,[],k,a,h=>by simp[vC]at h
 | 0,x::l,k,a,h=>h
 | n+1,[],k,a,h=>by simp[vC]at h
 | n+1,x::l,k,a,h=>vC_some n (l:=l) h
structure OdC where
 f:List D→ET→(D→Ans)→Ans
noncomputable def odC (n:Nat):Vl→OdC
 | .env j=>Bool.rec (motive:=fun _=>OdC) ⟨fun _ _ _=>none⟩ ⟨fun _ t k=>(getC (path j)).f t k⟩ (Nat.blt j n)
 | .loc d=>⟨fun vals _ k=>(vC d).f vals k⟩
 | .const d=>⟨fun _ _ k=>k d⟩
theorem O6{n:Nat}{o:Vl}{vals env:List D}{t:ET}{k:D→Ans}{a:D × St × Bool}(hR:ETR n t env)(h:(odC n o).f vals t k=some a):k (opd vals env o)=some a:=by
 cases o with
 | env j =>
  cases e:Nat.blt j n with
  | false=>simp only[odC,e]at h;exact absurd h (by simp)
  | true =>
   simp only[odC,e]at h;have:=Mr (path j) h;rw[hR.eq j (by simpa [Nat.blt_eq] using e)]at this;exact this
 | loc d=>exact vC_some d h
 | const d=>exact h
structure AC where
 f:List D→ET→(List D→Ans)→Ans
noncomputable def asC (n:Nat) (l:List Vl):AC :=
 List.rec (motive:=fun _=>AC) ⟨fun _ _ k=>k []⟩ (fun o _ ih=>⟨fun vals t k=>(odC n o).f vals t fun x=>ih.f vals t fun xs=>k (x::xs)⟩) l
theorem Pw{n:Nat}{vals env:List D}{t:ET}(hR:ETR n t env):∀(l:List Vl) {k:List D→Ans} {a:D × St × Bool},(asC n l).f vals t k=some a→k (l.map (opd vals env))=some a
 | [],k,a,h=>h
 | o::l,k,a,h=>by
  have h1:=O6 (k:=fun x=>(asC n l).f vals t fun xs=>k (x::xs)) hR h;exact Pw hR l (k:=fun xs=>k (opd vals env o::xs)) h1
theorem Po(b:ByteArray):b.size=b.data.toList.length:=rfl
theorem f_go(b:ByteArray):∀(k i:Nat) (r:List UInt8),b.size-i=k→ByteArray.toList.loop b i r=r.reverse++b.data.toList.drop i
 | 0,i,r,h=>by
  rw[ByteArray.toList.loop,if_neg (by omega),List.drop_eq_nil_of_le (by rw[Po]at h;omega)];simp
 | k+1,i,r,h=>by
  rw[ByteArray.toList.loop,if_pos (by omega),f_go b k (i+1) _ (by omega)];have hi:i<b.data.toList.length:=by rw[Po]at h;omega
  rw[List.drop_eq_getElem_cons hi];have zN:i<b.data.size:=hi;simp[ByteArray.get!,getElem!_pos b.data i zN]
theorem f_toList(b:ByteArray):b.toList=b.data.toList:=by
 have:=f_go b _ 0 [] rfl;simpa [ByteArray.toList] using this
theorem f_get(b:ByteArray)(i:Nat):b[i]?=b.data.toList[i]?:=by
 by_cases h:i<b.size
 ·
  rw[getElem?_pos b i h,getElem?_pos b.data.toList i h];simp[ByteArray.getElem_eq_getElem_data]
 rw[getElem?_neg b i h,getElem?_neg b.data.toList i h]
theorem f_ext{a:ByteArray}{l:List UInt8}(h:a.data.toList=l):a=⟨⟨l⟩⟩:=by
 apply ByteArray.ext;apply Array.ext';exact h
structure BC where
 f:D→D→(D→Ans)→Ans
def BOK (op:BinOp) (b:BC):Prop:=∀x y k a,b.f x y k=some a→∃r,Bz op x y=some r∧k r=some a
noncomputable def Jr (op:BinOp) (x y:D) (k:D→Ans):Ans:=match Bz op x y with | some r=>frcD r k | none=>none
theorem E9{op:BinOp}{x y:D}{k:D→Ans}{a:D × St × Bool}(h:Jr op x y k=some a):∃r,Bz op x y=some r∧k r=some a:=by
 unfold Jr at h;split at h
 ·
  next r hr=>exact⟨r,hr,frcD_some h⟩
 simp at h
def kn:IntKind→Nat
 | .i8=>0 | .i16=>1 | .i32=>2 | .i64=>3 | .u8=>4 | .u16=>5 | .u32=>6 | .u64=>7
def kb:IntKind→Nat
 | .i8=>128 | .i16=>32768 | .i32=>2147483648 | .i64=>9223372036854775808 | .u8=>256 | .u16=>65536 | .u32=>4294967296 | .u64=>18446744073709551616
theorem kn_inj{k k':IntKind}(h:Nat.beq (kn k) (kn k')=true):k=k':=by
 have h:=Nat.eq_of_beq_eq_true h
 cases k<;>cases k'<;>first | rfl | (exact absurd h (by decide))
theorem M4{k:IntKind}{n:Nat}(h:n<kb k):k.wrap (n:Int)=(n:Int):=by
 cases k<;>simp only[kb]at h<;>simp[IntKind.wrap,IntKind.bits,IntKind.signed]<;>(try split)<;>omega
noncomputable def twoK (x y:D) (f:IntKind→Nat→Nat→Ans) (e:Ans):Ans :=
 ivK x (fun k m=>ivK y (fun k' n=>ifA (Nat.beq (kn k) (kn k')) (f k m n) e) e) e
theorem Lv{x y:D}{f:IntKind→Nat→Nat→Ans}{e:Ans}{a:D × St × Bool}(h:twoK x y f e=some a):(∃k m n,x=.int k (m:Nat)∧y=.int k (n:Nat)∧f k m n=some a)∨e=some a:=by
  unfold twoK at h;rcases Ha h with⟨k,m,hx,h1⟩ | h1
  · rcases Ha h1 with ⟨k', n, hy, h2⟩ | h2
    · rw [Dy] at h2;split at h2
      · next hk=>exact .inl ⟨k,m,n,hx,by rw[hy,kn_inj hk],h2⟩
      exact .inr h2
    exact .inr h2
  exact .inr h1
noncomputable def Tj (op:BinOp) (g:Nat→Nat→Nat) (ok:Nat→Nat→Bool):BC:=⟨fun x y k=>twoK x y (fun kk m n=>ifA (ok m n) (frc (g m n) fun s=>ifA (Nat.blt s (kb kk)) (k (.int kk (.ofNat s))) (Jr op x y k)) (Jr op x y k)) (Jr op x y k)⟩
theorem Qn{op:BinOp}{g:Nat→Nat→Nat}{ok:Nat→Nat→Bool}(h:∀kk m n,ok m n=true→g m n<kb kk→Bz op (.int kk (m:Nat)) (.int kk (n:Nat))=some (.int kk (g m n:Nat))):BOK op (Tj op g ok):=by
  intro x y k a z0;unfold Tj at z0;dsimp only at z0;rcases Lv z0 with⟨kk,m,n,hx,hy,e⟩ | e
  · clear z0; subst hx hy;rw[Dy]at e;split at e
    · next ho =>
      rw[K6,Dy]at e;split at e
      · next hb=>exact⟨_,h kk m n ho (by simpa [Nat.blt_eq] using hb),e⟩
      exact E9 e
    exact E9 e
  exact E9 e
noncomputable def cmpC (op:BinOp) (g:Nat→Nat→Bool):BC:=⟨fun x y k=>twoK x y (fun kk m n=>boolK (g m n) k) (Jr op x y k)⟩
theorem Vh{op:BinOp}{g:Nat→Nat→Bool}(h:∀kk m n,Bz op (.int kk (m:Nat)) (.int kk (n:Nat))=some (.bool (g m n))):BOK op (cmpC op g):=by
 intro x y k a z0;unfold cmpC at z0;dsimp only at z0;rcases Lv z0 with⟨kk,m,n,hx,hy,e⟩ | e
 ·
  clear z0;subst hx hy;rw[boolK_eq]at e;exact⟨_,h kk m n,e⟩
 exact E9 e
noncomputable def eqU (l:List UInt8):List UInt8→Bool :=
 List.rec (motive:=fun _=>List UInt8→Bool) (fun m=>List.rec (motive:=fun _=>Bool) true (fun _ _ _=>false) m)
  (fun a _ ih m=>List.rec (motive:=fun _=>Bool) false (fun b t _=>Bool.rec (motive:=fun _=>Bool) false (ih t) (Nat.beq a.toNat b.toNat)) m) l
theorem eqU_eq:∀l m:List UInt8,eqU l m=(l==m)
 | [],[]=>rfl
 | [],b::m=>rfl
 | a::l,[]=>rfl
 | a :: l, b :: m => by
  have e:eqU (a::l) (b::m)=Bool.rec (motive:=fun _=>Bool) false (eqU l m) (Nat.beq a.toNat b.toNat):=rfl;rw[e,eqU_eq l m];by_cases h:a=b
  ·
   subst h;rw[show Nat.beq a.toNat a.toNat=true from Nat.beq_refl _];simp
  have hn:Nat.beq a.toNat b.toNat=false:=by
   cases hb:Nat.beq a.toNat b.toNat with
   | false=>rfl
   | true=>exact absurd (UInt8.toNat_inj.1 (Nat.eq_of_beq_eq_true hb)) h
  rw[hn];simp[h]
structure SV where
 ok:Bool
 l:List UInt8
def D.sv:D→SV
 | .str s=>⟨true,s.data.toList⟩
 | _=>⟨false,[]⟩
noncomputable def svK (d:D) (f:List UInt8→Ans) (e:Ans):Ans:=SV.rec (motive:=fun _=>Ans) (fun ok l=>ifA ok (f l) e) d.sv
theorem Jj{d:D}{f:List UInt8→Ans}{e:Ans}{a:D × St × Bool}(h:svK d f e=some a):(∃s:ByteArray,d=.str s∧f s.data.toList=some a)∨e=some a:=by
 cases d with
 | str s=>exact .inl ⟨s,rfl,h⟩
 | _=>exact .inr h
noncomputable def eqC (op:BinOp) (neg:Bool):BC:=⟨fun x y k=>twoK x y (fun kk m n=>boolK (Bool.rec (motive:=fun _=>Bool) (Nat.beq m n) (Bool.not (Nat.beq m n)) neg) k) (svK x (fun l=>svK y (fun m=>boolK (Bool.rec (motive:=fun _=>Bool) (eqU l m) (Bool.not (eqU l m)) neg) k) (Jr op x y k)) (Jr op x y k))⟩
theorem eqC_ok(neg:Bool):BOK (if neg then .neq else .eql) (eqC (if neg then .neq else .eql) neg):=by
 intro x y k a z0;unfold eqC at z0;dsimp only at z0;rcases Lv z0 with⟨kk,m,n,hx,hy,e⟩ | e
 ·
  clear z0;subst hx hy;rw[boolK_eq]at e;refine⟨_,?_,e⟩;have hb:Nat.beq m n=decide (m=n):=by rw[Bool.eq_iff_iff];simp
  have hi:((m:Int)==(n:Int))=decide (m=n):=by rw[Bool.eq_iff_iff];simp;omega
  cases neg<;>simp[Bz,hb,bne,hi]
 rcases Jj e with⟨s,hs,e1⟩ | e1
 ·
  rcases Jj e1 with⟨t,ht,e2⟩ | e2
  ·
   clear z0 e e1;subst hs ht;rw[boolK_eq]at e2;refine⟨_,?_,e2⟩;cases neg<;>simp[Bz,f_toList,eqU_eq]
  exact E9 e2
 exact E9 e1
noncomputable def addC:BC:=⟨fun x y k=>twoK x y (fun kk m n=>frc (Nat.add m n) fun s=>ifA (Nat.blt s (kb kk)) (k (.int kk (.ofNat s))) (Jr .add x y k)) (svK x (fun l=>svK y (fun m=>ifA (Nat.ble (Nat.add (Mi l) (Mi m)) 1000000) (k (.str ⟨⟨appR l m⟩⟩)) none) (Jr .add x y k)) (Jr .add x y k))⟩
theorem addC_ok : BOK .add addC := by
  intro x y k a z0;unfold addC at z0;dsimp only at z0;rcases Lv z0 with⟨kk,m,n,hx,hy,e⟩ | e
  · clear z0; subst hx hy;rw[K6,Dy]at e;split at e
    · next hb =>
      have hb:m+n<kb kk:=by simpa [Nat.blt_eq] using hb
      refine⟨_,?_,e⟩;simp only[Bz,if_true];rw[show ((m:Int)+(n:Int))=((m+n:Nat):Int) by omega,M4 hb];rfl
    exact E9 e
  rcases Jj e with⟨s,hs,e1⟩ | e1
  · rcases Jj e1 with ⟨t, ht, e2⟩ | e2
    · clear z0 e e1; subst hs ht;rw[Dy]at e2;split at e2
      · next hb =>
        refine⟨_,?_,e2⟩;have hb:s.data.toList.length+t.data.toList.length≤1000000:=by rw[Gx,Gx]at hb;exact Nat.le_of_ble_eq_true hb
        have hm:¬(((s.size+t.size:Nat):Int)>IntKind.i64.max):=by
          have:IntKind.i64.max=9223372036854775807:=by decide
          rw[this,Po,Po];omega
        simp only[Bz,if_neg hm,Oi,D.str.injEq];rw[appR_eq];apply f_ext;simp[ByteArray.data_append]
      simp at e2
    exact E9 e2
  exact E9 e1
noncomputable def bitC (op:BinOp) (g:Nat→Nat→Nat):BC:=⟨fun x y k=>twoK x y (fun kk m n=>ifA (Nat.blt m (kb kk)) (ifA (Nat.blt n (kb kk)) (frc (g m n) fun s=>k (.int kk (.ofNat s))) (Jr op x y k)) (Jr op x y k)) (Jr op x y k)⟩
theorem bitC_ok{op:BinOp}{g:Nat→Nat→Nat}(h:∀kk m n,m<kb kk→n<kb kk→Bz op (.int kk (m:Nat)) (.int kk (n:Nat))=some (.int kk (g m n:Nat))):BOK op (bitC op g):=by
  intro x y k a z0;unfold bitC at z0;dsimp only at z0;rcases Lv z0 with⟨kk,m,n,hx,hy,e⟩ | e
  · clear z0; subst hx hy;rw[Dy]at e;split at e
    · next h1 =>
      rw[Dy]at e;split at e
      · next h2=>exact⟨_,h kk m n (by simpa [Nat.blt_eq] using h1) (by simpa [Nat.blt_eq] using h2),e⟩
      exact E9 e
    exact E9 e
  exact E9 e
def kp:IntKind→Nat
 | .i8=>7 | .i16=>15 | .i32=>31 | .i64=>63 | .u8=>8 | .u16=>16 | .u32=>32 | .u64=>64
theorem kb_pow(k:IntKind):kb k=2 ^ kp k:=by cases k<;>rfl
theorem kp_le(k:IntKind):kp k≤k.bits:=by cases k<;>decide
theorem Qa{k:IntKind}{m:Nat}(h:m<kb k):(BitVec.ofInt k.bits (m:Int)).toNat=m:=by
 have h2:m<2 ^ k.bits:=by rw[kb_pow]at h;exact Nat.lt_of_lt_of_le h (Nat.pow_le_pow_right (by decide) (kp_le k))
 simp[BitVec.toNat_ofInt];exact Nat.mod_eq_of_lt h2
theorem and_ok(kk:IntKind)(m n:Nat)(h1:m<kb kk)(h2:n<kb kk):Bz .and (.int kk (m:Nat)) (.int kk (n:Nat))=some (.int kk (Nat.land m n:Nat)):=by
 simp only[Bz,if_true,BitVec.toNat_and,Qa h1,Qa h2];have:m &&& n<kb kk:=Nat.lt_of_le_of_lt Nat.and_le_left h1;rw[M4 this];rfl
theorem or_ok(kk:IntKind)(m n:Nat)(h1:m<kb kk)(h2:n<kb kk):Bz .or (.int kk (m:Nat)) (.int kk (n:Nat))=some (.int kk (Nat.lor m n:Nat)):=by
 simp only[Bz,if_true,BitVec.toNat_or,Qa h1,Qa h2];have:m ||| n<kb kk:=by rw[kb_pow]at h1 h2 ⊢;exact Nat.or_lt_two_pow h1 h2
 rw[M4 this];rfl
noncomputable def shrC:BC:=⟨fun x y k=>ivK x (fun kk m=>ivK y (fun _ n=>ifA (Nat.ble n 8) (frc (Nat.shiftRight m n) fun s=>k (.int kk (.ofNat s))) (Jr .shr x y k)) (Jr .shr x y k)) (Jr .shr x y k)⟩
theorem shrC_ok:BOK .shr shrC:=by
 intro x y k a z0;unfold shrC at z0;dsimp only at z0;rcases Ha z0 with⟨kk,m,hx,e1⟩ | e1
 ·
  rcases Ha e1 with⟨kk',n,hy,e2⟩ | e2
  ·
   clear z0 e1;subst hx hy;rw[Dy]at e2;split at e2
   ·
    next h =>
    have h:n≤8:=Nat.le_of_ble_eq_true h;refine⟨_,?_,e2⟩;have hb:min n kk.bits=n:=by cases kk<;>simp[IntKind.bits]<;>omega
    have hn:¬((n:Int)<0):=by omega
    simp only[Bz,if_neg hn,Int.toNat_natCast,hb,Oi,D.int.injEq,true_and];show (m:Int).fdiv (2 ^ n)=((m >>> n:Nat):Int);rw[Int.fdiv_eq_ediv_of_nonneg _ (by exact Int.pow_nonneg (by decide)),Nat.shiftRight_eq_div_pow];simp
   exact E9 e2
  exact E9 e2
 exact E9 e1
noncomputable def binC:BinOp→BC
 | .add=>addC
 | .sub=>Tj .sub Nat.sub (fun m n=>Nat.ble n m)
 | .mul=>Tj .mul Nat.mul (fun _ _=>true)
 | .quo=>Tj .quo Nat.div (fun _ n=>Nat.blt 0 n)
 | .rem=>Tj .rem Nat.mod (fun _ n=>Nat.blt 0 n)
 | .lss=>cmpC .lss Nat.blt
 | .leq=>cmpC .leq Nat.ble
 | .gtr=>cmpC .gtr (fun m n=>Nat.blt n m)
 | .geq=>cmpC .geq (fun m n=>Nat.ble n m)
 | .eql=>eqC .eql false
 | .neq=>eqC .neq true
 | .and=>bitC .and Nat.land
 | .or=>bitC .or Nat.lor
 | .shr=>shrC
 | op=>⟨Jr op⟩
theorem blt_dec(m n:Nat):Nat.blt m n=decide ((m:Int)<(n:Int)):=by rw[Bool.eq_iff_iff];simp[Nat.blt_eq]
theorem ble_dec(m n:Nat):Nat.ble m n=decide ((m:Int)≤(n:Int)):=by rw[Bool.eq_iff_iff];simp
theorem binC_ok:∀op,BOK op (binC op)
 | .add=>addC_ok
 | .sub=>Qn fun kk m n h1 h2=>by
  have h1:n≤m:=by simpa using h1
  simp only[Bz,if_true];rw[show ((m:Int)-(n:Int))=((Nat.sub m n:Nat):Int) by show _=((m-n:Nat):Int);omega,M4 h2]
 | .mul=>Qn fun kk m n h1 h2=>by
  simp only[Bz,if_true];rw[show ((m:Int)*(n:Int))=((Nat.mul m n:Nat):Int) from (Int.natCast_mul m n).symm,M4 h2]
 | .quo=>Qn fun kk m n h1 h2=>by
  have h1:0<n:=by simpa [Nat.blt_eq] using h1
  simp only[Bz,if_true];rw[if_pos ⟨trivial,by omega⟩,show ((m:Int).tdiv (n:Int))=((Nat.div m n:Nat):Int) from (Int.ofNat_tdiv m n).symm,M4 h2]
 | .rem=>Qn fun kk m n h1 h2=>by
  have h1:0<n:=by simpa [Nat.blt_eq] using h1
  simp only[Bz,if_true];rw[if_pos ⟨trivial,by omega⟩,show ((m:Int).tmod (n:Int))=((Nat.mod m n:Nat):Int) from (Int.ofNat_tmod m n).symm]
 | .lss=>Vh fun kk m n=>by simp[Bz,blt_dec]
 | .leq=>Vh fun kk m n=>by simp[Bz,ble_dec]
 | .gtr=>Vh fun kk m n=>by simp[Bz,blt_dec]
 | .geq=>Vh fun kk m n=>by simp[Bz,ble_dec]
 | .eql=>eqC_ok false
 | .neq=>eqC_ok true
 | .and=>bitC_ok and_ok
 | .or=>bitC_ok or_ok
 | .xor=>fun _ _ _ _ h=>E9 h
 | .andNot=>fun _ _ _ _ h=>E9 h
 | .shl=>fun _ _ _ _ h=>E9 h
 | .shr=>shrC_ok
section
variable {α:Type}
noncomputable def nthK (l:List α):Nat→(α→Ans)→Ans :=
 List.rec (motive:=fun _=>Nat→(α→Ans)→Ans) (fun _ _=>none) (fun h _ ih n k=>Nat.rec (motive:=fun _=>Ans) (k h) (fun m _=>ih m k) n) l
theorem Iq:∀{l:List α} {n:Nat} {k:α→Ans} {a:D × St × Bool},nthK l n k=some a→∃x,l[n]?=some x∧k x=some a
 | [],n,k,a,h=>by simp[nthK]at h
 | x::l,0,k,a,h=>⟨x,rfl,h⟩
 | x::l,n+1,k,a,h=>by
  obtain⟨y,h1,h2⟩:=Iq (l:=l) (n:=n) h;exact⟨y,by simpa using h1,h2⟩
noncomputable def takeK (l:List α):Nat→(List α→Ans)→Ans :=
 List.rec (motive:=fun _=>Nat→(List α→Ans)→Ans) (fun n k=>Nat.rec (motive:=fun _=>Ans) (k []) (fun _ _=>none) n)
  (fun h _ ih n k=>Nat.rec (motive:=fun _=>Ans) (k []) (fun m _=>ih m fun r=>k (h::r)) n) l
theorem M6:∀{l:List α} {n:Nat} {k:List α→Ans} {a:D × St × Bool},takeK l n k=some a→n≤l.length∧k (l.take n)=some a
 | [],0,k,a,h=>⟨Nat.le_refl _,h⟩
 | [],n+1,k,a,h=>by simp[takeK]at h
 | x::l,0,k,a,h=>⟨Nat.zero_le _,h⟩
 | x::l,n+1,k,a,h=>by
  obtain⟨h1,h2⟩:=M6 (l:=l) (n:=n) (k:=fun r=>k (x::r)) h;exact⟨by simpa using h1,by simpa using h2⟩
noncomputable def dropK (l:List α):Nat→(List α→Ans)→Ans :=
 List.rec (motive:=fun _=>Nat→(List α→Ans)→Ans) (fun n k=>Nat.rec (motive:=fun _=>Ans) (k []) (fun _ _=>none) n)
  (fun h t ih n k=>Nat.rec (motive:=fun _=>Ans) (k (h::t)) (fun m _=>ih m k) n) l
theorem Nu:∀{l:List α} {n:Nat} {k:List α→Ans} {a:D × St × Bool},dropK l n k=some a→n≤l.length∧k (l.drop n)=some a
 | [],0,k,a,h=>⟨Nat.le_refl _,h⟩
 | [],n+1,k,a,h=>by simp[dropK]at h
 | x::l,0,k,a,h=>⟨Nat.zero_le _,h⟩
 | x::l,n+1,k,a,h=>by
  obtain⟨h1,h2⟩:=Nu (l:=l) (n:=n) h;exact⟨by simpa using h1,h2⟩
noncomputable def setK (x:α) (l:List α):Nat→(List α→Ans)→Ans :=
 List.rec (motive:=fun _=>Nat→(List α→Ans)→Ans) (fun _ _=>none) (fun h t ih n k=>Nat.rec (motive:=fun _=>Ans) (k (x::t)) (fun m _=>ih m fun r=>k (h::r)) n) l
theorem L6{x:α}:∀{l:List α} {n:Nat} {k:List α→Ans} {a:D × St × Bool},setK x l n k=some a→k (l.set n x)=some a
 | [],n,k,a,h=>by simp[setK]at h
 | y::l,0,k,a,h=>h
 | y::l,n+1,k,a,h=>L6 (l:=l) (n:=n) (k:=fun r=>k (y::r)) h
noncomputable def snocK (x:α) (l:List α):(List α→Ans)→Ans :=
 List.rec (motive:=fun _=>(List α→Ans)→Ans) (fun k=>k [x]) (fun h _ ih k=>ih fun r=>k (h::r)) l
theorem snocK_some{x:α}:∀{l:List α} {k:List α→Ans} {a:D × St × Bool},snocK x l k=some a→k (l++[x])=some a
 | [],k,a,h=>h
 | y::l,k,a,h=>snocK_some (l:=l) (k:=fun r=>k (y::r)) h
noncomputable def overK (row:List α):Nat→List α→(List α→Ans)→Ans :=
 List.rec (motive:=fun _=>Nat→List α→(List α→Ans)→Ans) (fun n cs k=>Nat.rec (motive:=fun _=>Ans) (List.rec (motive:=fun _=>Ans) (k []) (fun _ _ _=>none) cs) (fun _ _=>none) n)
  (fun h t ih n cs k=>Nat.rec (motive:=fun _=>Ans) (List.rec (motive:=fun _=>Ans) (k (h::t)) (fun c cs' _=>ih 0 cs' fun r=>k (c::r)) cs) (fun m _=>ih m cs fun r=>k (h::r)) n) row
theorem Ng:∀{row:List D} {n:Nat} {cs:List D} {k:List D→Ans} {a:D × St × Bool},overK row n cs k=some a→n+cs.length≤row.length∧k (overlay row n cs)=some a
 | [],0,[],k,a,h=>⟨Nat.le_refl _,h⟩
 | [],0,c::cs,k,a,h=>by simp[overK]at h
 | [],n+1,cs,k,a,h=>by simp[overK]at h
 | x::l,0,[],k,a,h=>⟨Nat.zero_le _,(by simp[overlay]:overlay (x::l) 0 []=x::l)▸h⟩
 | x::l,0,c::cs,k,a,h=>by
  obtain⟨h1,h2⟩:=Ng (row:=l) (n:=0) (cs:=cs) (k:=fun r=>k (c::r)) h;exact⟨by simp at h1 ⊢;omega,by simpa [overlay] using h2⟩
 | x::l,n+1,cs,k,a,h=>by
  obtain⟨h1,h2⟩:=Ng (row:=l) (n:=n) (cs:=cs) (k:=fun r=>k (x::r)) h;refine⟨by simp at h1 ⊢;omega,?_⟩;have e:n+1+cs.length=(n+cs.length)+1:=by omega
  simpa [overlay,e] using h2
end
structure LC where
 f:Kj→List D→St→K1→Ans
def LOK (op:LOp) (L:LC):Prop:=∀c cs,CKs c cs→∀xs S k a,L.f c xs S k=some a→∃r S' w,Ce cs op xs S=some (r,S',w)∧k r S' w=some a
noncomputable def Qo (xs:List D) (f:D→Ans):Ans:=List.rec (motive:=fun _=>Ans) none (fun x t _=>List.rec (motive:=fun _=>Ans) (f x) (fun _ _ _=>none) t) xs
theorem Gg{xs:List D}{f:D→Ans}{a:D × St × Bool}(h:Qo xs f=some a):∃x,xs=[x]∧f x=some a:=by
 match xs,h with
 | [],h=>simp[Qo]at h
 | [x],h=>exact⟨x,rfl,h⟩
 | x::y::l,h=>simp[Qo]at h
noncomputable def un2K (xs:List D) (f:D→D→Ans):Ans:=List.rec (motive:=fun _=>Ans) none (fun x t _=>Qo t (f x)) xs
theorem Ip{xs:List D}{f:D→D→Ans}{a:D × St × Bool}(h:un2K xs f=some a):∃x y,xs=[x,y]∧f x y=some a:=by
 match xs,h with
 | [],h=>simp[un2K]at h
 | x::t,h =>
  obtain⟨y,rfl,h⟩:=Gg (f:=f x) h;exact⟨x,y,rfl,h⟩
noncomputable def un3K (xs:List D) (f:D→D→D→Ans):Ans:=List.rec (motive:=fun _=>Ans) none (fun x t _=>un2K t (f x)) xs
theorem un3K_some{xs:List D}{f:D→D→D→Ans}{a:D × St × Bool}(h:un3K xs f=some a):∃x y z,xs=[x,y,z]∧f x y z=some a:=by
 match xs,h with
 | [],h=>simp[un3K]at h
 | x::t,h =>
  obtain⟨y,z,rfl,h⟩:=Ip (f:=f x) h;exact⟨x,y,z,rfl,h⟩
noncomputable def Ou (op:LOp):LC:=⟨fun _ xs S k=>ansK (aop op xs S) fun r S' w=>frcD r fun r=>k r S' w⟩
def noCall:LOp→Bool
 | .call _ | .callv | .invoke _=>false
 | _=>true
theorem exOp_aop{call:Bp}{op:LOp}(h:noCall op=true)(xs:List D)(S:St):Ce call op xs S=aop op xs S:=by
 cases op<;>first | rfl | (simp[noCall]at h)
theorem Ig{op:LOp}(h:noCall op=true):LOK op (Ou op):=by
 intro c cs hc xs S k a e0;unfold Ou at e0;dsimp only at e0;obtain⟨r,S',w,h1,h2⟩:=M3 e0;exact⟨r,S',w,by rw[exOp_aop h,h1],frcD_some h2⟩
theorem Du{op:LOp}(hl:op.loud=false)(hn:noCall op=true){cs:Bp}{xs:List D}{S:St}{r:D}(h:pop op xs=some r):Ce cs op xs S=some (r,S,false):=by
 rw[exOp_aop hn];simp[aop,hl,h]
theorem Jm{op:LOp}(hl:op.loud=true)(hn:noCall op=true){cs:Bp}{xs:List D}{S:St}{r:D}{S':St}{w:Bool}(h:lop op xs S=some (r,S',w)):Ce cs op xs S=some (r,S',w):=by
 rw[exOp_aop hn];simp[aop,hl,h]
noncomputable def mvC:LC:=⟨fun _ xs S k=>Qo xs fun x=>k x S false⟩
theorem mvC_ok:LOK .mv mvC:=by
 intro c cs hc xs S k a e0;obtain⟨x,rfl,e1⟩:=Gg e0;exact⟨x,S,false,Du rfl rfl rfl,e1⟩
noncomputable def binL (op:BinOp):LC:=⟨fun _ xs S k=>un2K xs fun x y=>(binC op).f x y fun r=>k r S false⟩
theorem binL_ok(op:BinOp):LOK (.bin op) (binL op):=by
 intro c cs hc xs S k a e0;obtain⟨x,y,rfl,e1⟩:=Ip e0;obtain⟨r,h1,h2⟩:=binC_ok op x y _ a e1;exact⟨r,S,false,Du rfl rfl h1,h2⟩
noncomputable def pickC:LC:=⟨fun _ xs S k=>un3K xs fun c x y=>bvK c (k x S false) (k y S false)⟩
theorem pickC_ok:LOK .pick pickC:=by
 intro c cs hc xs S k a e0;obtain⟨b,x,y,rfl,e1⟩:=un3K_some e0;rcases M0 e1 with⟨rfl,e2⟩ | ⟨rfl,e2⟩
 ·
  exact⟨x,S,false,Du rfl rfl rfl,e2⟩
 exact⟨y,S,false,Du rfl rfl rfl,e2⟩
noncomputable def notC:LC:=⟨fun _ xs S k=>Qo xs fun x=>bvK x (k (.bool false) S false) (k (.bool true) S false)⟩
theorem notC_ok:LOK (.un .not) notC:=by
 intro c cs hc xs S k a e0;obtain⟨x,rfl,e1⟩:=Gg e0;rcases M0 e1 with⟨rfl,e2⟩ | ⟨rfl,e2⟩
 ·
  exact⟨_,S,false,Du rfl rfl rfl,e2⟩
 exact⟨_,S,false,Du rfl rfl rfl,e2⟩
noncomputable def convC (kk:IntKind):LC:=⟨fun c xs S k=>Qo xs fun x=>ivK x (fun _ n=>ifA (Nat.blt n (kb kk)) (k (.int kk (.ofNat n)) S false) ((Ou (.conv kk)).f c xs S k)) ((Ou (.conv kk)).f c xs S k)⟩
theorem convC_ok(kk:IntKind):LOK (.conv kk) (convC kk):=by
  intro c cs hc xs S k a e0;obtain⟨x,rfl,e1⟩:=Gg e0;rcases Ha e1 with⟨k0,n,rfl,e2⟩ | e2
  · rw [Dy] at e2;split at e2
    · next hb =>
      refine⟨_,S,false,Du rfl rfl ?_,e2⟩;simp only[pop,Oi,D.int.injEq,true_and];exact M4 (by simpa [Nat.blt_eq] using hb)
    exact Ig rfl c cs hc _ _ _ _ e2
  exact Ig rfl c cs hc _ _ _ _ e2
noncomputable def idxC:LC:=⟨fun _ xs S k=>un2K xs fun x y=>svK x (fun l=>ivK y (fun _ n=>nthK l n fun b=>frc b.toNat fun m=>k (.int .u8 (.ofNat m)) S false) none) none⟩
theorem idxC_ok:LOK .index idxC:=by
 intro c cs hc xs S k a e0;obtain⟨x,y,rfl,e1⟩:=Ip e0;rcases Jj e1 with⟨s,rfl,e2⟩ | e2
 ·
  rcases Ha e2 with⟨k0,n,rfl,e3⟩ | e3
  ·
   obtain⟨b,h1,h2⟩:=Iq e3;refine⟨_,S,false,Du rfl rfl ?_,h2⟩;simp[pop,indexD,f_get,h1]
  simp at e3
 simp at e2
inductive PtV where
 | V7 (row:List D) (o:Nat)
 | ptr (g v i o:Nat)
 | no
def D.pv:D→PtV
 | .V7 row o=>.V7 row o
 | .ptr g v i o=>.ptr g v i o
 | _=>.no
theorem D.pv_cptr{d:D}{row:List D}{o:Nat}(h:d.pv=.V7 row o):d=.V7 row o:=by cases d<;>simp_all [D.pv]
theorem D.pv_ptr{d:D}{g v i o:Nat}(h:d.pv=.ptr g v i o):d=.ptr g v i o:=by cases d<;>simp_all [D.pv]
noncomputable def pvK (d:D) (f:List D→Nat→Ans) (h:Nat→Nat→Nat→Nat→Ans) (e:Ans):Ans:=PtV.rec (motive:=fun _=>Ans) f h e d.pv
theorem O0{d:D}{f:List D→Nat→Ans}{h:Nat→Nat→Nat→Nat→Ans}{e:Ans}{a:D × St × Bool}(z:pvK d f h e=some a):(∃row o,d=.V7 row o∧f row o=some a)∨(∃g v i o,d=.ptr g v i o∧h g v i o=some a)∨e=some a:=by
 unfold pvK at z
 match hd:d.pv with
 | .V7 row o=>rw[hd]at z;exact .inl ⟨row,o,D.pv_cptr hd,z⟩
 | .ptr g v i o=>rw[hd]at z;exact .inr (.inl ⟨g,v,i,o,D.pv_ptr hd,z⟩)
 | .no=>rw[hd]at z;exact .inr (.inr z)
inductive SlV where
 | sl (s:Nat) (rows:List (List D))
 | msl (g v lo n:Nat)
 | no
def D.lv:D→SlV
 | .sl s rows _=>.sl s rows
 | .msl g v lo n _=>.msl g v lo n
 | _=>.no
noncomputable def lvK (d:D) (f:Nat→List (List D)→Ans) (h:Nat→Nat→Nat→Nat→Ans) (e:Ans):Ans:=SlV.rec (motive:=fun _=>Ans) f h e d.lv
theorem lvK_some{d:D}{f:Nat→List (List D)→Ans}{h:Nat→Nat→Nat→Nat→Ans}{e:Ans}{a:D × St × Bool}(z:lvK d f h e=some a):(∃s rows c,d=.sl s rows c∧f s rows=some a)∨(∃g v lo n c,d=.msl g v lo n c∧h g v lo n=some a)∨e=some a:=by
 cases d with
 | sl s rows c=>exact .inl ⟨s,rows,c,rfl,z⟩
 | msl g v lo n c=>exact .inr (.inl ⟨g,v,lo,n,c,rfl,z⟩)
 | _=>exact .inr (.inr z)
noncomputable def hgetK (S:St) (g v:Nat) (f:TypeId→Nat→List (List D)→Nat→Nat→Bool→Ans):Ans :=
 nthK S.heap g fun o=>Vi.rec (motive:=fun _=>Ans) (fun e sz rows ver kind grow=>ifA (Nat.beq ver v) (f e sz rows ver kind grow) none) o
theorem Qz{S:St}{g v:Nat}{f:TypeId→Nat→List (List D)→Nat→Nat→Bool→Ans}{a:D × St × Bool}(h:hgetK S g v f=some a):∃o:Vi,S.heap[g]?=some o∧o.ver=v∧rowsOf S g v=some o∧f o.elem o.sz o.rows o.ver o.kind o.grow=some a:=by
  obtain⟨o,h1,h2⟩:=Iq h;change ifA (Nat.beq o.ver v) (f o.elem o.sz o.rows o.ver o.kind o.grow) none=some a at h2;rw[Dy]at h2;split at h2
  · next hv =>
    have hv:=Nat.eq_of_beq_eq_true hv;exact⟨o,h1,hv,by simp[rowsOf,h1,hv],h2⟩
  simp at h2
noncomputable def partK (agg:Bool) (cs:List D) (o sz:Nat) (k:D→Ans):Ans:=Bool.rec (motive:=fun _=>Ans) (nthK cs o k) (dropK cs o fun l=>takeK l sz fun l=>k (.agg l)) agg
theorem Qu{agg:Bool}{cs:List D}{o sz:Nat}{k:D→Ans}{a:D × St × Bool}(h:partK agg cs o sz k=some a):∃r,Ay cs o sz agg=some r∧k r=some a:=by
 cases agg with
 | false=>exact Iq h
 | true =>
  obtain⟨h1,h2⟩:=Nu h;obtain⟨h3,h4⟩:=M6 h2;refine⟨_,?_,h4⟩;rw[List.length_drop]at h3;simp only[Ay,if_true];rw[if_pos (by omega)]
noncomputable def loadC (sz:Nat) (agg:Bool):LC:=⟨fun _ xs S k=>Qo xs fun x=>pvK x (fun row o=>partK agg row o sz fun r=>k r S false) (fun g v i o=>hgetK S g v fun _ _ rows _ _ _=>nthK rows i fun row=>partK agg row o sz fun r=>k r S false) none⟩
theorem loadC_ok(sz:Nat)(agg:Bool):LOK (.load sz agg) (loadC sz agg):=by
  intro c cs hc xs S k a e0;obtain⟨x,rfl,e1⟩:=Gg e0;rcases O0 e1 with⟨row,o,rfl,e2⟩ | ⟨g,v,i,o,rfl,e2⟩ | e2
  · obtain ⟨r, h1, h2⟩ := Qu e2;exact⟨r,S,false,Jm rfl rfl (by simp[lop,Jn,h1]),h2⟩
  · obtain ⟨ob, _, _, h1, e3⟩ := Qz e2;obtain⟨row,h2,e4⟩:=Iq e3;obtain⟨r,h3,h4⟩:=Qu e4;exact⟨r,S,false,Jm rfl rfl (by simp[lop,Jn,h1,h2,h3]),h4⟩
  simp at e2
noncomputable def fieldC (o sz:Nat) (agg:Bool):LC:=⟨fun _ xs S k=>Qo xs fun x=>Mc (match x with | .agg cs=>some cs | _=>none) fun cs=>partK agg cs o sz fun r=>k r S false⟩
theorem fieldC_ok(o sz:Nat)(agg:Bool):LOK (.field o sz agg) (fieldC o sz agg):=by
 intro c cs hc xs S k a e0;obtain⟨x,rfl,e1⟩:=Gg e0;obtain⟨l,h1,e2⟩:=Gh e1
 cases x with
 | agg l' =>
  obtain rfl:l'=l:=by simpa using h1
  obtain⟨r,h1,h2⟩:=Qu e2;exact⟨r,S,false,Du rfl rfl (by simp[pop,h1]),h2⟩
 | _=>simp at h1
noncomputable def extC (i:Nat):LC:=⟨fun _ xs S k=>Qo xs fun x=>Mc (match x with | .tup cs=>some cs | _=>none) fun cs=>nthK cs i fun r=>k r S false⟩
theorem extC_ok(i:Nat):LOK (.extract i) (extC i):=by
 intro c cs hc xs S k a e0;obtain⟨x,rfl,e1⟩:=Gg e0;obtain⟨l,h1,e2⟩:=Gh e1
 cases x with
 | tup l' =>
  obtain rfl:l'=l:=by simpa using h1
  obtain⟨r,h1,h2⟩:=Iq e2;exact⟨r,S,false,Du rfl rfl (by simp[pop,h1]),h2⟩
 | _=>simp at h1
noncomputable def faddrC (f:Nat):LC:=⟨fun _ xs S k=>Qo xs fun x=>pvK x (fun row o=>frc (Nat.add o f) fun m=>k (.V7 row m) S false) (fun g v i o=>frc (Nat.add o f) fun m=>k (.ptr g v i m) S false) none⟩
theorem faddrC_ok(f:Nat):LOK (.V4 f) (faddrC f):=by
 intro c cs hc xs S k a e0;obtain⟨x,rfl,e1⟩:=Gg e0;rcases O0 e1 with⟨row,o,rfl,e2⟩ | ⟨g,v,i,o,rfl,e2⟩ | e2
 ·
  exact⟨_,S,false,Du rfl rfl rfl,e2⟩
 ·
  exact⟨_,S,false,Du rfl rfl rfl,e2⟩
 simp at e2
noncomputable def nilckC:LC:=⟨fun c xs S k=>Qo xs fun x=>pvK x (fun row o=>k (.V7 row o) S false) (fun g v i o=>k (.ptr g v i o) S false) ((Ou .nilck).f c xs S k)⟩
theorem nilckC_ok:LOK .nilck nilckC:=by
 intro c cs hc xs S k a e0;obtain⟨x,rfl,e1⟩:=Gg e0;rcases O0 e1 with⟨row,o,rfl,e1⟩ | ⟨g,v,i,o,rfl,e1⟩ | e1
 ·
  exact⟨_,S,false,Du rfl rfl rfl,e1⟩
 ·
  exact⟨_,S,false,Du rfl rfl rfl,e1⟩
 exact Ig rfl c cs hc _ _ _ _ e1
noncomputable def iaddrC (sz:Nat):LC:=⟨fun _ xs S k=>un2K xs fun x y=>ivK y (fun _ j=>lvK x (fun s rows=>ifA (Nat.beq s sz) (nthK rows j fun row=>k (.V7 row 0) S false) none)
 (fun g v lo n=>hgetK S g v fun _ sz' _ _ _ _=>ifA (Nat.beq sz' sz) (ifA (Nat.blt j n) (frc (Nat.add lo j) fun m=>k (.ptr g v m 0) S false) none) none) none) none⟩
theorem iaddrC_ok (sz : Nat) : LOK (.V3 sz) (iaddrC sz) := by
  intro c cs hc xs S k a e0;obtain⟨x,y,rfl,e1⟩:=Ip e0;rcases Ha e1 with⟨k0,j,rfl,e2⟩ | e2
  · rcases lvK_some e2 with ⟨s, rows, cp, rfl, e3⟩ | ⟨g, v, lo, n, cp, rfl, e3⟩ | e3
    · rw [Dy] at e3;split at e3
      · next hs =>
        obtain rfl:=Nat.eq_of_beq_eq_true hs;obtain⟨row,h1,h2⟩:=Iq e3;exact⟨_,S,false,Jm rfl rfl (by simp[lop,Gd,h1]),h2⟩
      simp at e3
    · obtain ⟨ob, _, _, h1, e4⟩ := Qz e3;rw[Dy]at e4;split at e4
      · next hs =>
        have hs:=Nat.eq_of_beq_eq_true hs;rw[Dy]at e4;split at e4
        · next hj =>
          have hj:j<n:=by simpa [Nat.blt_eq] using hj
          exact⟨_,S,false,Jm rfl rfl (by simp[lop,Gd,h1,hs,hj]),e4⟩
        simp at e4
      simp at e4
    simp at e3
  simp at e2
noncomputable def lenC (st:Bool):LC:=Bool.rec (motive:=fun _=>LC)
 ⟨fun c xs S k=>Qo xs fun x=>lvK x (fun _ rows=>frc (Mi rows) fun m=>k (.int .i64 (.ofNat m)) S false) (fun _ _ _ n=>k (.int .i64 (.ofNat n)) S false) ((Ou (.len false)).f c xs S k)⟩
 ⟨fun _ xs S k=>Qo xs fun x=>svK x (fun l=>frc (Mi l) fun m=>k (.int .i64 (.ofNat m)) S false) none⟩ st
theorem lenC_ok(st:Bool):LOK (.len st) (lenC st):=by
 intro c cs hc xs S k a e0
 cases st with
 | false =>
  obtain⟨x,rfl,e1⟩:=Gg e0;rcases lvK_some e1 with⟨s,rows,cp,rfl,e2⟩ | ⟨g,v,lo,n,cp,rfl,e2⟩ | e2
  ·
   rw[K6,Gx]at e2;exact⟨_,S,false,Du rfl rfl rfl,e2⟩
  ·
   exact⟨_,S,false,Du rfl rfl rfl,e2⟩
  exact Ig rfl c cs hc _ _ _ _ e2
 | true =>
  obtain⟨x,rfl,e1⟩:=Gg e0;rcases Jj e1 with⟨s,rfl,e2⟩ | e2
  ·
   rw[K6,Gx]at e2;exact⟨_,S,false,Du rfl rfl rfl,e2⟩
  simp at e2
noncomputable def newK (S:St) (o:Vi) (k:Nat→St→Ans):Ans:=frc (Mi S.heap) fun n=>snocK o S.heap fun H=>k n ⟨H,S.low⟩
theorem Mg{S:St}{o:Vi}{k:Nat→St→Ans}{a:D × St × Bool}(h:newK S o k=some a):k S.heap.length (newAt S o)=some a:=by
 unfold newK at h;rw[K6,Gx]at h;exact snocK_some h
noncomputable def allocC (e:TypeId) (z:List D):LC:=⟨fun _ xs S k=>List.rec (motive:=fun _=>Ans) (newK S ⟨e,z.length,[z],0,0,false⟩ fun n S'=>k (.ptr n 0 0 0) S' true) (fun _ _ _=>none) xs⟩
theorem allocC_ok(e:TypeId)(z:List D):LOK (.alloc e z) (allocC e z):=by
 intro c cs hc xs S k a h
 match xs,h with
 | [],h=>exact⟨_,_,_,Jm rfl rfl rfl,Mg (S:=S) (k:=fun n S'=>k (.ptr n 0 0 0) S' true) h⟩
 | _::_,h=>exact absurd h (by simp[allocC])
def D.celB:D→Bool
 | .agg _ | .tup _ | .undef | .skip=>false
 | _=>true
theorem celB_is{d:D}(h:d.celB=true):d.Vv=true∧d.val=true∧d.cells=[d]:=by cases d<;>simp_all [D.celB,D.Vv,D.val,D.cells]
noncomputable def setHK (S:St) (g:Nat) (o:Vi) (k:St→Ans):Ans:=setK o S.heap g fun H=>frc (Bool.rec (motive:=fun _=>Nat) g S.low (Nat.ble S.low g)) fun lo=>k ⟨H,lo⟩
theorem setHK_some{S:St}{g:Nat}{o:Vi}{k:St→Ans}{a:D × St × Bool}(h:setHK S g o k=some a):k (setAt S g o)=some a:=by
 have h:=L6 h;rw[K6]at h
 have e:(Bool.rec (motive:=fun _=>Nat) g S.low (Nat.ble S.low g):Nat)=min S.low g:=by
  cases hb:Nat.ble S.low g with
  | true=>have:=Nat.le_of_ble_eq_true hb;show S.low=_;omega
  | false =>
   have:¬S.low≤g:=fun h=>by rw[Nat.ble_eq_true_of_le h]at hb;cases hb
   show g=_;omega
 rw[e]at h;exact h
noncomputable def callC (f:FuncId):LC:=⟨fun c xs S k=>c f xs S k⟩
theorem callC_ok(f:FuncId):LOK (.call f) (callC f):=fun c cs hc xs S k a e=>hc f xs S k a e
noncomputable def callvC:LC:=⟨fun c xs S k=>List.rec (motive:=fun _=>Ans) none (fun x ys _=>Mc (match x with | .fn f caps=>some (f,caps) | _=>none) fun p=>Prod.rec (motive:=fun _=>Ans) (fun f caps=>c f (appR ys caps) S k) p) xs⟩
theorem callvC_ok:LOK .callv callvC:=by
 intro c cs hc xs S k a e0
 match xs,e0 with
 | [],e0=>exact absurd e0 (by simp[callvC])
 | x :: ys, e0 =>
  obtain⟨⟨f,caps⟩,h1,e1⟩:=Gh e0
  cases x with
  | fn f' caps' =>
   simp only[Oi,Pi_]at h1;obtain⟨rfl,rfl⟩:=h1;change c f' (appR ys caps') S k=some a at e1;rw[appR_eq]at e1;exact hc _ _ _ _ _ e1
  | _=>simp at h1
noncomputable def lookR (t:TypeId) (l:List (TypeId × FuncId)):Option FuncId:=List.rec (motive:=fun _=>Option FuncId) none (fun p _ ih=>Bool.rec (motive:=fun _=>Option FuncId) ih (some p.2) (Nat.beq t p.1)) l
theorem lookR_eq(t:TypeId):∀l:List (TypeId × FuncId),lookR t l=l.lookup t
 | []=>rfl
 | (a, b) :: l => by
  have e:lookR t ((a,b)::l)=Bool.rec (motive:=fun _=>Option FuncId) (lookR t l) (some b) (Nat.beq t a):=rfl;rw[e,lookR_eq t l];by_cases h:t=a
  ·
   subst h;simp
  have h1:Nat.beq t a=false:=by
   cases hb:Nat.beq t a with
   | false=>rfl
   | true=>exact absurd (Nat.eq_of_beq_eq_true hb) h
  have h2:(t==a)=false:=by simpa using h
  rw[h1,List.lookup_cons,h2]
noncomputable def invC (tab:List (TypeId × FuncId)):LC:=⟨fun c xs S k=>List.rec (motive:=fun _=>Ans) none (fun x ys _=>Mc (match x with | .ifc t d=>some (t,d) | .ifr t d=>some (t,d) | _=>none) fun p=>Prod.rec (motive:=fun _=>Ans) (fun t d=>Mc (lookR t tab) fun f=>c f (d::ys) S k) p) xs⟩
theorem invC_ok(tab:List (TypeId × FuncId)):LOK (.invoke tab) (invC tab):=by
 intro c cs hc xs S k a e0
 match xs,e0 with
 | [],e0=>exact absurd e0 (by simp[invC])
 | x :: ys, e0 =>
  obtain⟨⟨t,d⟩,h1,e1⟩:=Gh e0;change Mc (lookR t tab) (fun f=>c f (d::ys) S k)=some a at e1;obtain⟨f,h2,e2⟩:=Gh e1;rw[lookR_eq]at h2
  cases x with
  | ifc t' d' =>
   simp only[Oi,Pi_]at h1;obtain⟨rfl,rfl⟩:=h1;obtain⟨r,S',w,h3,h4⟩:=hc _ _ _ _ _ e2;exact⟨r,S',w,by simp[Ce,h2,h3],h4⟩
  | ifr t' d' =>
   simp only[Oi,Pi_]at h1;obtain⟨rfl,rfl⟩:=h1;obtain⟨r,S',w,h3,h4⟩:=hc _ _ _ _ _ e2;exact⟨r,S',w,by simp[Ce,h2,h3],h4⟩
  | _=>simp at h1
noncomputable def aaddrC (sz len:Nat):LC:=⟨fun _ xs S k=>un2K xs fun x y=>ivK y (fun _ j=>ifA (Nat.blt j len) (pvK x (fun row o=>frc (Nat.add o (Nat.mul j sz)) fun m=>k (.V7 row m) S false) (fun g v i o=>frc (Nat.add o (Nat.mul j sz)) fun m=>k (.ptr g v i m) S false) none) none) none⟩
theorem aaddrC_ok(sz len:Nat):LOK (.aaddr sz len) (aaddrC sz len):=by
  intro c cs hc xs S k a e0;obtain⟨x,y,rfl,e1⟩:=Ip e0;rcases Ha e1 with⟨k0,j,rfl,e2⟩ | e2
  · rw [Dy] at e2;split at e2
    · next hj =>
      have hj:j<len:=by simpa [Nat.blt_eq] using hj
      rcases O0 e2 with⟨row,o,rfl,e3⟩ | ⟨g,v,i,o,rfl,e3⟩ | e3
      · exact⟨_,S,false,Du rfl rfl (by simp[pop,Tk,hj]),e3⟩
      · exact⟨_,S,false,Du rfl rfl (by simp[pop,Tk,hj]),e3⟩
      simp at e3
    simp at e2
  simp at e2
noncomputable def mkfnC (f:FuncId):LC:=⟨fun _ xs S k=>k (.fn f xs) S false⟩
theorem mkfnC_ok(f:FuncId):LOK (.mkfn f) (mkfnC f):=by
 intro c cs hc xs S k a e0;exact⟨_,S,false,Du rfl rfl rfl,e0⟩
noncomputable def eqbC (neg:Bool):LC:=⟨fun _ xs S k=>un2K xs fun x y=>bvK x (bvK y (k (.bool (true != neg)) S false) (k (.bool (false != neg)) S false)) (bvK y (k (.bool (false != neg)) S false) (k (.bool (true != neg)) S false))⟩
theorem eqbC_ok(neg:Bool):LOK (.eqb neg) (eqbC neg):=by
 intro c cs hc xs S k a e0;obtain⟨x,y,rfl,e1⟩:=Ip e0;rcases M0 e1 with⟨rfl,e2⟩ | ⟨rfl,e2⟩
 ·
  rcases M0 e2 with⟨rfl,e3⟩ | ⟨rfl,e3⟩
  ·
   exact⟨_,S,false,Du rfl rfl rfl,e3⟩
  exact⟨_,S,false,Du rfl rfl rfl,e3⟩
 rcases M0 e2 with⟨rfl,e3⟩ | ⟨rfl,e3⟩
 ·
  exact⟨_,S,false,Du rfl rfl rfl,e3⟩
 exact⟨_,S,false,Du rfl rfl rfl,e3⟩
theorem Ta(s:ByteArray)(l h:Nat):s.extract l h=⟨⟨(s.data.toList.drop l).take (h-l)⟩⟩:=by
 apply f_ext;have:s=⟨⟨s.data.toList⟩⟩:=by cases s;simp
 rw[this];simp[ByteArray.data_extract,List.extract_eq_take_drop]
noncomputable def subSC (z:Nat) (lo hi mx:Bool):LC:=Bool.rec (motive:=fun _=>LC)
 (Bool.rec (motive:=fun _=>LC) (Ou (.slice true z lo hi mx))
  ⟨fun c xs S k=>un2K xs fun x y=>svK x (fun l=>ivK y (fun _ b=>takeK l b fun r=>k (.str ⟨⟨r⟩⟩) S false) none) none⟩ hi)
 (Bool.rec (motive:=fun _=>LC) ⟨fun c xs S k=>un2K xs fun x y=>svK x (fun l=>ivK y (fun _ b=>dropK l b fun r=>k (.str ⟨⟨r⟩⟩) S false) none) none⟩
  ⟨fun c xs S k=>un3K xs fun x y w=>svK x (fun l=>ivK y (fun _ b=>ivK w (fun _ d=>ifA (Nat.ble b d) (dropK l b fun r=>takeK r (Nat.sub d b) fun r=>k (.str ⟨⟨r⟩⟩) S false) none) none) none) none⟩ hi) lo
theorem subSC_ok(z:Nat)(lo hi:Bool):LOK (.slice true z lo hi false) (subSC z lo hi false):=by
 intro c cs hc xs S k a e0
 cases lo with
 | false =>
  cases hi with
  | false=>exact Ig rfl c cs hc _ _ _ _ e0
  | true =>
   obtain⟨x,y,rfl,e1⟩:=Ip e0;rcases Jj e1 with⟨s,rfl,e2⟩ | e2
   ·
    rcases Ha e2 with⟨k0,b,rfl,e3⟩ | e3
    ·
     obtain⟨h1,h2⟩:=M6 e3;refine⟨_,S,false,Du rfl rfl ?_,h2⟩;have h1:b≤s.size:=by rw[Po];exact h1
     simp[pop,Cx,Dr,Gn,Fb,h1,Ta]
    simp at e3
   simp at e2
 | true =>
  cases hi with
  | false =>
   obtain⟨x,y,rfl,e1⟩:=Ip e0;rcases Jj e1 with⟨s,rfl,e2⟩ | e2
   ·
    rcases Ha e2 with⟨k0,b,rfl,e3⟩ | e3
    ·
     obtain⟨h1,h2⟩:=Nu e3;refine⟨_,S,false,Du rfl rfl ?_,h2⟩;have h1:b≤s.size:=by rw[Po];exact h1
     have h3:(s.data.toList.drop b).take (s.size-b)=s.data.toList.drop b:=List.take_of_length_le (by rw[List.length_drop,Po];omega);simp only[pop,Cx,Dr,Gn,Fb,Int.natCast_nonneg,if_true,Int.toNat_natCast,h1,Nat.le_refl,and_self,Option.map_some,Ta,h3]
    simp at e3
   simp at e2
  | true =>
   obtain⟨x,y,w,rfl,e1⟩:=un3K_some e0;rcases Jj e1 with⟨s,rfl,e2⟩ | e2
   ·
    rcases Ha e2 with⟨k0,b,rfl,e3⟩ | e3
    ·
     rcases Ha e3 with⟨k1,d,rfl,e4⟩ | e4
     ·
      rw[Dy]at e4;split at e4
      ·
       next hbd =>
       have hbd:b≤d:=Nat.le_of_ble_eq_true hbd;obtain⟨h1,h2⟩:=Nu e4;obtain⟨h3,h4⟩:=M6 h2;refine⟨_,S,false,Du rfl rfl ?_,h4⟩;have h5:d≤s.size:=by rw[Po];rw[List.length_drop]at h3;have h3:d-b≤_:=h3;omega
       simp only[pop,Cx,Dr,Gn,Fb,Int.natCast_nonneg,if_true,Int.toNat_natCast,hbd,h5,and_self,Option.map_some,Ta];rfl
      simp at e4
     simp at e4
    simp at e3
   simp at e2
noncomputable def celsR (l:List D):Bool:=List.rec (motive:=fun _=>Bool) true (fun h _ ih=>Bool.rec (motive:=fun _=>Bool) false ih h.celB) l
theorem celsR_all:∀{l:List D},celsR l=true→l.all D.Vv=true
 | [],_=>rfl
 | x::l,h=>by
  have e:celsR (x::l)=Bool.rec (motive:=fun _=>Bool) false (celsR l) x.celB:=rfl
  cases hx:x.celB with
  | true=>rw[e,hx]at h;rw[List.all_cons,(celB_is hx).1,celsR_all h];rfl
  | false=>rw[e,hx]at h;simp at h
noncomputable def D.vc:D→Option (List D)
 | .agg cs=>Bool.rec (motive:=fun _=>Option (List D)) none (some cs) (celsR cs)
 | d=>Bool.rec (motive:=fun _=>Option (List D)) none (some [d]) d.celB
theorem Pz{d:D}{cs:List D}(h:d.vc=some cs):d.val=true∧d.cells=cs:=by
 cases d with
 | agg l =>
  have h:Bool.rec (motive:=fun _=>Option (List D)) none (some l) (celsR l)=some cs:=h
  cases hc:celsR l with
  | false=>rw[hc]at h;simp at h
  | true =>
   rw[hc]at h;obtain rfl:l=cs:=by simpa using h
   exact⟨celsR_all hc,rfl⟩
 | undef=>exact absurd h (by simp[D.vc,D.celB])
 | skip=>exact absurd h (by simp[D.vc,D.celB])
 | tup l=>exact absurd h (by simp[D.vc,D.celB])
 | _ =>
  simp only[D.vc,D.celB,Oi]at h;subst h;exact⟨rfl,rfl⟩
theorem Pm{d:D}(h:d.flatV=true):d.cells.all D.free=true:=by
 cases d with
 | agg l=>exact List.all_eq_true.2 fun x hx=>flat_free (Nr h x hx)
 | _=>simp_all [D.flatV,D.flat,D.cells,D.free,D.Vw]
noncomputable def boxC' (e:TypeId) (sz:Nat):LC:=⟨fun _ xs S k=>Qo xs fun x=>Mc x.vc fun cs=>ifA (Nat.beq (Mi cs) sz) (newK S ⟨e,sz,[cs],0,0,false⟩ fun n S'=>k (.ptr n 0 0 0) S' true) none⟩
theorem boxC_ok(e:TypeId)(sz:Nat):LOK (.box e sz) (boxC' e sz):=by
  intro c cs hc xs S k a e0;obtain⟨x,rfl,e1⟩:=Gg e0;obtain⟨l,h1,e2⟩:=Gh e1;obtain⟨h2,h3⟩:=Pz h1;rw[Dy]at e2;split at e2
  · next hl =>
    have hl:l.length=sz:=by rw[←Gx];exact Nat.eq_of_beq_eq_true hl
    exact⟨_,_,_,Jm rfl rfl (by simp[lop,h2,h3,hl]),Mg (S:=S) (k:=fun n S'=>k (.ptr n 0 0 0) S' true) e2⟩
  simp at e2
noncomputable def boxcC (sz:Nat):LC:=⟨fun _ xs S k=>Qo xs fun x=>Mc x.vc fun cs=>ifA (Nat.beq (Mi cs) sz) (ifA x.flatV (k (.V7 cs 0) S false) (ifA (cs.all D.free) (k (.V7 cs 0) S false) none)) none⟩
theorem boxcC_ok(sz:Nat):LOK (.boxc sz) (boxcC sz):=by
  intro c cs hc xs S k a e0;obtain⟨x,rfl,e1⟩:=Gg e0;obtain⟨l,h1,e2⟩:=Gh e1;obtain⟨h2,h3⟩:=Pz h1;rw[Dy]at e2;split at e2
  · next hl =>
    have hl:l.length=sz:=by rw[←Gx];exact Nat.eq_of_beq_eq_true hl
    have fin:l.all D.free=true→k (.V7 l 0) S false=some a→∃r S' w,Ce cs (.boxc sz) [x] S=some (r,S',w)∧k r S' w=some a:=fun hf e3 =>
      ⟨_,_,_,Jm rfl rfl (by simp only[lop,h2,h3,hl,hf,beq_self_eq_true,Bool.and_self,if_true]),e3⟩
    rw[Dy]at e2;split at e2
    · next hf=>exact fin (by rw[←h3];exact Pm hf) e2
    rw[Dy]at e2;split at e2
    · next hf=>exact fin hf e2
    simp at e2
  simp at e2
noncomputable def fillK (ps:List (Nat × Nat)):List D→List D→(List D→Ans)→Ans :=
 List.rec (motive:=fun _=>List D→List D→(List D→Ans)→Ans) (fun xs z k=>List.rec (motive:=fun _=>Ans) (k z) (fun _ _ _=>none) xs)
  (fun p _ ih xs z k=>List.rec (motive:=fun _=>Ans) none (fun x t _=>Mc x.vc fun cs=>ifA (Nat.beq (Mi cs) p.2) (overK z p.1 cs fun z'=>ih t z' k) none) xs) ps
theorem fillK_some:∀(ps:List (Nat × Nat)) {xs z:List D} {k:List D→Ans} {a:D × St × Bool},fillK ps xs z k=some a→∃r,Ez z ps xs=some r∧k r=some a
 | [],[],z,k,a,h=>⟨z,rfl,h⟩
 | [],x::xs,z,k,a,h=>by simp[fillK]at h
 | (o,s)::ps,[],z,k,a,h=>by simp[fillK]at h
 | (o, s) :: ps, x :: xs, z, k, a, h => by
  have h:(Mc x.vc fun cs=>ifA (Nat.beq (Mi cs) s) (overK z o cs fun z'=>fillK ps xs z' k) none)=some a:=h;obtain⟨cs,h1,h2⟩:=Gh h;obtain⟨h3,h4⟩:=Pz h1;rw[Dy]at h2;split at h2
  ·
   next hl =>
   have hl:cs.length=s:=by rw[←Gx];exact Nat.eq_of_beq_eq_true hl
   obtain⟨h5,h6⟩:=Ng h2;obtain⟨r,h7,h8⟩:=fillK_some ps h6;refine⟨r,?_,h8⟩;have:o+s≤z.length:=by rw[←hl];exact h5
   simp only[Ez,h3,h4,hl,beq_self_eq_true,this,decide_true,Bool.and_self,if_true,h7]
  simp at h2
noncomputable def buildC (z:List D) (ps:List (Nat × Nat)):LC:=⟨fun _ xs S k=>fillK ps xs z fun r=>k (.agg r) S false⟩
theorem buildC_ok(z:List D)(ps:List (Nat × Nat)):LOK (.build z ps) (buildC z ps):=by
 intro c cs hc xs S k a e0;obtain⟨r,h1,h2⟩:=fillK_some ps e0;exact⟨_,S,false,Du rfl rfl (by simp[pop,h1]),h2⟩
noncomputable def putK (S:St) (g:Nat) (o i sz:Nat) (cs:List D) (e sz':Nat) (rows:List (List D)) (ver kind:Nat) (grow:Bool) (k:K1):Ans :=
 ifA (Nat.beq (Mi cs) sz) (nthK rows i fun row=>overK row o cs fun row'=>setK row' rows i fun rows'=>setHK S g ⟨e,sz',rows',ver,kind,grow⟩ fun S'=>k .undef S' true) none
noncomputable def stC (sz:Nat):LC:=⟨fun c xs S k=>un2K xs fun p x=>Mc x.vc fun cs=>pvK p (fun _ _=>none) (fun g v i o=>hgetK S g v fun e sz' rows ver kind grow =>
 Nat.rec (motive:=fun _=>Ans) (putK S g o i sz cs e sz' rows ver kind grow k) (fun _ _=>ifA x.flatV (ifA (Nat.beq kind 2) (putK S g o i sz cs e sz' rows ver kind grow k) none) ((Ou (.store sz)).f c xs S k)) kind) none⟩
theorem stC_ok (sz : Nat) : LOK (.store sz) (stC sz) := by
  intro c cs hc xs S k a e0;obtain⟨p,x,rfl,e1⟩:=Ip e0;obtain⟨l,hv,e2⟩:=Gh e1;obtain⟨hx2,hx3⟩:=Pz hv;rcases O0 e2 with⟨row,o,rfl,e3⟩ | ⟨g,v,i,o,rfl,e3⟩ | e3
  · simp at e3
  · obtain ⟨ob, h0, hve, h1, e4⟩ := Qz e3
    have fin:∀{z:Ans},putK S g o i sz l ob.elem ob.sz ob.rows ob.ver ob.kind ob.grow k=some a→(ob.kind=0∨(ob.kind=2∧x.flatV=true))→∃r S' w,Ce cs (.store sz) [.ptr g v i o,x] S=some (r,S',w)∧k r S' w=some a:=by
      intro _ e5 hk;unfold putK at e5;rw[Dy]at e5;split at e5
      · next hl =>
        have hl:l.length=sz:=by rw[←Gx];exact Nat.eq_of_beq_eq_true hl
        obtain⟨row,h2,e6⟩:=Iq e5;obtain⟨h3,e7⟩:=Ng e6;have e8:=setHK_some (L6 e7);refine⟨.undef,_,true,Jm rfl rfl ?_,e8⟩;have xg:o+sz≤row.length:=by rw[←hl];exact h3
        have qL:(if ob.kind=0 then some x else Vq S.heap.length S.heap x)=some x:=by
          rcases hk with hk | ⟨hk,hf⟩
          · rw[if_pos hk]
          rw[if_neg (by omega),Pk hf]
        have yM:(x.val&&x.cells.length==sz&&decide (o+sz≤row.length)&&(decide (ob.kind=0)||(decide (ob.kind=2)&&x.cells.all D.free)))=true:=by
          rw[hx3,hx2,decide_eq_true xg,hl];rcases hk with hk | ⟨hk,hf⟩
          · simp[hk]
          rw[←hx3,Pm hf];simp[hk]
        simp only[lop,Bj,h1,h2,qL];rw[if_pos yM,hx3];rfl
      simp at e5
    match hk:ob.kind with
    | 0 =>
      rw[hk]at e4;exact fin (z:=none) (by rw[hk];exact e4) (.inl hk)
    | n + 1 =>
      rw[hk]at e4;change ifA x.flatV _ _=some a at e4;rw[Dy]at e4;split at e4
      · next hf =>
        rw[Dy]at e4;split at e4
        · next h2=>exact fin (z:=none) (by rw[hk];exact e4) (.inr ⟨by rw[hk];exact Nat.eq_of_beq_eq_true h2,hf⟩)
        simp at e4
      exact Ig rfl c cs hc _ _ _ _ e4
  simp at e3
theorem setK_lt{α:Type}{x:α}:∀{l:List α} {n:Nat} {k:List α→Ans} {a:D × St × Bool},setK x l n k=some a→n<l.length
 | [],n,k,a,h=>by simp[setK]at h
 | y::l,0,k,a,h=>Nat.zero_lt_succ _
 | y::l,n+1,k,a,h=>Nat.succ_lt_succ (setK_lt (l:=l) (n:=n) (k:=fun r=>k (y::r)) h)
noncomputable def Ow (sz:Nat) (ps:List Nat):List D→List (List D)→(List (List D)→Ans)→Ans :=
 List.rec (motive:=fun _=>List D→List (List D)→(List (List D)→Ans)→Ans) (fun xs z k=>List.rec (motive:=fun _=>Ans) (k z) (fun _ _ _=>none) xs)
  (fun p _ ih xs z k=>List.rec (motive:=fun _=>Ans) none (fun x t _=>Mc x.vc fun cs=>ifA (Nat.beq (Mi cs) sz) (setK cs z p fun z'=>ih t z' k) none) xs) ps
theorem rowsK_0{sz:Nat}:∀(ps:List Nat) {xs:List D} {z:List (List D)} {k:List (List D)→Ans} {a:D × St × Bool},Ow sz ps xs z k=some a→∃r,Ff z sz ps xs=some r∧k r=some a
 | [],[],z,k,a,h=>⟨z,rfl,h⟩
 | [],x::xs,z,k,a,h=>by simp[Ow]at h
 | p::ps,[],z,k,a,h=>by simp[Ow]at h
 | p :: ps, x :: xs, z, k, a, h => by
  have h:(Mc x.vc fun cs=>ifA (Nat.beq (Mi cs) sz) (setK cs z p fun z'=>Ow sz ps xs z' k) none)=some a:=h;obtain⟨cs,h1,h2⟩:=Gh h;obtain⟨h3,h4⟩:=Pz h1;rw[Dy]at h2;split at h2
  ·
   next hl =>
   have hl:cs.length=sz:=by rw[←Gx];exact Nat.eq_of_beq_eq_true hl
   obtain⟨r,h7,h8⟩:=rowsK_0 ps (L6 h2);refine⟨r,?_,h8⟩;simp only[Ff,h3,h4,hl,beq_self_eq_true,setK_lt h2,decide_true,Bool.and_self,if_true,h7]
  simp at h2
theorem rowsK_f{sz:Nat}:∀(ps:List Nat) {xs:List D} {z:List (List D)} {k:List (List D)→Ans} {a:D × St × Bool},Jp xs=true→Ow sz ps xs z k=some a→∃r,Cf z sz ps xs=some r∧k r=some a
 | [],[],z,k,a,_,h=>⟨z,rfl,h⟩
 | [],x::xs,z,k,a,_,h=>by simp[Ow]at h
 | p::ps,[],z,k,a,_,h=>by simp[Ow]at h
 | p :: ps, x :: xs, z, k, a, hf, h => by
  have h:(Mc x.vc fun cs=>ifA (Nat.beq (Mi cs) sz) (setK cs z p fun z'=>Ow sz ps xs z' k) none)=some a:=h;obtain⟨cs,h1,h2⟩:=Gh h;obtain⟨h3,h4⟩:=Pz h1;rw[Dy]at h2;split at h2
  ·
   next hl =>
   have hl:cs.length=sz:=by rw[←Gx];exact Nat.eq_of_beq_eq_true hl
   obtain⟨r,h7,h8⟩:=rowsK_f ps (Jf hf).2 (L6 h2);refine⟨r,?_,h8⟩;have zZ:cs.all D.free=true:=by rw[←h4];exact Pm (Jf hf).1
   simp only[Cf,h3,h4,hl,zZ,beq_self_eq_true,setK_lt h2,decide_true,Bool.and_self,if_true,h7]
  simp at h2
noncomputable def bsliceC (e sz len:Nat) (z:List D) (ps:List Nat) (kind:Nat):LC :=
 if kind=0 then ⟨fun _ xs S k=>Ow sz ps xs (repR z len) fun rs=>newK S ⟨e,sz,rs,0,0,false⟩ fun n S'=>k (.msl n 0 0 len none) S' true⟩
 else if kind=2 then ⟨fun c xs S k=>ifA (Jp xs) (Ow sz ps xs (repR z len) fun rs=>newK S ⟨e,sz,rs,0,2,false⟩ fun n S'=>k (.msl n 0 0 len none) S' true) ((Ou (.Vz e sz len z ps kind)).f c xs S k)⟩
 else ⟨fun c xs S k=>ifA (Jp xs) (Ow sz ps xs (repR z len) fun rs=>k (.sl sz rs (some len)) S false) ((Ou (.Vz e sz len z ps kind)).f c xs S k)⟩
theorem bsliceC_ok(e sz len:Nat)(z:List D)(ps:List Nat)(kind:Nat):LOK (.Vz e sz len z ps kind) (bsliceC e sz len z ps kind):=by
  intro c cs hc xs S k a e0;unfold bsliceC at e0;split at e0
  · next hk =>
    dsimp only at e0;rw[Va]at e0;obtain⟨rs,h1,h2⟩:=rowsK_0 ps e0;exact⟨_,_,_,Jm rfl rfl (by simp only[lop,hk,if_true,h1]),Mg (S:=S) (k:=fun n S'=>k (.msl n 0 0 len none) S' true) h2⟩
  next hk =>
  split at e0
  · next zM =>
    dsimp only at e0;rw[Dy]at e0;split at e0
    · next hf =>
      rw[Va]at e0;obtain⟨rs,h1,h2⟩:=rowsK_f ps hf e0;exact⟨_,_,_,Jm rfl rfl (by subst zM;simp only[lop,Ka _ _ hf,h1,if_true];rfl),Mg (S:=S) (k:=fun n S'=>k (.msl n 0 0 len none) S' true) h2⟩
    exact Ig rfl c cs hc _ _ _ _ e0
  next zM =>
  dsimp only at e0;rw[Dy]at e0;split at e0
  · next hf =>
    rw[Va]at e0;obtain⟨rs,h1,h2⟩:=rowsK_f ps hf e0;exact⟨_,_,_,Jm rfl rfl (by simp only[lop,if_neg hk,if_neg zM,Ka _ _ hf,h1]),h2⟩
  exact Ig rfl c cs hc _ _ _ _ e0
noncomputable def lC:LOp→LC
 | .mv=>mvC
 | .bin op=>binL op
 | .pick=>pickC
 | .un .not=>notC
 | .conv k=>convC k
 | .index=>idxC
 | .load sz agg=>loadC sz agg
 | .field o sz agg=>fieldC o sz agg
 | .extract i=>extC i
 | .V4 f=>faddrC f
 | .nilck=>nilckC
 | .V3 sz=>iaddrC sz
 | .len st=>lenC st
 | .alloc e z=>allocC e z
 | .store sz=>stC sz
 | .aaddr sz len=>aaddrC sz len
 | .mkfn f=>mkfnC f
 | .eqb neg=>eqbC neg
 | .slice true z lo hi false=>subSC z lo hi false
 | .box e sz=>boxC' e sz
 | .boxc sz=>boxcC sz
 | .build z ps=>buildC z ps
 | .Vz e sz len z ps kind=>bsliceC e sz len z ps kind
 | .call f=>callC f
 | .callv=>callvC
 | .invoke tab=>invC tab
 | op=>Ou op
theorem lC_ok(op:LOp):LOK op (lC op):=by
 cases op with
 | mv=>exact mvC_ok
 | bin op=>exact binL_ok op
 | pick=>exact pickC_ok
 | un u=>cases u<;>first | exact notC_ok | exact Ig rfl
 | conv k=>exact convC_ok k
 | index=>exact idxC_ok
 | load sz agg=>exact loadC_ok sz agg
 | field o sz agg=>exact fieldC_ok o sz agg
 | extract i=>exact extC_ok i
 | V4 f=>exact faddrC_ok f
 | nilck=>exact nilckC_ok
 | V3 sz=>exact iaddrC_ok sz
 | len st=>exact lenC_ok st
 | alloc e z=>exact allocC_ok e z
 | store sz=>exact stC_ok sz
 | aaddr sz len=>exact aaddrC_ok sz len
 | mkfn f=>exact mkfnC_ok f
 | eqb neg=>exact eqbC_ok neg
 | slice st z lo hi mx=>cases st<;>cases mx<;>first | exact subSC_ok z lo hi | exact Ig rfl
 | box e sz=>exact boxC_ok e sz
 | boxc sz=>exact boxcC_ok sz
 | build z ps=>exact buildC_ok z ps
 | Vz e sz len z ps kind=>exact bsliceC_ok e sz len z ps kind
 | call f=>exact callC_ok f
 | callv=>exact callvC_ok
 | invoke tab=>exact invC_ok tab
 | _=>exact Ig rfl
def resO (al:List Vl) (m:Nat):Vl→Option Vl
 | .loc d=>match al[d]? with
  | some (.loc i)=>if i<m then some (.loc (m-1-i)) else none
  | x=>x
 | x=>some x
def L9 (al:List Vl) (m:Nat):List Vl→Option (List Vl)
 | []=>some []
 | x::l=>match resO al m x,L9 al m l with
  | some y,some r=>some (y::r)
  | _,_=>none
def alV (dv env:List D) (m:Nat):Vl→D
 | .env j=>env.getD j .undef
 | .const c=>c
 | .loc i=>dv.getD (m-1-i) .undef
structure ALR (al:List Vl) (m:Nat) (vals dv env:List D):Prop where
 len:dv.length=m
 all:al.length=vals.length
 eq:∀(d:Nat) (x:Vl),al[d]?=some x→vals.getD d .undef=alV dv env m x
 lt:∀(d i:Nat),al[d]?=some (Vl.loc i)→i<m
theorem ALR.res{al:List Vl}{m:Nat}{vals dv env:List D}(h:ALR al m vals dv env){o o':Vl}(ho:resO al m o=some o'):opd dv env o'=opd vals env o:=by
 cases o with
 | env j=>simp only[resO,Oi]at ho;subst ho;rfl
 | const c=>simp only[resO,Oi]at ho;subst ho;rfl
 | loc d =>
  simp only[resO]at ho;split at ho
  ·
   next i hi =>
   split at ho
   ·
    injection ho with ho;subst ho;have:=h.eq d _ hi;simp only[alV]at this;simp only[opd,this]
   simp at ho
  next x hx =>
  have:=h.eq d _ ho
  cases o' with
  | loc i=>exact absurd ho (hx i)
  | env j=>simp only[alV]at this;simp only[opd,this]
  | const c=>simp only[alV]at this;simp only[opd,this]
theorem ALR.ress{al:List Vl}{m:Nat}{vals dv env:List D}(h:ALR al m vals dv env):∀{l l':List Vl},L9 al m l=some l'→l'.map (opd dv env)=l.map (opd vals env)
 | [],l',e=>by simp only[L9,Oi]at e;subst e;rfl
 | x :: l, l', e => by
  simp only[L9]at e;split at e
  ·
   next y r h1 h2 =>
   injection e with e;subst e;simp only[List.map_cons,h.res h1,h.ress h2]
  simp at e
theorem ALR.push {al : List Vl} {m : Nat} {vals dv env : List D} (h : ALR al m vals dv env) (r : D) : ALR (.loc m :: al) (m + 1) (r :: vals) (r :: dv) env := by
  refine⟨by simp[h.len],by simp[h.all],fun d x hx=>?_,fun d i hi=>?_⟩
  · cases d with
    | zero =>
      simp only[Lz,Oi]at hx;subst hx;simp[alV]
    | succ d =>
      rw[Ls_]at hx;rw[List.getD_cons_succ,h.eq d x hx]
      cases x with
      | loc i =>
        have hi:=h.lt d i hx;simp only[alV];rw[show m+1-1-i=(m-1-i)+1 by omega,List.getD_cons_succ]
      | env j=>rfl
      | const c=>rfl
  cases d with
  | zero=>simp only[Lz,Oi,Vl.loc.injEq]at hi;omega
  | succ d=>rw[Ls_]at hi;have:=h.lt d i hi;omega
def mvO (al:List Vl):Vl→Option Vl
 | .loc d=>al[d]?
 | x=>some x
theorem ALR.alias{al:List Vl}{m:Nat}{vals dv env:List D}(h:ALR al m vals dv env){o x:Vl}(ho:mvO al o=some x):ALR (x::al) m (opd vals env o::vals) dv env:=by
  refine⟨h.len,by simp[h.all],fun d y hy=>?_,fun d i hi=>?_⟩
  · cases d with
    | zero =>
      simp only[Lz,Oi]at hy;subst hy;rw[List.getD_cons_zero]
      cases o with
      | loc d=>exact h.eq d x ho
      | env j=>simp only[mvO,Oi]at ho;subst ho;rfl
      | const c=>simp only[mvO,Oi]at ho;subst ho;rfl
    | succ d=>rw[Ls_]at hy;rw[List.getD_cons_succ];exact h.eq d y hy
  cases d with
  | zero =>
    simp only[Lz,Oi]at hi;subst hi
    cases o with
    | loc d=>exact h.lt d i ho
    | env j=>simp[mvO]at ho
    | const c=>simp[mvO]at ho
  | succ d=>rw[Ls_]at hi;exact h.lt d i hi
structure OC where
 f:Kj→List D→ET→St→(ET→St→Ans)→Ans
noncomputable def noOC:OC:=⟨fun _ _ _ _ _=>none⟩
def D.gv:D→Nat
 | .bool false=>0
 | .bool true=>1
 | .skip=>2
 | _=>3
noncomputable def gK (b:Bool) (x:D) (on off:Ans):Ans :=
 Nat.rec (motive:=fun _=>Ans) (Bool.rec (motive:=fun _=>Ans) on off b) (fun m _=>Nat.rec (motive:=fun _=>Ans) (Bool.rec (motive:=fun _=>Ans) off on b) (fun m _=>Nat.rec (motive:=fun _=>Ans) off (fun _ _=>none) m) m) x.gv
theorem gK_some{b:Bool}{x:D}{on off:Ans}{a:D × St × Bool}(h:gK b x on off=some a){vals:List D}{d:Nat}(hx:vals.getD d .undef=x):(onG vals (some (d,b))=some true∧on=some a)∨(onG vals (some (d,b))=some false∧off=some a):=by
 unfold gK at h
 cases x with
 | bool c=>cases c<;>cases b<;>first | exact .inl ⟨by simp only[onG,hx];rfl,h⟩ | exact .inr ⟨by simp only[onG,hx];rfl,h⟩
 | skip=>exact .inr ⟨by simp only[onG,hx],h⟩
 | _=>exact absurd h (by simp[D.gv])
section
variable (n:Nat)
noncomputable def opK (op:LOp) (A:List Vl) (rest:OC):OC:=⟨fun c dv t S k=>(asC n A).f dv t fun xs=>(lC op).f c xs S fun r S' _=>rest.f c (r::dv) t S' k⟩
noncomputable def opsC (ops:List Vk) (fin:List Vl→Nat→OC):List Vl→Nat→OC :=
 List.rec (motive:=fun _=>List Vl→Nat→OC) fin (fun o _ ih al m=>match o.guard with
  | none=>match o.op,o.args with
   | .mv,[x]=>(match mvO al x with | some y=>ih (y::al) m | none=>noOC)
   | op,args=>(match L9 al m args with | some A=>opK n op A (ih (.loc m::al) (m+1)) | none=>noOC)
  | some (d,b)=>match resO al m (.loc d),L9 al m o.args with
   | some g,some A=>⟨fun c dv t S k=>(odC n g).f dv t fun x=>gK b x ((opK n o.op A (ih (.loc m::al) (m+1))).f c dv t S k) ((ih (.loc m::al) (m+1)).f c (.skip::dv) t S k)⟩
   | _,_=>noOC) ops
theorem opK_some{op:LOp}{A:List Vl}{rest:OC}{c:Kj}{cs:Bp}(hc:CKs c cs){dv env:List D}{t:ET}(hR:ETR n t env){S:St}{k:ET→St→Ans}{a:D × St × Bool}(h:(opK n op A rest).f c dv t S k=some a) :
  ∃r S' w,Ce cs op (A.map (opd dv env)) S=some (r,S',w)∧rest.f c (r::dv) t S' k=some a:=by
 have h1:=Pw (k:=fun xs=>(lC op).f c xs S fun r S' _=>rest.f c (r::dv) t S' k) hR A h;exact lC_ok op c cs hc _ _ _ _ h1
theorem Me {fin : List Vl → Nat → OC} {c : Kj} {cs : Bp} (hc : CKs c cs) {env : List D} {t : ET} (hR : ETR n t env) {k : ET → St → Ans} {a : D × St × Bool} {P : List D → St → Prop}
    (hf:∀al m vals dv S,ALR al m vals dv env→(fin al m).f c dv t S k=some a→P vals S) :
    ∀(ops:List Vk) {al:List Vl} {m:Nat} {vals dv:List D} {S:St},ALR al m vals dv env→(opsC n ops fin al m).f c dv t S k=some a→∃vals' S',He cs ops vals env S=some (vals',S')∧P vals' S'
  | [],al,m,vals,dv,S,hA,h=>⟨vals,S,rfl,hf al m vals dv S hA h⟩
  | o :: os, al, m, vals, dv, S, hA, h => by
    obtain⟨op,args,guard,ord,ho⟩:=o
    cases guard with
    | none =>
      have gen:∀A,L9 al m args=some A→(opK n op A (opsC n os fin (.loc m::al) (m+1))).f c dv t S k=some a→∃vals' S',He cs (⟨op,args,none,ord,ho⟩::os) vals env S=some (vals',S')∧P vals' S':=by
        intro A hA' h';obtain⟨r,S',w,h1,h2⟩:=opK_some n hc hR h';rw[hA.ress hA']at h1;obtain⟨vals',S2,h3,h4⟩:=Me hc hR hf os (hA.push r) h2;exact⟨vals',S2,by simp only[He,onG,h1];exact h3,h4⟩
      have key:∀(op':LOp) (args':List Vl),op'=op→args'=args→((match op',args' with
          | .mv,[x]=>(match mvO al x with | some y=>opsC n os fin (y::al) m | none=>noOC)
          | op,args=>(match L9 al m args with | some A=>opK n op A (opsC n os fin (.loc m::al) (m+1)) | none=>noOC):OC)).f c dv t S k=some a→∃vals' S',He cs (⟨op,args,none,ord,ho⟩::os) vals env S=some (vals',S')∧P vals' S':=by
        intro op' args' e1 e2 h';split at h'
        · next x =>
          subst e1 e2;split at h'
          · next y hy =>
            obtain⟨vals',S2,h3,h4⟩:=Me hc hR hf os (hA.alias hy) h';exact⟨vals',S2,by simp only[He,onG,List.map_cons,List.map_nil,Ce,aop,LOp.loud,pop,Option.map_some,Bool.false_eq_true,if_false];exact h3,h4⟩
          exact absurd h' (by simp[noOC])
        split at h'
        · next A hA' =>
          subst e1 e2;exact gen A hA' h'
        exact absurd h' (by simp[noOC])
      exact key op args rfl rfl h
    | some g =>
      obtain⟨d,b⟩:=g
      have h:(match resO al m (.loc d),L9 al m args with
        | some g,some A=>(⟨fun c dv t S k=>(odC n g).f dv t fun x=>gK b x ((opK n op A (opsC n os fin (.loc m::al) (m+1))).f c dv t S k) ((opsC n os fin (.loc m::al) (m+1)).f c (.skip::dv) t S k)⟩:OC)
        | _,_=>noOC).f c dv t S k=some a:=h
      split at h
      · next g A hg hA' =>
        have h1:=O6 (k:=fun x=>gK b x ((opK n op A (opsC n os fin (.loc m::al) (m+1))).f c dv t S k) ((opsC n os fin (.loc m::al) (m+1)).f c (.skip::dv) t S k)) hR h;rw[hA.res hg]at h1;rcases gK_some h1 (vals:=vals) (d:=d) rfl with⟨h2,h3⟩ | ⟨h2,h3⟩
        · obtain ⟨r, S', w, h4, h5⟩ := opK_some n hc hR h3;rw[hA.ress hA']at h4;obtain⟨vals',S2,h6,h7⟩:=Me hc hR hf os (hA.push r) h5;exact⟨vals',S2,by simp only[He,h2,h4];exact h6,h7⟩
        obtain⟨vals',S2,h6,h7⟩:=Me hc hR hf os (hA.push .skip) h3;exact⟨vals',S2,by simp only[He,h2];exact h6,h7⟩
      exact absurd h (by simp[noOC])
def fqs (l:List (Option FP)):List FP:=l.map fun o=>o.getD Ae
noncomputable def okR (x:FP) (fs:List (Option FP)):List Bool→Bool :=
 List.rec (motive:=fun _=>List Bool→Bool) (fun bs=>List.rec (motive:=fun _=>Bool) true (fun _ _ _=>false) bs)
  (fun f _ ih bs=>List.rec (motive:=fun _=>Bool) false (fun b t _=>Bool.rec (motive:=fun _=>Bool) false (ih t) (Option.rec (motive:=fun _=>Bool) true (fun g=>Aj b g x) f)) bs) fs
theorem okPair_quiet(b:Bool)(x:FP):Aj b Ae x=true:=by
 unfold Aj;split<;>simp_all [Ae,Aq,Au]
theorem okR_ok(x:FP):∀(fs:List (Option FP)) (bs:List Bool),okR x fs bs=true→Bl bs (fqs fs) x=true
 | [],[],h=>rfl
 | [],b::bs,h=>by simp[okR]at h
 | f::fs,[],h=>by simp[okR]at h
 | f :: fs, b :: bs, h => by
  have h:Bool.rec (motive:=fun _=>Bool) false (okR x fs bs) (Option.rec (motive:=fun _=>Bool) true (fun g=>Aj b g x) f)=true:=h
  have key:Aj b (f.getD Ae) x=true∧okR x fs bs=true:=by
   cases f with
   | none=>exact⟨okPair_quiet b x,h⟩
   | some g =>
    have h:Bool.rec (motive:=fun _=>Bool) false (okR x fs bs) (Aj b g x)=true:=h
    cases e:Aj b g x with
    | true=>rw[e]at h;exact⟨e,h⟩
    | false=>rw[e]at h;simp at h
  have:=okR_ok x fs bs key.2;show (Aj b (f.getD Ae) x&&Bl bs (fqs fs) x)=true;rw[key.1,this];rfl
structure FC where
 f:List D→D→Bool→FP
def fpC:LOp→FC
 | .load ..=>⟨fun ds r wr=>match ds with
  | [.ptr g _ _ _]=>Ah [g]
  | _=>Ah []⟩
 | .store ..=>⟨fun ds r wr=>match ds with
  | [.ptr g _ _ _,x]=>if Vp x then ⟨true,some [g],some [g],false,none⟩ else Ba wr
  | _=>Ba wr⟩
 | .V3 ..=>⟨fun ds r wr=>match ds with
  | [.msl g _ _ _ _,_]=>Ah [g]
  | _=>Ah []⟩
 | .call _=>⟨fun _ _ wr=>Ba wr⟩
 | .callv=>⟨fun _ _ wr=>Ba wr⟩
 | .invoke _=>⟨fun _ _ wr=>Ba wr⟩
 | op=>⟨F3 op⟩
theorem fpC_eq(op:LOp):(fpC op).f=F3 op:=by
 cases op<;>rfl
def quietB (op:LOp):Bool:=!op.loud
theorem quiet_fp{op:LOp}(h:quietB op=true)(ds:List D)(r:D)(wr:Bool):F3 op ds r wr=Ae:=by
 have h:op.loud=false:=by simpa [quietB] using h
 cases op with
 | slice st sz lo hi mx=>cases st<;>first | rfl | (simp[LOp.loud]at h)
 | _=>first | rfl | (simp[LOp.loud]at h)
structure DC where
 f:Kj→Nat→List (Option FP)→List D→ET→St→(ET→St→Ans)→Ans
noncomputable def noDC:DC:=⟨fun _ _ _ _ _ _ _=>none⟩
noncomputable def opD (news:List (TypeId × List D)) (o:Vk) (q:Nat) (A:List Vl) (rest:DC):DC :=
 match o.hoist with
 | some h=>⟨fun c n0 fq dv t S k=>(asC n A).f dv t fun xs=>(lC o.op).f c xs S fun r S' _=>frc (Nat.add n0 h) fun g=>ifA (okR ⟨false,some [],some [],false,some g⟩ fq o.ord) (rest.f c n0 (some ⟨false,some [],some [],false,some g⟩::fq) (r::dv) t S' k) none⟩
 | none=>if quietB o.op&&o.ord.length==q then ⟨fun c n0 fq dv t S k=>(asC n A).f dv t fun xs=>(lC o.op).f c xs S fun r S' _=>rest.f c n0 (none::fq) (r::dv) t S' k⟩
  else ⟨fun c n0 fq dv t S k=>(asC n A).f dv t fun xs=>(lC o.op).f c xs S fun r S' w=>(fun fp=>ifA (okR fp fq o.ord) (ifA (fp.writes.isSome||Aw n0 (Br o.ord (fqs fq)) S'.heap news 0) (rest.f c n0 (some fp::fq) (r::dv) t S' k) none) none) ((fpC o.op).f xs r w)⟩
theorem opD_some{news:List (TypeId × List D)}{o:Vk}{q:Nat}{A:List Vl}{rest:DC}{c:Kj}{cs:Bp}(hc:CKs c cs){dv env:List D}{t:ET}(hR:ETR n t env){S:St}{k:ET→St→Ans}{a:D × St × Bool}{n0:Nat}{fq:List (Option FP)}(hq:fq.length=q)
    (h:(opD n news o q A rest).f c n0 fq dv t S k=some a) :
    ∃r S' w f,Ce cs o.op (A.map (opd dv env)) S=some (r,S',w)∧f.getD Ae=Ao n0 o (A.map (opd dv env)) r w∧Ai n0 news o (fqs fq) (Ao n0 o (A.map (opd dv env)) r w) S'=true∧rest.f c n0 (f::fq) (r::dv) t S' k=some a:=by
  obtain⟨op,args,guard,ord,ho⟩:=o;unfold opD at h;dsimp only at h
  cases ho with
  | some g =>
    dsimp only at h;have h1:=Pw (k:=fun xs=>(lC op).f c xs S fun r S' _=>frc (Nat.add n0 g) fun g=>ifA (okR ⟨false,some [],some [],false,some g⟩ fq ord) (rest.f c n0 (some ⟨false,some [],some [],false,some g⟩::fq) (r::dv) t S' k) none) hR A h;obtain⟨r,S',w,h2,h3⟩:=lC_ok op c cs hc _ _ _ _ h1;rw[K6,Dy]at h3;split at h3
    · next hk=>exact⟨r,S',w,_,h2,rfl,by show (Bl ord (fqs fq) ⟨false,some [],some [],false,some (Nat.add n0 g)⟩&&_)=true;rw[okR_ok _ _ _ hk];rfl,h3⟩
    simp at h3
  | none =>
    dsimp only at h;split at h
    · next qW =>
      simp only[Bool.and_eq_true,beq_iff_eq]at qW;have h1:=Pw (k:=fun xs=>(lC op).f c xs S fun r S' _=>rest.f c n0 (none::fq) (r::dv) t S' k) hR A h;obtain⟨r,S',w,h2,h3⟩:=lC_ok op c cs hc _ _ _ _ h1;have e:Ao n0 ⟨op,args,guard,ord,none⟩ (A.map (opd dv env)) r w=Ae:=quiet_fp qW.1 _ _ _;refine⟨r,S',w,none,h2,e.symm,?_,h3⟩;rw[e];simp only[Ai];rw[Ni ord (fqs fq) (by simp[fqs,qW.2,hq])];rfl
    have h1:=Pw (k:=fun xs=>(lC op).f c xs S fun r S' w=>(fun fp=>ifA (okR fp fq ord) (ifA (fp.writes.isSome||Aw n0 (Br ord (fqs fq)) S'.heap news 0) (rest.f c n0 (some fp::fq) (r::dv) t S' k) none) none) ((fpC op).f xs r w)) hR A h;obtain⟨r,S',w,h2,h3⟩:=lC_ok op c cs hc _ _ _ _ h1;rw[fpC_eq]at h3;dsimp only at h3;rw[Dy]at h3;split at h3
    · next hk =>
      rw[Dy]at h3;split at h3
      · next hs=>exact⟨r,S',w,some _,h2,rfl,by simp only[Ai,Ao];rw[okR_ok _ _ _ hk,hs];rfl,h3⟩
      simp at h3
    simp at h3
def mvB (o:Vk) (q:Nat):Bool:=match o.op,o.args,o.guard,o.hoist with
 | .mv,[_],none,none=>o.ord.length==q
 | _,_,_,_=>false
noncomputable def opsD (news:List (TypeId × List D)) (ops:List Vk) (fin:List Vl→Nat→OC):List Vl→Nat→Nat→DC :=
 List.rec (motive:=fun _=>List Vl→Nat→Nat→DC) (fun al m _=>⟨fun c _ _ dv t S k=>(fin al m).f c dv t S k⟩) (fun o _ ih al m q =>
  if mvB o q then (match o.args with | [x]=>(match mvO al x with | some y=>⟨fun c n0 fq dv t S k=>(ih (y::al) m (q+1)).f c n0 (none::fq) dv t S k⟩ | none=>noDC) | _=>noDC)
  else match o.guard with
  | none=>(match L9 al m o.args with | some A=>opD n news o q A (ih (.loc m::al) (m+1) (q+1)) | none=>noDC)
  | some (d,b)=>match resO al m (.loc d),L9 al m o.args with
   | some g,some A=>⟨fun c n0 fq dv t S k=>(odC n g).f dv t fun x=>gK b x ((opD n news o q A (ih (.loc m::al) (m+1) (q+1))).f c n0 fq dv t S k) ((ih (.loc m::al) (m+1) (q+1)).f c n0 (none::fq) (.skip::dv) t S k)⟩
   | _,_=>noDC) ops
theorem Md {news : List (TypeId × List D)} {fin : List Vl → Nat → OC} {c : Kj} {cs : Bp} (hc : CKs c cs) {env : List D} {t : ET} (hR : ETR n t env) {k : ET → St → Ans} {a : D × St × Bool} {n0 : Nat} {P : List D → St → Prop}
    (hf:∀al m vals dv S,ALR al m vals dv env→(fin al m).f c dv t S k=some a→P vals S) :
    ∀(ops:List Vk) {al:List Vl} {m q:Nat} {vals dv:List D} {S:St} {fq:List (Option FP)},ALR al m vals dv env→fq.length=q→(opsD n news ops fin al m q).f c n0 fq dv t S k=some a→∃vals' S',Js cs n0 news ops (fqs fq) vals env S=some (vals',S')∧P vals' S'
  | [],al,m,q,vals,dv,S,fq,hA,hq,h=>⟨vals,S,rfl,hf al m vals dv S hA h⟩
  | o :: os, al, m, q, vals, dv, S, fq, hA, hq, h => by
    have h:(if mvB o q then (match o.args with | [x]=>(match mvO al x with | some y=>(⟨fun c n0 fq dv t S k=>(opsD n news os fin (y::al) m (q+1)).f c n0 (none::fq) dv t S k⟩:DC) | none=>noDC) | _=>noDC)
      else match o.guard with
      | none=>(match L9 al m o.args with | some A=>opD n news o q A (opsD n news os fin (.loc m::al) (m+1) (q+1)) | none=>noDC)
      | some (d, b) => match resO al m (.loc d), L9 al m o.args with
        | some g,some A=>⟨fun c n0 fq dv t S k=>(odC n g).f dv t fun x=>gK b x ((opD n news o q A (opsD n news os fin (.loc m::al) (m+1) (q+1))).f c n0 fq dv t S k) ((opsD n news os fin (.loc m::al) (m+1) (q+1)).f c n0 (none::fq) (.skip::dv) t S k)⟩
        | _,_=>noDC).f c n0 fq dv t S k=some a:=h
    split at h
    · next hmv =>
      obtain⟨op,args,guard,ord,ho⟩:=o;unfold mvB at hmv;dsimp only at hmv h;split at hmv
      · next x h1 =>
        dsimp only at h1;split at h1
        · next y hy =>
          obtain⟨vals',S2,h3,h4⟩:=Md hc hR hf os (fq:=none::fq) (hA.alias hy) (by simp[hq]) h1;refine⟨vals',S2,?_,h4⟩;have hl:ord.length=q:=by simpa using hmv
          have yM:∀S:St,Ai n0 news ⟨.mv,[x],none,ord,none⟩ (fqs fq) Ae S=true:=fun S=>by
            simp only[Ai];rw[Ni ord (fqs fq) (by simp[fqs,hl,hq])];rfl
          have hfp:∀ds r,Ao n0 ⟨.mv,[x],none,ord,none⟩ ds r false=Ae:=fun _ _=>rfl;simp only[Js,onG,List.map_cons,List.map_nil,Ce,aop,LOp.loud,pop,Option.map_some,Bool.false_eq_true,if_false,hfp,yM,if_true];exact h3
        exact absurd h1 (by simp[noDC])
      simp at hmv
    split at h
    · next hg =>
      split at h
      · next A hA' =>
        obtain⟨r,S',w,f,h1,h2,h3,h4⟩:=opD_some n hc hR hq h;rw[hA.ress hA']at h1 h2 h3;obtain⟨vals',S2,h5,h6⟩:=Md hc hR hf os (fq:=f::fq) (hA.push r) (by simp[hq]) h4;refine⟨vals',S2,?_,h6⟩;have e:fqs (f::fq)=Ao n0 o (o.args.map (opd vals env)) r w::fqs fq:=by rw[←h2];rfl
        rw[e]at h5;simp only[Js,hg,onG,h1,h3,if_true];exact h5
      exact absurd h (by simp[noDC])
    next d b hg =>
    split at h
    · next g A hg' hA' =>
      have h1:=O6 (k:=fun x=>gK b x ((opD n news o q A (opsD n news os fin (.loc m::al) (m+1) (q+1))).f c n0 fq dv t S k) ((opsD n news os fin (.loc m::al) (m+1) (q+1)).f c n0 (none::fq) (.skip::dv) t S k)) hR h;rw[hA.res hg']at h1;rcases gK_some h1 (vals:=vals) (d:=d) rfl with⟨h2,h3⟩ | ⟨h2,h3⟩
      · obtain ⟨r, S', w, f, h4, h5, h6, h7⟩ := opD_some n hc hR hq h3;rw[hA.ress hA']at h4 h5 h6;obtain⟨vals',S2,h8,h9⟩:=Md hc hR hf os (fq:=f::fq) (hA.push r) (by simp[hq]) h7;refine⟨vals',S2,?_,h9⟩;have e:fqs (f::fq)=Ao n0 o (o.args.map (opd vals env)) r w::fqs fq:=by rw[←h5];rfl
        rw[e]at h8;simp only[Js,hg,h2,h4,h6,if_true];exact h8
      obtain⟨vals',S2,h8,h9⟩:=Md hc hR hf os (fq:=none::fq) (hA.push .skip) (by simp[hq]) h3;refine⟨vals',S2,?_,h9⟩;simp only[Js,hg,h2];exact h8
    exact absurd h (by simp[noDC])
structure EC where
 f:List D→ET→ET→(ET→Ans)→Ans
noncomputable def exL (exps:List (Nat × Nat)) (al:List Vl) (m:Nat):EC :=
 List.rec (motive:=fun _=>EC) ⟨fun _ _ t k=>k t⟩ (fun p _ ih=>match resO al m (.loc p.2) with
  | some o=>if p.1<n then ⟨fun dv t0 t k=>(odC n o).f dv t0 fun x=>(setC (path p.1)).f x t fun t'=>ih.f dv t0 t' k⟩ else ⟨fun _ _ _ _=>none⟩
  | none=>⟨fun _ _ _ _=>none⟩) exps
theorem exL_some{al:List Vl}{m:Nat}{vals dv env:List D}{t0:ET}(hA:ALR al m vals dv env)(hR:ETR n t0 env):∀(exps:List (Nat × Nat)) {t:ET} {env1:List D} {k:ET→Ans} {a:D × St × Bool},ETR n t env1→(exL n exps al m).f dv t0 t k=some a→∃t',ETR n t' (exports exps vals env1)∧k t'=some a
 | [],t,env1,k,a,h1,h=>⟨t,h1,h⟩
 | (j, d) :: es, t, env1, k, a, h1, h => by
  have h:(match resO al m (.loc d) with
   | some o=>if j<n then (⟨fun dv t0 t k=>(odC n o).f dv t0 fun x=>(setC (path j)).f x t fun t'=>(exL n es al m).f dv t0 t' k⟩:EC) else ⟨fun _ _ _ _=>none⟩
   | none=>⟨fun _ _ _ _=>none⟩).f dv t0 t k=some a:=h
  split at h
  ·
   next o ho =>
   split at h
   ·
    next hj =>
    have h2:=O6 (k:=fun x=>(setC (path j)).f x t fun t'=>(exL n es al m).f dv t0 t' k) hR h;rw[hA.res ho]at h2;have h3:=P7 (path j) (k:=fun t'=>(exL n es al m).f dv t0 t' k) h2;exact exL_some hA hR es (h1.set hj _) h3
   simp at h
  simp at h
noncomputable def finC (exps:List (Nat × Nat)) (al:List Vl) (m:Nat):OC:=⟨fun _ dv t S k=>(exL n exps al m).f dv t t fun t'=>k t' S⟩
structure CC where
 f:Kj→ET→St→(ET→St→Ans)→(Vn→ET→St→Ans)→Ans
noncomputable def blkX (i:Nat) (kn:ET→St→Ans) (kx:Vn→ET→St→Ans) (x:Vn) (t:ET) (S:St):Ans :=
 Vn.rec (motive:=fun _=>Ans) none (kx .ret t S) (fun j=>ifA (Nat.beq j i) (kn t S) (kx (.exit j) t S)) x
noncomputable def loopX (b:CC) (c:Kj) (kx:Vn→ET→St→Ans) (N:Nat):ET→St→Ans :=
 Nat.rec (motive:=fun _=>ET→St→Ans) (fun _ _=>none) (fun _ ih t S=>b.f c t S ih kx) N
noncomputable def newsK (H:List Vi) (news:List (TypeId × List D)):St→(St→Ans)→Ans :=
 List.rec (motive:=fun _=>St→(St→Ans)→Ans) (fun S k=>k S) (fun p _ ih S k=>newK S (D9 p) fun _ S'=>ih S' k) news
theorem newsK_some{H:List Vi}:∀(news:List (TypeId × List D)) {S:St} {k:St→Ans} {a:D × St × Bool},newsK H news S k=some a→k ⟨S.heap++news.map D9,S.low⟩=some a
 | [],S,k,a,h=>by
  have h:k S=some a:=h;simpa using h
 | p::l,S,k,a,h=>by
  have h1:=Mg (k:=fun _ S'=>newsK H l S' k) h;have h2:=newsK_some l h1;simpa [newAt] using h2
noncomputable def ptrsK (n0:Nat) (k:Nat) (dv:List D):(List D→Ans)→Ans :=
 Nat.rec (motive:=fun _=>(List D→Ans)→Ans) (fun kk=>kk dv) (fun j ih kk=>ih fun l=>frc (Nat.add n0 j) fun g=>kk (.ptr g 0 0 0::l)) k
theorem ptrsK_some(n0:Nat):∀(j:Nat) {kk:List D→Ans} {a:D × St × Bool},ptrsK n0 j [] kk=some a→kk (Ci n0 j)=some a
 | 0,kk,a,h=>h
 | j + 1, kk, a, h => by
  have h1:=ptrsK_some n0 j (kk:=fun l=>frc (Nat.add n0 j) fun g=>kk (.ptr g 0 0 0::l)) h;rw[K6]at h1
  have e:Ci n0 (j+1)=.ptr (n0+j) 0 0 0::Ci n0 j:=by
   simp[Ci,List.range_succ]
  rw[e];exact h1
def Qv (k:Nat):List Vl:=((List.range k).map Vl.loc).reverse
theorem newsAl_at(k d:Nat)(x:Vl)(h:(Qv k)[d]?=some x):d<k∧x=.loc (k-1-d):=by
 have hd:d<k:=by
  have:=(List.getElem?_eq_some_iff.1 h).1;simpa [Qv] using this
 refine⟨hd,?_⟩;rw[Qv,List.getElem?_reverse (by simpa using hd)]at h;simp only[List.length_map,List.length_range,Lp_]at h;rw[List.getElem?_range (by omega)]at h;simpa using h.symm
theorem newsALR(n0 k:Nat)(env:List D):ALR (Qv k) k (Ci n0 k) (Ci n0 k) env:=by
  refine⟨by simp[Ci],by simp[Qv,Ci],fun d x hx=>?_,fun d i hi=>?_⟩
  · obtain ⟨hd, rfl⟩ := newsAl_at k d x hx;simp only[alV];rw[show k-1-(k-1-d)=d by omega]
  obtain⟨hd,h⟩:=newsAl_at k d _ hi;injection h with h;omega
noncomputable def N9 (N:Nat) (c:Vm):CC :=
 Vm.rec (motive:=fun _=>CC) ⟨fun _ t S kn _=>kn t S⟩ ⟨fun _ t S _ kx=>kx .ret t S⟩ (fun i=>⟨fun _ t S _ kx=>kx (.exit i) t S⟩)
  (fun ops exps=>⟨fun c t S kn _=>(opsC n ops (finC n exps) [] 0).f c [] t S kn⟩)
  (fun ops exps news=>⟨fun c t S kn _=>frc (Mi S.heap) fun n0=>newsK [] news S fun S'=>ptrsK n0 news.length [] fun dv=>(opsD n news ops (finC n exps) (Qv news.length) news.length 0).f c n0 [] dv t S' kn⟩)
  (fun _ _ A B=>⟨fun c t S kn kx=>A.f c t S (fun t' S'=>B.f c t' S' kn kx) kx⟩)
  (fun o _ _ A B=>match o with
   | .loc _=>⟨fun _ _ _ _ _=>none⟩
   | o=>⟨fun c t S kn kx=>(odC n o).f [] t fun x=>bvK x (A.f c t S kn kx) (B.f c t S kn kx)⟩)
  (fun i _ A=>⟨fun c t S kn kx=>A.f c t S kn (blkX i kn kx)⟩)
  (fun _ A=>⟨fun c t S _ kx=>loopX A c kx N t S⟩)
  (fun _=>⟨fun _ _ _ _ _=>none⟩)
  ⟨fun _ _ _ _ _=>none⟩ c
def COK (N:Nat) (C:CC) (code:Vm):Prop:=∀c cs,CKs c cs→∀t env S kn kx a,ETR n t env→C.f c t S kn kx=some a →
 ∃e env' S' t',Cj cs N code env S=some (e,env',S')∧ETR n t' env'∧((e=.normal∧kn t' S'=some a)∨(e≠.normal∧kx e t' S'=some a))
theorem loopX_some{N0:Nat}{b:CC}{code:Vm}(hb:COK n N0 b code){c:Kj}{cs:Bp}(hc:CKs c cs){kx:Vn→ET→St→Ans}{a:D × St × Bool}:∀(N:Nat) {t:ET} {env:List D} {S:St},ETR n t env→loopX b c kx N t S=some a →
    ∃e env' S' t',Ic (Cj cs N0 code) N env S=some (e,env',S')∧ETR n t' env'∧e≠.normal∧kx e t' S'=some a
  | 0,t,env,S,hR,h=>by simp[loopX]at h
  | N + 1, t, env, S, hR, h => by
    have h:b.f c t S (loopX b c kx N) kx=some a:=h;obtain⟨e,env',S',t',h1,h2,h3⟩:=hb c cs hc t env S _ kx a hR h;rcases h3 with⟨rfl,h3⟩ | ⟨he,h3⟩
    · obtain ⟨e2, env2, S2, t2, h4, h5, h6, h7⟩ := loopX_some hb hc N h2 h3;exact⟨e2,env2,S2,t2,by simp only[Ic,h1];exact h4,h5,h6,h7⟩
    refine⟨e,env',S',t',?_,h2,he,h3⟩;simp only[Ic,h1]
    cases e<;>first | rfl | (exact absurd rfl he)
theorem K8 (N : Nat) : ∀ code : Vm, COK n N (N9 n N code) code
  | .skip=>fun c cs hc t env S kn kx a hR h=>⟨_,_,_,t,rfl,hR,.inl ⟨rfl,h⟩⟩
  | .ret=>fun c cs hc t env S kn kx a hR h=>⟨_,_,_,t,rfl,hR,.inr ⟨by simp,h⟩⟩
  | .exit i=>fun c cs hc t env S kn kx a hR h=>⟨_,_,_,t,rfl,hR,.inr ⟨by simp,h⟩⟩
  | .region ops exps => fun c cs hc t env S kn kx a hR h => by
    have h:(opsC n ops (finC n exps) [] 0).f c [] t S kn=some a:=h
    obtain⟨vals',S',h1,t',h2,h3⟩:=Me n hc hR (P:=fun vals S'=>∃t',ETR n t' (exports exps vals env)∧kn t' S'=some a)
      (fun al m vals dv S hA hf=>exL_some n hA hR exps (k:=fun t'=>kn t' S) hR hf) ops (al:=[]) (m:=0) (vals:=[]) (dv:=[]) ⟨rfl,rfl,fun d x hx=>by simp at hx,fun d i hi=>by simp at hi⟩ h
    exact⟨.normal,_,_,t',by simp only[Cj,h1],h2,.inl ⟨rfl,h3⟩⟩
  | .drawn ops exps news => fun c cs hc t env S kn kx a hR h => by
    have h:(frc (Mi S.heap) fun n0=>newsK [] news S fun S'=>ptrsK n0 news.length [] fun dv=>(opsD n news ops (finC n exps) (Qv news.length) news.length 0).f c n0 [] dv t S' kn)=some a:=h;rw[K6,Gx]at h;have h1:=ptrsK_some _ _ (newsK_some news h)
    obtain⟨vals',S',h1,t',h2,h3⟩:=Md n hc hR (P:=fun vals S'=>∃t',ETR n t' (exports exps vals env)∧kn t' S'=some a)
      (fun al m vals dv S hA hf=>exL_some n hA hR exps (k:=fun t'=>kn t' S) hR hf) ops (fq:=[]) (newsALR S.heap.length news.length env) rfl h1
    have h1:Js cs S.heap.length news ops [] (Ci S.heap.length news.length) env ⟨S.heap++news.map D9,S.low⟩=some (vals',S'):=h1;exact⟨.normal,_,_,t',by simp only[Cj,h1],h2,.inl ⟨rfl,h3⟩⟩
  | .seq x y => fun c cs hc t env S kn kx a hR h => by
    have h:(N9 n N x).f c t S (fun t' S'=>(N9 n N y).f c t' S' kn kx) kx=some a:=h;obtain⟨e,env',S',t',h1,h2,h3⟩:=K8 N x c cs hc t env S _ kx a hR h;rcases h3 with⟨rfl,h3⟩ | ⟨he,h3⟩
    · obtain ⟨e2, env2, S2, t2, h4, h5, h6⟩ := K8 N y c cs hc t' env' S' kn kx a h2 h3;exact⟨e2,env2,S2,t2,by simp only[Cj,h1];exact h4,h5,h6⟩
    refine⟨e,env',S',t',?_,h2,.inr ⟨he,h3⟩⟩;simp only[Cj,h1]
    cases e<;>first | rfl | (exact absurd rfl he)
  | .cond o x y => fun c cs hc t env S kn kx a hR h => by
    have key:(o=o)→(∀d,o≠.loc d)→((odC n o).f [] t fun v=>bvK v ((N9 n N x).f c t S kn kx) ((N9 n N y).f c t S kn kx))=some a→∃e env' S' t',Cj cs N (.cond o x y) env S=some (e,env',S')∧ETR n t' env'∧((e=.normal∧kn t' S'=some a)∨(e≠.normal∧kx e t' S'=some a)):=by
      intro _ ho h;have h1:=O6 (k:=fun v=>bvK v ((N9 n N x).f c t S kn kx) ((N9 n N y).f c t S kn kx)) hR h;rcases M0 h1 with⟨hb,h2⟩ | ⟨hb,h2⟩
      · obtain ⟨e, env', S', t', h3, h4, h5⟩ := K8 N x c cs hc t env S kn kx a hR h2;exact⟨e,env',S',t',by simp only[Cj,hb];exact h3,h4,h5⟩
      obtain⟨e,env',S',t',h3,h4,h5⟩:=K8 N y c cs hc t env S kn kx a hR h2;exact⟨e,env',S',t',by simp only[Cj,hb];exact h3,h4,h5⟩
    cases o with
    | loc d=>exact absurd (show (none:Ans)=some a from h) (by simp)
    | env j=>exact key rfl (by simp) h
    | const d=>exact key rfl (by simp) h
  | .block i x => fun c cs hc t env S kn kx a hR h => by
    have h:(N9 n N x).f c t S kn (blkX i kn kx)=some a:=h;obtain⟨e,env',S',t',h1,h2,h3⟩:=K8 N x c cs hc t env S kn _ a hR h;rcases h3 with⟨rfl,h3⟩ | ⟨he,h3⟩
    · exact⟨.normal,env',S',t',by simp only[Cj,h1],h2,.inl ⟨rfl,h3⟩⟩
    cases e with
    | normal=>exact absurd rfl he
    | ret=>exact⟨.ret,env',S',t',by simp only[Cj,h1],h2,.inr ⟨by simp,h3⟩⟩
    | exit j =>
      have h3:ifA (Nat.beq j i) (kn t' S') (kx (.exit j) t' S')=some a:=h3;rw[Dy]at h3;split at h3
      · next hj=>exact⟨.normal,env',S',t',by simp only[Cj,h1,Nat.eq_of_beq_eq_true hj,if_true],h2,.inl ⟨rfl,h3⟩⟩
      next hj =>
      have hj:¬j=i:=fun e=>hj (by rw[e];exact Nat.beq_refl i);exact⟨.exit j,env',S',t',by simp only[Cj,h1,hj,if_false],h2,.inr ⟨by simp,h3⟩⟩
  | .loop x => fun c cs hc t env S kn kx a hR h => by
    obtain⟨e,env',S',t',h1,h2,h3,h4⟩:=loopX_some n (K8 N x) hc N hR (show loopX (N9 n N x) c kx N t S=some a from h);exact⟨e,env',S',t',by simp only[Cj];exact h1,h2,.inr ⟨h3,h4⟩⟩
  | .dfr _=>fun c cs hc t env S kn kx a hR h=>by exact absurd (show (none:Ans)=some a from h) (by simp)
  | .fail=>fun c cs hc t env S kn kx a hR h=>by exact absurd (show (none:Ans)=some a from h) (by simp)
end
noncomputable def baseT (n:Nat):ET:=Nat.rec (motive:=fun _=>ET) .nil (fun j t=>t.put (path j) .undef) n
theorem baseT_at:∀(n:Nat) (p:List Bool),(baseT n).at p=.undef
 | 0,p=>by cases p<;>rfl
 | n+1,p=>by
  show ((baseT n).put (path n) .undef).at p=.undef;rw[ET.at_put,baseT_at n p];split<;>rfl
structure TS where
 f:List D→ET→(ET→Ans)→Ans
noncomputable def initC (nargs:Nat) (slots:List Nat):Nat→TS :=
 List.rec (motive:=fun _=>Nat→TS) (fun _=>⟨fun _ t k=>k t⟩) (fun s _ ih j=>if s<nargs then ⟨fun xs t k=>nthK xs s fun x=>(setC (path j)).f x t fun t'=>(ih (j+1)).f xs t' k⟩ else ⟨fun xs t k=>(ih (j+1)).f xs t k⟩) slots
def slotV (xs:List D) (done:List Nat) (j:Nat):D:=if j<done.length then xs.getD (done.getD j 0) D.undef else D.undef
theorem slotV_snoc(xs:List D)(done:List Nat)(s j:Nat):slotV xs (done++[s]) j=if j=done.length then xs.getD s D.undef else slotV xs done j:=by
  unfold slotV;simp only[Ll_,List.length_cons,List.length_nil,List.getD_eq_getElem?_getD];by_cases e:j=done.length
  · subst e;simp
  rw[if_neg e];by_cases e2:j<done.length
  · rw[if_pos (by omega),if_pos e2,La_ e2]
  rw[if_neg (by omega),if_neg e2]
theorem Qy {nargs n : Nat} (hn : n ≤ 4096) {xs : List D} (hx : xs.length = nargs) : ∀ (slots : List Nat) (done : List Nat) {t : ET} {k : ET → Ans} {a : D × St × Bool}, done.length + slots.length = n →
    (∀j,j<n→t.at (path j)=slotV xs done j)→(initC nargs slots done.length).f xs t k=some a →
    ∃t',ETR n t' ((done++slots).map fun s=>xs.getD s D.undef)∧k t'=some a
  | [], done, t, k, a, hl, ht, h => by
    refine⟨t,⟨by simpa using hl,hn,fun j hj=>?_⟩,h⟩;have hj':j<done.length:=by simp at hl;omega
    rw[ht j hj,slotV,if_pos hj'];simp[List.getD_eq_getElem?_getD,Lg hj']
  | s :: slots, done, t, k, a, hl, ht, h => by
    have h:(if s<nargs then (⟨fun xs t k=>nthK xs s fun x=>(setC (path done.length)).f x t fun t'=>(initC nargs slots (done.length+1)).f xs t' k⟩:TS) else ⟨fun xs t k=>(initC nargs slots (done.length+1)).f xs t k⟩).f xs t k=some a:=h;have hl':(done++[s]).length+slots.length=n:=by simp at hl ⊢;omega
    have hd:(done++[s]).length=done.length+1:=by simp
    have hdn:done.length<n:=by simp at hl;omega
    split at h
    · next hs =>
      obtain⟨x,h1,h2⟩:=Iq h;have h3:=P7 (path done.length) (k:=fun t'=>(initC nargs slots (done.length+1)).f xs t' k) h2;rw[←hd]at h3
      have:=Qy hn hx slots (done++[s]) hl' (fun j hj=>by
        rw[ET.at_put,slotV_snoc];by_cases e:j=done.length
        · subst e;simp[List.getD_eq_getElem?_getD,h1]
        rw[if_neg e,if_neg fun hp=>e (path_inj (by omega) (by omega) hp).symm,ht j hj]) h3
      simpa using this
    next hs =>
    have h:(initC nargs slots (done.length+1)).f xs t k=some a:=h;rw[←hd]at h;have hu:xs.getD s D.undef=D.undef:=by rw[List.getD_eq_getElem?_getD,List.getElem?_eq_none (by omega)];rfl
    have:=Qy hn hx slots (done++[s]) hl' (fun j hj=>by
      rw[slotV_snoc,ht j hj];by_cases e:j=done.length
      · subst e;rw[if_pos rfl,hu,slotV,if_neg (by omega)]
      rw[if_neg e]) h
    simpa using this
structure RC where
 f:ET→St→(List D→Ans)→Ans
noncomputable def resC (n:Nat) (l:List LRes):RC :=
 List.rec (motive:=fun _=>RC) ⟨fun _ _ k=>k []⟩ (fun r _ ih=>match r with
  | .tmp j=>if j<n then ⟨fun t S k=>(getC (path j)).f t fun x=>ih.f t S fun xs=>k (x::xs)⟩ else ⟨fun _ _ _=>none⟩
  | .cell j sz agg=>if j<n then ⟨fun t S k=>(getC (path j)).f t fun p=>(loadC sz agg).f (fun _ _ _ _=>none) [p] S fun x _ _=>ih.f t S fun xs=>k (x::xs)⟩ else ⟨fun _ _ _=>none⟩) l
theorem Sm {n : Nat} {t : ET} {env : List D} (hR : ETR n t env) {S : St} : ∀ (l : List LRes) {k : List D → Ans} {a : D × St × Bool}, (resC n l).f t S k = some a → ∃ xs, Cz env S l = some xs ∧ k xs = some a
  | [],k,a,h=>⟨[],rfl,h⟩
  | .tmp j :: l, k, a, h => by
    have h:(if j<n then (⟨fun t S k=>(getC (path j)).f t fun x=>(resC n l).f t S fun xs=>k (x::xs)⟩:RC) else ⟨fun _ _ _=>none⟩).f t S k=some a:=h;split at h
    · next hj =>
      have h1:=Mr (path j) (k:=fun x=>(resC n l).f t S fun xs=>k (x::xs)) h;rw[hR.eq j hj]at h1;obtain⟨xs,h2,h3⟩:=Sm hR l h1;exact⟨_,by simp only[Cz,Ei,h2],h3⟩
    simp at h
  | .cell j sz agg :: l, k, a, h => by
    have h:(if j<n then (⟨fun t S k=>(getC (path j)).f t fun p=>(loadC sz agg).f (fun _ _ _ _=>none) [p] S fun x _ _=>(resC n l).f t S fun xs=>k (x::xs)⟩:RC) else ⟨fun _ _ _=>none⟩).f t S k=some a:=h;split at h
    · next hj =>
      have h1:=Mr (path j) (k:=fun p=>(loadC sz agg).f (fun _ _ _ _=>none) [p] S fun x _ _=>(resC n l).f t S fun xs=>k (x::xs)) h;rw[hR.eq j hj]at h1;obtain⟨r,S',w,h4,h5⟩:=loadC_ok sz agg (fun _ _ _ _=>none) (fun _ _ _=>none) (fun _ _ _ _ _ h=>by simp at h) _ _ _ _ h1;have h4:(Jn sz agg S (env.getD j .undef)).map (fun r=>(r,S,false))=some (r,S',w):=h4
      cases hl:Jn sz agg S (env.getD j .undef) with
      | none=>rw[hl]at h4;simp at h4
      | some r' =>
        rw[hl]at h4;simp only[Option.map_some,Oi,Pi_]at h4;obtain⟨rfl,_,_⟩:=h4;obtain⟨xs,h2,h3⟩:=Sm hR l h5;exact⟨_,by simp only[Cz,Ei,hl,h2],h3⟩
    simp at h
noncomputable def tupK (xs:List D) (k:D→Ans):Ans:=List.rec (motive:=fun _=>Ans) (k (.tup [])) (fun x t _=>List.rec (motive:=fun _=>Ans) (k x) (fun y t' _=>k (.tup (x::y::t'))) t) xs
theorem tupK_some{env:List D}{S:St}{l:List LRes}{xs:List D}(hx:Cz env S l=some xs){k:D→Ans}{a:D × St × Bool}(h:tupK xs k=some a):∃r,Bw env S l=some r∧k r=some a:=by
 match xs,hx,h with
 | [],hx,h=>exact⟨_,by simp only[Bw,hx],h⟩
 | [x],hx,h=>exact⟨_,by simp only[Bw,hx],h⟩
 | x::y::t,hx,h=>exact⟨_,by simp only[Bw,hx],h⟩
structure FnC where
 f:Kj→List D→St→K1→Ans
noncomputable def snapK (raw:Bool) (args:List D) (S:St) (k:List D→Ans):Ans:=Bool.rec (motive:=fun _=>Ans) (ifA (Jp args) (k args) (Mc (Av S.heap.length S.heap args) k)) (k args) raw
theorem snapK_some{raw:Bool}{args:List D}{S:St}{k:List D→Ans}{a:D × St × Bool}(h:snapK raw args S k=some a):∃args',(if raw=true then some args else Av S.heap.length S.heap args)=some args'∧k args'=some a:=by
 cases raw with
 | true=>exact⟨args,rfl,h⟩
 | false =>
  have h:ifA (Jp args) (k args) (Mc (Av S.heap.length S.heap args) k)=some a:=h;rw[Dy]at h;split at h
  ·
   next hf=>exact⟨args,Ka _ _ hf,h⟩
  exact Gh h
noncomputable def minS (H:List Vi) (a b:Nat) (k:St→Ans):Ans:=frc (Bool.rec (motive:=fun _=>Nat) b a (Nat.ble a b)) fun lo=>k ⟨H,lo⟩
theorem minS_some{H:List Vi}{a b:Nat}{k:St→Ans}{x:D × St × Bool}(h:minS H a b k=some x):k ⟨H,min a b⟩=some x:=by
 unfold minS at h;rw[K6]at h
 have e:(Bool.rec (motive:=fun _=>Nat) b a (Nat.ble a b):Nat)=min a b:=by
  cases hb:Nat.ble a b with
  | true=>have:=Nat.le_of_ble_eq_true hb;show a=_;omega
  | false =>
   have:¬a≤b:=fun h=>by rw[Nat.ble_eq_true_of_le h]at hb;cases hb
   show b=_;omega
 rw[e]at h;exact h
noncomputable def pureK (deep:Bool) (S:St) (r:D) (S':St) (k:K1):Ans:=Bool.rec (motive:=fun _=>Ans) (ifA r.flatR (k r S false) (ansK (Eu S r S') k)) (ansK (leaveD ⟨[],0⟩ S r S') k) deep
theorem pureK_some{deep:Bool}{S:St}{r:D}{S':St}{k:K1}{a:D × St × Bool}(h:pureK deep S r S' k=some a):∃r' S2 w,(if deep=true then leaveD ⟨[],0⟩ S r S' else Eu S r S')=some (r',S2,w)∧k r' S2 w=some a:=by
  cases deep with
  | true=>exact M3 h
  | false =>
    have h:ifA r.flatR (k r S false) (ansK (Eu S r S') k)=some a:=h;rw[Dy]at h;split at h
    · next hf=>exact⟨r,S,false,by simp[Eu,leave,Pn hf,Ut hf],h⟩
    exact M3 h
noncomputable def leaveK (raw deep:Bool) (S:St) (r:D) (S':St) (k:K1):Ans:=Bool.rec (motive:=fun _=>Ans)
 (Bool.rec (motive:=fun _=>Ans) (ifA r.flatR (ifA (Nat.ble (Mi S.heap) S'.low) (k r S false) (minS S'.heap S.low S'.low fun T=>k r T true)) (ansK (leave false S r S') k)) (minS S'.heap S.low S'.low fun T=>k r T true) raw)
 (ansK (leaveD S S r S') k) deep
theorem leaveK_some {raw deep : Bool} {S : St} {r : D} {S' : St} {k : K1} {a : D × St × Bool} (h : leaveK raw deep S r S' k = some a) : ∃ r' S2 w, (if deep = true then leaveD S S r S' else leave raw S r S') = some (r', S2, w) ∧ k r' S2 w = some a := by
  cases deep with
  | true=>exact M3 h
  | false =>
    cases raw with
    | true=>exact⟨_,_,_,rfl,minS_some (k:=fun T=>k r T true) h⟩
    | false =>
      have h:ifA r.flatR (ifA (Nat.ble (Mi S.heap) S'.low) (k r S false) (minS S'.heap S.low S'.low fun T=>k r T true)) (ansK (leave false S r S') k)=some a:=h;rw[Dy]at h;split at h
      · next hf =>
        rw[Dy]at h;split at h
        · next hl =>
          have hl:S.heap.length≤S'.low:=by rw[←Gx];exact Nat.le_of_ble_eq_true hl
          exact⟨r,S,false,by simp[leave,hl,Pn hf,Ut hf],h⟩
        next hl =>
        have hl:¬S.heap.length≤S'.low:=fun h=>hl (by rw[Gx];exact Nat.ble_eq_true_of_le h);exact⟨r,_,true,by simp[leave,hl,Pn hf],minS_some (k:=fun T=>k r T true) h⟩
      exact M3 h
noncomputable def freesB (l:List D):Bool:=Bool.rec (motive:=fun _=>Bool) (l.all D.Vr) true (Jp l)
theorem freesB_eq(l:List D):freesB l=l.all D.Vr:=by
 unfold freesB
 cases h:Jp l with
 | true=>exact (Pj h).symm
 | false=>rfl
noncomputable def exitX (k:ET→St→Ans) (x:Vn) (t:ET) (S:St):Ans:=Vn.rec (motive:=fun _=>Ans) none (k t S) (fun _=>none) x
noncomputable def bodyK (F:Vj) (C:CC) (I:TS) (R:RC) (c:Kj) (args:List D) (S0:St) (fin:D→St→Ans):Ans :=
 I.f args (baseT F.slots.length) fun t=>C.f c t S0 (fun t' S'=>R.f t' S' fun xs=>tupK xs fun r=>fin r S') (exitX fun t' S'=>R.f t' S' fun xs=>tupK xs fun r=>fin r S')
theorem bodyK_some{N:Nat}{F:Vj}(hn:F.slots.length≤4096){c:Kj}{cs:Bp}(hc:CKs c cs){args:List D}(hl:args.length=F.nargs){S0:St}{fin:D→St→Ans}{a:D × St × Bool}
    (h:bodyK F (N9 F.slots.length N F.body) (initC F.nargs F.slots 0) (resC F.slots.length F.res) c args S0 fin=some a) :
    ∃e env' S' r,Cj cs N F.body (F.slots.map fun s=>args.getD s .undef) S0=some (e,env',S')∧(∀i,e≠.exit i)∧Bw env' S' F.res=some r∧fin r S'=some a:=by
  obtain⟨t,h1,h2⟩:=Qy hn hl F.slots [] (k:=fun t=>(N9 F.slots.length N F.body).f c t S0 (fun t' S'=>(resC F.slots.length F.res).f t' S' fun xs=>tupK xs fun r=>fin r S') (exitX fun t' S'=>(resC F.slots.length F.res).f t' S' fun xs=>tupK xs fun r=>fin r S')) (by simp) (fun j hj=>by
    rw[baseT_at];simp[slotV]) h
  rw[List.nil_append]at h1;obtain⟨e,env',S',t',h3,h4,h5⟩:=K8 F.slots.length N F.body c cs hc t _ S0 _ _ a h1 h2
  have fin1:∀{z:Ans},((resC F.slots.length F.res).f t' S' fun xs=>tupK xs fun r=>fin r S')=some a→∃r,Bw env' S' F.res=some r∧fin r S'=some a:=by
    intro _ h;obtain⟨xs,h6,h7⟩:=Sm h4 F.res h;exact tupK_some h6 h7
  rcases h5 with⟨rfl,h5⟩ | ⟨he,h5⟩
  · obtain ⟨r, h6, h7⟩ := fin1 (z := none) h5;exact⟨_,env',S',r,h3,by simp,h6,h7⟩
  cases e with
  | normal=>exact absurd rfl he
  | exit i=>exact absurd (show (none:Ans)=some a from h5) (by simp)
  | ret =>
    obtain⟨r,h6,h7⟩:=fin1 (z:=none) h5;exact⟨_,env',S',r,h3,by simp,h6,h7⟩
noncomputable def fnC (N:Nat) (raw pur deep:Bool) (F:Vj):FnC:=if F.slots.length≤4096 then
 (fun (C:CC) (I:TS) (R:RC)=>(⟨fun c args S k=>snapK raw args S fun xs=>ifA (Nat.beq (Mi xs) F.nargs)
  (ifA (Bool.rec (motive:=fun _=>Bool) false (freesB xs) pur) (bodyK F C I R c xs ⟨[],0⟩ fun r S'=>pureK deep S r S' k) (frc (Mi S.heap) fun n0=>bodyK F C I R c xs ⟨S.heap,n0⟩ fun r S'=>leaveK raw deep S r S' k)) none⟩:FnC))
 (N9 F.slots.length N F.body) (initC F.nargs F.slots 0) (resC F.slots.length F.res) else ⟨fun _ _ _ _=>none⟩
noncomputable def runK (L:Prg) (N:Nat) (d:Nat):Kj :=
 Nat.rec (motive:=fun _=>Kj) (fun _ _ _ _=>none) (fun _ ih f args S k=>Option.rec (motive:=fun _=>Ans) (Mc (L.fns f) fun F=>ifA (L.dfs f) none ((fnC N (L.raw f) (L.pure f) (L.deep f) F).f ih args S k)) (fun r=>k r S false) (L.ext f args)) d
theorem runK_ok(L:Prg)(N:Nat):∀d,CKs (runK L N d) (Bh L N d)
 | 0=>fun f args S k a h=>by exact absurd (show (none:Ans)=some a from h) (by simp)
 | d + 1 => by
  have ih:=runK_ok L N d;intro f args S k a h;have h:Option.rec (motive:=fun _=>Ans) (Mc (L.fns f) fun F=>ifA (L.dfs f) none ((fnC N (L.raw f) (L.pure f) (L.deep f) F).f (runK L N d) args S k)) (fun r=>k r S false) (L.ext f args)=some a:=h
  cases hE:L.ext f args with
  | some r =>
   rw[hE]at h;exact⟨r,S,false,by simp only[Bh,hE],h⟩
  | none =>
   rw[hE]at h;obtain⟨F,hF,h⟩:=Gh h;rw[Dy]at h
   have vK:L.dfs f=false:=by
    cases hd:L.dfs f with
    | false=>rfl
    | true=>rw[hd]at h;simp at h
   rw[vK]at h;simp only[Bool.false_eq_true,if_false]at h;simp only[Bh,behind,vK,Bool.false_eq_true,if_false,hE,hF];unfold fnC at h;split at h
   ·
    next hn =>
    dsimp only at h;obtain⟨xs,h1,h2⟩:=snapK_some h;rw[Dy]at h2;split at h2
    ·
     next hl =>
     have hl:xs.length=F.nargs:=by rw[←Gx];exact Nat.eq_of_beq_eq_true hl
     rw[h1];simp only[hl,ne_eq,not_true_eq_false,if_false]
     have hp:(Bool.rec (motive:=fun _=>Bool) false (freesB xs) (L.pure f):Bool)=(L.pure f&&xs.all D.Vr):=by
      rw[freesB_eq];cases L.pure f<;>rfl
     rw[hp,Dy]at h2;split at h2
     ·
      next hpu =>
      obtain⟨e,env',S',r,h3,h4,h5,h6⟩:=bodyK_some hn ih hl (fin:=fun r S'=>pureK (L.deep f) S r S' k) h2;obtain⟨r',S2,w,h7,h8⟩:=pureK_some h6;refine⟨r',S2,w,?_,h8⟩;rw[if_pos hpu,h3]
      cases e with
      | exit i=>exact absurd rfl (h4 i)
      | normal=>simp only[h5];exact h7
      | ret=>simp only[h5];exact h7
     next hpu =>
     rw[K6,Gx]at h2;obtain⟨e,env',S',r,h3,h4,h5,h6⟩:=bodyK_some hn ih hl (fin:=fun r S'=>leaveK (L.raw f) (L.deep f) S r S' k) h2;obtain⟨r',S2,w,h7,h8⟩:=leaveK_some h6;refine⟨r',S2,w,?_,h8⟩;rw[if_neg hpu,h3]
     cases e with
     | exit i=>exact absurd rfl (h4 i)
     | normal=>simp only[h5];exact h7
     | ret=>simp only[h5];exact h7
    simp at h2
   simp at h
noncomputable def Dp (L:Prg) (N:Nat) (d:Nat) (f:FuncId) (args:List D) (S:St):Ans:=runK L N d f args S fun r S' w=>some (r,S',w)
theorem fast_ok{L:Prg}{N d:Nat}{f:FuncId}{args:List D}{S:St}{x:D × St × Bool}(h:Dp L N d f args S=some x):Bh L N d f args S=some x:=by
 obtain⟨r,S',w,h1,h2⟩:=runK_ok L N d f args S _ x h;rw[h1];exact h2
end Go.Proofs.YtkaedpmmopigkaaGreatDoor
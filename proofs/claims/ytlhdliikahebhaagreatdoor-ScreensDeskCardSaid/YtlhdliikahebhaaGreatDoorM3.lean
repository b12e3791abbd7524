/- Proved here: parts of the proof, joined (Lo15a, Lo15b, Lo15, Lo15d, LoF, LoG, LoH, LoH2, LoI, LoJ, Lo16, Lo17): an abstract machine, its soundness, what functions of the program compute in it; no condition. -/
import Derived.LoopN
import Derived.Scope
import Derived.Recover
import Derived.RangeFuncLeaves
import Derived.Test.YtlhdliikahebhaaGreatDoorM2
namespace Go.Proofs.YtlhdliikahebhaaGreatDoor
open Go.RowKit
set_option linter.unusedVariables false
set_option linter.unusedSimpArgs false
theorem Pg{α β:Type}{f:α→Option β}:∀{l:List α} {l':List β},l.mapM f=some l'→l'.length=l.length∧∀(i:Nat) (x:α),l[i]?=some x→∃y,l'[i]?=some y∧f x=some y
 | [],l',h=>by
  simp only[List.mapM_nil,Option.pure_def,Oi]at h;subst h;exact⟨rfl,fun i x hx=>by simp at hx⟩
 | a::l,l',h=>by
  simp only[List.mapM_cons,Option.pure_def,Option.bind_eq_bind,Option.bind_eq_some_iff,Oi]at h;obtain⟨y,hy,ys,hys,rfl⟩:=h;obtain⟨h1,h2⟩:=Pg hys;refine⟨by simp[h1],fun i x hx=>?_⟩
  cases i with
  | zero=>simp at hx;subst hx;exact⟨y,rfl,hy⟩
  | succ i=>simpa using h2 i x (by simpa using hx)
theorem snapD_msl(m:Nat)(H:List Xh)(k g v lo n:Nat)(cap:Option Nat):Og m H (k+1) (.msl g v lo n cap)=match H[g]? with
  | some o => if o.ver = v ∧ m ≤ g ∧ o.kind = 0 then (match ((o.rows.drop lo).take n).mapM (fun r => r.mapM (Og m H k)) with
    | some rows=>if rows.all (fun r=>r.all D.free) then some (.sl o.sz rows (match cap with | some c=>some c | none=>if o.grow then none else some (o.rows.length-lo))) else none
    | none=>none) else snap m H (.msl g v lo n cap)
  | none=>none:=rfl
theorem Vg(m:Nat)(H:List Xh)(k:Nat){d:D}(h:∀g v lo n cap,d≠.msl g v lo n cap):Og m H k d=snap m H d:=by
 cases k with
 | zero=>rfl
 | succ k=>cases d<;>first | rfl | exact absurd rfl (h _ _ _ _ _)
theorem Ud{m:Nat}{H:List Xh}{d r:D}(h:snap m H d=some r):((∀cs,d≠.agg cs)→∀cs,r≠.agg cs)∧((∀cs,d≠.tup cs)→∀cs,r≠.tup cs):=by
 unfold snap at h
 repeat' (first | (simp at h;done) | (split at h))
 all_goals
  simp only[Oi]at h;subst h
  first
   | exact⟨fun h=>h,fun h=>h⟩
   | exact⟨fun _ cs h=>(by cases h),fun _ cs h=>(by cases h)⟩
theorem snapD_cell {m : Nat} {H : List Xh} {k : Nat} {d r : D} (h : Og m H k d = some r) : ((∀ cs, d ≠ .agg cs) → ∀ cs, r ≠ .agg cs) ∧ ((∀ cs, d ≠ .tup cs) → ∀ cs, r ≠ .tup cs) := by
  by_cases hm:∃g v lo n cap,d=.msl g v lo n cap
  · obtain ⟨g, v, lo, n, cap, rfl⟩ := hm
    cases k with
    | zero=>exact Ud h
    | succ k =>
      rw[snapD_msl]at h
      cases hg:H[g]? with
      | none=>rw[hg]at h;simp at h
      | some o =>
        rw[hg]at h;simp only at h;by_cases hc:o.ver=v∧m≤g∧o.kind=0
        · rw [if_pos hc] at h
          cases hr:((o.rows.drop lo).take n).mapM (fun r=>r.mapM (Og m H k)) with
          | none=>rw[hr]at h;simp at h
          | some rows =>
            rw[hr]at h;simp only at h;rw[Option.ite_none_right_eq_some]at h;obtain⟨_,h⟩:=h;simp only[Oi]at h;subst h;exact⟨fun _ cs h=>(by cases h),fun _ cs h=>(by cases h)⟩
        rw[if_neg hc]at h;exact Ud h
  rw[Vg m H k (fun g v lo n cap he=>hm ⟨g,v,lo,n,cap,he⟩)]at h;exact Ud h
theorem freeV_cell{r:D}(h:∀cs,r≠.agg cs)(hf:r.Xq=true):r.free=true:=by
 cases r<;>first | exact hf | exact absurd rfl (h _)
theorem freeR_val{r:D}(h:∀cs,r≠.tup cs)(hf:r.Xr=true):r.Xq=true:=by
 cases r<;>first | exact hf | exact absurd rfl (h _)
def resSem (tmps:Array Value):ResultVar→Sem Value
 | .tmp t=>pure (tmps.getD t undef)
 | .cell a t=>do loadVar t (←asAddr (tmps.getD a undef))
theorem results_eq(fn:Func)(tmps:Array Value):results fn tmps=(do let vs ←fn.results.mapM (resSem tmps);pure (if h:vs.size=1 then vs[0] else .tuple vs)):=by
 unfold results;congr 1
section
variable {P:Program} {w:World} {ρ:Xn} {S:St}
theorem res_ok {nt : Nat} {slots : List Nat} {env : List D} {a : Act} (hr : Rel w ρ S.heap) (hs : slots.all (· < nt) = true) (hf : FR w ρ S.heap nt (sig slots [] [] env) a) : ∀ {rs : List ResultVar} {ls : List LRes} {ds : List D}, Nq P slots rs = some ls → En env S ls = some ds →
    ∃vs,(rs.mapM (resSem a.tmps)).run P w=.ok vs w∧VL w ρ S.heap ds vs
  | [], ls, ds, hl, hd => by
    simp only[Nq,Oi]at hl;subst hl;simp only[En,Oi]at hd;subst hd;exact⟨[],by simp,.nil⟩
  | .tmp t :: rs, ls, ds, hl, hd => by
    simp only[Nq]at hl;split at hl
    · rename_i j m hj hm;simp only[Oi]at hl;subst hl;simp only[En,I5]at hd;split at hd
      · rename_i x y hx hy;simp only[Oi]at hd hx;subst hd hx;obtain⟨vs,h1,h2⟩:=res_ok hr hs hf hm hy
        have ht:t<nt:=by
          have:=List.all_eq_true.1 hs t (Lm (F6 hj));simpa using this
        have h3:=hf.2 t ht;unfold sig at h3;simp only[G5,hj]at h3;exact⟨a.tmps.getD t undef::vs,by rw[List.mapM_cons,Ab (a:=a.tmps.getD t undef) (w':=w) rfl,Ab h1];rfl,.cons h3 h2⟩
      simp at hd
    simp at hl
  | .cell ad t :: rs, ls, ds, hl, hd => by
    simp only[Nq]at hl;split at hl
    · rename_i j n m hj hn hm;simp only[Oi]at hl;subst hl;simp only[En,I5]at hd;split at hd
      · rename_i x y hx hy;simp only[Oi]at hd;subst hd;obtain⟨vs,h1,h2⟩:=res_ok hr hs hf hm hy
        have ht:ad<nt:=by
          have:=List.all_eq_true.1 hs ad (Lm (F6 hj));simpa using this
        have h3:=hf.2 ad ht;unfold sig at h3;simp only[G5,hj]at h3;obtain⟨v,h4,h5⟩:=load_ok (P:=P) hr h3 hx hn rfl
        have h6:(resSem a.tmps (.cell ad t)).run P w=.ok v w:=by
          rw[←h4];show (do loadVar t (←asAddr (a.tmps.getD ad undef)):Sem Value).run P w=_;generalize a.tmps.getD ad undef=u at h3 ⊢;generalize env.getD j .undef=du at h3 hx;unfold G6 at hx;split at hx
          · cases h3;simp[Instr.loadAt,Instr.sureAddr,asAddr]
          · cases h3;simp[Instr.loadAt,Instr.sureAddr,asAddr]
          simp at hx
        exact⟨v::vs,by rw[List.mapM_cons,Ab h6,Ab h1];rfl,.cons h5 h2⟩
      simp at hd
    simp at hl
theorem Rf{nt:Nat}{slots:List Nat}{env:List D}{a:Act}{fn:Func}{ls:List LRes}{r:D}(hr:Rel w ρ S.heap)(hs:slots.all (·<nt)=true)(hf:FR w ρ S.heap nt (sig slots [] [] env) a)(hl:Nq P slots fn.results.toList=some ls)(hd:Ce env S ls=some r) :
  ∃v,(results fn a.tmps).run P w=.ok v w∧VR w ρ S.heap r v:=by
 unfold Ce at hd
 cases zH:En env S ls with
 | none=>simp[zH]at hd
 | some ds =>
  obtain⟨vs,h1,h2⟩:=res_ok (P:=P) hr hs hf hl zH
  have xu:(results fn a.tmps).run P w=.ok (if h:vs.toArray.size=1 then vs.toArray[0] else .tuple vs.toArray) w:=by
   rw[results_eq];have e:fn.results=fn.results.toList.toArray:=by simp
   rw[e,List.mapM_toArray]
   have:(List.toArray <$> fn.results.toList.mapM (resSem a.tmps)).run P w=.ok vs.toArray w:=by
    rw[map_eq_pure_bind,Ab h1];rfl
   rw[Ab this];rfl
  refine⟨_,xu,?_⟩;have xg:=h2.len;rw[zH]at hd;split at hd
  ·
   rename_i x hx;simp only[Oi]at hd hx;subst hd hx
   cases h2 with
   | cons h t=>cases t with
    | nil=>simpa using h
  ·
   rename_i xs xA hxs;simp only[Oi]at hd hxs;subst hd hxs
   have h1:¬vs.toArray.size=1:=by
    intro h;simp only[List.size_toArray]at h;rw[xg]at h;obtain⟨x,hx⟩:=List.length_eq_one_iff.1 h;exact xA x (by rw[hx])
   rw[dif_neg h1];exact .tup ds vs xg (fun j d v=>h2.get)
  rename_i h;simp at h
theorem Stp.relow{w':World}{ρ':Xn}{n:Nat}{S2:St}(h:Stp w ρ ⟨S.heap,n⟩ w' ρ' S2):Stp w ρ S w' ρ' ⟨S2.heap,min S.low S2.low⟩ :=
 ⟨h.hid,h.os,h.tape,h.output,h.size,Nat.min_le_left _ _,h.out,h.imm,fun g b o ho hg hb=>h.keep g b o ho (Nat.lt_of_lt_of_le hg (Nat.min_le_right _ _)) hb,fun g o ho=>by
  obtain⟨o',h1,h2,h3,h4⟩:=h.obj g o ho
  exact⟨o',h1,h2,fun hg=>h3 (Nat.lt_of_lt_of_le hg (Nat.min_le_right _ _)),h4⟩,h.lp⟩
theorem Stp.clean{w':World}{ρ':Xn}{S2:St}(hr:Rel w ρ S.heap)(h:Stp w ρ ⟨S.heap,S.heap.length⟩ w' ρ' S2)(x9:S.heap.length≤S2.low):Stp w ρ S w' ρ S :=
 ⟨rfl,h.os,h.tape,h.output,h.size,Nat.le_refl _,fun b hb hg=>⟨(h.out b hb hg).1,hg⟩,fun b q hi=>⟨(h.imm b q hi).1,Nat.lt_of_lt_of_le hi.1 h.size,hi.2⟩,
  fun g b o ho hg hb=>h.keep g b o ho (Nat.lt_of_lt_of_le (lt_of_some ho) x9) hb,fun g o ho=>⟨o,ho,⟨Nat.le_refl _,rfl⟩,fun _=>rfl,fun _=>⟨rfl,rfl,rfl,Nat.le_refl _,fun b cur hb hc=>⟨cur,(h.keep g b o ho (Nat.lt_of_lt_of_le (lt_of_some ho) x9) hb).trans hc,rfl⟩⟩⟩,fun g x hX hb hl=>by
  obtain⟨j,q1,q2⟩:=hl
  exact⟨j,q1,(h.keep g x.b _ q1 (Nat.lt_of_lt_of_le (lt_of_some q1) x9) hb).trans q2⟩⟩
section
variable {w':World} {ρ':Xn} {S2:St} (hr:Rel w ρ S.heap) (zN:Rel w' ρ' S2.heap) (h:Stp w ρ ⟨S.heap,S.heap.length⟩ w' ρ' S2) (x9:S.heap.length≤S2.low)
include hr h x9
theorem Ms{g b:Nat}(hb:ρ g=some b):g<S.heap.length∧ρ' g=some b∧S2.heap[g]?=S.heap[g]?:=by
 have hg:=hr.in hb;obtain⟨o',h1,h2,h3,h4⟩:=h.obj g S.heap[g] (Lg hg);have:=h3 (Nat.lt_of_lt_of_le hg x9);subst this;exact⟨hg,by rw[(h4 rfl).1];exact hb,by rw[h1,Lg hg]⟩
theorem Qt{b q:Nat}(hi:Imm w' ρ' S2.heap b q):Imm w' ρ S.heap b q :=
 ⟨hi.1,by rw[←h.hid];exact hi.2.1,fun g hg=>by
  obtain⟨_,h1,h2⟩:=Ms hr h x9 hg;rw[←h2]
  exact hi.2.2 g h1⟩
theorem Qs:∀b es c,w'.heap[b]?=some (.map es c)→(∀g,ρ' g≠some b)→¬ρ'.X b 0→w'.heap[b]?=w'.heap[b]?∧(∀g,ρ g≠some b)∧¬ρ.X b 0 :=
 fun b _ _ _ hg hx=>⟨rfl,fun g hb=>hg g (Ms hr h x9 hb).2.1,by rw[←h.hid];exact hx⟩
include zN
theorem Km {d r : D} {v : Value} (hv : VR w' ρ' S2.heap d v) (hs : snap S.heap.length S2.heap d = some r) (hf : r.free = true) : VR w' ρ S.heap r v := by
  unfold snap at hs;split at hs
  · rename_i g ver lo n cap
    cases hv with
    | msl _ _ _ _ _ A c ob xV xB hg yV xK xI =>
      simp only[hg]at hs;split at hs
      · rename_i hk;simp only[Oi]at hs;subst hs;obtain⟨b,hρ,xU,hA,rP⟩:=xI hk.1;obtain⟨o1,xG,cur,hc,hz,⟨cc,yB,yw,uY,vQ⟩,hl,yO,hh⟩:=zN.cel hρ hg xK;rw[hg]at xG;injection xG with xG;subst xG;have xg:((ob.rows.drop lo).take n).length=n:=by simp;omega
        have xk:∀i r' j d,((ob.rows.drop lo).take n)[i]?=some r'→r'[j]?=some d→w'.cell? ⟨b,lo*ob.sz+i*ob.sz+j,none⟩=some (cur.getD ((lo+i)*ob.sz+j) undef)∧Imm w' ρ S.heap b (lo*ob.sz+i*ob.sz+j)∧d.free=true∧VR w' ρ' S2.heap d (cur.getD ((lo+i)*ob.sz+j) undef):=by
          intro i r' j d hi hj;obtain⟨h1,h2⟩:=Cz hi;obtain⟨h3,h4,v,uy,vL⟩:=hh _ r' j d h1 hj;obtain⟨h5,h6⟩:=Array.getElem?_eq_some_iff.1 uy;have zP:cur.getD ((lo+i)*ob.sz+j) undef=v:=by simp[Array.getD,h5,h6]
          rw[zP];refine⟨?_,⟨lt_of_heap hc,fun hx=>(zN.hid _ _ (by rw[h.hid];exact hx)).2 g hρ,fun g' hg'=>?_⟩,h4 (by omega),vL⟩
          · rw [cell_of_row w' b _ cur ob.elem (0, 0) hc, ← uy];congr 1;rw[Nat.add_mul]
          obtain⟨q1,q2,q3⟩:=Ms hr h x9 hg';have:=zN.inj g' g b q2 hρ;subst this;rcases hk.2 with y7 | y7
          · refine ⟨ob, by rw [← q3]; exact hg, y7, ?_⟩;have h7:j<ob.sz:=by rw[←hl r' (Lm h1)];exact lt_of_some hj
            have h8:lo+i<ob.rows.length:=lt_of_some h1;have:=row_in h8 h7;rwa [Nat.add_mul]at this
          omega
        refine .sl ob.sz _ _ A n c xg.symm xV (fun k hk'=>?_) (fun r hr'=>hl r (Eb hr')) b (lo*ob.sz) (fun i j=>cur.getD ((lo+i)*ob.sz+j) undef) (fun xA=>hA ?_) (fun i r' j d hi hj=>?_) (fun i r' j d hi hj=>?_)
        · cases cap with
          | some c'=>simp only[Oi]at hk';subst hk';exact xB _ rfl
          | none =>
            simp only at hk';split at hk'
            · simp at hk'
            rename_i hgr;simp only[Oi]at hk';obtain⟨cur',y8,w9⟩:=rP rfl;rw[hc]at y8;injection y8 with y8;injection y8 with y8;subst y8;have h1:=vQ (by simpa using hgr);rw[yB]at w9;have:=Nat.eq_of_mul_eq_mul_right hz w9;omega
        · left;intro h0;subst h0;simp at xA
        · obtain ⟨q1, q2, q3, _⟩ := xk i r' j d hi hj;exact⟨q1,q2,q3⟩
        obtain⟨_,_,q3,q4⟩:=xk i r' j d hi hj;exact q4.free_mono (fun b q hi=>⟨rfl,Qt hr h x9 hi⟩) (Qs hr h x9) q3
      simp only[Oi]at hs;subst hs;simp[D.free,D.Xw]at hf
  · rename_i g ver;split at hs
    · rename_i uN
      cases hv with
      | mref _ _ b ob hg yV xI =>
        simp only[hg]at hs;split at hs
        · rename_i hk;simp only[Oi]at hs;subst hs;have hρ:=xI hk.1;obtain⟨es,clock,hc,xC,hl,xw⟩:=zN.map hρ hg hk.2.1 hk.2.2
          have qB:∀i,i<ob.rows.length→∃e,es[i]?=some e∧e.key=((es[i]?).map (·.key)).getD undef∧e.val=((es[i]?).map (·.val)).getD undef:=by
            intro i hi;have hie:i<es.size:=by omega
            exact⟨es[i],Array.getElem?_eq_getElem hie,by simp[hie],by simp[hie]⟩
          refine .mp ob.rows b clock es (fun i j=>if j=0 then ((es[i]?).map (·.key)).getD undef else ((es[i]?).map (·.val)).getD undef) hc (fun hx=>(zN.hid _ _ (by rw[h.hid];exact hx)).2 g hρ) (fun g' hg'=>?_) xC hl (fun i hi=>?_) (fun i r' j d hi hj=>?_) (fun i r' j d hi hj=>?_)
          · obtain ⟨q1, q2, _⟩ := Ms hr h x9 hg';have:=zN.inj g' g b q2 hρ;omega
          · obtain ⟨e, h1, h2, h3⟩ := qB i hi;exact⟨e,h1,by simpa using h2,by simpa using h3⟩
          · obtain ⟨e, k, v, h1, h2, h3, h4, _, _⟩ := xw i r' hi;subst h2
            match j,hj with
            | 0,hj=>simp at hj;subst hj;exact h3
            | 1,hj=>simp at hj;subst hj;exact h4
          obtain⟨e,k,v,h1,h2,h3,h4,h5,h6⟩:=xw i r' hi;subst h2
          match j,hj with
          | 0, hj =>
            simp at hj;subst hj;simp only[if_true,h1,Option.map_some,Option.getD_some];exact h5.freeV_mono (fun b q hi=>⟨rfl,Qt hr h x9 hi⟩) (Qs hr h x9) h3.1
          | 1, hj =>
            simp at hj;subst hj;simp only[Nat.one_ne_zero,if_false,h1,Option.map_some,Option.getD_some];exact h6.freeV_mono (fun b q hi=>⟨rfl,Qt hr h x9 hi⟩) (Qs hr h x9) h4.1
        simp only[Oi]at hs;subst hs;simp[D.free,D.Xw]at hf
    simp only[Oi]at hs;subst hs;simp[D.free,D.Xw]at hf
  simp only[Oi]at hs;subst hs;exact hv.free_mono (fun b q hi=>⟨rfl,Qt hr h x9 hi⟩) (Qs hr h x9) hf
theorem Va:∀{ds rs:List D} {vs:List Value},VL w' ρ' S2.heap ds vs→Bl S.heap.length S2.heap ds=some rs→rs.all D.free=true→VL w' ρ S.heap rs vs
 | [],rs,_,.nil,hs,_=>by simp only[Bl,Oi]at hs;subst hs;exact .nil
 | d :: ds, rs, _, .cons hd ht, hs, hf => by
  unfold Bl at hs;split at hs
  ·
   rename_i x y hx hy;simp only[Oi]at hs;subst hs;simp only[List.all_cons,Bool.and_eq_true]at hf;exact .cons (Km hr zN h x9 hd hx hf.1) (Va ht hy hf.2)
  simp at hs
theorem Ve{d r:D}{v:Value}(hv:VR w' ρ' S2.heap d v)(hs:Xp S.heap.length S2.heap d=some r)(hf:r.Xq=true):VR w' ρ S.heap r v:=by
 unfold Xp at hs;split at hs
 ·
  simp only[Om]at hs;obtain⟨rs,qY,rfl⟩:=hs
  cases hv with
  | agg _ vs hl hc hh =>
   have h1:=Va hr zN h x9 (VL.of hl hh) qY hf;exact .agg rs vs h1.len (List.all_eq_true.2 fun x hx=>Mx (List.all_eq_true.1 hf x hx)) (fun j d v=>h1.get)
 rename_i hna;refine Km hr zN h x9 hv hs ?_;unfold D.Xq at hf;split at hf
 ·
  rename_i cs;unfold snap at hs
  repeat' (first | (simp at hs;done) | (split at hs))
  all_goals try (simp at hs;done)
  all_goals
   simp only[Oi]at hs;subst hs;exact absurd rfl (hna cs)
 exact hf
theorem R9:∀{ds rs:List D} {vs:List Value},VL w' ρ' S2.heap ds vs→Ah S.heap.length S2.heap ds=some rs→rs.all D.Xq=true→VL w' ρ S.heap rs vs
 | [],rs,_,.nil,hs,_=>by simp only[Ah,Oi]at hs;subst hs;exact .nil
 | d :: ds, rs, _, .cons hd ht, hs, hf => by
  unfold Ah at hs;split at hs
  ·
   rename_i x y hx hy;simp only[Oi]at hs;subst hs;simp only[List.all_cons,Bool.and_eq_true]at hf;exact .cons (Ve hr zN h x9 hd hx hf.1) (R9 ht hy hf.2)
  simp at hs
theorem snapR_leave{d r:D}{v:Value}(hv:VR w' ρ' S2.heap d v)(hs:Xt S.heap.length S2.heap d=some r)(hf:r.Xr=true):VR w' ρ S.heap r v:=by
 unfold Xt at hs;split at hs
 ·
  simp only[Om]at hs;obtain⟨rs,qY,rfl⟩:=hs
  cases hv with
  | tup _ vs hl hh =>
   have h1:=R9 hr zN h x9 (VL.of hl hh) qY hf;exact .tup rs vs h1.len (fun j d v=>h1.get)
 rename_i hna;refine Ve hr zN h x9 hv hs ?_;unfold D.Xr at hf;split at hf
 ·
  rename_i cs;unfold Xp at hs;split at hs
  ·
   simp at hs
  unfold snap at hs
  repeat' (first | (simp at hs;done) | (split at hs))
  all_goals try (simp at hs;done)
  all_goals
   simp only[Oi]at hs;subst hs;exact absurd rfl (hna cs)
 exact hf
theorem O0 : ∀ (k : Nat) {d r : D} {v : Value}, VR w' ρ' S2.heap d v → Og S.heap.length S2.heap k d = some r → r.free = true → VR w' ρ S.heap r v
  | 0,d,r,v,hv,hs,hf=>Km hr zN h x9 hv (by simpa only [Og] using hs) hf
  | k + 1, d, r, v, hv, hs, hf => by
    by_cases hm:∃g v lo n cap,d=.msl g v lo n cap
    · obtain ⟨g, ver, lo, n, cap, rfl⟩ := hm;rw[snapD_msl]at hs
      cases hv with
      | msl _ _ _ _ _ A c ob xV xB hg yV xK xI =>
        simp only[hg]at hs;by_cases hk:ob.ver=ver∧S.heap.length≤g∧ob.kind=0
        · rw [if_pos hk] at hs
          cases xE:((ob.rows.drop lo).take n).mapM (fun r=>r.mapM (Og S.heap.length S2.heap k)) with
          | none=>rw[xE]at hs;simp at hs
          | some rows =>
              rw[xE]at hs;simp only at hs;rw[Option.ite_none_right_eq_some]at hs;obtain⟨xw,hs⟩:=hs;simp only[Oi]at hs;subst hs;obtain⟨b,hρ,xU,hA,rP⟩:=xI hk.1;obtain⟨o1,xG,cur,hc,hz,⟨cc,yB,yw,uY,vQ⟩,hl,yO,hh⟩:=zN.cel hρ hg xK;rw[hg]at xG;injection xG with xG;subst xG;obtain⟨m1,m2⟩:=Pg xE;have xg:((ob.rows.drop lo).take n).length=n:=by simp;omega
              have back:∀(i:Nat) (r':List D),rows[i]?=some r'→∃r0,((ob.rows.drop lo).take n)[i]?=some r0∧r'.length=r0.length∧∀(j:Nat) (d':D),r'[j]?=some d'→∃d0,r0[j]?=some d0∧Og S.heap.length S2.heap k d0=some d':=by
                intro i r' hi;have zh:i<((ob.rows.drop lo).take n).length:=by rw[←m1];exact lt_of_some hi
                obtain⟨r1,h1,h2⟩:=m2 i _ (Lg zh);rw[hi]at h1;injection h1 with h1;subst h1;obtain⟨m3,m4⟩:=Pg h2;refine⟨_,Lg zh,m3,fun j d' hj=>?_⟩;have yP:j<((ob.rows.drop lo).take n)[i].length:=by rw[←m3];exact lt_of_some hj
                obtain⟨d1,h3,h4⟩:=m4 j _ (Lg yP);rw[hj]at h3;injection h3 with h3;subst h3;exact⟨_,Lg yP,h4⟩
              have yL:∀(i:Nat) (r':List D) (j:Nat) (d':D),rows[i]?=some r'→r'[j]?=some d'→d'.free=true:=by
                intro i r' j d' hi hj;have:=List.all_eq_true.1 xw r' (Lm hi);exact List.all_eq_true.1 this d' (Lm hj)
              have xk:∀(i:Nat) (r':List D) (j:Nat) (d':D),rows[i]?=some r'→r'[j]?=some d'→w'.cell? ⟨b,lo*ob.sz+i*ob.sz+j,none⟩=some (cur.getD ((lo+i)*ob.sz+j) undef)∧Imm w' ρ S.heap b (lo*ob.sz+i*ob.sz+j)∧VR w' ρ S.heap d' (cur.getD ((lo+i)*ob.sz+j) undef):=by
                intro i r' j d' hi hj;obtain⟨r0,h1,h2,h3⟩:=back i r' hi;obtain⟨d0,h4,h5⟩:=h3 j d' hj;obtain⟨h6,h7⟩:=Cz h1;obtain⟨q1,q2,v,uy,vL⟩:=hh _ r0 j d0 h6 h4;obtain⟨h8,h9⟩:=Array.getElem?_eq_some_iff.1 uy;have zP:cur.getD ((lo+i)*ob.sz+j) undef=v:=by simp[Array.getD,h8,h9]
                rw[zP];refine⟨?_,⟨lt_of_heap hc,fun hx=>(zN.hid _ _ (by rw[h.hid];exact hx)).2 g hρ,fun g' hg'=>?_⟩,O0 k vL h5 (yL i r' j d' hi hj)⟩
                · rw [cell_of_row w' b _ cur ob.elem (0, 0) hc, ← uy];congr 1;rw[Nat.add_mul]
                obtain⟨q1,q2,q3⟩:=Ms hr h x9 hg';have:=zN.inj g' g b q2 hρ;omega
              refine .sl ob.sz _ _ A n c (by rw[m1,xg]) xV (fun k hk'=>?_) (fun r' hr'=>?_) b (lo*ob.sz) (fun i j=>cur.getD ((lo+i)*ob.sz+j) undef) (fun xA=>hA ?_) (fun i r' j d' hi hj=>?_) (fun i r' j d' hi hj=>(xk i r' j d' hi hj).2.2)
              · cases cap with
                | some c'=>simp only[Oi]at hk';subst hk';exact xB _ rfl
                | none =>
                  simp only at hk';split at hk'
                  · simp at hk'
                  rename_i hgr;simp only[Oi]at hk';obtain⟨cur',y8,w9⟩:=rP rfl;rw[hc]at y8;injection y8 with y8;injection y8 with y8;subst y8;have h1:=vQ (by simpa using hgr);rw[yB]at w9;have:=Nat.eq_of_mul_eq_mul_right hz w9;omega
              · obtain ⟨i, hi, rfl⟩ := List.mem_iff_getElem.1 hr';obtain⟨r0,h1,h2,_⟩:=back i _ (Lg hi);rw[h2];exact hl r0 (Eb (Lm h1))
              · left;intro h0;apply xA;apply List.eq_nil_of_length_eq_zero;rw[m1,xg,h0]
              exact⟨(xk i r' j d' hi hj).1,(xk i r' j d' hi hj).2.1,yL i r' j d' hi hj⟩
        rw[if_neg hk]at hs;exact Km hr zN h x9 (.msl _ _ _ _ _ A c ob xV xB hg yV xK xI) hs hf
    rw[Vg _ _ _ (fun g v lo n cap he=>hm ⟨g,v,lo,n,cap,he⟩)]at hs;exact Km hr zN h x9 hv hs hf
theorem Sa {d r : D} {v : Value} (hv : VR w' ρ' S2.heap d v) (hs : snapDV S.heap.length S2.heap d = some r) (hf : r.Xq = true) : VR w' ρ S.heap r v := by
  unfold snapDV at hs;split at hs
  · rename_i cs;simp only[Om]at hs;obtain⟨cs',h1,rfl⟩:=hs;obtain⟨m1,m2⟩:=Pg h1
    cases hv with
    | agg _ vs hl hc hh =>
      simp only[D.Xq,List.all_eq_true]at hf
      have hx:∀(j:Nat) (d:D) (v:Value),cs'[j]?=some d→vs[j]?=some v→VR w' ρ S.heap d v:=by
        intro j d v hj hvj;have yP:j<cs.length:=by rw[←m1];exact lt_of_some hj
        obtain⟨y,h3,h4⟩:=m2 j _ (Lg yP);rw[hj]at h3;injection h3 with h3;subst h3;exact O0 hr zN h x9 6 (hh j _ v (Lg yP) hvj) h4 (hf d (Lm hj))
      exact .agg cs' vs (by rw[hl,m1]) (List.all_eq_true.2 fun d hd=>Mx (hf d hd)) hx
  rename_i hn;exact O0 hr zN h x9 6 hv hs (freeV_cell ((snapD_cell hs).1 fun cs he=>hn cs he) hf)
theorem snapDR_leave{d r:D}{v:Value}(hv:VR w' ρ' S2.heap d v)(hs:snapDR S.heap.length S2.heap d=some r)(hf:r.Xr=true):VR w' ρ S.heap r v:=by
 unfold snapDR at hs;split at hs
 ·
  rename_i ds;simp only[Om]at hs;obtain⟨ds',h1,rfl⟩:=hs;obtain⟨m1,m2⟩:=Pg h1
  cases hv with
  | tup _ vs hl hh =>
   simp only[D.Xr,List.all_eq_true]at hf;refine .tup ds' vs (by rw[hl,m1]) fun j d v hj hvj=>?_;have yP:j<ds.length:=by rw[←m1];exact lt_of_some hj
   obtain⟨y,h3,h4⟩:=m2 j _ (Lg yP);rw[hj]at h3;injection h3 with h3;subst h3;exact Sa hr zN h x9 (hh j _ v (Lg yP) hvj) h4 (hf d (Lm hj))
 rename_i hn;refine Sa hr zN h x9 hv hs (freeR_val (fun cs=>?_) hf);unfold snapDV at hs;split at hs
 ·
  simp only[Om]at hs;obtain⟨_,_,rfl⟩:=hs;intro he;cases he
 exact (snapD_cell hs).2 (fun cs he=>hn cs he) cs
end
theorem leaveD_ok{w':World}{ρ':Xn}{S2 S' T:St}{r0 r:D}{v:Value}{wr:Bool}(hr:Rel w ρ S.heap)(zN:Rel w' ρ' S2.heap)(h:Stp w ρ ⟨S.heap,S.heap.length⟩ w' ρ' S2)(hv:VR w' ρ' S2.heap r0 v)(hl:leaveD S T r0 S2=some (r,S',wr)):S'=T∧wr=false∧r.Xr=true∧Xu w ρ S r S false v w':=by
 unfold leaveD at hl;split at hl
 ·
  rename_i x9;split at hl
  ·
   rename_i r1 hs;split at hl
   ·
    rename_i hf;simp only[Oi,Pi_]at hl;obtain⟨rfl,rfl,rfl⟩:=hl;have xH:=h.clean hr x9;refine⟨rfl,rfl,hf,ρ,⟨hr.inj,fun g b hb=>?_,hr.hids xH,hr.globs xH,hr.lpss xH⟩,xH,snapDR_leave hr zN h x9 hv hs hf,fun _=>⟨⟨h.os,h.tape,h.output,h.size,fun b hb=>?_⟩,rfl,rfl⟩⟩
    ·
     obtain⟨o,ho,hk⟩:=hr.obj g b hb;exact⟨o,ho,hk.mono xH (h.keep g b o ho (Nat.lt_of_lt_of_le (lt_of_some ho) x9) hb)⟩
    by_cases yA:∃g,ρ g=some b
    ·
     obtain⟨g,hg⟩:=yA;obtain⟨o,ho,_⟩:=hr.obj g b hg;exact h.keep g b o ho (Nat.lt_of_lt_of_le (lt_of_some ho) x9) hg
    exact (h.out b hb fun g hg=>yA ⟨g,hg⟩).1
   simp at hl
  simp at hl
 simp at hl
theorem leave_ok {w' : World} {ρ' : Xn} {S2 S' : St} {raw : Bool} {r0 r : D} {v : Value} {wr : Bool} (hr : Rel w ρ S.heap) (zN : Rel w' ρ' S2.heap) (h : Stp w ρ ⟨S.heap, S.heap.length⟩ w' ρ' S2) (hv : VR w' ρ' S2.heap r0 v) (hl : leave raw S r0 S2 = some (r, S', wr)) : Xu w ρ S r S' wr v w' := by
  unfold leave at hl;split at hl
  · simp only [Oi, Pi_] at hl;obtain⟨rfl,rfl,rfl⟩:=hl;exact⟨ρ',zN,h.relow,hv,by simp⟩
  split at hl
  · rename_i r' hc;simp only[Oi,Pi_]at hl;obtain⟨rfl,rfl,rfl⟩:=hl;split at hc
    · rename_i x9;split at hc
      · rename_i r1 hs;split at hc
        · rename_i hf;simp only[Oi]at hc;subst hc;have xH:=h.clean hr x9;refine⟨ρ,⟨hr.inj,fun g b hb=>?_,hr.hids xH,hr.globs xH,hr.lpss xH⟩,xH,snapR_leave hr zN h x9 hv hs hf,fun _=>⟨⟨h.os,h.tape,h.output,h.size,fun b hb=>?_⟩,rfl,rfl⟩⟩
          · obtain ⟨o, ho, hk⟩ := hr.obj g b hb;exact⟨o,ho,hk.mono xH (h.keep g b o ho (Nat.lt_of_lt_of_le (lt_of_some ho) x9) hb)⟩
          by_cases yA:∃g,ρ g=some b
          · obtain ⟨g, hg⟩ := yA;obtain⟨o,ho,_⟩:=hr.obj g b hg;exact h.keep g b o ho (Nat.lt_of_lt_of_le (lt_of_some ho) x9) hg
          exact (h.out b hb fun g hg=>yA ⟨g,hg⟩).1
        simp at hc
      simp at hc
    simp at hc
  split at hl
  · rename_i r' hs;split at hl
    · rename_i hc;obtain⟨x9,xg⟩:=hc;simp only[Oi,Pi_]at hl;obtain⟨rfl,rfl,rfl⟩:=hl;have xH:=h.clean hr x9
      have hheap:S2.heap=S.heap:=by
        refine List.ext_getElem? fun g=>?_
        cases hg:S.heap[g]? with
        | none =>
          have:=List.getElem?_eq_none_iff.1 hg;exact List.getElem?_eq_none (by omega)
        | some o =>
          obtain⟨o',h1,_,h3,_⟩:=h.obj g o hg;rw[h1,h3 (Nat.lt_of_lt_of_le (lt_of_some hg) x9)]
      have hρ : ρ' = ρ := by
        have hX:=h.hid
        have hF:∀g,ρ' g=ρ g:=by
          intro g
          cases hg:S.heap[g]? with
          | none =>
            have hn:=List.getElem?_eq_none_iff.1 hg
            have e1:ρ g=none:=by
              cases hb:ρ g with
              | none=>rfl
              | some b=>obtain⟨o,ho,_⟩:=hr.obj g b hb;rw[hg]at ho;cases ho
            have e2:ρ' g=none:=by
              cases hb:ρ' g with
              | none=>rfl
              | some b=>obtain⟨o,ho,_⟩:=zN.obj g b hb;rw[hheap,hg]at ho;cases ho
            rw[e1,e2]
          | some o =>
            obtain⟨o',h1,_,h3,h4⟩:=h.obj g o hg;have:=h3 (Nat.lt_of_lt_of_le (lt_of_some hg) x9);subst this;exact (h4 rfl).1
        obtain⟨f,X⟩:=ρ;obtain⟨f',X'⟩:=ρ';have hX:X'=X:=hX;have hF:∀g,f' g=f g:=hF;rw[hX,funext hF]
      subst hρ;rw[hheap]at zN hv hs;refine⟨ρ',zN,xH,snapR_ok zN (Nat.le_refl _) hv hs,fun _=>⟨⟨h.os,h.tape,h.output,h.size,fun b hb=>?_⟩,rfl,rfl⟩⟩;by_cases yA:∃g,ρ' g=some b
      · obtain ⟨g, hg⟩ := yA;obtain⟨o,ho,_⟩:=hr.obj g b hg;exact h.keep g b o ho (Nat.lt_of_lt_of_le (lt_of_some ho) x9) hg
      exact (h.out b hb fun g hg=>yA ⟨g,hg⟩).1
    simp only[Oi,Pi_]at hl;obtain⟨rfl,rfl,rfl⟩:=hl;exact⟨ρ',zN,h.relow,snapR_ok zN (Nat.le_refl _) hv hs,by simp⟩
  simp at hl
end
def FnsOK (P:Program) (G:Nat→Option (List D)) (L:Prg):Prop:=∀f F,L.fns f=some F→∃fn kd slots,P.funcs[f]?=some fn∧Be P kd slots fn=some F∧(∀g row,kd.glob g=some row→G g=some row)∧(L.dfs f=true∨Ee F.body=true)
def DfnOK (P:Program) (G:Nat→Option (List D)) (L:Prg):Prop:=∀f F,L.dfn f=some F→∃fn kd slots,P.funcs[f]?=some fn∧lowFnD P kd slots fn=some F∧∀g row,kd.glob g=some row→G g=some row
def ExtOK (P:Program) (G:Nat→Option (List D)) (ext:FuncId→List D→Option D):Prop :=
 ∀f ds r,ext f ds=some r→∀(S:St) w (ρ:Xn) vs,ρ.X.G=G→Rel w ρ S.heap→VL w ρ S.heap ds vs →
  (callFunc f vs.toArray).run P w=.ok (.enter f vs.toArray) w∧Calls P f vs.toArray w fun e w'=>∃v,e=.returned v∧Xu w ρ S r S false v w'
def MemOK (P:Program) (G:Nat→Option (List D)) (m:FuncId→List D→St→Option (D × St × Bool)):Prop :=
 ∀f ds S r S' wr,m f ds S=some (r,S',wr)→(wr=false→S'=S)∧∀w (ρ:Xn) vs,ρ.X.G=G→Rel w ρ S.heap→VL w ρ S.heap ds vs →
  (callFunc f vs.toArray).run P w=.ok (.enter f vs.toArray) w∧Calls P f vs.toArray w fun e w'=>∃v,e=.returned v∧Xu w ρ S r S' wr v w'
def PrgOK (P:Program) (G:Nat→Option (List D)) (L:Prg):Prop:=FnsOK P G L∧ExtOK P G L.ext∧DfnOK P G L∧MemOK P G L.mem
theorem E5{call:Aq}{inst:Nat→HF→Aq}{N:Nat}:∀(c:Xl),Ee c=true→∀(env:List D) (S:St) (e:Xm) (env':List D) (S':St),Bc call inst N c env S=some (e,env',S')→env'.length=env.length
 | .skip,_,env,S,e,env',S',h=>by simp only[Bc,Oi,Pi_]at h;rw[←h.2.1]
 | .ret,_,env,S,e,env',S',h=>by simp only[Bc,Oi,Pi_]at h;rw[←h.2.1]
 | .exit i,_,env,S,e,env',S',h=>by simp only[Bc,Oi,Pi_]at h;rw[←h.2.1]
 | .region ops exps, _, env, S, e, env', S', h => by
  simp only[Bc]at h;split at h
  ·
   simp only[Oi,Pi_]at h;rw[←h.2.1,Jt]
  simp at h
 | .drawn ops exps news, _, env, S, e, env', S', h => by
  simp only[Bc]at h;split at h
  ·
   simp only[Oi,Pi_]at h;rw[←h.2.1,Jt]
  simp at h
 | .seq a b, hn, env, S, e, env', S', h => by
  simp only[Ee,Bool.and_eq_true]at hn;simp only[Bc]at h;split at h
  ·
   rename_i env1 S1 h1;rw[E5 b hn.2 _ _ _ _ _ h,E5 a hn.1 _ _ _ _ _ h1]
  exact E5 a hn.1 _ _ _ _ _ h
 | .cond c a b, hn, env, S, e, env', S', h => by
  simp only[Ee,Bool.and_eq_true]at hn;simp only[Bc]at h;split at h
  ·
   exact E5 a hn.1 _ _ _ _ _ h
  ·
   exact E5 b hn.2 _ _ _ _ _ h
  simp at h
 | .block i c, hn, env, S, e, env', S', h => by
  simp only[Ee]at hn;simp only[Bc]at h;split at h
  ·
   rename_i j env1 S1 h1;have h2:=E5 c hn _ _ _ _ _ h1;split at h
   ·
    simp only[Oi,Pi_]at h;rw[←h.2.1,h2]
   simp only[Oi,Pi_]at h;rw[←h.2.1,h2]
  exact E5 c hn _ _ _ _ _ h
 | .loop c, hn, env, S, e, env', S', h => by
  simp only[Ee]at hn;simp only[Bc]at h
  have key:∀(n:Nat) (env:List D) (S:St),Gi (Bc call inst N c) n env S=some (e,env',S')→env'.length=env.length:=by
   intro n
   induction n with
   | zero=>intro env S h;simp[Gi]at h
   | succ n ih =>
    intro env S h;simp only[Gi]at h;split at h
    ·
     rename_i env1 S1 h1;rw[ih _ _ h,E5 c hn _ _ _ _ _ h1]
    exact E5 c hn _ _ _ _ _ h
  exact key N env S h
 | .dfr x,hn,env,S,e,env',S',h=>by simp[Ee]at hn
 | .rfunc ..,hn,env,S,e,env',S',h=>by simp[Ee]at hn
 | .fail,_,env,S,e,env',S',h=>by simp[Bc]at h
theorem VL.reverse{w:World}{ρ:Xn}{H:List Xh}{ds:List D}{vs:List Value}(h:VL w ρ H ds vs):VL w ρ H ds.reverse vs.reverse:=by
 induction h with
 | nil=>exact .nil
 | cons h _ ih=>rw[List.reverse_cons,List.reverse_cons];exact ih.append (.cons h .nil)
theorem FR.mono{w w':World}{ρ ρ':Xn}{S S':St}{nt:Nat}{σ:Nat→D}{a:Act}(hs:Stp w ρ S w' ρ' S')(h:FR w ρ S.heap nt σ a):FR w' ρ' S'.heap nt σ a:=⟨h.1,fun t ht=>(h.2 t ht).mono hs⟩
theorem entry_fr{w:World}{ρ:Xn}{H:List Xh}{ds:List D}{vs:List Value}{slots:List Nat}{nt:Nat}(hv:VL w ρ H ds vs)(hn:vs.length≤nt):FR w ρ H nt (sig slots [] [] (slots.map fun s=>ds.getD s .undef)) { tmps:=vs.toArray++Array.replicate (nt-vs.toArray.size) undef,defers:=[] }:=by
 have wU:=hv.len;refine⟨by simp;omega,fun t ht=>?_⟩;unfold sig;simp only[G5]
 cases hj:idxOf slots t with
 | none=>exact .undef _
 | some j =>
  have hm:=F6 hj;simp only[List.getD,Lp_,hm,Option.map_some,Option.getD_some];by_cases zQ:t<vs.length
  ·
   have h1:ds[t]?=some (ds[t]'(by omega)):=Lg (by omega)
   have h2:(vs.toArray++Array.replicate (nt-vs.toArray.size) undef).getD t undef=vs[t]:=by
    rw[Array.getD_eq_getD_getElem?,Array.getElem?_append_left (by simpa using zQ)];simp[zQ]
   rw[h1,h2];exact hv.get h1 (Lg zQ)
  rw[List.getElem?_eq_none (by omega)];exact .undef _
theorem mvOf_some{o:Op}{t:Tmp}(h:mvOf o=some t):o=.move (.tmp t)∨o=.assign (.tmp t):=by
 unfold mvOf at h;split at h<;>simp_all
theorem recoverOf_some {ops : Array Oper} {t u : Tmp} (h : Uh ops = some (t, u)) : ∃ (a b : Oper) (args : Array Operand) (tys : Array TypeId), ops = #[a, b] ∧ a.op = .call ⟨.builtin .recover, args, tys⟩ ∧ a.guard = none ∧ a.dst = some t ∧ (b.op = .move (.tmp t) ∨ b.op = .assign (.tmp t)) ∧ b.guard = none ∧ b.dst = some u ∧ t ≠ u := by
  unfold Uh at h;split at h
  · rename_i a b hab;split at h
    · rename_i c t1 t2 u1 h1 h2 h3 h4 h5 h6;obtain⟨ce,args,tys⟩:=c;simp only at h;split at h
      · split at h
        · rename_i hh;simp only[Oi,Pi_]at h;obtain⟨rfl,rfl⟩:=h;obtain⟨rfl,xA⟩:=hh;exact⟨a,b,args,tys,by rw[←Array.toList_inj];simpa using hab,h1,h2,h3,mvOf_some h4,h5,h6,xA⟩
        simp at h
      simp at h
    simp at h
  simp at h
theorem VR.freeR_mono{w w':World}{ρ ρ':Xn}{H H':List Xh}(hi:∀b q,Imm w ρ H b q→w'.cell? ⟨b,q,none⟩=w.cell? ⟨b,q,none⟩∧Imm w' ρ' H' b q)(ho:∀b es c,w.heap[b]?=some (.map es c)→(∀g,ρ g≠some b)→¬ρ.X b 0→w'.heap[b]?=w.heap[b]?∧(∀g,ρ' g≠some b)∧¬ρ'.X b 0){d:D}{v:Value}(h:VR w ρ H d v)(hf:d.Xr=true):VR w' ρ' H' d v:=by
 unfold D.Xr at hf;split at hf
 ·
  cases h with
  | tup _ vs hl hh=>exact .tup _ vs hl fun j d v h1 h2=>(hh j d v h1 h2).freeV_mono hi ho (List.all_eq_true.1 hf d (Lm h1))
 exact h.freeV_mono hi ho hf
def hide (ρ:Xn) (H:List Xh):Xn:=⟨fun _=>none,⟨fun b q=>ρ.X b q∨∃g,ρ g=some b∧¬∃o,H[g]?=some o∧o.kind=1∧q<o.rows.length*o.sz,ρ.X.G,fun _=>none⟩⟩
theorem hide_in{w:World}{ρ:Xn}{H:List Xh}{d:D}{v:Value}(h:VR w ρ H d v)(hf:d.Xq=true):VR w (hide ρ H) [] d v:=by
  refine h.freeV_mono (fun b q hi=>⟨rfl,hi.1,fun hx=>?_,fun g h=>(by cases h)⟩) (fun b es c hb hg hx=>⟨rfl,fun g h=>(by cases h),fun hx'=>?_⟩) hf
  · rcases hx with hx | ⟨g, hg, hn⟩
    · exact hi.2.1 hx
    exact hn (hi.2.2 g hg)
  rcases hx' with hx' | ⟨g,hg',_⟩
  · exact hx hx'
  exact hg g hg'
theorem hide_rel{w:World}{ρ:Xn}{H:List Xh}(hr:Rel w ρ H):Rel w (hide ρ H) [] :=
 ⟨fun g g' b h=>(by cases h),fun g b h=>(by cases h),fun b q hx=>⟨(by
  rcases hx with hx | ⟨g,hg,_⟩
  ·
   exact (hr.hid b q hx).1
  exact hr.lt hg),fun g h=>(by cases h)⟩,fun g row hg=>⟨hide_in (hr.glob g row hg).1 rfl,fun k h=>(by cases h),(hr.glob g row hg).2.2⟩,fun g x h=>(by cases h)⟩
theorem hide_out{w:World}{ρ:Xn}{H:List Xh}(hr:Rel w ρ H){d:D}{v:Value}(h:VR w (hide ρ H) [] d v)(hf:d.Xr=true):VR w ρ H d v:=by
 have key:∀b q,¬(hide ρ H).X b q→¬ρ.X b q∧∀g,ρ g=some b→∃o,H[g]?=some o∧o.kind=1∧q<o.rows.length*o.sz:=by
  intro b q hx;refine⟨fun h=>hx (.inl h),fun g hg=>?_⟩;exact Classical.byContradiction fun hn=>hx (.inr ⟨g,hg,hn⟩)
 refine h.freeR_mono (fun b q hi=>⟨rfl,hi.1,key b q hi.2.1⟩) (fun b es c hb hg hx=>⟨rfl,fun g hg'=>?_,(key b 0 hx).1⟩) hf;obtain⟨o,ho,hk,_⟩:=(key b 0 hx).2 g hg';obtain⟨o',ho',yS⟩:=hr.obj g b hg';rw[ho]at ho';injection ho' with ho';subst ho';obtain⟨cur,hc,_⟩:=yS.1 (by omega);rw[hb]at hc;cases hc
theorem below_post{w w':World}{ρ:Xn}{S:St}{r:D}{v:Value}(hr:Rel w ρ S.heap)(zF:Ext w w')(hv:Rel w' ρ S.heap→Stp w ρ S w' ρ S→VR w' ρ S.heap r v):Xu w ρ S r S false v w':=by
 have xH:Stp w ρ S w' ρ S:=⟨rfl,zF.os,zF.tape,zF.output,zF.size,Nat.le_refl _,fun b hb hg=>⟨zF.block b hb,hg⟩,fun b q hi=>⟨El (zF.block b hi.1) q,Nat.lt_of_lt_of_le hi.1 zF.size,hi.2⟩,
  fun g b o ho hg hb=>zF.block b (hr.lt hb),fun g o ho=>⟨o,ho,⟨Nat.le_refl _,rfl⟩,fun _=>rfl,fun _=>⟨rfl,rfl,rfl,Nat.le_refl _,fun b cur hb hc=>⟨cur,(zF.block b (hr.lt hb)).trans hc,rfl⟩⟩⟩,fun g x hX hb hl=>by
  obtain⟨j,q1,q2⟩:=hl
  exact⟨j,q1,(zF.block x.b (hr.lt hb)).trans q2⟩⟩
 have qE:Rel w' ρ S.heap:=⟨hr.inj,fun g b hb=>by
  obtain⟨o,ho,hk⟩:=hr.obj g b hb
  exact⟨o,ho,hk.mono xH (zF.block b (hr.lt hb))⟩,hr.hids xH,hr.globs xH,hr.lpss xH⟩
 exact⟨ρ,qE,xH,hv qE xH,fun _=>⟨zF,rfl,rfl⟩⟩
open Go.RowKit
def K8:Xm→Exit
 | .normal=>.normal
 | .ret=>.ret
 | .exit i=>.exit i
def dfOf:Value→Deferred
 | .func fn first caps=>⟨.fn fn caps,first⟩
 | .int .u8 n=>⟨.collected n.toNat,#[]⟩
 | _=>⟨.nil,#[]⟩
def isMk:Value→Option Nat
 | .int .u8 n=>some n.toNat
 | _=>none
def MK (n0:Nat) (w:World) (ρ:Xn) (vs:List Value):Prop:=(vs.filterMap isMk).Nodup∧∀k∈vs.filterMap isMk,n0≤k∧w.heap[k]?=some (.deferred (some []))∧∀g,ρ g≠some k
def DX (n0:Nat) (w:World) (ρ:Xn) (H:List Xh) (n:Nat) (env:List D) (df:List Deferred):Prop:=n0≤w.heap.size∧n≤env.length∧∃vs,VL w ρ H (env.drop n) vs∧df=(vs.map dfOf).reverse∧MK n0 w ρ vs
theorem DX.len{n0:Nat}{w:World}{ρ:Xn}{H:List Xh}{n:Nat}{env:List D}{df:List Deferred}(h:DX n0 w ρ H n env df):n≤env.length:=h.2.1
theorem DX.nil{n0:Nat}{w:World}{ρ:Xn}{H:List Xh}{n:Nat}{env:List D}(hn:n0≤w.heap.size)(h:env.length=n):DX n0 w ρ H n env []:=⟨hn,by omega,[],by rw[List.drop_eq_nil_of_le (by omega)];exact .nil,rfl,List.nodup_nil,fun k hk=>by simp at hk⟩
theorem MK.mono{n0:Nat}{w w':World}{ρ ρ':Xn}{S S':St}{vs:List Value}(hs:Stp w ρ S w' ρ' S')(h:MK n0 w ρ vs):MK n0 w' ρ' vs :=
 ⟨h.1,fun k hk=>by
  obtain⟨h1,h2,h3⟩:=h.2 k hk;obtain⟨k1,k2⟩:=hs.out k (lt_of_heap h2) h3
  exact⟨h1,k1.trans h2,k2⟩⟩
theorem DX.mono{n0:Nat}{w w':World}{ρ ρ':Xn}{S S':St}{n:Nat}{env:List D}{df:List Deferred}(hs:Stp w ρ S w' ρ' S')(h:DX n0 w ρ S.heap n env df):DX n0 w' ρ' S'.heap n env df:=by
 obtain⟨h0,h1,vs,h2,h3,h4⟩:=h;exact⟨Nat.le_trans h0 hs.size,h1,vs,h2.mono hs,h3,h4.mono hs⟩
theorem DX.exps{n0:Nat}{w:World}{ρ:Xn}{H:List Xh}{dsts:List (Option Tmp)}{slots:List Nat}{vals env:List D}{df:List Deferred}(h:DX n0 w ρ H slots.length env df):DX n0 w ρ H slots.length (exports (H6 dsts slots 0) vals env) df:=by
 obtain⟨h0,h1,vs,h2,h3⟩:=h;refine⟨h0,by rw[Jt];exact h1,vs,?_,h3⟩;rw[Ti fun p hp=>by have:=Uw p hp;omega];exact h2
theorem DX.push{n0:Nat}{w:World}{ρ:Xn}{H:List Xh}{n:Nat}{env:List D}{df:List Deferred}{d:D}{v:Value}(h:DX n0 w ρ H n env df)(hv:VR w ρ H d v)(hm:isMk v=none):DX n0 w ρ H n (env++[d]) (dfOf v::df):=by
  obtain⟨h0,h1,vs,h2,h3,h4⟩:=h;refine⟨h0,by simp;omega,vs++[v],?_,by simp[h3],?_⟩
  · rw [List.drop_append_of_le_length h1];exact h2.append (.cons hv .nil)
  have:(vs++[v]).filterMap isMk=vs.filterMap isMk:=by simp[List.filterMap_append,hm]
  unfold MK;rw[this];exact h4
theorem DX.mark{n0 k:Nat}{w w':World}{ρ ρ':Xn}{S S':St}{n:Nat}{env:List D}{df:List Deferred}(h:DX n0 w ρ S.heap n env df)(hs:Stp w ρ S w' ρ' S')(hk:w.heap.size≤k)(hd:w'.heap[k]?=some (.deferred (some [])))(hf:∀g,ρ' g≠some k) :
    DX n0 w' ρ' S'.heap n (env++[.junk]) (⟨.collected k,#[]⟩::df):=by
  obtain⟨h0,h1,vs,h2,h3,h4⟩:=h;have h5:=h4.mono hs;refine⟨Nat.le_trans h0 hs.size,by simp;omega,vs++[.int .u8 k],?_,by simp[h3,dfOf],?_⟩
  · rw [List.drop_append_of_le_length h1];exact (h2.mono hs).append (.cons (.junk k) .nil)
  have:(vs++[Value.int .u8 k]).filterMap isMk=vs.filterMap isMk++[k]:=by simp[List.filterMap_append,isMk]
  unfold MK;rw[this];refine⟨List.nodup_append.2 ⟨h5.1,by simp,fun a ha b hb e=>?_⟩,fun j hj=>?_⟩
  · simp at hb;subst hb;subst e;have:=lt_of_heap (h4.2 _ ha).2.1;omega
  rcases List.mem_append.1 hj with hj | hj
  · exact h5.2 j hj
  simp at hj;subst hj;exact⟨by omega,hd,hf⟩
def CQ (n0:Nat) (w:World) (ρ:Xn) (S:St) (slots:List Nat) (nt:Nat) (e:Xm) (env':List D) (S':St) (ex:Exit) (a':Act) (w':World):Prop :=
 ∃ρ',K8 e=ex∧Rel w' ρ' S'.heap∧Stp w ρ S w' ρ' S'∧FR w' ρ' S'.heap nt (sig slots [] [] env') a'∧DX n0 w' ρ' S'.heap slots.length env' a'.defers
def Hl (L:Nat→Option Fix) (g:Nat) (x:Fix):Nat→Option Fix:=fun k=>if k=g then some x else L k
theorem J7(L:Nat→Option Fix)(g:Nat)(x:Fix):Hl L g x g=some x:=if_pos rfl
theorem Qi(L:Nat→Option Fix){g k:Nat}(x:Fix)(h:k≠g):Hl L g x k=L k:=if_neg h
def RndH (P:Program) (G:Nat→Option (List D)) (L0:Nat→Option Fix) (x:Fix) (h:HF):Prop:=∀ds S r S' wr,h ds S=some (r,S',wr)→wr=true∧∀w (ρ:Xn) vs,XOK G L0 ρ.X→Rel w ρ S.heap→VL w ρ S.heap ds vs→RndOK P x vs w fun e w'=>∃v,e=.returned v∧Xu w ρ S r S' wr v w'
def InstOK (P:Program) (G:Nat→Option (List D)) (L0:Nat→Option Fix) (inst:Nat→HF→Aq):Prop:=∀g h x,L0 g=none→RndH P G (Hl L0 g x) x h→Oe P G (Hl L0 g x) (inst g h)
theorem lobj_inj{i j:Nat}(h:Jw i=Jw j):i=j:=by
 simp only[Jw,Xh.mk.injEq,List.cons.injEq,D.int.injEq,and_true,true_and]at h;omega
section
variable {w w':World} {ρ:Xn} {S:St}
theorem FR.set{H:List Xh}{nt:Nat}{slots:List Nat}{env:List D}{T:Array Value}{t j:Nat}{y:D}{v:Value}(hs:slots.all (·<nt)=true)(hj:idxOf slots t=some j)(hl:slots.length≤env.length)(hv:VR w ρ H y v)(hf:FR w ρ H nt (sig slots [] [] env) { tmps:=T,defers:=[] }) :
  FR w ρ H nt (sig slots [] [] (env.set j y)) { tmps:=T.setIfInBounds t v,defers:=[] }:=by
 have hmj:=F6 hj;have yP:=lt_of_some hmj
 have htn:t<nt:=by
  have:=List.all_eq_true.1 hs t (Lm hmj);simpa using this
 have xC:T.size=nt:=hf.1;refine⟨by simp[xC],fun x hx=>?_⟩;have h3:=hf.2 x hx;unfold sig at h3 ⊢;simp only[G5]at h3 ⊢
 cases hi:idxOf slots x with
 | none=>exact .undef _
 | some i =>
  have hmi:=F6 hi;rw[hi]at h3;by_cases hxt:t=x
  ·
   subst hxt;have:i=j:=by rw[hi]at hj;injection hj
   subst this;have h4:(env.set i y).getD i D.undef=y:=by rw[List.getD_eq_getElem?_getD,List.getElem?_set_self (by omega)];rfl
   have h5:(T.setIfInBounds t v).getD t undef=v:=by simp[Array.getD_eq_getD_getElem?,xC,htn]
   show VR w ρ H ((env.set i y).getD i D.undef) ((T.setIfInBounds t v).getD t undef);rw[h4,h5];exact hv
  have hij:j≠i:=fun h=>by subst h;rw[hmj]at hmi;injection hmi with hmi;exact hxt hmi
  have h5:(T.setIfInBounds t v).getD x undef=T.getD x undef:=by simp[Array.getD_eq_getD_getElem?,Array.getElem?_setIfInBounds_ne hxt]
  show VR w ρ H ((env.set j y).getD i D.undef) ((T.setIfInBounds t v).getD x undef);rw[h5];simp only[List.getD,Ln_ hij];simpa only [List.getD] using h3
theorem lowPs_len{slots:List Nat}:∀{ps:List Tmp} {js:List Nat},Sq slots ps=some js→js.length=ps.length
 | [],js,h=>by simp only[Sq,Oi]at h;subst h;rfl
 | t :: l, js, h => by
  simp only[Sq]at h;split at h
  ·
   rename_i j m h1 h2;simp only[Oi]at h;subst h;simp[lowPs_len h2]
  simp at h
theorem setPs_len:∀(js:List Nat) (ys env:List D),(setPs js ys env).length=env.length
 | [],_,_=>rfl
 | _::_,[],_=>rfl
 | j::js,y::ys,env=>by simp only[setPs];rw[setPs_len];simp
theorem FR.setPs{H:List Xh}{nt:Nat}{slots:List Nat}(hs:slots.all (·<nt)=true):∀{ps:List Tmp} {js:List Nat} {ys:List D} {vs:List Value} {env:List D} {T:Array Value},Sq slots ps=some js→VL w ρ H ys vs→slots.length≤env.length→FR w ρ H nt (sig slots [] [] env) { tmps:=T,defers:=[] } →
  FR w ρ H nt (sig slots [] [] (setPs js ys env)) { tmps:=(ps.zip vs).foldl (fun T p=>T.setIfInBounds p.1 p.2) T,defers:=[] }
 | [],js,ys,vs,env,T,h,hv,hl,hf=>by
  simp only[Sq,Oi]at h;subst h;simpa [Go.Proofs.YtlhdliikahebhaaGreatDoor.setPs] using hf
 | t :: ps, js, ys, vs, env, T, h, hv, hl, hf => by
  simp only[Sq]at h;split at h
  ·
   rename_i j m h1 h2;simp only[Oi]at h;subst h
   cases hv with
   | nil=>simpa [Go.Proofs.YtlhdliikahebhaaGreatDoor.setPs] using hf
   | cons h3 h4 =>
    have h5:=FR.setPs hs (ps:=ps) h2 h4 (by simpa using hl) (FR.set hs h1 hl h3 hf);exact h5
  simp at h
theorem Xy.putObj{w:World}{b:Nat}{o:Obj}(h:b<w.heap.size):Xy w (w.putObj b o) b o:=⟨rfl,rfl,rfl,World.putObj_size,World.putObj_heap_same h,fun k hk=>World.putObj_heap_other hk⟩
end
section
variable {P:Program} {nt:Nat} {slots:List Nat}
theorem rnd_ok {G : Nat → Option (List D)} {L0 : Nat → Option Fix} {g : Nat} {x : Fix} {ps : List Tmp} {js : List Nat} {env0 : List D} {ra rb : List D → St → Option (Xm × List D × St)} (hs : slots.all (· < nt) = true) (x9 : Sq slots ps = some js) (xg : env0.length = slots.length)
  (hxp:x.params=ps.toArray) (hxn:x.nt=nt) (hxs:x.sg=sig slots [] [] env0) (hxt:x.tmps.size=nt) (hX0:∀X:HX,XOK G (Hl L0 g x) X→XOK G L0 X)
  (hA:∀env S e env' S' (a:Act) w (ρ:Xn) (n:Nat) (Q:Exit→Act→World→Prop),ra env S=some (e,env',S')→env.length=slots.length→a.defers=[]→Rel w ρ S.heap→XOK G L0 ρ.X→FR w ρ S.heap nt (sig slots [] [] env) a→(∀ex a' w',CQ 0 w ρ S slots nt e env' S' ex a' w'→Q ex a' w')→x.assign.wpIn (rf (some x.b)) n P Q a w)
  (hB:∀env S e env' S' (a:Act) w (ρ:Xn) (n:Nat) (Q:Exit→Act→World→Prop),rb env S=some (e,env',S')→DX 0 w ρ S.heap slots.length env a.defers→Rel w ρ S.heap→XOK G L0 ρ.X→FR w ρ S.heap nt (sig slots [] [] env) a→(∀ex a' w',CQ 0 w ρ S slots nt e env' S' ex a' w'→Q ex a' w')→x.body.wpIn (rf (some x.b)) n P Q a w) :
  RndH P G (Hl L0 g x) x (rndH ra rb g js env0):=by
 intro ys S1 r S' wr h;unfold rndH at h;split at h
 ·
  rename_i zG;split at h
  ·
   rename_i hyl;split at h
   ·
    rename_i env1 S2 hra;split at h
    ·
     rename_i wu;split at h
     ·
      rename_i e env3 S3 hrb;split at h
      ·
       rename_i rW;simp only[Oi,Pi_]at h;obtain⟨rfl,rfl,rfl⟩:=h;refine⟨rfl,fun w ρ vs hX hr hv=>?_⟩;have hXg:ρ.X.L g=some x:=hX.2 g x (J7 ..)
       have rec_:∀{w:World} {ρ:Xn} {S:St} {j:Nat},Rel w ρ S.heap→ρ.X.L g=some x→lst S g=some j→ρ g=some x.b∧S.heap[g]?=some (Jw j)∧w.heap[x.b]?=some (.loop (x.rc j)):=by
        intro w ρ S j hr hXg hl;obtain⟨h1,⟨j',h2,h3⟩,_⟩:=hr.lps g x hXg;have h4:=lst_some hl;rw[h2]at h4;obtain rfl:=lobj_inj (Option.some.inj h4);exact⟨h1,h2,h3⟩
       obtain⟨hb,ho,hc⟩:=rec_ hr hXg zG;have wU:=hv.len;have wV:=lowPs_len x9;refine⟨_,run_yield (P:=P) (r:=x.rc 0) hc (by simp[Fix.rc,hxp];omega),fun n=>?_⟩
       have vP:FR w ρ S1.heap nt (sig slots [] [] (setPs js ys env0)) { tmps:=((x.rc 0).params.zip vs.toArray).foldl (fun T p=>T.setIfInBounds p.1 p.2) x.tmps,defers:=[] }:=by
        have h0:FR w ρ S1.heap nt (sig slots [] [] env0) { tmps:=x.tmps,defers:=[] }:=⟨hxt,fun t ht=>by
         have:=(hr.lps g x hXg).2.2 t (by omega)
         rwa [hxs]at this⟩
        have h1:=FR.setPs hs x9 hv (by omega) h0
        have h2:((x.rc 0).params.zip vs.toArray).foldl (fun T p=>T.setIfInBounds p.1 p.2) x.tmps=(ps.zip vs).foldl (fun T p=>T.setIfInBounds p.1 p.2) x.tmps:=by
         simp[Fix.rc,hxp]
        rw[h2];exact h1
       refine roundIn_of_wpIn (F:=rf none) (rf_fn none _) ?_;refine hA _ S1 .normal env1 S2 _ w ρ n _ hra (by rw[setPs_len];exact xg) rfl hr (hX0 _ hX) vP ?_;rintro ex a1 w1 ⟨ρ1,h1,hr1,hst1,hf1,hd1⟩;simp only[K8]at h1;subst h1;have hXg1:ρ1.X.L g=some x:=by rw[hst1.hid];exact hXg
       obtain⟨hb1,xG,y8⟩:=rec_ hr1 hXg1 wu;have vY:Xy w1 (w1.putObj x.b (.loop (x.rc 1))) x.b (.loop (x.rc 1)):=Xy.putObj (lt_of_heap y8);have hx1:∀y,ρ1.X.L g=some y→x.rc 1=y.rc 1:=fun y hy=>by rw[hXg1]at hy;cases hy;rfl
       have wF:=R7 hr1 hb1 xG y8 vY hx1;have zN:=rel_loop hr1 hb1 xG y8 vY hx1;refine⟨_,run_beginRound (P:=P) (r:=x.rc 0) y8 rfl,?_⟩;refine hB env1 (Oo S2 g 1) e env3 S3 a1 _ ρ1 n _ hrb (hd1.mono wF) zN (by rw[hst1.hid];exact hX0 _ hX) (hf1.mono wF) ?_;rintro ex a2 w3 ⟨ρ3,h3,hr3,vW,hf3,hd3⟩;have hXg3:ρ3.X.L g=some x:=by rw[vW.hid];exact hXg1
       obtain⟨hb3,ho3,hc3⟩:=rec_ hr3 hXg3 rW;have vX:Xy w3 (w3.putObj x.b (.loop (x.rc (codeOf e)))) x.b (.loop (x.rc (codeOf e))):=Xy.putObj (lt_of_heap hc3);have hx3:∀y,ρ3.X.L g=some y→x.rc (codeOf e)=y.rc (codeOf e):=fun y hy=>by rw[hXg3]at hy;cases hy;rfl
       have hst4:=R7 hr3 hb3 ho3 hc3 vX hx3;have hr4:=rel_loop hr3 hb3 ho3 hc3 vX hx3
       have qp:∀b,VR (w3.putObj x.b (.loop (x.rc (codeOf e)))) ρ3 (Oo S3 g (codeOf e)).heap (.bool (codeOf e==0)) (.bool b)→∃v,Ending.returned (.bool b)=.returned v∧Xu w ρ S1 (.bool (codeOf e==0)) (Oo S3 g (codeOf e)) true v (w3.putObj x.b (.loop (x.rc (codeOf e)))) :=
        fun b hb=>⟨_,rfl,ρ3,hr4,((hst1.trans wF).trans vW).trans hst4,hb,fun hw=>by cases hw⟩
       cases e with
       | normal =>
        simp only[K8]at h3;subst h3;exact⟨_,_,run_endRound (P:=P) (r:=x.rc 1) none hc3,qp true (.bool true)⟩
       | ret =>
        simp only[K8]at h3;subst h3;exact⟨_,_,run_endRound (P:=P) (r:=x.rc 1) (some .ret) hc3,qp false (.bool false)⟩
       | exit i =>
        simp only[K8]at h3;subst h3;have h0:(codeOf (.exit i)==0)=false:=by simp[codeOf]
        refine⟨_,_,run_endRound (P:=P) (r:=x.rc 1) (some (.exit i)) hc3,qp false ?_⟩;rw[h0];exact .bool false
      simp at h
     simp at h
    simp at h
   simp at h
  simp at h
 simp at h
end
theorem Rel.noL{w:World}{f:Nat→Option Nat}{X:HX}{H:List Xh}(hr:Rel w ⟨f,X⟩ H):X.L H.length=none:=by
 cases h:X.L H.length with
 | none=>rfl
 | some x=>exact absurd (hr.in (hr.lps _ x h).1) (Nat.lt_irrefl _)
theorem rel_newX{w w':World}{f:Nat→Option Nat}{X:HX}{S:St}{x:Fix}(hr:Rel w ⟨f,X⟩ S.heap)(h:Xx w w' (.loop (x.rc 0)))(hb:x.b=w.heap.size)(rT:∀t,t<x.nt→VR w ⟨f,X⟩ S.heap (x.sg t) (x.tmps.getD t undef)) :
    Rel w' ⟨(upd ⟨f,X⟩ S.heap.length w.heap.size).f,⟨X.P,X.G,Hl X.L S.heap.length x⟩⟩ (newAt S (Jw 0)).heap ∧
    ∀d v,VR w ⟨f,X⟩ S.heap d v→VR w' ⟨(upd ⟨f,X⟩ S.heap.length w.heap.size).f,⟨X.P,X.G,Hl X.L S.heap.length x⟩⟩ (newAt S (Jw 0)).heap d v:=by
  have hL:∀g,g<S.heap.length→∀y,(⟨X.P,X.G,Hl X.L S.heap.length x⟩:HX).L g=some y→X.L g=some y:=fun g hg y hy=>by
    have hy:Hl X.L S.heap.length x g=some y:=hy;rwa [Qi _ _ (by omega)]at hy
  have xH:=Fh (ob:=Jw 0) hr h;have hrn:=rel_newloop (ob:=Jw 0) hr h rfl rfl
  have hst':Stp w ⟨f,⟨X.P,X.G,Hl X.L S.heap.length x⟩⟩ S w' ⟨(upd ⟨f,X⟩ S.heap.length w.heap.size).f,⟨X.P,X.G,Hl X.L S.heap.length x⟩⟩ (newAt S (Jw 0)) :=
    ⟨rfl,xH.os,xH.tape,xH.output,xH.size,xH.low,xH.out,fun b q hi=>xH.imm b q hi,xH.keep,xH.obj,fun g y hX hb hl=>xH.lp g y (hL g (by obtain⟨j,q,_⟩:=hl;exact lt_of_some q) y hX) hb hl⟩
  have wo:∀d v,VR w ⟨f,X⟩ S.heap d v→VR w' ⟨(upd ⟨f,X⟩ S.heap.length w.heap.size).f,⟨X.P,X.G,Hl X.L S.heap.length x⟩⟩ (newAt S (Jw 0)).heap d v:=fun d v hv=>(hv.setX (X:=X) (X':=⟨X.P,X.G,Hl X.L S.heap.length x⟩) rfl hL).mono hst';have vI:∀o b,AnyOK w ⟨f,X⟩ S.heap o b→AnyOK w ⟨f,⟨X.P,X.G,Hl X.L S.heap.length x⟩⟩ S.heap o b:=fun o b hk=>⟨fun h3=>(hk.1 h3).setX (X:=X) (X':=⟨X.P,X.G,Hl X.L S.heap.length x⟩) rfl hL,fun h3=>⟨fun h0=>((hk.2 h3).1 h0).setX (X:=X) (X':=⟨X.P,X.G,Hl X.L S.heap.length x⟩) rfl hL,(hk.2 h3).2.1,(hk.2 h3).2.2⟩⟩;refine⟨⟨hrn.inj,fun g b hb'=>?_,hrn.hid,fun g row hg=>?_,fun g y hy=>?_⟩,wo⟩
  · have hb2 : (if g = S.heap.length then some w.heap.size else f g) = some b := hb';split at hb2
    · rename_i wK;injection hb2 with hb2;subst hb2 wK;exact⟨Jw 0,by simp[newAt],fun e=>absurd rfl e,fun _=>⟨fun h0=>absurd h0 (by decide),fun h1=>absurd h1 (by decide),fun _ _=>⟨_,h.new⟩⟩⟩
    obtain⟨o',ho,hk'⟩:=hr.obj g b hb2;exact⟨o',by simp only[newAt];rw[La_ (lt_of_some ho)];exact ho,(vI o' b hk').mono hst' (h.old b (hr.lt hb2))⟩
  · obtain ⟨h1, _⟩ := hr.glob g row hg;exact⟨wo _ _ h1,(hrn.glob g row hg).2⟩
  have hy2:Hl X.L S.heap.length x g=some y:=hy;by_cases e:g=S.heap.length
  · subst e;rw[J7]at hy2;injection hy2 with hy2;subst hy2;refine⟨?_,⟨0,by simp[newAt],by rw[hb];exact h.new⟩,fun t ht=>wo _ _ (rT t ht)⟩;show (if S.heap.length=S.heap.length then some w.heap.size else f S.heap.length)=some x.b;rw[if_pos rfl,hb]
  rw[Qi _ _ e]at hy2;obtain⟨q1,q2,q3⟩:=hr.lps g y hy2;exact⟨hst'.lpb hy q1 q2,hst'.lp g y hy q1 q2,fun t ht=>wo _ _ (q3 t ht)⟩
theorem exitOf_code:∀{j:Nat} {e:Xm},Pw j=some e→j=codeOf e
 | 0,e,h=>by simp[Pw]at h;subst h;rfl
 | 1,e,h=>by simp[Pw]at h
 | 2,e,h=>by simp[Pw]at h
 | 3,e,h=>by simp[Pw]at h;subst h;rfl
 | n+4,e,h=>by simp[Pw]at h;subst h;rfl
theorem XOK.more{G:Nat→Option (List D)}{L0:Nat→Option Fix}{g:Nat}{x:Fix}{X:HX}(h0:L0 g=none)(h:XOK G (Hl L0 g x) X):XOK G L0 X :=
 ⟨h.1,fun k y hy=>h.2 k y (by rw[Qi _ _ (fun e=>by subst e;rw[h0]at hy;cases hy)];exact hy)⟩
theorem XOK.upd{G:Nat→Option (List D)}{L0:Nat→Option Fix}{g:Nat}{x:Fix}{X:HX}(h:XOK G L0 X):XOK G (Hl L0 g x) ⟨X.P,X.G,Hl X.L g x⟩ :=
 ⟨h.1,fun k y hy=>by
  show Hl X.L g x k=some y;by_cases e:k=g
  ·
   subst e;rw[J7]at hy ⊢;exact hy
  rw[Qi _ _ e]at hy ⊢;exact h.2 k y hy⟩
open Go.RowKit
theorem deferOf_some{ops:Array Oper}{t:Tmp}(h:deferOf ops=some t):∃(ys:Array Oper) (o:Oper) (args:Array Operand) (tys:Array TypeId),ops=ys.push o∧o.op=.defer ⟨.value (.tmp t),args,tys⟩∧args.isEmpty=true∧o.guard=none∧o.dst=none:=by
 unfold deferOf at h;split at h
 ·
  rename_i o ho;obtain⟨ys,rfl⟩:=Array.back?_eq_some_iff.1 ho;split at h
  ·
   rename_i c yR hg hd;obtain⟨ce,args,tys⟩:=c;simp only at h;split at h
   ·
    rename_i t' hc;split at h
    ·
     rename_i ha;simp only[Oi]at h;subst h;exact⟨ys,o,args,tys,rfl,yR,ha,hg,hd⟩
    simp at h
   simp at h
  simp at h
 simp at h
theorem sig_more{slots:List Nat}{env l:List D}(h:slots.length≤env.length)(t:Nat):sig slots [] [] (env++l) t=sig slots [] [] env t:=by
 unfold sig;simp only[G5]
 cases hj:idxOf slots t with
 | none=>rfl
 | some j =>
  have:=lt_of_some (F6 hj);simp only[List.getD,La_ (show j<env.length by omega)]
section
variable {P:Program} {b:Frame} {a:Act} {k:List Item} {cs:List Frame} {w:World} {Q:Exit→Act→World→Prop}
theorem H9{c:Code}:step P (lone (b.atR a (.code (.scope c)::k)) cs w)=.next (lone (b.atR a (.code c::.inScope c::k)) cs w) :=
 step_lone_go (by simp[stepG,stepG.exec,Frame.atR])
theorem stepR_inScope{c:Code}:step P (lone (b.atR a (.inScope c::k)) cs w)=.next (lone (b.atR a k) cs w) :=
 step_lone_go (by simp[stepG,stepG.exec,Frame.atR])
theorem wpIn_scope{F:Fence}{n:Nat}{c:Code}(h:c.wpIn F n P (Exit.noGoto Q) a w):(Code.scope c).wpIn F n P Q a w:=by
 intro b k cs hro hb hr;have h0:(lone (b.atR a (.code (.scope c)::k)) cs w).fenced P F:=fenced_calm hb hr rfl;obtain⟨e,a₁,w₁,hq,harr⟩:=h b (.inScope c::k) cs hro hb hr
 cases e with
 | normal=>exact⟨.normal,a₁,w₁,hq,.head h0 H9 (StepsIn.trans harr (.one (fenced_calm (fr:=b.atR a₁ (.inScope c::k)) hb hr rfl) stepR_inScope))⟩
 | exit id =>
  have hx:exitTo id (.inScope c::k)=exitTo id k:=by simp[exitTo]
  exact⟨_,a₁,w₁,hq,fun k' hk=>.head h0 H9 (harr.1 k' (by rw[hx];exact hk)),fun hr' hk=>let ⟨k₁,h1,h2⟩:=harr.2 hr' (by rw[hx];exact hk);⟨k₁,h1,.head h0 H9 h2⟩⟩
 | goto l=>exact hq.elim
 | ret=>exact⟨_,a₁,w₁,hq,.of_steps (.one h0 H9) harr⟩
 | panic ch=>exact⟨_,a₁,w₁,hq,.of_steps (.one h0 H9) harr⟩
 | outgrown=>exact⟨_,a₁,w₁,hq,.of_steps (.one h0 H9) harr⟩
end
section
variable {P:Program} {call:Aq} {inst:Nat→HF→Aq} {kd:Kd} {nt:Nat} {slots:List Nat} {N:Nat}
theorem Xb {G : Nat → Option (List D)} {L0 : Nat → Option Fix} (rF : ∀ g row, kd.glob g = some row → G g = some row) (hm : P.follows .mixedOrders = true) (y9 : Oe P G L0 call) (rG : InstOK P G L0 inst) (zK : Ig call) (hs : slots.all (· < nt) = true) :
    ∀ (c : Code) (n0 : Nat) (ro : Option Nat) (nf : Nat) (lc : Xl) (env : List D) (S : St) (e : Xm) (env' : List D) (S' : St) (a : Act) (w : World) (ρ : Xn) (Q : Exit → Act → World → Prop), Cy P kd nt slots c = some lc → (ro = none ∨ Ee lc = true) → Bc call inst N lc env S = some (e, env', S') → DX n0 w ρ S.heap slots.length env a.defers → Rel w ρ S.heap → XOK G L0 ρ.X → FR w ρ S.heap nt (sig slots [] [] env) a →
      (∀ex a' w',CQ n0 w ρ S slots nt e env' S' ex a' w'→Q ex a' w')→c.wpIn (rf ro) nf P Q a w:=by
  intro c
  induction c with
  | skip =>
    intro n0 ro nf lc env S e env' S' a w ρ Q hl yF hx xg hr hG hf hQ;simp only[Cy,Oi]at hl;subst hl;simp only[Bc,Oi,Pi_]at hx;obtain⟨rfl,rfl,rfl⟩:=hx;exact wpIn_skip (hQ _ _ _ ⟨ρ,rfl,hr,Stp.refl _ _ _,hf,xg⟩)
  | ret =>
    intro n0 ro nf lc env S e env' S' a w ρ Q hl yF hx xg hr hG hf hQ;simp only[Cy,Oi]at hl;subst hl;simp only[Bc,Oi,Pi_]at hx;obtain⟨rfl,rfl,rfl⟩:=hx;exact wpIn_ret (hQ _ _ _ ⟨ρ,rfl,hr,Stp.refl _ _ _,hf,xg⟩)
  | exit i =>
    intro n0 ro nf lc env S e env' S' a w ρ Q hl yF hx xg hr hG hf hQ;simp only[Cy,Oi]at hl;subst hl;simp only[Bc,Oi,Pi_]at hx;obtain⟨rfl,rfl,rfl⟩:=hx;exact wpIn_exit (hQ _ _ _ ⟨ρ,rfl,hr,Stp.refl _ _ _,hf,xg⟩)
  | region id ops draw =>
    intro n0 ro nf lc env S e env' S' a w ρ Q hl yF hx xg hr hG hf hQ;simp only[Cy]at hl;split at hl
    · rename_i t hdo;split at hl
      · simp at hl
      rename_i kV;obtain rfl:draw=false:=by simpa using kV
      split at hl
      · rename_i lr j hlr hj;simp only[Oi]at hl;subst hl;obtain⟨ys,o,args,tys,rfl,yR,yc,hog,hod⟩:=deferOf_some hdo;simp only[Array.pop_push,Qo,Bool.false_eq_true,if_false,Om]at hlr;obtain⟨los,hlos,rfl⟩:=hlr;simp only[Bc]at hx
        cases qH:Hg call los [] env S with
        | none=>simp[qH]at hx
        | some q =>
          obtain⟨vals,S1⟩:=q;simp only[qH]at hx;split at hx
          · rename_i f caps zY;simp only[Oi,Pi_]at hx;obtain⟨rfl,rfl,rfl⟩:=hx;refine wpIn_region ?_;rw[List.range_eq_range',show (ys.push o).size=ys.toList.length+[o].length by simp];refine seq_part y9 [o] rF hs ys.toList 0 [] [] los S vals S1 a w ρ (by simp) (by simp) (by simp) hlos qH hr hG hf fun a' w' ρ' h1 h2 h3 h4=>?_;have hd:((((ys.push o).toList.take (0+ys.toList.length)).map (·.dst)).reverse)=dstsOf ys.toList:=by simp[dstsOf]
            rw[hd]at h3;have h5:=h3.end_ xg.len;have hm:=F6 hj;have yP:=lt_of_some hm
            have htn:t<nt:=by
              have:=List.all_eq_true.1 hs t (Lm hm);simpa using this
            have hv:=h5.2 t htn
            rw[show sig slots [] [] (exports (H6 (dstsOf ys.toList) slots 0) vals env) t=D.fn f caps by
              unfold sig;simp only[G5,hj]
              exact zY]at hv
            have hrg:List.range' (0+ys.toList.length) [o].length=[ys.size]:=by simp
            have vH:(ys.push o)[ys.size]?=some o:=by simp
            have hwn:Region.wanted o (yielded (ys.push o) a'.tmps)=true:=by simp[Region.wanted,hog]
            rw[hrg];simp only[wpOpsIn,vH,hwn,if_true]
            have hmk:isMk (a'.tmps.getD t undef)=none:=by
              generalize a'.tmps.getD t undef=u at hv;cases hv;rfl
            have yA:(execOp a'.eval o).run P w'=.ok (.defer (dfOf (a'.tmps.getD t undef))) w':=by
              have ha:args=#[]:=by simpa using yc
              subst ha;generalize hu:a'.tmps.getD t undef=u at hv;have hev:a'.eval (.tmp t)=u:=hu
              cases hv with
              | fn _ _ vs hl hh=>simp[execOp,yR,resolve,hev,Deferred.ofValue,dfOf]
            obtain rfl:ro=none:=by
              rcases yF with h | h
              · exact h
              simp[Ee]at h
            refine⟨fun _ _=>trivial,?_⟩;rw[show (rf none).round=none from rfl,Oper.semAt_none,yA];simp only[Oper.uponIn,hod,Act.put];refine hQ _ _ _ ⟨ρ',rfl,h1,h2,⟨h5.1,fun t' ht'=>?_⟩,?_⟩
            · rw [sig_more (by rw [Jt]; exact xg.len)];exact h5.2 t' ht'
            rw[h4];exact (xg.mono h2).exps.push hv hmk
          simp at hx
      simp at hl
    rename_i hdo;simp only[Qo]at hl
    cases draw with
    | false =>
      simp only[Bool.false_eq_true,if_false,Om]at hl;obtain⟨los,hlos,rfl⟩:=hl;simp only[Bc]at hx;split at hx
      · rename_i vals S1 qH;simp only[Oi,Pi_]at hx;obtain⟨rfl,rfl,rfl⟩:=hx;refine wpIn_region ?_;rw[List.range_eq_range',←Array.length_toList];exact seq_ok y9 rF hs ops.toList 0 [] [] los S vals S1 a w ρ (by simp) (by simp) (by simp) hlos qH hr hG hf fun a' w' ρ' h1 h2 h3 h4=>hQ _ _ _ ⟨ρ',rfl,h1,h2,h3.end_ xg.len,by rw[h4];exact (xg.mono h2).exps⟩
      simp at hx
    | true =>
      simp only[if_true]at hl;split at hl
      · rename_i kV;simp only[Om]at hl;obtain⟨los,hlos,rfl⟩:=hl;simp only[Bc]at hx;split at hx
        · rename_i vals S1 qH;simp only[Oi,Pi_]at hx;obtain⟨rfl,rfl,rfl⟩:=hx;exact draw_ok rF hm y9 zK hs kV hlos qH hr hG hf fun a' w' ρ' h1 h2 h3 h4=>hQ _ _ _ ⟨ρ',rfl,h1,h2,h3.end_ xg.len,by rw[h4];exact (xg.mono h2).exps⟩
        simp at hx
      simp at hl
  | seq x y ihx ihy =>
    intro n0 ro nf lc env S e env' S' a w ρ Q hl yF hx xg hr hG hf hQ;simp only[Cy]at hl;split at hl
    · rename_i lx ly zi hly;simp only[Oi]at hl;subst hl;simp only[Bc]at hx;refine wpIn_seq ?_
      cases yA:Bc call inst N lx env S with
      | none=>simp[yA]at hx
      | some q =>
        obtain⟨e1,env1,S1⟩:=q;rw[yA]at hx;refine ihx n0 ro nf lx env S e1 env1 S1 a w ρ _ zi (yF.imp_right fun h=>by simp[Ee]at h;exact h.1) yA xg hr hG hf ?_;rintro ex a' w' ⟨ρ',h1,h2,h3,h4,h5⟩
        cases e1 with
        | normal =>
          simp only at hx;simp only[K8]at h1;subst h1;refine ihy n0 ro nf ly env1 S1 e env' S' a' w' ρ' Q hly (yF.imp_right fun h=>by simp[Ee]at h;exact h.2) hx h5 h2 (by rw[h3.hid];exact hG) h4 ?_;rintro ex a2 w2 ⟨ρ2,k1,k2,k3,k4,k5⟩;exact hQ _ _ _ ⟨ρ2,k1,k2,h3.trans k3,k4,k5⟩
        | ret =>
          simp only[Oi,Pi_]at hx;obtain⟨rfl,rfl,rfl⟩:=hx;simp only[K8]at h1;subst h1;exact hQ _ _ _ ⟨ρ',rfl,h2,h3,h4,h5⟩
        | exit i =>
          simp only[Oi,Pi_]at hx;obtain⟨rfl,rfl,rfl⟩:=hx;simp only[K8]at h1;subst h1;exact hQ _ _ _ ⟨ρ',rfl,h2,h3,h4,h5⟩
    simp at hl
  | cond c x y ihx ihy =>
    intro n0 ro nf lc env S e env' S' a w ρ Q hl yF hx xg hr hG hf hQ;simp only[Cy]at hl;split at hl
    · rename_i z lx ly hz zi hly;simp only[Oi]at hl;subst hl;have hc:VR w ρ S.heap (opd [] env z) (a.eval c):=opd_ok (fun g row hg=>(hr.glob g row (by rw[hG.1];exact rF g row hg)).1) hz hs (by simp) fun t ht=>hf.2 t (tmp_in (ht▸hz) hs (by simp));simp only[Bc]at hx;split at hx
      · rename_i hb;rw[hb]at hc;generalize hv:a.eval c=v at hc;cases hc;exact wpIn_cond_true hv (ihx n0 ro nf lx env S e env' S' a w ρ Q zi (yF.imp_right fun h=>by simp[Ee]at h;exact h.1) hx xg hr hG hf hQ)
      · rename_i hb;rw[hb]at hc;generalize hv:a.eval c=v at hc;cases hc;exact wpIn_cond_false hv (ihy n0 ro nf ly env S e env' S' a w ρ Q hly (yF.imp_right fun h=>by simp[Ee]at h;exact h.2) hx xg hr hG hf hQ)
      simp at hx
    simp at hl
  | block i c ih =>
    intro n0 ro nf lc env S e env' S' a w ρ Q hl yF hx xg hr hG hf hQ;simp only[Cy,Om]at hl;obtain⟨lc,vN,rfl⟩:=hl;simp only[Bc]at hx;refine wpIn_block ?_
    cases yA:Bc call inst N lc env S with
    | none=>simp[yA]at hx
    | some q =>
      obtain⟨e1,env1,S1⟩:=q;rw[yA]at hx;refine ih n0 ro nf lc env S e1 env1 S1 a w ρ _ vN (yF.imp_right fun h=>by simpa [Ee] using h) yA xg hr hG hf ?_;rintro ex a' w' ⟨ρ',h1,h2,h3,h4,h5⟩
      cases e1 with
      | normal =>
        simp only[Oi,Pi_]at hx;obtain⟨rfl,rfl,rfl⟩:=hx;simp only[K8]at h1;subst h1;exact hQ _ _ _ ⟨ρ',rfl,h2,h3,h4,h5⟩
      | ret =>
        simp only[Oi,Pi_]at hx;obtain⟨rfl,rfl,rfl⟩:=hx;simp only[K8]at h1;subst h1;exact hQ _ _ _ ⟨ρ',rfl,h2,h3,h4,h5⟩
      | exit j =>
        simp only[K8]at h1;subst h1;simp only at hx;simp only[Exit.inBlock];split at hx
        · rename_i hj;rw[if_pos hj];simp only[Oi,Pi_]at hx;obtain⟨rfl,rfl,rfl⟩:=hx;exact hQ _ _ _ ⟨ρ',rfl,h2,h3,h4,h5⟩
        rename_i hj;rw[if_neg hj];simp only[Oi,Pi_]at hx;obtain⟨rfl,rfl,rfl⟩:=hx;exact hQ _ _ _ ⟨ρ',rfl,h2,h3,h4,h5⟩
  | loop c ih =>
    intro n0 ro nf lc env S e env' S' a w ρ Q hl yF hx xg hr hG hf hQ;simp only[Cy,Om]at hl;obtain⟨lc,vN,rfl⟩:=hl;simp only[Bc]at hx
    have key:∀(n:Nat) (env:List D) (S:St) (a:Act) (w:World) (ρ:Xn),Gi (Bc call inst N lc) n env S=some (e,env',S')→DX n0 w ρ S.heap slots.length env a.defers→Rel w ρ S.heap→XOK G L0 ρ.X→FR w ρ S.heap nt (sig slots [] [] env) a→(∀ex a' w',CQ n0 w ρ S slots nt e env' S' ex a' w'→Q ex a' w')→Code.roundsIn (rf ro) nf P c Q n a w:=by
      intro n
      induction n with
      | zero=>intro env S a w ρ hx;simp[Gi]at hx
      | succ n ihn =>
        intro env S a w ρ hx xg hr hG hf hQ;rw[roundsIn_succ];simp only[Gi]at hx
        cases yA:Bc call inst N lc env S with
        | none=>simp[yA]at hx
        | some q =>
          obtain⟨e1,env1,S1⟩:=q;rw[yA]at hx;refine ih n0 ro nf lc env S e1 env1 S1 a w ρ _ vN (yF.imp_right fun h=>by simpa [Ee] using h) yA xg hr hG hf ?_;rintro ex a' w' ⟨ρ',h1,h2,h3,h4,h5⟩
          cases e1 with
          | normal =>
            simp only at hx;simp only[K8]at h1;subst h1;refine ihn env1 S1 a' w' ρ' hx h5 h2 (by rw[h3.hid];exact hG) h4 ?_;rintro ex a2 w2 ⟨ρ2,k1,k2,k3,k4,k5⟩;exact hQ _ _ _ ⟨ρ2,k1,k2,h3.trans k3,k4,k5⟩
          | ret =>
            simp only[Oi,Pi_]at hx;obtain⟨rfl,rfl,rfl⟩:=hx;simp only[K8]at h1;subst h1;exact hQ _ _ _ ⟨ρ',rfl,h2,h3,h4,h5⟩
          | exit i =>
            simp only[Oi,Pi_]at hx;obtain⟨rfl,rfl,rfl⟩:=hx;simp only[K8]at h1;subst h1;exact hQ _ _ _ ⟨ρ',rfl,h2,h3,h4,h5⟩
    exact wpIn_loop_rounds N (key N env S a w ρ hx xg hr hG hf hQ)
  | rangeFunc gf ps asg body iha ihb =>
    intro n0 ro nf lc env S e env' S' a w ρ Q hl yF hx xg hr hG hf hQ;simp only[Cy]at hl;split at hl
    · rename_i xo js la lb hxo hps hla hlb;split at hl
      · rename_i uz;simp only[Bool.and_eq_true]at uz;simp only[Oi]at hl;subst hl
        obtain rfl:ro=none:=by
          rcases yF with h | h
          · exact h
          simp[Ee]at h
        simp only[Bc]at hx;split at hx
        · rename_i f caps zY;split at hx
          · simp at hx
          rename_i yU;split at hx
          · rename_i r5 S5 wr5 yC;split at hx
            · rename_i j hj;split at hx
              · rename_i e0 uH;simp only[Oi,Pi_]at hx;obtain⟨rfl,rfl,rfl⟩:=hx;refine wpIn_rangeFunc fun fn _=>?_;obtain⟨f0,X⟩:=ρ;have hv:VR w ⟨f0,X⟩ S.heap (opd [] env xo) (a.eval gf):=opd_ok (fun g row hg=>(hr.glob g row (by rw[hG.1];exact rF g row hg)).1) hxo hs (by simp) fun t ht=>hf.2 t (tmp_in (ht▸hxo) hs (by simp));rw[zY]at hv;generalize hgv:a.eval gf=gv at hv
                cases hv with
                | fn _ _ cvs yw hch =>
                have htk:(env.take slots.length).length=slots.length:=by rw[List.length_take];have:=xg.len;omega
                have hXn:X.L S.heap.length=none:=hr.noL
                have hL0:L0 S.heap.length=none:=by
                  cases h:L0 S.heap.length with
                  | none=>rfl
                  | some y=>have:=hG.2 _ y h;rw[hXn]at this;cases this
                generalize ku:(⟨w.heap.size+1,fn,a.tmps,ps,asg,body,w.heap.size,nt,sig slots [] [] (env.take slots.length)⟩:Fix)=x0;have hb0:x0.b=w.heap.size+1:=by rw[←ku]
                have hrc0:x0.rc 0={ state:=.ready,pending:=none,fn,tmps:=a.tmps,params:=ps,assign:=asg,body,defers:=w.heap.size }:=by rw[←ku];rfl
                have hrnd:RndH P G (Hl L0 S.heap.length x0) x0 (rndH (Bc call inst N la) (Bc call inst N lb) S.heap.length js (env.take slots.length)):=by
                  refine rnd_ok (ps:=ps.toList) hs hps htk (by rw[←ku]) (by rw[←ku]) (by rw[←ku]) (by rw[←ku];exact hf.1) (fun X h=>h.more hL0) ?_ ?_
                  · rw [← ku];intro env S e env' S' a w ρ n Q h1 h2 h3 h4 h5 h6 h7;exact iha 0 _ n la env S e env' S' a w ρ Q hla (.inr uz.1) h1 (by rw[h3];exact DX.nil (Nat.zero_le _) h2) h4 h5 h6 h7
                  rw[←ku];intro env S e env' S' a w ρ n Q h1 h2 h4 h5 h6 h7;exact ihb 0 _ n lb env S e env' S' a w ρ Q hlb (.inr uz.2) h1 h2 h4 h5 h6 h7
                have hC:=rG S.heap.length _ x0 hL0 hrnd;have ha1:Xx w (w.alloc (.deferred (some []))) (.deferred (some [])):=Xx.alloc w _;have ha2:Xx (w.alloc (.deferred (some []))) ((w.alloc (.deferred (some []))).alloc (.loop (x0.rc 0))) (.loop (x0.rc 0)):=Xx.alloc _ _;have hra:=Lc hr ha1;have hsa:=Gc hr ha1;have hb1:x0.b=(w.alloc (.deferred (some []))).heap.size:=by rw[hb0,ha1.size]
                have hsg:∀t,t<x0.nt→VR (w.alloc (.deferred (some []))) ⟨f0,X⟩ S.heap (x0.sg t) (x0.tmps.getD t undef):=by
                  rw[←ku];intro t ht;have h1:=(hf.2 t ht).mono hsa
                  have h2:sig slots [] [] env t=sig slots [] [] (env.take slots.length) t:=by
                    conv=>lhs;rw[←List.take_append_drop slots.length env]
                    exact sig_more (by omega) t
                  rw[h2]at h1;exact h1
                obtain⟨hr1,wo⟩:=rel_newX hra ha2 hb1 hsg;have qX:=Fh (ob:=Jw 0) hra ha2;have hXK:XOK G (Hl L0 S.heap.length x0) ⟨X.P,X.G,Hl X.L S.heap.length x0⟩:=XOK.upd hG
                have hcall1:=hC.1 f _ _ r5 S5 wr5 (Nat.lt_of_not_le yU) yC _ _ (.func (.yield x0.b) #[] #[]::cvs) hXK hr1 (.cons (.yld _ x0 (Jw 0) (by simp[newAt]) fun y hy=>by
                    have hy:Hl X.L S.heap.length x0 S.heap.length=some y:=hy;rw[J7]at hy;injection hy with hy
                    exact hy.symm) (VL.of yw fun j d v h1 h2=>wo d v ((hch j d v h1 h2).mono hsa)))
                obtain⟨hcf,yB⟩:=hcall1;rw[hb0]at hcf yB;have yc:(Value.func (.yield (w.heap.size+1)) #[] #[]::cvs).toArray=#[.func (.yield (w.heap.size+1)) #[] #[]]++cvs.toArray:=by apply Array.ext';simp
                rw[yc]at hcf yB;have hent:=run_enterLoop_outer (P:=P) (w:=w) fn a.tmps ps asg body;rw[←hrc0]at hent;refine⟨_,_,_,⟨.fn (.func f) cvs.toArray,#[.func (.yield (w.heap.size+1)) #[] #[]]⟩,(w.alloc (.deferred (some []))).alloc (.loop (x0.rc 0)),f,_,_,hent,?_,fun _ _=>trivial,?_,rf_deep none,(calls_rf yB).mono ?_⟩
                · have hcst : a.eval (.const (.func (.yield (w.heap.size + 1)) #[] #[])) = .func (.yield (w.heap.size + 1)) #[] #[] := rfl;simp[resolve,rangeCall,Deferred.ofValue,hcst,hgv]
                · exact hcf
                rintro e5 w5 ⟨v5,rfl,⟨f5,X5⟩,hr5,hst5,_,_⟩;obtain rfl:X5=⟨X.P,X.G,Hl X.L S.heap.length x0⟩:=hst5.hid;obtain⟨hb5,⟨j',ho5,hc5⟩,_⟩:=hr5.lps S.heap.length x0 (J7 ..);obtain rfl:j=j':=lobj_inj (Option.some.inj ((lst_some hj).symm.trans ho5));have hLX:∀g y,X.L g=some y→Hl X.L S.heap.length x0 g=some y:=fun g y hy=>by rw[Qi _ _ (fun e=>by subst e;rw[hXn]at hy;cases hy)];exact hy
                have hr5X:Rel w5 ⟨f5,X⟩ S5.heap:=Rel.setX (X:=⟨X.P,X.G,Hl X.L S.heap.length x0⟩) (X':=X) hr5 rfl rfl (fun g _ y hy=>hLX g y hy) fun g y hy=>by
                  obtain⟨q1,q2,q3⟩:=hr5.lps g y (hLX g y hy);exact⟨q1,q2,fun t ht=>VR.setX (X:=⟨X.P,X.G,Hl X.L S.heap.length x0⟩) (X':=X) rfl (fun g _ y hy=>hLX g y hy) (q3 t ht)⟩
                have hst5X:Stp _ ⟨_,X⟩ _ w5 ⟨f5,X⟩ S5:=Stp.setX (X:=⟨X.P,X.G,Hl X.L S.heap.length x0⟩) (X':=X) hst5 rfl hLX;have vM:Xy w5 (w5.putObj x0.b (.loop { x0.rc j with state:=.exhausted })) x0.b (.loop { x0.rc j with state:=.exhausted }):=Xy.putObj (lt_of_heap hc5);have hno2:∀y,X.L S.heap.length=some y→{ x0.rc j with state:=.exhausted }=y.rc 2:=fun y hy=>by rw[hXn]at hy;cases hy
                have hst6:=R7 (ρ:=⟨f5,X⟩) hr5X hb5 ho5 hc5 vM hno2;have hr6:=rel_loop (ρ:=⟨f5,X⟩) hr5X hb5 ho5 hc5 vM hno2;have hback:=hst5X.trans hst6;have xH:=(hsa.trans qX).trans hback
                have hdk:(w5.putObj x0.b (.loop { x0.rc j with state:=.exhausted })).heap[w.heap.size]?=some (.deferred (some []))∧∀g,f5 g≠some w.heap.size:=by
                  have h1:w.heap.size<((w.alloc (.deferred (some []))).alloc (.loop (x0.rc 0))).heap.size:=by rw[ha2.size,ha1.size];omega
                  obtain⟨k1,k2⟩:=hback.out w.heap.size h1 (fun g hg=>by
                    have hg:(if g=S.heap.length then some (w.alloc (.deferred (some []))).heap.size else f0 g)=some w.heap.size:=hg;split at hg
                    · injection hg with hg;rw[ha1.size]at hg;omega
                    have:=hr.lt hg;omega)
                  exact⟨k1.trans ((ha2.old _ (by rw[ha1.size];omega)).trans ha1.new),k2⟩
                have hj2:=exitOf_code uH
                have hbusy:(x0.rc j).state≠.busy:=by
                  subst hj2;cases e0<;>simp[Fix.rc,codeOf,stOf]
                have fin:∀ex,K8 e0=ex→Q ex { a with defers:=[⟨.collected w.heap.size,#[]⟩]++a.defers } (w5.putObj x0.b (.loop { x0.rc j with state:=.exhausted })):=fun ex yA =>
                  hQ ex _ _ ⟨⟨f5,X⟩,yA,hr6,xH,⟨hf.1,fun t ht=>by
                    rw[sig_more xg.len]
                    exact (hf.2 t ht).mono xH⟩,xg.mark xH (Nat.le_refl _) hdk.1 hdk.2⟩
                refine⟨(x0.rc j).pending,_,by rw[←hb0];exact run_endLoop (P:=P) hc5 hbusy,?_⟩
                cases e0 with
                | normal=>subst hj2;exact fin _ rfl
                | ret=>subst hj2;exact wpIn_ret (fin _ rfl)
                | exit i=>subst hj2;exact wpIn_exit (fin _ rfl)
              simp at hx
            simp at hx
          simp at hx
        simp at hx
      simp only[Oi]at hl;subst hl;simp[Bc]at hx
    simp only[Oi]at hl;subst hl;simp[Bc]at hx
  | scope c ih =>
    intro n0 ro nf lc env S e env' S' a w ρ Q hl yF hx xg hr hG hf hQ;simp only[Cy]at hl;refine wpIn_scope (ih n0 ro nf lc env S e env' S' a w ρ _ hl yF hx xg hr hG hf ?_);intro ex a' w' hc;have hq:=hQ ex a' w' hc;obtain⟨ρ',h1,_⟩:=hc;cases e<;>simp only[K8]at h1<;>subst h1<;>exact hq
  | label =>
    intro n0 ro nf lc env S e env' S' a w ρ Q hl yF hx xg hr hG hf hQ;simp only[Cy,Oi]at hl;subst hl;simp only[Bc,Oi,Pi_]at hx;obtain⟨rfl,rfl,rfl⟩:=hx;exact wpIn_label (hQ _ _ _ ⟨ρ,rfl,hr,Stp.refl _ _ _,hf,xg⟩)
  | goto=>intro n0 ro nf lc env S e env' S' a w ρ Q hl yF hx;simp only[Cy,Oi]at hl;subst hl;simp[Bc]at hx
  | refuse=>intro n0 ro nf lc env S e env' S' a w ρ Q hl yF hx;simp only[Cy,Oi]at hl;subst hl;simp[Bc]at hx
end
open Go.RowKit
theorem defs_ok {P : Program} {G : Nat → Option (List D)} {L0 : Nat → Option Fix} {L : Prg} {call : Aq} {inst : Nat → HF → Aq} {N : Nat} (hm : P.follows .mixedOrders = true) (hL : DfnOK P G L) (y9 : Oe P G L0 call) (rG : InstOK P G L0 inst) (zK : Ig call) {fn : Func} {tmps : Array Value} {R : Ending → World → Prop} :
    ∀ (ds : List D) (vs : List Value) (S S' : St) (w : World) (ρ : Xn), Lu L.dfn call inst N ds S = some S' → VL w ρ S.heap ds vs → Rel w ρ S.heap → XOK G L0 ρ.X →
      (∀w' ρ',Rel w' ρ' S'.heap→Stp w ρ S w' ρ' S'→Leaves P fn tmps R [] .returning w')→Leaves P fn tmps R (vs.map dfOf) .returning w
  | [], _, S, S', w, ρ, h, .nil, hr, hG, hk => by
    simp only[Lu,Oi]at h;subst h;exact hk w ρ hr (Stp.refl _ _ _)
  | d :: ds, v :: us, S, S', w, ρ, h, .cons hv rT, hr, hG, hk => by
    obtain⟨f,caps,rfl⟩:∃f caps,d=.fn f caps:=by cases d<;>first | exact⟨_,_,rfl⟩ | (simp[Lu]at h;done)
    simp only[Lu]at h
    cases hF:L.dfn f with
    | none=>simp[hF]at h
    | some F =>
      simp only[hF]at h;split at h
      · rename_i hc;obtain⟨yw,yF,hres⟩:=hc;obtain⟨fn2,kd,slots,zY,x9,rF⟩:=hL f F hF
        cases yA:Bc call inst N F.body (F.slots.map fun s=>caps.getD s .undef) S with
        | none=>rw[yA]at h;exact absurd h (by simp)
        | some q =>
          obtain⟨e,env',S1⟩:=q
          have hx:Lu L.dfn call inst N ds S1=some S'∧(e=.normal∨e=.ret):=by
            rw[yA]at h
            cases e with
            | normal=>exact⟨h,.inl rfl⟩
            | ret=>exact⟨h,.inr rfl⟩
            | exit i=>simp at h
          obtain⟨hx,he⟩:=hx;unfold lowFnD at x9
          cases hb:fn2.body with
          | none=>simp[hb]at x9
          | some c =>
            simp only[hb]at x9;split at x9
            · rename_i lc ls vN qZ;split at x9
              · simp at x9
              rename_i wM;split at x9
              · rename_i zu;simp only[Bool.and_eq_true,decide_eq_true_eq]at zu;obtain⟨zu,yh⟩:=zu;simp only[Oi]at x9;subst x9;simp only at yw yF hres yA;subst hres;generalize hdv:D.fn f caps=dd at hv;cases hv<;>try (simp at hdv;done)
                rename_i f2 cs2 cvs wu hh2;simp only[D.fn.injEq]at hdv;obtain⟨rfl,rfl⟩:=hdv;have hcv:VL w ρ S.heap caps cvs:=VL.of wu fun j d v h1 h2=>hh2 j d v h1 h2;have wU:=hcv.len;have hnt:cvs.length≤fn2.ntmps:=by omega
                show Leaves P fn tmps R (⟨.fn (.func f) cvs.toArray,#[]⟩::_) .returning w;refine leaves_cons (f:=f) (args:=cvs.toArray) (by simp) ?_ ?_
                · have hnm : (fn2.name == "runtime.NumGoroutine") = false := by simpa using wM
                  simp[invoke,callFunc,zY,wM,hb]
                refine callsD_of_wpS zY hb fun c₀ cs hu=>?_;have vP:=entry_fr (slots:=slots) hcv hnt;have hdx:DX 0 w ρ S.heap slots.length (slots.map fun s=>caps.getD s .undef) []:=DX.nil (Nat.zero_le _) (by simp)
                -- what lies behind the closure's code
                have fin:∀(ex:Exit) (a':Act) (w':World),CQ 0 w ρ S slots fn2.ntmps e env' S1 ex a' w'→bodyPostS P fn2 c₀ cs (fun
                    | .returned _,u',w'=>Leaves P fn tmps R (List.map dfOf us) (settle u') w'
                    | .panicked chain,u',w'=>Leaves P fn tmps R (List.map dfOf us) (raised u' chain) w'
                    | .outgrown,_,w'=>R .outgrown w') ex a' (c₀::cs) w':=by
                  rintro ex a' w' ⟨ρ',h1,h2,h3,h4,h5⟩;obtain⟨v,h7,h8⟩:=Rf (P:=P) (r:=.tup []) h2 zu h4 qZ rfl
                  have hd0:a'.defers=[]:=by
                    obtain⟨_,_,us,qj,rV,_⟩:=h5;have:=E5 lc yF _ _ _ _ _ yA;rw[List.drop_eq_nil_of_le (by simp at this;omega)]at qj;cases qj;exact rV
                  have hgo:Leaves P fn tmps R (List.map dfOf us) (settle .returning) w':=defs_ok hm hL y9 rG zK ds _ S1 S' w' ρ' hx (rT.mono h3) h2 (by rw[h3.hid];exact hG) fun w2 ρ2 k1 k2=>hk w2 ρ2 k1 (h3.trans k2);have yB:c₀::cs={ c₀ with mode:=.returning }::cs:=by rw[←hu]
                  rcases he with rfl | rfl
                  · simp only [K8] at h1;subst h1;exact⟨hd0,.returning,yB,v,h7,hgo⟩
                  simp only[K8]at h1;subst h1;exact⟨hd0,.returning,yB,v,h7,hgo⟩
                have plain:Cy P kd fn2.ntmps slots c=some lc→c.wpS P (bodyPostS P fn2 c₀ cs _) { tmps:=cvs.toArray++Array.replicate (fn2.ntmps-cvs.toArray.size) undef,defers:=[] } (c₀::cs) w:=fun vN =>
                  wpS_of_wp (wpIn_wide.1 (Xb rF hm y9 rG zK zu c 0 none 0 lc _ S e env' S1 _ w ρ _ vN (.inl rfl) yA hdx hr hG vP fin))
                unfold lowBodyD at vN;split at vN
                · rename_i id ops y;split at vN
                  · rename_i t u hrec;split at vN
                    · rename_i j ly htn hj hly;split at vN
                      · rename_i htt;simp only[Oi]at vN;subst vN;obtain⟨oa,ob,args,tys,rfl,ha1,ha2,ha3,hb1,hb2,hb3,htu⟩:=recoverOf_some hrec;have hmj:=F6 hj
                        have hun:u<fn2.ntmps:=by
                          have:=List.all_eq_true.1 zu u (Lm hmj);simpa using this
                        simp only[Bc,Hg,onG,Al,aop,LOp.loud,Bool.false_eq_true,if_false,List.map_cons,List.map_nil,opd,pop,Option.map_some,exports,List.getD_cons_zero]at yA;refine wpS_seq (wpS_region ?_);have hrange:List.range (#[oa,ob]:Array Oper).size=[0,1]:=rfl;rw[hrange];have h0:(#[oa,ob]:Array Oper)[0]?=some oa:=rfl;have h1:(#[oa,ob]:Array Oper)[1]?=some ob:=rfl;generalize hact:({ tmps:=cvs.toArray++Array.replicate (fn2.ntmps-cvs.toArray.size) undef,defers:=[] }:Act)=act at vP;have hw0:∀b:Act,Region.wanted oa (yielded #[oa,ob] b.tmps)=true:=fun b=>by simp[Region.wanted,ha2]
                        have hw1:∀b:Act,Region.wanted ob (yielded #[oa,ob] b.tmps)=true:=fun b=>by simp[Region.wanted,hb2]
                        have ku:(execOp act.eval oa).run P w=.ok .recover w:=by simp[execOp,ha1,resolve,invoke,builtin]
                        have hrd:recoverD (c₀::cs)=none:=by simp[recoverD,hu]
                        have hx1:(execOp (act.put (some t) .nilIface).eval ob).run P w=.ok (.value .nilIface) w:=by
                          have:(act.put (some t) .nilIface).eval (.tmp t)=.nilIface:=by
                            show (act.tmps.setIfInBounds t .nilIface).getD t undef=.nilIface;have xC:=vP.1;simp[Array.getD_eq_getD_getElem?,xC,htt]
                          rcases hb1 with hb1 | hb1<;>simp[execOp,hb1,this]
                        simp only[wpOpsS,h0,hw0,if_true,ku,hrd,h1,ha3,hw1,hx1,Oper.upon,hb3,Exit.thenS];refine wpS_of_wp ?_;have hp1:=vP.put (dst:=some t) (r:=.nili) (v:=.nilIface) (σ':=fun x=>if some t=some x then D.nili else sig slots [] [] (slots.map fun s=>caps.getD s .undef) x) (Stp.refl w ρ S) .nili (by simpa [Gu] using htt) fun x=>rfl;have hp2:=hp1.put (dst:=some u) (r:=.nili) (v:=.nilIface) (σ':=fun x=>if some u=some x then D.nili else if some t=some x then D.nili else sig slots [] [] (slots.map fun s=>caps.getD s .undef) x) (Stp.refl w ρ S) .nili (by simpa [Gu] using hun) fun x=>rfl
                        have hfr2:FR w ρ S.heap fn2.ntmps (sig slots [] [] ((slots.map fun s=>caps.getD s .undef).set j .nili)) ((act.put (some t) .nilIface).put (some u) .nilIface):=by
                          refine⟨hp2.1,fun x hx=>?_⟩;have h3:=hp2.2 x hx;dsimp only at h3;unfold sig;simp only[G5]
                          cases hi:idxOf slots x with
                          | none=>exact .undef _
                          | some i =>
                            have hmi:=F6 hi;have yP:=lt_of_some hmj;by_cases hxu:u=x
                            · subst hxu;rw[if_pos rfl]at h3;have:i=j:=by rw[hi]at hj;injection hj
                              subst this
                              have hgs:((slots.map fun s=>caps.getD s D.undef).set i D.nili).getD i D.undef=D.nili:=by
                                rw[List.getD_eq_getElem?_getD,List.getElem?_set_self (by simpa using yP)];rfl
                              show VR w ρ S.heap (((slots.map fun s=>caps.getD s D.undef).set i D.nili).getD i D.undef) _;rw[hgs];exact h3
                            have hxt:t≠x:=fun h=>by subst h;rw[htn]at hi;cases hi
                            rw[if_neg (by simpa using hxu),if_neg (by simpa using hxt)]at h3;have hij:j≠i:=fun h=>by subst h;rw[hmj]at hmi;injection hmi with hmi;exact hxu hmi
                            unfold sig at h3;simp only[G5,hi]at h3;simp only[List.getD,Ln_ hij];simpa only [List.getD] using h3
                        have hdf:((act.put (some t) .nilIface).put (some u) .nilIface).defers=[]:=by rw[←hact];rfl
                        have hdx2:DX 0 w ρ S.heap slots.length ((slots.map fun s=>caps.getD s .undef).set j .nili) ((act.put (some t) .nilIface).put (some u) .nilIface).defers:=by rw[hdf];exact DX.nil (Nat.zero_le _) (by simp)
                        refine wpIn_wide.1 (Xb rF hm y9 rG zK zu y 0 none 0 ly _ S e env' S1 _ w ρ _ hly (.inl rfl) yA hdx2 hr hG hfr2 fin)
                      simp at vN
                    simp at vN
                  exact plain vN
                exact plain vN
              simp at x9
            simp at x9
      simp at h
theorem marks_ok{P:Program}{fn:Func}{tmps:Array Value}{R:Ending→World→Prop}{n0 nt:Nat}{σ:Nat→D}{a:Act}{w0:World}{ρ0 ρ:Xn}{S0 S:St}(vZ:Rel w0 ρ0 S0.heap)(hn:w0.heap.size≤n0):∀(ks:List Nat) (w:World),ks.Nodup→(∀k∈ks,n0≤k∧w.heap[k]?=some (.deferred (some [])))→Rel w ρ S.heap→Stp w0 ρ0 S0 w ρ S→FR w ρ S.heap nt σ a →
  (∀w2,Rel w2 ρ S.heap→Stp w0 ρ0 S0 w2 ρ S→FR w2 ρ S.heap nt σ a→LeavesIn Fence.wide 0 P fn tmps R [] .returning w2)→LeavesInM Fence.wide 0 P fn tmps R (ks.map fun k=>⟨.collected k,#[]⟩) .returning w
 | [],w,_,_,hr,hs,hf,hk=>hk w hr hs hf
 | k::ks,w,yF,hks,hr,hs,hf,hk=>by
  obtain⟨h1,h2⟩:=hks k List.mem_cons_self;have vM:Xy w (w.putObj k (.deferred none)) k (.deferred none):=Xy.putObj (lt_of_heap h2);refine⟨by simp,.inl ⟨k,_,rfl,run_takeDeferred h2,?_⟩⟩;refine marks_ok vZ hn ks _ (List.nodup_cons.1 yF).2 (fun j hj=>?_) (hr.late h2 vM) (stp_late vZ hs h2 vM (Nat.le_trans hn h1)) ⟨hf.1,fun t ht=>(hf.2 t ht).late h2 vM⟩ hk;obtain⟨h3,h4⟩:=hks j (List.mem_cons_of_mem _ hj);exact⟨h3,(vM.old j (fun e=>by subst e;exact (List.nodup_cons.1 yF).1 hj)).trans h4⟩
theorem junk_marks{w:World}{ρ:Xn}{H:List Xh}:∀{ds:List D} {vs:List Value},VL w ρ H ds vs→ds.all Pk=true→vs.map dfOf=(vs.filterMap isMk).map fun k=>⟨.collected k,#[]⟩
 | [],_,.nil,_=>rfl
 | d :: ds, v :: vs, .cons h t, hj => by
  simp only[List.all_cons,Bool.and_eq_true]at hj
  have hd:d=.junk:=by cases d<;>first | rfl | (simp[Pk]at hj;done)
  subst hd
  cases h with
  | junk n =>
   have:=junk_marks t hj.2;simp[dfOf,isMk,this]
def YOK (P:Program) (G:Nat→Option (List D)) (L0:Nat→Option Fix) (Y:YF):Prop:=∀g ds S r S' wr,Y g ds S=some (r,S',wr)→wr=true∧∃x,L0 g=some x∧∀w (ρ:Xn) vs,XOK G L0 ρ.X→Rel w ρ S.heap→VL w ρ S.heap ds vs→RndOK P x vs w fun e w'=>∃v,e=.returned v∧Xu w ρ S r S' wr v w'
theorem YOK.no{P:Program}{G:Nat→Option (List D)}{L0:Nat→Option Fix}:YOK P G L0 noY:=fun g ds S r S' wr h=>by cases h
theorem YOK.upd{P:Program}{G:Nat→Option (List D)}{L0:Nat→Option Fix}{Y:YF}{g:Nat}{h:HF}{x:Fix}(hY:YOK P G L0 Y)(h0:L0 g=none)(hh:RndH P G (Hl L0 g x) x h):YOK P G (Hl L0 g x) (M8 Y g h):=fun k ds S r S' wr hr=>by
 unfold M8 at hr;split at hr
 ·
  rename_i e;subst e;obtain⟨h1,h2⟩:=hh ds S r S' wr hr;exact⟨h1,x,J7 ..,h2⟩
 rename_i e;obtain⟨h1,y,h2,h3⟩:=hY k ds S r S' wr hr;exact⟨h1,y,by rw[Qi _ _ e];exact h2,fun w ρ vs hX=>h3 w ρ vs (hX.more h0)⟩
def YCl (Y:YF):Prop:=∀g ds S r S',Y g ds S≠some (r,S',false)
theorem YOK.cl{P:Program}{G:Nat→Option (List D)}{L0:Nat→Option Fix}{Y:YF}(hY:YOK P G L0 Y):YCl Y:=fun g ds S r S' h=>by cases (hY g ds S r S' false h).1
def MemCl (L:Prg):Prop:=∀f ds S r S',L.mem f ds S=some (r,S',false)→S'=S
theorem O4(L:Prg)(hM:MemCl L)(N:Nat):∀d Y,YCl Y→Ig (Dc L N d Y)
 | 0,Y,_=>fun f ds S r S' h=>by simp[Dc]at h
 | d + 1, Y, hY => fun f ds S r S' h => by
  simp only[Dc]at h;split at h
  ·
   exact absurd h (hY _ _ _ _ _)
  split at h
  ·
   simp only[Oi,Pi_]at h;exact h.2.1.symm
  split at h
  ·
   rename_i x hx;rw[Option.some.inj h]at hx;exact hM _ _ _ _ _ hx
  repeat' (first | (simp at h;done) | (split at h))
  all_goals try (simp at h;done)
  all_goals
   first | unfold leaveD at h | unfold Df at h | unfold leave at h
   repeat' (first | (simp at h;done) | (split at h))
   all_goals first
    | (simp at h;done)
    | (simp only[Oi,Pi_]at h;exact h.2.1.symm)
theorem runFY_ok {P : Program} {G : Nat → Option (List D)} {L : Prg} (hm : P.follows .mixedOrders = true) (hL : PrgOK P G L) (N : Nat) : ∀ d (Y : YF) (L0 : Nat → Option Fix), YOK P G L0 Y → Oe P G L0 (Dc L N d Y)
  | 0,Y,L0,hY=>⟨fun f ds S r S' wr hf h=>by simp[Dc]at h,fun g ds S r S' wr h=>by simp[Dc]at h⟩
  | d + 1, Y, L0, hY => by
    have ih:=runFY_ok hm hL N d;have hMc:MemCl L:=fun f ds S r S' h=>(hL.2.2.2 f ds S r S' false h).1 rfl;have ihI:∀(Y:YF) (L0:Nat→Option Fix),YOK P G L0 Y→InstOK P G L0 fun g h=>Dc L N d (M8 Y g h):=fun Y L0 hY g h x h0 hh=>ih _ _ (hY.upd h0 hh)
    refine⟨?_,fun g ds S r S' wr h=>by
      simp only[Dc]at h;rw[if_pos (Nat.le_add_right _ _),Nat.add_sub_cancel_left]at h
      exact (hY g ds S r S' wr h).2⟩
    intro f ds S r S' wr yU h w ρ vs hG hr hv;simp only[Dc]at h;rw[if_neg (Nat.not_le_of_lt yU)]at h;by_cases hE:(L.ext f ds).isSome=true
    · obtain ⟨r0, hE⟩ := Option.isSome_iff_exists.1 hE;simp only[hE,Oi,Pi_]at h;obtain⟨rfl,rfl,rfl⟩:=h;exact hL.2.1 f ds _ hE _ w ρ vs hG.1 hr hv
    replace hE:L.ext f ds=none:=by simpa using hE
    simp only[hE]at h
    cases hMm:L.mem f ds S with
    | some x =>
      rw[hMm]at h;simp only[Oi]at h;subst h;exact (hL.2.2.2 f ds S _ _ _ hMm).2 w ρ vs hG.1 hr hv
    | none =>
    simp only[hMm]at h
    cases hF:L.fns f with
    | none=>simp[hF]at h
    | some F =>
      simp only[hF]at h;obtain⟨fn,kd,slots,zY,x9,rF,yF⟩:=hL.1 f F hF;unfold Be at x9
      cases hb:fn.body with
      | none=>simp[hb]at x9
      | some c =>
        simp only[hb]at x9;split at x9
        · rename_i lc ls vN qZ;split at x9
          · simp at x9
          rename_i wM;split at x9
          · rename_i zu;simp only[Bool.and_eq_true,decide_eq_true_eq]at zu;obtain⟨zu,yh⟩:=zu;simp only[Oi]at x9;subst x9;split at h
            · simp at h
            rename_i args' yc
            have hva:VL w ρ S.heap args' vs:=by
              split at yc
              · simp only[Oi]at yc;subst yc;exact hv
              exact Qk hr (Nat.le_refl _) hv yc
            simp only[ne_eq,ite_not]at h;split at h
            · rename_i xg
              have body:∀(Y:YF) (L0:Nat→Option Fix),YOK P G L0 Y→∀(ρ0:Xn) (S0 S1 S2:St) (e:Xm) (env':List D) (r0:D) (Post:Value→World→Prop),XOK G L0 ρ0.X→Rel w ρ0 S0.heap→VL w ρ0 S0.heap args' vs→Bc (Dc L N d Y) (fun g h=>Dc L N d (M8 Y g h)) N lc (slots.map fun s=>args'.getD s .undef) ⟨S0.heap,S0.heap.length⟩=some (e,env',S1)→(e=.normal∨e=.ret)→behind L (Dc L N d Y) (fun g h=>Dc L N d (M8 Y g h)) N f ⟨slots,fn.params.size+fn.nfree,lc,ls⟩ env' S1=some S2→Ce env' S2 ls=some r0 →
                  (∀w' ρ' v,Rel w' ρ' S2.heap→Stp w ρ0 ⟨S0.heap,S0.heap.length⟩ w' ρ' S2→VR w' ρ' S2.heap r0 v→Post v w')→(callFunc f vs.toArray).run P w=.ok (.enter f vs.toArray) w∧Calls P f vs.toArray w fun e w'=>∃v,e=.returned v∧Post v w':=by
                intro Y L0 hY ρ0 S0 S1 S2 e env' r0 Post hG0 hr hva yA he qc vZ qp
                have hnm : (fn.name == "runtime.NumGoroutine") = false := by simpa using wM
                refine⟨by simp[callFunc,zY,wM,hb],?_⟩;have wU:=hva.len;have hnt:fn.params.size+fn.nfree=vs.length:=by rw[wU,xg]
                have vP:FR w ρ0 S0.heap fn.ntmps (sig slots [] [] (slots.map fun s=>args'.getD s .undef)) { tmps:=vs.toArray++Array.replicate (fn.ntmps-vs.toArray.size) undef,defers:=[] }:=entry_fr hva (by omega);by_cases hjk:L.dfs f=true∧(env'.drop slots.length).all Pk=true
                · have hS2 : S2 = S1 := by
                    unfold behind at qc;rw[if_pos hjk.1,if_pos hjk.2]at qc;exact (Option.some.inj qc).symm
                  subst hS2;refine (callsIn_wide (n:=0)).1 (callsIn_of_wp_marks zY hb trivial (Xb rF hm (ih Y L0 hY) (ihI Y L0 hY) (O4 L hMc N d Y hY.cl) zu c w.heap.size none 0 lc _ ⟨S0.heap,S0.heap.length⟩ e env' S2 _ w ρ0 _ vN (.inl rfl) yA (DX.nil (Nat.le_refl _) (by simp)) hr hG0 vP ?_));rintro ex a' w' ⟨ρ',h1,h2,h3,h4,h5⟩
                  have fin:LeavesInM Fence.wide 0 P fn a'.tmps (fun e w'=>∃v,e=.returned v∧Post v w') a'.defers .returning w':=by
                    obtain⟨_,_,us,qj,rV,hu3,hu4⟩:=h5;rw[rV,←List.map_reverse,junk_marks qj.reverse (by rw[List.all_reverse];exact hjk.2)];rw[List.filterMap_reverse];refine marks_ok (S0:=⟨S0.heap,S0.heap.length⟩) hr (Nat.le_refl _) _ w' (List.pairwise_reverse.2 (hu3.imp fun h e=>h e.symm)) (fun k hk=>?_) h2 h3 h4 fun w2 k1 k2 k3=>?_
                    · obtain ⟨q1, q2, _⟩ := hu4 k (List.mem_reverse.1 hk);exact⟨q1,q2⟩
                    obtain⟨v,h7,h8⟩:=Rf (P:=P) k1 zu k3 qZ vZ;exact⟨v,h7,v,rfl,qp w2 ρ' v k1 k2 h8⟩
                  rcases he with rfl | rfl
                  · simp only [K8] at h1;subst h1;exact fin
                  simp only[K8]at h1;subst h1;exact fin
                refine calls_of_wp_defers zY hb ?_;refine wpIn_wide.1 (Xb rF hm (ih Y L0 hY) (ihI Y L0 hY) (O4 L hMc N d Y hY.cl) zu c 0 none 0 lc _ ⟨S0.heap,S0.heap.length⟩ e env' S1 _ w ρ0 _ vN (.inl rfl) yA (DX.nil (Nat.zero_le _) (by simp)) hr hG0 vP ?_);rintro ex a' w' ⟨ρ',h1,h2,h3,h4,h5⟩
                have fin:Leaves P fn a'.tmps (fun e w'=>∃v,e=.returned v∧Post v w') a'.defers .returning w':=by
                  obtain⟨_,_,us,qj,rV,_⟩:=h5
                  have last:∀w2 ρ2,Rel w2 ρ2 S2.heap→Stp w' ρ' S1 w2 ρ2 S2→Leaves P fn a'.tmps (fun e w'=>∃v,e=.returned v∧Post v w') [] .returning w2:=by
                    intro w2 ρ2 k1 k2;obtain⟨v,h7,h8⟩:=Rf (P:=P) k1 zu (h4.mono k2) qZ vZ;exact⟨v,h7,v,rfl,qp w2 ρ2 v k1 (h3.trans k2) h8⟩
                  unfold behind at qc;split at qc
                  · rename_i hdf;rw[if_neg (fun hj=>hjk ⟨hdf,hj⟩)]at qc;rw[rV,←List.map_reverse];exact defs_ok hm hL.2.2.1 (ih Y L0 hY) (ihI Y L0 hY) (O4 L hMc N d Y hY.cl) _ _ S1 S2 w' ρ' qc qj.reverse h2 (by rw[h3.hid];exact hG0) last
                  rename_i hdf;simp only[Oi]at qc;subst qc
                  have hnd':Ee lc=true:=by
                    rcases yF with h | h
                    · exact absurd h hdf
                    exact h
                  have:=E5 lc hnd' _ _ _ _ _ yA;rw[List.drop_eq_nil_of_le (by simp at this;omega)]at qj;cases qj;rw[rV];exact last w' ρ' h2 (Stp.refl _ _ _)
                rcases he with rfl | rfl
                · simp only [K8] at h1;subst h1;exact fin
                simp only[K8]at h1;subst h1;exact fin
              split at h
              · rename_i hpure;simp only[Bool.and_eq_true]at hpure
                cases yA:Bc (Dc L N d noY) (fun g h=>Dc L N d (M8 noY g h)) N lc (slots.map fun s=>args'.getD s .undef) ⟨[],0⟩ with
                | none=>rw[yA]at h;simp at h
                | some q =>
                  obtain⟨e,env',S1⟩:=q;simp only[yA]at h
                  have xA:(e=.normal∨e=.ret)∧∃S2,behind L (Dc L N d noY) (fun g h=>Dc L N d (M8 noY g h)) N f ⟨slots,fn.params.size+fn.nfree,lc,ls⟩ env' S1=some S2∧∃r0,Ce env' S2 ls=some r0∧(if L.deep f then leaveD ⟨[],0⟩ S r0 S2 else Df S r0 S2)=some (r,S',wr):=by
                    cases e with
                    | exit i=>simp at h
                    | normal =>
                      refine⟨.inl rfl,?_⟩;simp only at h;split at h
                      · simp at h
                      rename_i S2 qc;split at h
                      · simp at h
                      rename_i r0 vZ;exact⟨S2,qc,r0,vZ,h⟩
                    | ret =>
                      refine⟨.inr rfl,?_⟩;simp only at h;split at h
                      · simp at h
                      rename_i S2 qc;split at h
                      · simp at h
                      rename_i r0 vZ;exact⟨S2,qc,r0,vZ,h⟩
                  obtain⟨he,S2,qc,r0,vZ,yG⟩:=xA;have hr0':=hide_rel hr
                  have key:r.Xr=true∧S'=S∧wr=false∧∃S3,∀w' ρ' v,Rel w' ρ' S2.heap→Stp w (hide ρ S.heap) ⟨[],0⟩ w' ρ' S2→VR w' ρ' S2.heap r0 v→Xu w (hide ρ S.heap) ⟨[],0⟩ r S3 false v w':=by
                    split at yG
                    · have h0 := yG;unfold leaveD at h0;split at h0
                      · split at h0
                        · split at h0
                          · rename_i yL;simp only[Oi,Pi_]at h0;obtain⟨rfl,rfl,rfl⟩:=h0;exact⟨yL,rfl,rfl,_,fun w' ρ' v q1 q2 q3=>(leaveD_ok (S:=⟨[],0⟩) hr0' q1 q2 q3 yG).2.2.2⟩
                          simp at h0
                        simp at h0
                      simp at h0
                    unfold Df at yG;split at yG
                    · rename_i r' S3 hl;split at yG
                      · rename_i yL;simp only[Oi,Pi_]at yG;obtain⟨rfl,rfl,rfl⟩:=yG;exact⟨yL,rfl,rfl,S3,fun w' ρ' v q1 q2 q3=>leave_ok (S:=⟨[],0⟩) hr0' q1 q2 q3 hl⟩
                      simp at yG
                    simp at yG
                  obtain⟨yL,rfl,rfl,S3,key⟩:=key;refine body noY (fun _=>none) YOK.no (hide ρ S'.heap) ⟨[],0⟩ S1 S2 e env' r0 _ ⟨hG.1,fun g y h=>by cases h⟩ hr0' (VL.of hva.len fun j d v h1 h2=>hide_in (hva.get h1 h2) (List.all_eq_true.1 hpure.2 d (Lm h1))) yA he qc vZ fun w' ρ' v q1 q2 q3=>?_;obtain⟨ρ2,p1,p2,p3,p4⟩:=key w' ρ' v q1 q2 q3;obtain⟨zF,rfl,rfl⟩:=p4 rfl
                  have xH:Stp w ρ S' w' ρ S':=⟨rfl,q2.os,q2.tape,q2.output,q2.size,Nat.le_refl _,fun b hb hg=>⟨zF.block b hb,hg⟩,fun b q hi=>⟨El (zF.block b hi.1) q,Nat.lt_of_lt_of_le hi.1 q2.size,hi.2⟩,
                    fun g b o ho hg hb=>zF.block b (hr.lt hb),fun g o ho=>⟨o,ho,⟨Nat.le_refl _,rfl⟩,fun _=>rfl,fun _=>⟨rfl,rfl,rfl,Nat.le_refl _,fun b cur hb hc=>⟨cur,(zF.block b (hr.lt hb)).trans hc,rfl⟩⟩⟩,fun g x hX hb hl=>by
                      obtain⟨j,q1,q2⟩:=hl
                      exact⟨j,q1,(zF.block x.b (hr.lt hb)).trans q2⟩⟩
                  have qE:Rel w' ρ S'.heap:=⟨hr.inj,fun g b hb=>by
                    obtain⟨o,ho,hk⟩:=hr.obj g b hb
                    exact⟨o,ho,hk.mono xH (zF.block b (hr.lt hb))⟩,hr.hids xH,hr.globs xH,hr.lpss xH⟩
                  exact⟨ρ,qE,xH,hide_out qE p3 yL,fun _=>⟨zF,rfl,rfl⟩⟩
              cases yA:Bc (Dc L N d Y) (fun g h=>Dc L N d (M8 Y g h)) N lc (slots.map fun s=>args'.getD s .undef) ⟨S.heap,S.heap.length⟩ with
              | none=>rw[yA]at h;simp at h
              | some q =>
                obtain⟨e,env',S1⟩:=q;simp only[yA]at h
                have xA:(e=.normal∨e=.ret)∧∃S2,behind L (Dc L N d Y) (fun g h=>Dc L N d (M8 Y g h)) N f ⟨slots,fn.params.size+fn.nfree,lc,ls⟩ env' S1=some S2∧∃r0,Ce env' S2 ls=some r0∧(if L.deep f then leaveD S S r0 S2 else leave (L.raw f) S r0 S2)=some (r,S',wr):=by
                  cases e with
                  | exit i=>simp at h
                  | normal =>
                    refine⟨.inl rfl,?_⟩;simp only at h;split at h
                    · simp at h
                    rename_i S2 qc;split at h
                    · simp at h
                    rename_i r0 vZ;exact⟨S2,qc,r0,vZ,h⟩
                  | ret =>
                    refine⟨.inr rfl,?_⟩;simp only at h;split at h
                    · simp at h
                    rename_i S2 qc;split at h
                    · simp at h
                    rename_i r0 vZ;exact⟨S2,qc,r0,vZ,h⟩
                obtain⟨he,S2,qc,r0,vZ,yG⟩:=xA;refine body Y L0 hY ρ S S1 S2 e env' r0 _ hG hr hva yA he qc vZ fun w' ρ' v q1 q2 q3=>?_;split at yG
                · obtain ⟨rfl, rfl, _, hp⟩ := leaveD_ok hr q1 q2 q3 yG;exact hp
                exact leave_ok hr q1 q2 q3 yG
            simp at h
          simp at x9
        simp at x9
theorem run_ok{P:Program}{G:Nat→Option (List D)}{L:Prg}(hm:P.follows .mixedOrders=true)(hL:PrgOK P G L)(N d:Nat):Oe P G (fun _=>none) (Ae L N d):=runFY_ok hm hL N d noY _ YOK.no
set_option maxRecDepth 10000
section
universe u
noncomputable def Ns {α:Type u} (l:List α):Nat:=List.rec (motive:=fun _=>Nat) 0 (fun _ _ ih=>Nat.succ ih) l
theorem Fx{α:Type u}:∀l:List α,Ns l=l.length
 | []=>rfl
 | a::l=>congrArg Nat.succ (Fx l)
noncomputable def appR {α:Type u} (l m:List α):List α:=List.rec (motive:=fun _=>List α) m (fun h _ ih=>h::ih) l
theorem Xg{α:Type u}(m:List α):∀l:List α,appR l m=l++m
 | []=>rfl
 | a::l=>congrArg (a::·) (Xg m l)
noncomputable def repR {α:Type u} (x:α) (n:Nat):List α:=Nat.rec (motive:=fun _=>List α) [] (fun _ ih=>x::ih) n
theorem Wx{α:Type u}(x:α):∀n,repR x n=List.replicate n x
 | 0=>rfl
 | n+1=>by rw[List.replicate_succ,←Wx x n];rfl
end
abbrev Ans:=Option (D × St × Bool)
abbrev K1:=D→St→Bool→Ans
abbrev Iw:=FuncId→List D→St→K1→Ans
def CKs (c:Iw) (cs:Aq):Prop:=∀f args S k a,c f args S k=some a→∃r S' w,cs f args S=some (r,S',w)∧k r S' w=some a
noncomputable def frc (n:Nat) (k:Nat→Ans):Ans:=Nat.rec (motive:=fun _=>Ans) none (fun m _=>k m) (Nat.succ n)
theorem Jb(n:Nat)(k:Nat→Ans):frc n k=k n:=rfl
noncomputable def ifA (b:Bool) (t e:Ans):Ans:=Bool.rec (motive:=fun _=>Ans) e t b
theorem Cn(b:Bool)(t e:Ans):ifA b t e=if b=true then t else e:=by cases b<;>rfl
noncomputable def boolK (b:Bool) (k:D→Ans):Ans:=Bool.rec (motive:=fun _=>Ans) (k (.bool false)) (k (.bool true)) b
theorem Tu(b:Bool)(k:D→Ans):boolK b k=k (.bool b):=by cases b<;>rfl
noncomputable def Ip {α:Type} (o:Option α) (k:α→Ans):Ans:=Option.rec (motive:=fun _=>Ans) none k o
theorem Db{α:Type}{o:Option α}{k:α→Ans}{a:D × St × Bool}(h:Ip o k=some a):∃x,o=some x∧k x=some a:=by
 cases o with
 | none=>exact absurd h (by simp[Ip])
 | some x=>exact⟨x,rfl,h⟩
noncomputable def R3 (o:Option (D × St × Bool)) (k:K1):Ans:=Option.rec (motive:=fun _=>Ans) none (fun p=>Prod.rec (motive:=fun _=>Ans) (fun r q=>Prod.rec (motive:=fun _=>Ans) (fun S w=>k r S w) q) p) o
theorem Jd{o:Option (D × St × Bool)}{k:K1}{a:D × St × Bool}(h:R3 o k=some a):∃r S w,o=some (r,S,w)∧k r S w=some a:=by
 cases o with
 | none=>exact absurd h (by simp[R3])
 | some x=>obtain⟨r,S,w⟩:=x;exact⟨r,S,w,rfl,h⟩
structure IV where
 ok:Bool
 k:IntKind
 n:Nat
def D.iv:D→IV
 | .int k (.ofNat n)=>⟨true,k,n⟩
 | _=>⟨false,.i8,0⟩
theorem D.iv_ok{d:D}{k:IntKind}{n:Nat}(h:d.iv=⟨true,k,n⟩):d=.int k n:=by
 unfold D.iv at h;split at h
 ·
  simp only[IV.mk.injEq,true_and]at h;rw[h.1,h.2];rfl
 simp at h
noncomputable def ivK (d:D) (f:IntKind→Nat→Ans) (e:Ans):Ans:=IV.rec (motive:=fun _=>Ans) (fun ok k n=>ifA ok (f k n) e) d.iv
theorem Fz{d:D}{f:IntKind→Nat→Ans}{e:Ans}{a:D × St × Bool}(h:ivK d f e=some a):(∃k n,d=.int k (n:Nat)∧f k n=some a)∨e=some a:=by
 unfold ivK at h;rcases hd:d.iv with⟨ok,k,n⟩;rw[hd]at h;change ifA ok (f k n) e=some a at h
 cases ok with
 | true=>exact .inl ⟨k,n,D.iv_ok hd,h⟩
 | false=>exact .inr h
def D.bv:D→Nat
 | .bool true=>1
 | .bool false=>0
 | _=>2
theorem D.bv_1{d:D}(h:d.bv=1):d=.bool true:=by unfold D.bv at h;split at h<;>simp_all
theorem D.bv_0{d:D}(h:d.bv=0):d=.bool false:=by unfold D.bv at h;split at h<;>simp_all
noncomputable def bvK (d:D) (t e:Ans):Ans:=Nat.rec (motive:=fun _=>Ans) e (fun m _=>Nat.rec (motive:=fun _=>Ans) t (fun _ _=>none) m) d.bv
theorem M6{d:D}{t e:Ans}{a:D × St × Bool}(h:bvK d t e=some a):(d=.bool true∧t=some a)∨(d=.bool false∧e=some a):=by
 unfold bvK at h
 match hd:d.bv with
 | 0=>rw[hd]at h;exact .inr ⟨D.bv_0 hd,h⟩
 | 1=>rw[hd]at h;exact .inl ⟨D.bv_1 hd,h⟩
 | n+2=>rw[hd]at h;exact absurd h (by simp)
noncomputable def frcD (d:D) (k:D→Ans):Ans:=ivK d (fun kk n=>frc n fun m=>k (.int kk (.ofNat m))) (k d)
theorem frcD_some{d:D}{k:D→Ans}{a:D × St × Bool}(h:frcD d k=some a):k d=some a:=by
 unfold frcD at h;rcases Fz h with⟨kk,n,rfl,h⟩ | h
 ·
  exact h
 exact h
def D.flat:D→Bool
 | .int .. | .bool _ | .str _ | .nilp | .X4 | .nilfn | .nilm | .nili | .sl .. | .X7 .. | .mp _ | .ifc ..=>true
 | _=>false
theorem flat_snap{d:D}(h:d.flat=true)(m:Nat)(H:List Xh):snap m H d=some d:=by cases d<;>simp_all [D.flat,snap]
theorem flat_free{d:D}(h:d.flat=true):d.free=true:=by cases d<;>simp_all [D.flat,D.free,D.Xw]
noncomputable def Ru (l:List D):Bool:=List.rec (motive:=fun _=>Bool) true (fun h _ ih=>Bool.rec (motive:=fun _=>Bool) false ih h.flat) l
theorem Nz:∀{l:List D},Ru l=true→∀d∈l,d.flat=true
 | [],_,d,h=>by simp at h
 | x :: l, h, d, hd => by
  have hx:x.flat=true:=by
   cases e:x.flat with
   | true=>rfl
   | false =>
    have:Ru (x::l)=Bool.rec (motive:=fun _=>Bool) false (Ru l) x.flat:=rfl;rw[this,e]at h;simp at h
  have hl:Ru l=true:=by
   have:Ru (x::l)=Bool.rec (motive:=fun _=>Bool) false (Ru l) x.flat:=rfl;rw[this,hx]at h;exact h
  rcases List.mem_cons.1 hd with rfl | hd
  ·
   exact hx
  exact Nz hl d hd
noncomputable def D.flatV:D→Bool
 | .agg cs=>Ru cs
 | d=>d.flat
theorem snaps_flat(m:Nat)(H:List Xh):∀{l:List D},(∀d∈l,d.flat=true)→Bl m H l=some l
 | [],_=>rfl
 | x::l,h=>by simp[Bl,flat_snap (h x List.mem_cons_self),snaps_flat m H fun d hd=>h d (List.mem_cons_of_mem _ hd)]
theorem Pp{d:D}(h:d.flatV=true)(m:Nat)(H:List Xh):Xp m H d=some d:=by
 cases d with
 | agg cs=>simp[Xp,snaps_flat m H (Nz h)]
 | _=>simp_all [D.flatV,D.flat,Xp,snap]
theorem V4{d:D}(h:d.flatV=true):d.Xq=true:=by
 cases d with
 | agg cs =>
  simp only[D.Xq,List.all_eq_true];exact fun x hx=>flat_free (Nz h x hx)
 | _=>simp_all [D.flatV,D.flat,D.Xq,D.free,D.Xw]
noncomputable def Il (l:List D):Bool:=List.rec (motive:=fun _=>Bool) true (fun h _ ih=>Bool.rec (motive:=fun _=>Bool) false ih h.flatV) l
theorem Ie{x:D}{l:List D}(h:Il (x::l)=true):x.flatV=true∧Il l=true:=by
 have e:Il (x::l)=Bool.rec (motive:=fun _=>Bool) false (Il l) x.flatV:=rfl
 cases hx:x.flatV with
 | true=>rw[e,hx]at h;exact⟨rfl,h⟩
 | false=>rw[e,hx]at h;simp at h
theorem Js(m:Nat)(H:List Xh):∀{l:List D},Il l=true→Ah m H l=some l
 | [],_=>rfl
 | x::l,h=>by simp[Ah,Pp (Ie h).1,Js m H (Ie h).2]
theorem Po:∀{l:List D},Il l=true→l.all D.Xq=true
 | [],_=>rfl
 | x::l,h=>by
  rw[List.all_cons,V4 (Ie h).1,Po (Ie h).2];rfl
noncomputable def D.flatR:D→Bool
 | .tup ds=>Il ds
 | d=>d.flatV
theorem Ps{d:D}(h:d.flatR=true)(m:Nat)(H:List Xh):Xt m H d=some d:=by
 cases d with
 | tup ds=>simp[Xt,Js m H h]
 | agg cs=>exact Pp (d:=.agg cs) h m H
 | _=>simp_all [D.flatR,D.flatV,D.flat,Xt,Xp,snap]
theorem V5{d:D}(h:d.flatR=true):d.Xr=true:=by
 cases d with
 | tup ds=>exact Po h
 | agg cs=>exact V4 (d:=.agg cs) h
 | _=>simp_all [D.flatR,D.flatV,D.flat,D.Xr,D.Xq,D.free,D.Xw]
inductive ET where
 | nil
 | node (v:D) (l r:ET)
def ET.at:ET→List Bool→D
 | .nil,_=>.undef
 | .node v _ _,[]=>v
 | .node _ l _,true::p=>l.at p
 | .node _ _ r,false::p=>r.at p
def ET.put:ET→List Bool→D→ET
 | .nil,[],x=>.node x .nil .nil
 | .nil,true::p,x=>.node .undef (ET.nil.put p x) .nil
 | .nil,false::p,x=>.node .undef .nil (ET.nil.put p x)
 | .node _ l r,[],x=>.node x l r
 | .node v l r,true::p,x=>.node v (l.put p x) r
 | .node v l r,false::p,x=>.node v l (r.put p x)
theorem ET.at_put:∀(t:ET) (p q:List Bool) (x:D),(t.put p x).at q=if p=q then x else t.at q
 | .nil,[],[],x=>rfl
 | .nil,[],true::q,x=>by simp[ET.put,ET.at]
 | .nil,[],false::q,x=>by simp[ET.put,ET.at]
 | .nil,true::p,[],x=>by simp[ET.put,ET.at]
 | .nil,true::p,true::q,x=>by simp[ET.put,ET.at,ET.at_put .nil p q x]
 | .nil,true::p,false::q,x=>by simp[ET.put,ET.at]
 | .nil,false::p,[],x=>by simp[ET.put,ET.at]
 | .nil,false::p,true::q,x=>by simp[ET.put,ET.at]
 | .nil,false::p,false::q,x=>by simp[ET.put,ET.at,ET.at_put .nil p q x]
 | .node _ l r,[],[],x=>rfl
 | .node _ l r,[],true::q,x=>by simp[ET.put,ET.at]
 | .node _ l r,[],false::q,x=>by simp[ET.put,ET.at]
 | .node v l r,true::p,[],x=>by simp[ET.put,ET.at]
 | .node v l r,true::p,true::q,x=>by simp[ET.put,ET.at,ET.at_put l p q x]
 | .node v l r,true::p,false::q,x=>by simp[ET.put,ET.at]
 | .node v l r,false::p,[],x=>by simp[ET.put,ET.at]
 | .node v l r,false::p,true::q,x=>by simp[ET.put,ET.at]
 | .node v l r,false::p,false::q,x=>by simp[ET.put,ET.at,ET.at_put r p q x]
def pathOf:Nat→Nat→List Bool
 | 0,_=>[]
 | _+1,0=>[]
 | f+1,j+1=>if j % 2=0 then true::pathOf f (j / 2) else false::pathOf f (j / 2)
def Tz:List Bool→Nat
 | []=>0
 | true::p=>2*Tz p+1
 | false::p=>2*Tz p+2
theorem Je : ∀ (f j : Nat), j < 2 ^ f → Tz (pathOf f j) = j
  | 0, j, h => by have : j = 0 := by simpa using h
                  subst this;rfl
  | f+1,0,_=>rfl
  | f + 1, j + 1, h => by
    have h2:j / 2<2 ^ f:=by rw[Nat.pow_succ]at h;omega
    unfold pathOf;split
    · simp only[Tz,Je f _ h2];omega
    simp only[Tz,Je f _ h2];omega
def path (j:Nat):List Bool:=pathOf 12 j
theorem path_inj{i j:Nat}(hi:i<4096)(hj:j<4096)(h:path i=path j):i=j:=by
 rw[←Je 12 i hi,←Je 12 j hj];exact congrArg Tz h
structure ETR (n:Nat) (t:ET) (env:List D):Prop where
 len:n≤env.length
 le:n≤4096
 eq:∀j,j<n→t.at (path j)=env.getD j .undef
 jk:(env.drop n).all Pk=true
theorem ETR.set{n:Nat}{t:ET}{env:List D}(h:ETR n t env){j:Nat}(hj:j<n)(x:D):ETR n (t.put (path j) x) (env.set j x):=by
  refine⟨by rw[List.length_set];exact h.len,h.le,fun i hi=>?_,by rw[List.drop_set_of_lt hj];exact h.jk⟩;rw[ET.at_put];have hl:=h.le;by_cases e:i=j
  · subst e;rw[if_pos rfl,List.getD_eq_getElem?_getD,List.getElem?_set_self (by have:=h.len;omega)];rfl
  rw[if_neg (fun hp=>e (path_inj (by omega) (by omega) hp).symm),h.eq i hi,List.getD_eq_getElem?_getD,List.getD_eq_getElem?_getD,Ln_ (fun hp=>e hp.symm)]
structure TC where
 f:ET→(D→Ans)→Ans
noncomputable def getC (p:List Bool):TC :=
 List.rec (motive:=fun _=>TC) ⟨fun t k=>ET.rec (motive:=fun _=>Ans) none (fun v _ _ _ _=>k v) t⟩
  (fun b _ ih=>Bool.rec (motive:=fun _=>TC) ⟨fun t k=>ET.rec (motive:=fun _=>Ans) none (fun _ _ r _ _=>ih.f r k) t⟩ ⟨fun t k=>ET.rec (motive:=fun _=>Ans) none (fun _ l _ _ _=>ih.f l k) t⟩ b) p
theorem Mw:∀(p:List Bool) {t:ET} {k:D→Ans} {a:D × St × Bool},(getC p).f t k=some a→k (t.at p)=some a
 | [],.nil,k,a,h=>by simp[getC]at h
 | [],.node v l r,k,a,h=>h
 | b::p,.nil,k,a,h=>by cases b<;>simp[getC]at h
 | true::p,.node v l r,k,a,h=>Mw p (t:=l) h
 | false::p,.node v l r,k,a,h=>Mw p (t:=r) h
structure SC where
 f:D→ET→(ET→Ans)→Ans
noncomputable def setC (p:List Bool):SC :=
 List.rec (motive:=fun _=>SC) ⟨fun x t k=>ET.rec (motive:=fun _=>Ans) none (fun _ l r _ _=>k (.node x l r)) t⟩
  (fun b _ ih=>Bool.rec (motive:=fun _=>SC) ⟨fun x t k=>ET.rec (motive:=fun _=>Ans) none (fun v l r _ _=>ih.f x r fun r'=>k (.node v l r')) t⟩ ⟨fun x t k=>ET.rec (motive:=fun _=>Ans) none (fun v l r _ _=>ih.f x l fun l'=>k (.node v l' r)) t⟩ b) p
theorem Mg:∀(p:List Bool) {x:D} {t:ET} {k:ET→Ans} {a:D × St × Bool},(setC p).f x t k=some a→k (t.put p x)=some a
 | [],x,.nil,k,a,h=>by simp[setC]at h
 | [],x,.node v l r,k,a,h=>h
 | b::p,x,.nil,k,a,h=>by cases b<;>simp[setC]at h
 | true::p,x,.node v l r,k,a,h=>Mg p (t:=l) (k:=fun l'=>k (.node v l' r)) h
 | false::p,x,.node v l r,k,a,h=>Mg p (t:=r) (k:=fun r'=>k (.node v l r')) h
structure VC where
 f:List D→(D→Ans)→Ans
noncomputable def vC (n:Nat):VC :=
 Nat.rec (motive:=fun _=>VC) ⟨fun l k=>List.rec (motive:=fun _=>Ans) none (fun h _ _=>k h) l⟩ (fun _ ih=>⟨fun l k=>List.rec (motive:=fun _=>Ans) none (fun _ t _=>ih.f t k) l⟩) n
theorem vC_some:∀(n:Nat) {l:List D} {k:D→Ans} {a:D × St × Bool},(vC n).f l k=some a→k (l.getD n .undef)=some a
 | 0,[],k,a,h=>by simp[vC]at h
 | 0,x::l,k,a,h=>h
 | n+1,[],k,a,h=>by simp[vC]at h
 | n+1,x::l,k,a,h=>vC_some n (l:=l) h
structure OdC where
 f:List D→ET→(D→Ans)→Ans
noncomputable def odC (n:Nat):Xk→OdC
 | .env j=>Bool.rec (motive:=fun _=>OdC) ⟨fun _ _ _=>none⟩ ⟨fun _ t k=>(getC (path j)).f t k⟩ (Nat.blt j n)
 | .loc d=>⟨fun vals _ k=>(vC d).f vals k⟩
 | .const d=>⟨fun _ _ k=>k d⟩
theorem Mq{n:Nat}{o:Xk}{vals env:List D}{t:ET}{k:D→Ans}{a:D × St × Bool}(hR:ETR n t env)(h:(odC n o).f vals t k=some a):k (opd vals env o)=some a:=by
 cases o with
 | env j =>
  cases e:Nat.blt j n with
  | false=>simp only[odC,e]at h;exact absurd h (by simp)
  | true =>
   simp only[odC,e]at h;have:=Mw (path j) h;rw[hR.eq j (by simpa [Nat.blt_eq] using e)]at this;exact this
 | loc d=>exact vC_some d h
 | const d=>exact h
structure AC where
 f:List D→ET→(List D→Ans)→Ans
noncomputable def asC (n:Nat) (l:List Xk):AC :=
 List.rec (motive:=fun _=>AC) ⟨fun _ _ k=>k []⟩ (fun o _ ih=>⟨fun vals t k=>(odC n o).f vals t fun x=>ih.f vals t fun xs=>k (x::xs)⟩) l
theorem Qd{n:Nat}{vals env:List D}{t:ET}(hR:ETR n t env):∀(l:List Xk) {k:List D→Ans} {a:D × St × Bool},(asC n l).f vals t k=some a→k (l.map (opd vals env))=some a
 | [],k,a,h=>h
 | o::l,k,a,h=>by
  have h1:=Mq (k:=fun x=>(asC n l).f vals t fun xs=>k (x::xs)) hR h;exact Qd hR l (k:=fun xs=>k (opd vals env o::xs)) h1
theorem Pt(b:ByteArray):b.size=b.data.toList.length:=rfl
theorem f_go(b:ByteArray):∀(k i:Nat) (r:List UInt8),b.size-i=k→ByteArray.toList.loop b i r=r.reverse++b.data.toList.drop i
 | 0,i,r,h=>by
  rw[ByteArray.toList.loop,if_neg (by omega),List.drop_eq_nil_of_le (by rw[Pt]at h;omega)];simp
 | k+1,i,r,h=>by
  rw[ByteArray.toList.loop,if_pos (by omega),f_go b k (i+1) _ (by omega)];have hi:i<b.data.toList.length:=by rw[Pt]at h;omega
  rw[List.drop_eq_getElem_cons hi];have zD:i<b.data.size:=hi;simp[ByteArray.get!,getElem!_pos b.data i zD]
theorem f_toList(b:ByteArray):b.toList=b.data.toList:=by
 have:=f_go b _ 0 [] rfl;simpa [ByteArray.toList] using this
theorem f_get(b:ByteArray)(i:Nat):b[i]?=b.data.toList[i]?:=by
 by_cases h:i<b.size
 ·
  rw[getElem?_pos b i h,getElem?_pos b.data.toList i h];simp[ByteArray.getElem_eq_getElem_data]
 rw[getElem?_neg b i h,getElem?_neg b.data.toList i h]
theorem f_ext{a:ByteArray}{l:List UInt8}(h:a.data.toList=l):a=⟨⟨l⟩⟩:=by
 apply ByteArray.ext;apply Array.ext';exact h
structure BC where
 f:D→D→(D→Ans)→Ans
def BOK (op:BinOp) (b:BC):Prop:=∀x y k a,b.f x y k=some a→∃r,Ec op x y=some r∧k r=some a
noncomputable def Iq (op:BinOp) (x y:D) (k:D→Ans):Ans:=match Ec op x y with | some r=>frcD r k | none=>none
theorem Dv{op:BinOp}{x y:D}{k:D→Ans}{a:D × St × Bool}(h:Iq op x y k=some a):∃r,Ec op x y=some r∧k r=some a:=by
 unfold Iq at h;split at h
 ·
  next r hr=>exact⟨r,hr,frcD_some h⟩
 simp at h
def kn:IntKind→Nat
 | .i8=>0 | .i16=>1 | .i32=>2 | .i64=>3 | .u8=>4 | .u16=>5 | .u32=>6 | .u64=>7
def kb:IntKind→Nat
 | .i8=>128 | .i16=>32768 | .i32=>2147483648 | .i64=>9223372036854775808 | .u8=>256 | .u16=>65536 | .u32=>4294967296 | .u64=>18446744073709551616
theorem kn_inj{k k':IntKind}(h:Nat.beq (kn k) (kn k')=true):k=k':=by
 have h:=Nat.eq_of_beq_eq_true h
 cases k<;>cases k'<;>first | rfl | (exact absurd h (by decide))
theorem M7{k:IntKind}{n:Nat}(h:n<kb k):k.wrap (n:Int)=(n:Int):=by
 cases k<;>simp only[kb]at h<;>simp[IntKind.wrap,IntKind.bits,IntKind.signed]<;>(try split)<;>omega
noncomputable def twoK (x y:D) (f:IntKind→Nat→Nat→Ans) (e:Ans):Ans :=
 ivK x (fun k m=>ivK y (fun k' n=>ifA (Nat.beq (kn k) (kn k')) (f k m n) e) e) e
theorem L6{x y:D}{f:IntKind→Nat→Nat→Ans}{e:Ans}{a:D × St × Bool}(h:twoK x y f e=some a):(∃k m n,x=.int k (m:Nat)∧y=.int k (n:Nat)∧f k m n=some a)∨e=some a:=by
  unfold twoK at h;rcases Fz h with⟨k,m,hx,h1⟩ | h1
  · rcases Fz h1 with ⟨k', n, hy, h2⟩ | h2
    · rw [Cn] at h2;split at h2
      · next hk=>exact .inl ⟨k,m,n,hx,by rw[hy,kn_inj hk],h2⟩
      exact .inr h2
    exact .inr h2
  exact .inr h1
noncomputable def U3 (op:BinOp) (g:Nat→Nat→Nat) (ok:Nat→Nat→Bool):BC:=⟨fun x y k=>twoK x y (fun kk m n=>ifA (ok m n) (frc (g m n) fun s=>ifA (Nat.blt s (kb kk)) (k (.int kk (.ofNat s))) (Iq op x y k)) (Iq op x y k)) (Iq op x y k)⟩
theorem Q3{op:BinOp}{g:Nat→Nat→Nat}{ok:Nat→Nat→Bool}(h:∀kk m n,ok m n=true→g m n<kb kk→Ec op (.int kk (m:Nat)) (.int kk (n:Nat))=some (.int kk (g m n:Nat))):BOK op (U3 op g ok):=by
  intro x y k a z0;unfold U3 at z0;dsimp only at z0;rcases L6 z0 with⟨kk,m,n,hx,hy,e⟩ | e
  · clear z0; subst hx hy;rw[Cn]at e;split at e
    · next ho =>
      rw[Jb,Cn]at e;split at e
      · next hb=>exact⟨_,h kk m n ho (by simpa [Nat.blt_eq] using hb),e⟩
      exact Dv e
    exact Dv e
  exact Dv e
noncomputable def cmpC (op:BinOp) (g:Nat→Nat→Bool):BC:=⟨fun x y k=>twoK x y (fun kk m n=>boolK (g m n) k) (Iq op x y k)⟩
theorem Xc{op:BinOp}{g:Nat→Nat→Bool}(h:∀kk m n,Ec op (.int kk (m:Nat)) (.int kk (n:Nat))=some (.bool (g m n))):BOK op (cmpC op g):=by
 intro x y k a z0;unfold cmpC at z0;dsimp only at z0;rcases L6 z0 with⟨kk,m,n,hx,hy,e⟩ | e
 ·
  clear z0;subst hx hy;rw[Tu]at e;exact⟨_,h kk m n,e⟩
 exact Dv e
noncomputable def eqU (l:List UInt8):List UInt8→Bool :=
 List.rec (motive:=fun _=>List UInt8→Bool) (fun m=>List.rec (motive:=fun _=>Bool) true (fun _ _ _=>false) m)
  (fun a _ ih m=>List.rec (motive:=fun _=>Bool) false (fun b t _=>Bool.rec (motive:=fun _=>Bool) false (ih t) (Nat.beq a.toNat b.toNat)) m) l
theorem eqU_eq:∀l m:List UInt8,eqU l m=(l==m)
 | [],[]=>rfl
 | [],b::m=>rfl
 | a::l,[]=>rfl
 | a :: l, b :: m => by
  have e:eqU (a::l) (b::m)=Bool.rec (motive:=fun _=>Bool) false (eqU l m) (Nat.beq a.toNat b.toNat):=rfl;rw[e,eqU_eq l m];by_cases h:a=b
  ·
   subst h;rw[show Nat.beq a.toNat a.toNat=true from Nat.beq_refl _];simp
  have hn:Nat.beq a.toNat b.toNat=false:=by
   cases hb:Nat.beq a.toNat b.toNat with
   | false=>rfl
   | true=>exact absurd (UInt8.toNat_inj.1 (Nat.eq_of_beq_eq_true hb)) h
  rw[hn];simp[h]
structure SV where
 ok:Bool
 l:List UInt8
def D.sv:D→SV
 | .str s=>⟨true,s.data.toList⟩
 | _=>⟨false,[]⟩
noncomputable def svK (d:D) (f:List UInt8→Ans) (e:Ans):Ans:=SV.rec (motive:=fun _=>Ans) (fun ok l=>ifA ok (f l) e) d.sv
theorem Ih{d:D}{f:List UInt8→Ans}{e:Ans}{a:D × St × Bool}(h:svK d f e=some a):(∃s:ByteArray,d=.str s∧f s.data.toList=some a)∨e=some a:=by
 cases d with
 | str s=>exact .inl ⟨s,rfl,h⟩
 | _=>exact .inr h
noncomputable def eqC (op:BinOp) (neg:Bool):BC:=⟨fun x y k=>twoK x y (fun kk m n=>boolK (Bool.rec (motive:=fun _=>Bool) (Nat.beq m n) (Bool.not (Nat.beq m n)) neg) k) (svK x (fun l=>svK y (fun m=>boolK (Bool.rec (motive:=fun _=>Bool) (eqU l m) (Bool.not (eqU l m)) neg) k) (Iq op x y k)) (Iq op x y k))⟩
theorem eqC_ok(neg:Bool):BOK (if neg then .neq else .eql) (eqC (if neg then .neq else .eql) neg):=by
 intro x y k a z0;unfold eqC at z0;dsimp only at z0;rcases L6 z0 with⟨kk,m,n,hx,hy,e⟩ | e
 ·
  clear z0;subst hx hy;rw[Tu]at e;refine⟨_,?_,e⟩;have hb:Nat.beq m n=decide (m=n):=by rw[Bool.eq_iff_iff];simp
  have hi:((m:Int)==(n:Int))=decide (m=n):=by rw[Bool.eq_iff_iff];simp;omega
  cases neg<;>simp[Ec,hb,bne,hi]
 rcases Ih e with⟨s,hs,e1⟩ | e1
 ·
  rcases Ih e1 with⟨t,ht,e2⟩ | e2
  ·
   clear z0 e e1;subst hs ht;rw[Tu]at e2;refine⟨_,?_,e2⟩;cases neg<;>simp[Ec,f_toList,eqU_eq]
  exact Dv e2
 exact Dv e1
noncomputable def addC:BC:=⟨fun x y k=>twoK x y (fun kk m n=>frc (Nat.add m n) fun s=>ifA (Nat.blt s (kb kk)) (k (.int kk (.ofNat s))) (Iq .add x y k)) (svK x (fun l=>svK y (fun m=>ifA (Nat.ble (Nat.add (Ns l) (Ns m)) 1000000) (k (.str ⟨⟨appR l m⟩⟩)) none) (Iq .add x y k)) (Iq .add x y k))⟩
theorem addC_ok : BOK .add addC := by
  intro x y k a z0;unfold addC at z0;dsimp only at z0;rcases L6 z0 with⟨kk,m,n,hx,hy,e⟩ | e
  · clear z0; subst hx hy;rw[Jb,Cn]at e;split at e
    · next hb =>
      have hb:m+n<kb kk:=by simpa [Nat.blt_eq] using hb
      refine⟨_,?_,e⟩;simp only[Ec,if_true];rw[show ((m:Int)+(n:Int))=((m+n:Nat):Int) by omega,M7 hb];rfl
    exact Dv e
  rcases Ih e with⟨s,hs,e1⟩ | e1
  · rcases Ih e1 with ⟨t, ht, e2⟩ | e2
    · clear z0 e e1; subst hs ht;rw[Cn]at e2;split at e2
      · next hb =>
        refine⟨_,?_,e2⟩;have hb:s.data.toList.length+t.data.toList.length≤1000000:=by rw[Fx,Fx]at hb;exact Nat.le_of_ble_eq_true hb
        have hm:¬(((s.size+t.size:Nat):Int)>IntKind.i64.max):=by
          have:IntKind.i64.max=9223372036854775807:=by decide
          rw[this,Pt,Pt];omega
        simp only[Ec,if_neg hm,Oi,D.str.injEq];rw[Xg];apply f_ext;simp[ByteArray.data_append]
      simp at e2
    exact Dv e2
  exact Dv e1
noncomputable def bitC (op:BinOp) (g:Nat→Nat→Nat):BC:=⟨fun x y k=>twoK x y (fun kk m n=>ifA (Nat.blt m (kb kk)) (ifA (Nat.blt n (kb kk)) (frc (g m n) fun s=>k (.int kk (.ofNat s))) (Iq op x y k)) (Iq op x y k)) (Iq op x y k)⟩
theorem bitC_ok{op:BinOp}{g:Nat→Nat→Nat}(h:∀kk m n,m<kb kk→n<kb kk→Ec op (.int kk (m:Nat)) (.int kk (n:Nat))=some (.int kk (g m n:Nat))):BOK op (bitC op g):=by
  intro x y k a z0;unfold bitC at z0;dsimp only at z0;rcases L6 z0 with⟨kk,m,n,hx,hy,e⟩ | e
  · clear z0; subst hx hy;rw[Cn]at e;split at e
    · next h1 =>
      rw[Cn]at e;split at e
      · next h2=>exact⟨_,h kk m n (by simpa [Nat.blt_eq] using h1) (by simpa [Nat.blt_eq] using h2),e⟩
      exact Dv e
    exact Dv e
  exact Dv e
def kp:IntKind→Nat
 | .i8=>7 | .i16=>15 | .i32=>31 | .i64=>63 | .u8=>8 | .u16=>16 | .u32=>32 | .u64=>64
theorem kb_pow(k:IntKind):kb k=2 ^ kp k:=by cases k<;>rfl
theorem kp_le(k:IntKind):kp k≤k.bits:=by cases k<;>decide
theorem Qn{k:IntKind}{m:Nat}(h:m<kb k):(BitVec.ofInt k.bits (m:Int)).toNat=m:=by
 have h2:m<2 ^ k.bits:=by rw[kb_pow]at h;exact Nat.lt_of_lt_of_le h (Nat.pow_le_pow_right (by decide) (kp_le k))
 simp[BitVec.toNat_ofInt];exact Nat.mod_eq_of_lt h2
theorem and_ok(kk:IntKind)(m n:Nat)(h1:m<kb kk)(h2:n<kb kk):Ec .and (.int kk (m:Nat)) (.int kk (n:Nat))=some (.int kk (Nat.land m n:Nat)):=by
 simp only[Ec,if_true,BitVec.toNat_and,Qn h1,Qn h2];have:m &&& n<kb kk:=Nat.lt_of_le_of_lt Nat.and_le_left h1;rw[M7 this];rfl
theorem or_ok(kk:IntKind)(m n:Nat)(h1:m<kb kk)(h2:n<kb kk):Ec .or (.int kk (m:Nat)) (.int kk (n:Nat))=some (.int kk (Nat.lor m n:Nat)):=by
 simp only[Ec,if_true,BitVec.toNat_or,Qn h1,Qn h2];have:m ||| n<kb kk:=by rw[kb_pow]at h1 h2 ⊢;exact Nat.or_lt_two_pow h1 h2
 rw[M7 this];rfl
noncomputable def shrC:BC:=⟨fun x y k=>ivK x (fun kk m=>ivK y (fun _ n=>ifA (Nat.ble n 8) (frc (Nat.shiftRight m n) fun s=>k (.int kk (.ofNat s))) (Iq .shr x y k)) (Iq .shr x y k)) (Iq .shr x y k)⟩
theorem shrC_ok:BOK .shr shrC:=by
 intro x y k a z0;unfold shrC at z0;dsimp only at z0;rcases Fz z0 with⟨kk,m,hx,e1⟩ | e1
 ·
  rcases Fz e1 with⟨kk',n,hy,e2⟩ | e2
  ·
   clear z0 e1;subst hx hy;rw[Cn]at e2;split at e2
   ·
    next h =>
    have h:n≤8:=Nat.le_of_ble_eq_true h;refine⟨_,?_,e2⟩;have hb:min n kk.bits=n:=by cases kk<;>simp[IntKind.bits]<;>omega
    have hn:¬((n:Int)<0):=by omega
    simp only[Ec,if_neg hn,Int.toNat_natCast,hb,Oi,D.int.injEq,true_and];show (m:Int).fdiv (2 ^ n)=((m >>> n:Nat):Int);rw[Int.fdiv_eq_ediv_of_nonneg _ (by exact Int.pow_nonneg (by decide)),Nat.shiftRight_eq_div_pow];simp
   exact Dv e2
  exact Dv e2
 exact Dv e1
noncomputable def binC:BinOp→BC
 | .add=>addC
 | .sub=>U3 .sub Nat.sub (fun m n=>Nat.ble n m)
 | .mul=>U3 .mul Nat.mul (fun _ _=>true)
 | .quo=>U3 .quo Nat.div (fun _ n=>Nat.blt 0 n)
 | .rem=>U3 .rem Nat.mod (fun _ n=>Nat.blt 0 n)
 | .lss=>cmpC .lss Nat.blt
 | .leq=>cmpC .leq Nat.ble
 | .gtr=>cmpC .gtr (fun m n=>Nat.blt n m)
 | .geq=>cmpC .geq (fun m n=>Nat.ble n m)
 | .eql=>eqC .eql false
 | .neq=>eqC .neq true
 | .and=>bitC .and Nat.land
 | .or=>bitC .or Nat.lor
 | .shr=>shrC
 | op=>⟨Iq op⟩
theorem blt_dec(m n:Nat):Nat.blt m n=decide ((m:Int)<(n:Int)):=by rw[Bool.eq_iff_iff];simp[Nat.blt_eq]
theorem ble_dec(m n:Nat):Nat.ble m n=decide ((m:Int)≤(n:Int)):=by rw[Bool.eq_iff_iff];simp
theorem binC_ok:∀op,BOK op (binC op)
 | .add=>addC_ok
 | .sub=>Q3 fun kk m n h1 h2=>by
  have h1:n≤m:=by simpa using h1
  simp only[Ec,if_true];rw[show ((m:Int)-(n:Int))=((Nat.sub m n:Nat):Int) by show _=((m-n:Nat):Int);omega,M7 h2]
 | .mul=>Q3 fun kk m n h1 h2=>by
  simp only[Ec,if_true];rw[show ((m:Int)*(n:Int))=((Nat.mul m n:Nat):Int) from (Int.natCast_mul m n).symm,M7 h2]
 | .quo=>Q3 fun kk m n h1 h2=>by
  have h1:0<n:=by simpa [Nat.blt_eq] using h1
  simp only[Ec,if_true];rw[if_pos ⟨trivial,by omega⟩,show ((m:Int).tdiv (n:Int))=((Nat.div m n:Nat):Int) from (Int.ofNat_tdiv m n).symm,M7 h2]
 | .rem=>Q3 fun kk m n h1 h2=>by
  have h1:0<n:=by simpa [Nat.blt_eq] using h1
  simp only[Ec,if_true];rw[if_pos ⟨trivial,by omega⟩,show ((m:Int).tmod (n:Int))=((Nat.mod m n:Nat):Int) from (Int.ofNat_tmod m n).symm]
 | .lss=>Xc fun kk m n=>by simp[Ec,blt_dec]
 | .leq=>Xc fun kk m n=>by simp[Ec,ble_dec]
 | .gtr=>Xc fun kk m n=>by simp[Ec,blt_dec]
 | .geq=>Xc fun kk m n=>by simp[Ec,ble_dec]
 | .eql=>eqC_ok false
 | .neq=>eqC_ok true
 | .and=>bitC_ok and_ok
 | .or=>bitC_ok or_ok
 | .xor=>fun _ _ _ _ h=>Dv h
 | .andNot=>fun _ _ _ _ h=>Dv h
 | .shl=>fun _ _ _ _ h=>Dv h
 | .shr=>shrC_ok
section
variable {α:Type}
noncomputable def nthK (l:List α):Nat→(α→Ans)→Ans :=
 List.rec (motive:=fun _=>Nat→(α→Ans)→Ans) (fun _ _=>none) (fun h _ ih n k=>Nat.rec (motive:=fun _=>Ans) (k h) (fun m _=>ih m k) n) l
theorem Ha:∀{l:List α} {n:Nat} {k:α→Ans} {a:D × St × Bool},nthK l n k=some a→∃x,l[n]?=some x∧k x=some a
 | [],n,k,a,h=>by simp[nthK]at h
 | x::l,0,k,a,h=>⟨x,rfl,h⟩
 | x::l,n+1,k,a,h=>by
  obtain⟨y,h1,h2⟩:=Ha (l:=l) (n:=n) h;exact⟨y,by simpa using h1,h2⟩
noncomputable def takeK (l:List α):Nat→(List α→Ans)→Ans :=
 List.rec (motive:=fun _=>Nat→(List α→Ans)→Ans) (fun n k=>Nat.rec (motive:=fun _=>Ans) (k []) (fun _ _=>none) n)
  (fun h _ ih n k=>Nat.rec (motive:=fun _=>Ans) (k []) (fun m _=>ih m fun r=>k (h::r)) n) l
theorem Nb:∀{l:List α} {n:Nat} {k:List α→Ans} {a:D × St × Bool},takeK l n k=some a→n≤l.length∧k (l.take n)=some a
 | [],0,k,a,h=>⟨Nat.le_refl _,h⟩
 | [],n+1,k,a,h=>by simp[takeK]at h
 | x::l,0,k,a,h=>⟨Nat.zero_le _,h⟩
 | x::l,n+1,k,a,h=>by
  obtain⟨h1,h2⟩:=Nb (l:=l) (n:=n) (k:=fun r=>k (x::r)) h;exact⟨by simpa using h1,by simpa using h2⟩
noncomputable def dropK (l:List α):Nat→(List α→Ans)→Ans :=
 List.rec (motive:=fun _=>Nat→(List α→Ans)→Ans) (fun n k=>Nat.rec (motive:=fun _=>Ans) (k []) (fun _ _=>none) n)
  (fun h t ih n k=>Nat.rec (motive:=fun _=>Ans) (k (h::t)) (fun m _=>ih m k) n) l
theorem Oa:∀{l:List α} {n:Nat} {k:List α→Ans} {a:D × St × Bool},dropK l n k=some a→n≤l.length∧k (l.drop n)=some a
 | [],0,k,a,h=>⟨Nat.le_refl _,h⟩
 | [],n+1,k,a,h=>by simp[dropK]at h
 | x::l,0,k,a,h=>⟨Nat.zero_le _,h⟩
 | x::l,n+1,k,a,h=>by
  obtain⟨h1,h2⟩:=Oa (l:=l) (n:=n) h;exact⟨by simpa using h1,h2⟩
noncomputable def setK (x:α) (l:List α):Nat→(List α→Ans)→Ans :=
 List.rec (motive:=fun _=>Nat→(List α→Ans)→Ans) (fun _ _=>none) (fun h t ih n k=>Nat.rec (motive:=fun _=>Ans) (k (x::t)) (fun m _=>ih m fun r=>k (h::r)) n) l
theorem Mf{x:α}:∀{l:List α} {n:Nat} {k:List α→Ans} {a:D × St × Bool},setK x l n k=some a→k (l.set n x)=some a
 | [],n,k,a,h=>by simp[setK]at h
 | y::l,0,k,a,h=>h
 | y::l,n+1,k,a,h=>Mf (l:=l) (n:=n) (k:=fun r=>k (y::r)) h
noncomputable def snocK (x:α) (l:List α):(List α→Ans)→Ans :=
 List.rec (motive:=fun _=>(List α→Ans)→Ans) (fun k=>k [x]) (fun h _ ih k=>ih fun r=>k (h::r)) l
theorem snocK_some{x:α}:∀{l:List α} {k:List α→Ans} {a:D × St × Bool},snocK x l k=some a→k (l++[x])=some a
 | [],k,a,h=>h
 | y::l,k,a,h=>snocK_some (l:=l) (k:=fun r=>k (y::r)) h
noncomputable def overK (row:List α):Nat→List α→(List α→Ans)→Ans :=
 List.rec (motive:=fun _=>Nat→List α→(List α→Ans)→Ans) (fun n cs k=>Nat.rec (motive:=fun _=>Ans) (List.rec (motive:=fun _=>Ans) (k []) (fun _ _ _=>none) cs) (fun _ _=>none) n)
  (fun h t ih n cs k=>Nat.rec (motive:=fun _=>Ans) (List.rec (motive:=fun _=>Ans) (k (h::t)) (fun c cs' _=>ih 0 cs' fun r=>k (c::r)) cs) (fun m _=>ih m cs fun r=>k (h::r)) n) row
theorem Np:∀{row:List D} {n:Nat} {cs:List D} {k:List D→Ans} {a:D × St × Bool},overK row n cs k=some a→n+cs.length≤row.length∧k (overlay row n cs)=some a
 | [],0,[],k,a,h=>⟨Nat.le_refl _,h⟩
 | [],0,c::cs,k,a,h=>by simp[overK]at h
 | [],n+1,cs,k,a,h=>by simp[overK]at h
 | x::l,0,[],k,a,h=>⟨Nat.zero_le _,(by simp[overlay]:overlay (x::l) 0 []=x::l)▸h⟩
 | x::l,0,c::cs,k,a,h=>by
  obtain⟨h1,h2⟩:=Np (row:=l) (n:=0) (cs:=cs) (k:=fun r=>k (c::r)) h;exact⟨by simp at h1 ⊢;omega,by simpa [overlay] using h2⟩
 | x::l,n+1,cs,k,a,h=>by
  obtain⟨h1,h2⟩:=Np (row:=l) (n:=n) (cs:=cs) (k:=fun r=>k (x::r)) h;refine⟨by simp at h1 ⊢;omega,?_⟩;have e:n+1+cs.length=(n+cs.length)+1:=by omega
  simpa [overlay,e] using h2
end
structure LC where
 f:Iw→List D→St→K1→Ans
def LOK (op:LOp) (L:LC):Prop:=∀c cs,CKs c cs→∀xs S k a,L.f c xs S k=some a→∃r S' w,Al cs op xs S=some (r,S',w)∧k r S' w=some a
noncomputable def Q5 (xs:List D) (f:D→Ans):Ans:=List.rec (motive:=fun _=>Ans) none (fun x t _=>List.rec (motive:=fun _=>Ans) (f x) (fun _ _ _=>none) t) xs
theorem Es{xs:List D}{f:D→Ans}{a:D × St × Bool}(h:Q5 xs f=some a):∃x,xs=[x]∧f x=some a:=by
 match xs,h with
 | [],h=>simp[Q5]at h
 | [x],h=>exact⟨x,rfl,h⟩
 | x::y::l,h=>simp[Q5]at h
noncomputable def un2K (xs:List D) (f:D→D→Ans):Ans:=List.rec (motive:=fun _=>Ans) none (fun x t _=>Q5 t (f x)) xs
theorem G8{xs:List D}{f:D→D→Ans}{a:D × St × Bool}(h:un2K xs f=some a):∃x y,xs=[x,y]∧f x y=some a:=by
 match xs,h with
 | [],h=>simp[un2K]at h
 | x::t,h =>
  obtain⟨y,rfl,h⟩:=Es (f:=f x) h;exact⟨x,y,rfl,h⟩
noncomputable def un3K (xs:List D) (f:D→D→D→Ans):Ans:=List.rec (motive:=fun _=>Ans) none (fun x t _=>un2K t (f x)) xs
theorem un3K_some{xs:List D}{f:D→D→D→Ans}{a:D × St × Bool}(h:un3K xs f=some a):∃x y z,xs=[x,y,z]∧f x y z=some a:=by
 match xs,h with
 | [],h=>simp[un3K]at h
 | x::t,h =>
  obtain⟨y,z,rfl,h⟩:=G8 (f:=f x) h;exact⟨x,y,z,rfl,h⟩
noncomputable def O1 (op:LOp):LC:=⟨fun _ xs S k=>R3 (aop op xs S) fun r S' w=>frcD r fun r=>k r S' w⟩
def noCall:LOp→Bool
 | .call _ | .callv | .invoke _=>false
 | _=>true
theorem exOp_aop{call:Aq}{op:LOp}(h:noCall op=true)(xs:List D)(S:St):Al call op xs S=aop op xs S:=by
 cases op<;>first | rfl | (simp[noCall]at h)
theorem Gv{op:LOp}(h:noCall op=true):LOK op (O1 op):=by
 intro c cs hc xs S k a e0;unfold O1 at e0;dsimp only at e0;obtain⟨r,S',w,h1,h2⟩:=Jd e0;exact⟨r,S',w,by rw[exOp_aop h,h1],frcD_some h2⟩
theorem Ck{op:LOp}(hl:op.loud=false)(hn:noCall op=true){cs:Aq}{xs:List D}{S:St}{r:D}(h:pop op xs=some r):Al cs op xs S=some (r,S,false):=by
 rw[exOp_aop hn];simp[aop,hl,h]
theorem Ij{op:LOp}(hl:op.loud=true)(hn:noCall op=true){cs:Aq}{xs:List D}{S:St}{r:D}{S':St}{w:Bool}(h:lop op xs S=some (r,S',w)):Al cs op xs S=some (r,S',w):=by
 rw[exOp_aop hn];simp[aop,hl,h]
noncomputable def mvC:LC:=⟨fun _ xs S k=>Q5 xs fun x=>k x S false⟩
theorem mvC_ok:LOK .mv mvC:=by
 intro c cs hc xs S k a e0;obtain⟨x,rfl,e1⟩:=Es e0;exact⟨x,S,false,Ck rfl rfl rfl,e1⟩
noncomputable def binL (op:BinOp):LC:=⟨fun _ xs S k=>un2K xs fun x y=>(binC op).f x y fun r=>k r S false⟩
theorem binL_ok(op:BinOp):LOK (.bin op) (binL op):=by
 intro c cs hc xs S k a e0;obtain⟨x,y,rfl,e1⟩:=G8 e0;obtain⟨r,h1,h2⟩:=binC_ok op x y _ a e1;exact⟨r,S,false,Ck rfl rfl h1,h2⟩
noncomputable def pickC:LC:=⟨fun _ xs S k=>un3K xs fun c x y=>bvK c (k x S false) (k y S false)⟩
theorem pickC_ok:LOK .pick pickC:=by
 intro c cs hc xs S k a e0;obtain⟨b,x,y,rfl,e1⟩:=un3K_some e0;rcases M6 e1 with⟨rfl,e2⟩ | ⟨rfl,e2⟩
 ·
  exact⟨x,S,false,Ck rfl rfl rfl,e2⟩
 exact⟨y,S,false,Ck rfl rfl rfl,e2⟩
noncomputable def notC:LC:=⟨fun _ xs S k=>Q5 xs fun x=>bvK x (k (.bool false) S false) (k (.bool true) S false)⟩
theorem notC_ok:LOK (.un .not) notC:=by
 intro c cs hc xs S k a e0;obtain⟨x,rfl,e1⟩:=Es e0;rcases M6 e1 with⟨rfl,e2⟩ | ⟨rfl,e2⟩
 ·
  exact⟨_,S,false,Ck rfl rfl rfl,e2⟩
 exact⟨_,S,false,Ck rfl rfl rfl,e2⟩
noncomputable def convC (kk:IntKind):LC:=⟨fun c xs S k=>Q5 xs fun x=>ivK x (fun _ n=>ifA (Nat.blt n (kb kk)) (k (.int kk (.ofNat n)) S false) ((O1 (.conv kk)).f c xs S k)) ((O1 (.conv kk)).f c xs S k)⟩
theorem convC_ok(kk:IntKind):LOK (.conv kk) (convC kk):=by
  intro c cs hc xs S k a e0;obtain⟨x,rfl,e1⟩:=Es e0;rcases Fz e1 with⟨k0,n,rfl,e2⟩ | e2
  · rw [Cn] at e2;split at e2
    · next hb =>
      refine⟨_,S,false,Ck rfl rfl ?_,e2⟩;simp only[pop,Oi,D.int.injEq,true_and];exact M7 (by simpa [Nat.blt_eq] using hb)
    exact Gv rfl c cs hc _ _ _ _ e2
  exact Gv rfl c cs hc _ _ _ _ e2
noncomputable def idxC:LC:=⟨fun _ xs S k=>un2K xs fun x y=>svK x (fun l=>ivK y (fun _ n=>nthK l n fun b=>frc b.toNat fun m=>k (.int .u8 (.ofNat m)) S false) none) none⟩
theorem idxC_ok:LOK .index idxC:=by
 intro c cs hc xs S k a e0;obtain⟨x,y,rfl,e1⟩:=G8 e0;rcases Ih e1 with⟨s,rfl,e2⟩ | e2
 ·
  rcases Fz e2 with⟨k0,n,rfl,e3⟩ | e3
  ·
   obtain⟨b,h1,h2⟩:=Ha e3;refine⟨_,S,false,Ck rfl rfl ?_,h2⟩;simp[pop,Nu,f_get,h1]
  simp at e3
 simp at e2
inductive PtV where
 | X7 (row:List D) (o:Nat)
 | ptr (g v i o:Nat)
 | no
def D.pv:D→PtV
 | .X7 row o=>.X7 row o
 | .ptr g v i o=>.ptr g v i o
 | _=>.no
theorem D.pv_cptr{d:D}{row:List D}{o:Nat}(h:d.pv=.X7 row o):d=.X7 row o:=by cases d<;>simp_all [D.pv]
theorem D.pv_ptr{d:D}{g v i o:Nat}(h:d.pv=.ptr g v i o):d=.ptr g v i o:=by cases d<;>simp_all [D.pv]
noncomputable def pvK (d:D) (f:List D→Nat→Ans) (h:Nat→Nat→Nat→Nat→Ans) (e:Ans):Ans:=PtV.rec (motive:=fun _=>Ans) f h e d.pv
theorem O6{d:D}{f:List D→Nat→Ans}{h:Nat→Nat→Nat→Nat→Ans}{e:Ans}{a:D × St × Bool}(z:pvK d f h e=some a):(∃row o,d=.X7 row o∧f row o=some a)∨(∃g v i o,d=.ptr g v i o∧h g v i o=some a)∨e=some a:=by
 unfold pvK at z
 match hd:d.pv with
 | .X7 row o=>rw[hd]at z;exact .inl ⟨row,o,D.pv_cptr hd,z⟩
 | .ptr g v i o=>rw[hd]at z;exact .inr (.inl ⟨g,v,i,o,D.pv_ptr hd,z⟩)
 | .no=>rw[hd]at z;exact .inr (.inr z)
inductive SlV where
 | sl (s:Nat) (rows:List (List D))
 | msl (g v lo n:Nat)
 | no
def D.lv:D→SlV
 | .sl s rows _=>.sl s rows
 | .msl g v lo n _=>.msl g v lo n
 | _=>.no
noncomputable def lvK (d:D) (f:Nat→List (List D)→Ans) (h:Nat→Nat→Nat→Nat→Ans) (e:Ans):Ans:=SlV.rec (motive:=fun _=>Ans) f h e d.lv
theorem lvK_some{d:D}{f:Nat→List (List D)→Ans}{h:Nat→Nat→Nat→Nat→Ans}{e:Ans}{a:D × St × Bool}(z:lvK d f h e=some a):(∃s rows c,d=.sl s rows c∧f s rows=some a)∨(∃g v lo n c,d=.msl g v lo n c∧h g v lo n=some a)∨e=some a:=by
 cases d with
 | sl s rows c=>exact .inl ⟨s,rows,c,rfl,z⟩
 | msl g v lo n c=>exact .inr (.inl ⟨g,v,lo,n,c,rfl,z⟩)
 | _=>exact .inr (.inr z)
noncomputable def hgetK (S:St) (g v:Nat) (f:TypeId→Nat→List (List D)→Nat→Nat→Bool→Ans):Ans :=
 nthK S.heap g fun o=>Xh.rec (motive:=fun _=>Ans) (fun e sz rows ver kind grow=>ifA (Nat.beq ver v) (f e sz rows ver kind grow) none) o
theorem Rq{S:St}{g v:Nat}{f:TypeId→Nat→List (List D)→Nat→Nat→Bool→Ans}{a:D × St × Bool}(h:hgetK S g v f=some a):∃o:Xh,S.heap[g]?=some o∧o.ver=v∧rowsOf S g v=some o∧f o.elem o.sz o.rows o.ver o.kind o.grow=some a:=by
  obtain⟨o,h1,h2⟩:=Ha h;change ifA (Nat.beq o.ver v) (f o.elem o.sz o.rows o.ver o.kind o.grow) none=some a at h2;rw[Cn]at h2;split at h2
  · next hv =>
    have hv:=Nat.eq_of_beq_eq_true hv;exact⟨o,h1,hv,by simp[rowsOf,h1,hv],h2⟩
  simp at h2
noncomputable def partK (agg:Bool) (cs:List D) (o sz:Nat) (k:D→Ans):Ans:=Bool.rec (motive:=fun _=>Ans) (nthK cs o k) (dropK cs o fun l=>takeK l sz fun l=>k (.agg l)) agg
theorem Ri{agg:Bool}{cs:List D}{o sz:Nat}{k:D→Ans}{a:D × St × Bool}(h:partK agg cs o sz k=some a):∃r,Ci cs o sz agg=some r∧k r=some a:=by
 cases agg with
 | false=>exact Ha h
 | true =>
  obtain⟨h1,h2⟩:=Oa h;obtain⟨h3,h4⟩:=Nb h2;refine⟨_,?_,h4⟩;rw[List.length_drop]at h3;simp only[Ci,if_true];rw[if_pos (by omega)]
noncomputable def loadC (sz:Nat) (agg:Bool):LC:=⟨fun _ xs S k=>Q5 xs fun x=>pvK x (fun row o=>partK agg row o sz fun r=>k r S false) (fun g v i o=>hgetK S g v fun _ _ rows _ _ _=>nthK rows i fun row=>partK agg row o sz fun r=>k r S false) none⟩
theorem loadC_ok(sz:Nat)(agg:Bool):LOK (.load sz agg) (loadC sz agg):=by
  intro c cs hc xs S k a e0;obtain⟨x,rfl,e1⟩:=Es e0;rcases O6 e1 with⟨row,o,rfl,e2⟩ | ⟨g,v,i,o,rfl,e2⟩ | e2
  · obtain ⟨r, h1, h2⟩ := Ri e2;exact⟨r,S,false,Ij rfl rfl (by simp[lop,G6,h1]),h2⟩
  · obtain ⟨ob, _, _, h1, e3⟩ := Rq e2;obtain⟨row,h2,e4⟩:=Ha e3;obtain⟨r,h3,h4⟩:=Ri e4;exact⟨r,S,false,Ij rfl rfl (by simp[lop,G6,h1,h2,h3]),h4⟩
  simp at e2
noncomputable def fieldC (o sz:Nat) (agg:Bool):LC:=⟨fun _ xs S k=>Q5 xs fun x=>Ip (match x with | .agg cs=>some cs | _=>none) fun cs=>partK agg cs o sz fun r=>k r S false⟩
theorem fieldC_ok(o sz:Nat)(agg:Bool):LOK (.field o sz agg) (fieldC o sz agg):=by
 intro c cs hc xs S k a e0;obtain⟨x,rfl,e1⟩:=Es e0;obtain⟨l,h1,e2⟩:=Db e1
 cases x with
 | agg l' =>
  obtain rfl:l'=l:=by simpa using h1
  obtain⟨r,h1,h2⟩:=Ri e2;exact⟨r,S,false,Ck rfl rfl (by simp[pop,h1]),h2⟩
 | _=>simp at h1
noncomputable def extC (i:Nat):LC:=⟨fun _ xs S k=>Q5 xs fun x=>Ip (match x with | .tup cs=>some cs | _=>none) fun cs=>nthK cs i fun r=>k r S false⟩
theorem extC_ok(i:Nat):LOK (.extract i) (extC i):=by
 intro c cs hc xs S k a e0;obtain⟨x,rfl,e1⟩:=Es e0;obtain⟨l,h1,e2⟩:=Db e1
 cases x with
 | tup l' =>
  obtain rfl:l'=l:=by simpa using h1
  obtain⟨r,h1,h2⟩:=Ha e2;exact⟨r,S,false,Ck rfl rfl (by simp[pop,h1]),h2⟩
 | _=>simp at h1
noncomputable def faddrC (f:Nat):LC:=⟨fun _ xs S k=>Q5 xs fun x=>pvK x (fun row o=>frc (Nat.add o f) fun m=>k (.X7 row m) S false) (fun g v i o=>frc (Nat.add o f) fun m=>k (.ptr g v i m) S false) none⟩
theorem faddrC_ok(f:Nat):LOK (.X3 f) (faddrC f):=by
 intro c cs hc xs S k a e0;obtain⟨x,rfl,e1⟩:=Es e0;rcases O6 e1 with⟨row,o,rfl,e2⟩ | ⟨g,v,i,o,rfl,e2⟩ | e2
 ·
  exact⟨_,S,false,Ck rfl rfl rfl,e2⟩
 ·
  exact⟨_,S,false,Ck rfl rfl rfl,e2⟩
 simp at e2
noncomputable def nilckC:LC:=⟨fun c xs S k=>Q5 xs fun x=>pvK x (fun row o=>k (.X7 row o) S false) (fun g v i o=>k (.ptr g v i o) S false) ((O1 .nilck).f c xs S k)⟩
theorem nilckC_ok:LOK .nilck nilckC:=by
 intro c cs hc xs S k a e0;obtain⟨x,rfl,e1⟩:=Es e0;rcases O6 e1 with⟨row,o,rfl,e1⟩ | ⟨g,v,i,o,rfl,e1⟩ | e1
 ·
  exact⟨_,S,false,Ck rfl rfl rfl,e1⟩
 ·
  exact⟨_,S,false,Ck rfl rfl rfl,e1⟩
 exact Gv rfl c cs hc _ _ _ _ e1
noncomputable def iaddrC (sz:Nat):LC:=⟨fun _ xs S k=>un2K xs fun x y=>ivK y (fun _ j=>lvK x (fun s rows=>ifA (Nat.beq s sz) (nthK rows j fun row=>k (.X7 row 0) S false) none)
 (fun g v lo n=>hgetK S g v fun _ sz' _ _ _ _=>ifA (Nat.beq sz' sz) (ifA (Nat.blt j n) (frc (Nat.add lo j) fun m=>k (.ptr g v m 0) S false) none) none) none) none⟩
theorem iaddrC_ok (sz : Nat) : LOK (.X0 sz) (iaddrC sz) := by
  intro c cs hc xs S k a e0;obtain⟨x,y,rfl,e1⟩:=G8 e0;rcases Fz e1 with⟨k0,j,rfl,e2⟩ | e2
  · rcases lvK_some e2 with ⟨s, rows, cp, rfl, e3⟩ | ⟨g, v, lo, n, cp, rfl, e3⟩ | e3
    · rw [Cn] at e3;split at e3
      · next hs =>
        obtain rfl:=Nat.eq_of_beq_eq_true hs;obtain⟨row,h1,h2⟩:=Ha e3;exact⟨_,S,false,Ij rfl rfl (by simp[lop,Fe,h1]),h2⟩
      simp at e3
    · obtain ⟨ob, _, _, h1, e4⟩ := Rq e3;rw[Cn]at e4;split at e4
      · next hs =>
        have hs:=Nat.eq_of_beq_eq_true hs;rw[Cn]at e4;split at e4
        · next hj =>
          have hj:j<n:=by simpa [Nat.blt_eq] using hj
          exact⟨_,S,false,Ij rfl rfl (by simp[lop,Fe,h1,hs,hj]),e4⟩
        simp at e4
      simp at e4
    simp at e3
  simp at e2
noncomputable def lenC (st:Bool):LC:=Bool.rec (motive:=fun _=>LC)
 ⟨fun c xs S k=>Q5 xs fun x=>lvK x (fun _ rows=>frc (Ns rows) fun m=>k (.int .i64 (.ofNat m)) S false) (fun _ _ _ n=>k (.int .i64 (.ofNat n)) S false) ((O1 (.len false)).f c xs S k)⟩
 ⟨fun _ xs S k=>Q5 xs fun x=>svK x (fun l=>frc (Ns l) fun m=>k (.int .i64 (.ofNat m)) S false) none⟩ st
theorem lenC_ok(st:Bool):LOK (.len st) (lenC st):=by
 intro c cs hc xs S k a e0
 cases st with
 | false =>
  obtain⟨x,rfl,e1⟩:=Es e0;rcases lvK_some e1 with⟨s,rows,cp,rfl,e2⟩ | ⟨g,v,lo,n,cp,rfl,e2⟩ | e2
  ·
   rw[Jb,Fx]at e2;exact⟨_,S,false,Ck rfl rfl rfl,e2⟩
  ·
   exact⟨_,S,false,Ck rfl rfl rfl,e2⟩
  exact Gv rfl c cs hc _ _ _ _ e2
 | true =>
  obtain⟨x,rfl,e1⟩:=Es e0;rcases Ih e1 with⟨s,rfl,e2⟩ | e2
  ·
   rw[Jb,Fx]at e2;exact⟨_,S,false,Ck rfl rfl rfl,e2⟩
  simp at e2
noncomputable def newK (S:St) (o:Xh) (k:Nat→St→Ans):Ans:=frc (Ns S.heap) fun n=>snocK o S.heap fun H=>k n ⟨H,S.low⟩
theorem Kg{S:St}{o:Xh}{k:Nat→St→Ans}{a:D × St × Bool}(h:newK S o k=some a):k S.heap.length (newAt S o)=some a:=by
 unfold newK at h;rw[Jb,Fx]at h;exact snocK_some h
noncomputable def allocC (e:TypeId) (z:List D):LC:=⟨fun _ xs S k=>List.rec (motive:=fun _=>Ans) (newK S ⟨e,z.length,[z],0,0,false⟩ fun n S'=>k (.ptr n 0 0 0) S' true) (fun _ _ _=>none) xs⟩
theorem allocC_ok(e:TypeId)(z:List D):LOK (.alloc e z) (allocC e z):=by
 intro c cs hc xs S k a h
 match xs,h with
 | [],h=>exact⟨_,_,_,Ij rfl rfl rfl,Kg (S:=S) (k:=fun n S'=>k (.ptr n 0 0 0) S' true) h⟩
 | _::_,h=>exact absurd h (by simp[allocC])
def D.celB:D→Bool
 | .agg _ | .tup _ | .undef | .skip=>false
 | _=>true
theorem celB_is{d:D}(h:d.celB=true):d.Xv=true∧d.val=true∧d.cells=[d]:=by cases d<;>simp_all [D.celB,D.Xv,D.val,D.cells]
noncomputable def setHK (S:St) (g:Nat) (o:Xh) (k:St→Ans):Ans:=setK o S.heap g fun H=>frc (Bool.rec (motive:=fun _=>Nat) g S.low (Nat.ble S.low g)) fun lo=>k ⟨H,lo⟩
theorem Ni{S:St}{g:Nat}{o:Xh}{k:St→Ans}{a:D × St × Bool}(h:setHK S g o k=some a):k (setAt S g o)=some a:=by
 have h:=Mf h;rw[Jb]at h
 have e:(Bool.rec (motive:=fun _=>Nat) g S.low (Nat.ble S.low g):Nat)=min S.low g:=by
  cases hb:Nat.ble S.low g with
  | true=>have:=Nat.le_of_ble_eq_true hb;show S.low=_;omega
  | false =>
   have:¬S.low≤g:=fun h=>by rw[Nat.ble_eq_true_of_le h]at hb;cases hb
   show g=_;omega
 rw[e]at h;exact h
theorem yb_lt{f:Nat}(h:Nat.ble YB f=false):¬YB≤f:=fun h1=>by rw[Nat.ble_eq_true_of_le h1]at h;cases h
noncomputable def callC (f:FuncId):LC:=⟨fun c xs S k=>Bool.rec (motive:=fun _=>Ans) (c f xs S k) none (Nat.ble YB f)⟩
theorem callC_ok(f:FuncId):LOK (.call f) (callC f):=fun c cs hc xs S k a e=>by
 have e:Bool.rec (motive:=fun _=>Ans) (c f xs S k) none (Nat.ble YB f)=some a:=e
 cases hb:Nat.ble YB f with
 | true=>rw[hb]at e;cases e
 | false =>
  rw[hb]at e;obtain⟨r,S',w,h1,h2⟩:=hc f xs S k a e;exact⟨r,S',w,by simp only[Al];rw[if_neg (yb_lt hb)];exact h1,h2⟩
noncomputable def Xf (x:D) (ys:List D):Option (Nat × List D):=match x with
 | .fn f caps=>Bool.rec (motive:=fun _=>Option (Nat × List D)) (some (f,appR ys caps)) none (Nat.ble YB f)
 | .bfn f cs=>Bool.rec (motive:=fun _=>Option (Nat × List D)) (some (f,appR cs ys)) none (Nat.ble YB f)
 | .yld g=>some (Nat.add YB g,ys)
 | _=>none
theorem calleeV_ok{cs:Aq}{x:D}{ys zs:List D}{f:Nat}(h:Xf x ys=some (f,zs))(S:St):Al cs .callv (x::ys) S=cs f zs S:=by
 cases x with
 | fn f' caps =>
  have h:Bool.rec (motive:=fun _=>Option (Nat × List D)) (some (f',appR ys caps)) none (Nat.ble YB f')=some (f,zs):=h
  cases hb:Nat.ble YB f' with
  | true=>rw[hb]at h;cases h
  | false =>
   rw[hb]at h;have h:some (f',appR ys caps)=some (f,zs):=h;simp only[Oi,Pi_]at h;obtain⟨rfl,rfl⟩:=h;simp only[Al];rw[if_neg (yb_lt hb),Xg]
 | bfn f' caps =>
  have h:Bool.rec (motive:=fun _=>Option (Nat × List D)) (some (f',appR caps ys)) none (Nat.ble YB f')=some (f,zs):=h
  cases hb:Nat.ble YB f' with
  | true=>rw[hb]at h;cases h
  | false =>
   rw[hb]at h;have h:some (f',appR caps ys)=some (f,zs):=h;simp only[Oi,Pi_]at h;obtain⟨rfl,rfl⟩:=h;simp only[Al];rw[if_neg (yb_lt hb),Xg]
 | yld g =>
  simp only[Xf,Oi,Pi_]at h;obtain⟨rfl,rfl⟩:=h;rfl
 | _=>simp[Xf]at h
noncomputable def callvC:LC:=⟨fun c xs S k=>List.rec (motive:=fun _=>Ans) none (fun x ys _=>Ip (Xf x ys) fun p=>Prod.rec (motive:=fun _=>Ans) (fun f zs=>frc f fun f=>c f zs S k) p) xs⟩
theorem callvC_ok:LOK .callv callvC:=by
 intro c cs hc xs S k a e0
 match xs,e0 with
 | [],e0=>exact absurd e0 (by simp[callvC])
 | x::ys,e0 =>
  obtain⟨⟨f,zs⟩,h1,e1⟩:=Db e0;have e1:frc f (fun f=>c f zs S k)=some a:=e1;rw[Jb]at e1;obtain⟨r,S',w,h2,h3⟩:=hc _ _ _ _ _ e1;exact⟨r,S',w,by rw[calleeV_ok h1];exact h2,h3⟩
noncomputable def lookR (t:TypeId) (l:List (TypeId × FuncId)):Option FuncId:=List.rec (motive:=fun _=>Option FuncId) none (fun p _ ih=>Bool.rec (motive:=fun _=>Option FuncId) ih (some p.2) (Nat.beq t p.1)) l
theorem lookR_eq(t:TypeId):∀l:List (TypeId × FuncId),lookR t l=l.lookup t
 | []=>rfl
 | (a, b) :: l => by
  have e:lookR t ((a,b)::l)=Bool.rec (motive:=fun _=>Option FuncId) (lookR t l) (some b) (Nat.beq t a):=rfl;rw[e,lookR_eq t l];by_cases h:t=a
  ·
   subst h;simp
  have h1:Nat.beq t a=false:=by
   cases hb:Nat.beq t a with
   | false=>rfl
   | true=>exact absurd (Nat.eq_of_beq_eq_true hb) h
  have h2:(t==a)=false:=by simpa using h
  rw[h1,List.lookup_cons,h2]
noncomputable def invC (tab:List (TypeId × FuncId)):LC:=⟨fun c xs S k=>List.rec (motive:=fun _=>Ans) none (fun x ys _=>Ip (match x with | .ifc t d=>some (t,d) | .ifr t d=>some (t,d) | _=>none) fun p=>Prod.rec (motive:=fun _=>Ans) (fun t d=>Ip (lookR t tab) fun f=>Bool.rec (motive:=fun _=>Ans) (c f (d::ys) S k) none (Nat.ble YB f)) p) xs⟩
theorem invC_ok(tab:List (TypeId × FuncId)):LOK (.invoke tab) (invC tab):=by
 intro c cs hc xs S k a e0
 match xs,e0 with
 | [],e0=>exact absurd e0 (by simp[invC])
 | x :: ys, e0 =>
  obtain⟨⟨t,d⟩,h1,e1⟩:=Db e0;change Ip (lookR t tab) (fun f=>Bool.rec (motive:=fun _=>Ans) (c f (d::ys) S k) none (Nat.ble YB f))=some a at e1;obtain⟨f,h2,e2⟩:=Db e1;rw[lookR_eq]at h2
  have yU:¬YB≤f:=by
   cases hb:Nat.ble YB f with
   | true=>rw[hb]at e2;cases e2
   | false=>exact yb_lt hb
  have e2:c f (d::ys) S k=some a:=by
   cases hb:Nat.ble YB f with
   | true=>rw[hb]at e2;cases e2
   | false=>rw[hb]at e2;exact e2
  cases x with
  | ifc t' d' =>
   simp only[Oi,Pi_]at h1;obtain⟨rfl,rfl⟩:=h1;obtain⟨r,S',w,h3,h4⟩:=hc _ _ _ _ _ e2;exact⟨r,S',w,by simp only[Al,h2];rw[if_neg yU];exact h3,h4⟩
  | ifr t' d' =>
   simp only[Oi,Pi_]at h1;obtain⟨rfl,rfl⟩:=h1;obtain⟨r,S',w,h3,h4⟩:=hc _ _ _ _ _ e2;exact⟨r,S',w,by simp only[Al,h2];rw[if_neg yU];exact h3,h4⟩
  | _=>simp at h1
noncomputable def aaddrC (sz len:Nat):LC:=⟨fun _ xs S k=>un2K xs fun x y=>ivK y (fun _ j=>ifA (Nat.blt j len) (pvK x (fun row o=>frc (Nat.add o (Nat.mul j sz)) fun m=>k (.X7 row m) S false) (fun g v i o=>frc (Nat.add o (Nat.mul j sz)) fun m=>k (.ptr g v i m) S false) none) none) none⟩
theorem aaddrC_ok(sz len:Nat):LOK (.aaddr sz len) (aaddrC sz len):=by
  intro c cs hc xs S k a e0;obtain⟨x,y,rfl,e1⟩:=G8 e0;rcases Fz e1 with⟨k0,j,rfl,e2⟩ | e2
  · rw [Cn] at e2;split at e2
    · next hj =>
      have hj:j<len:=by simpa [Nat.blt_eq] using hj
      rcases O6 e2 with⟨row,o,rfl,e3⟩ | ⟨g,v,i,o,rfl,e3⟩ | e3
      · exact⟨_,S,false,Ck rfl rfl (by simp[pop,Lx,hj]),e3⟩
      · exact⟨_,S,false,Ck rfl rfl (by simp[pop,Lx,hj]),e3⟩
      simp at e3
    simp at e2
  simp at e2
noncomputable def mkfnC (f:FuncId):LC:=⟨fun _ xs S k=>k (.fn f xs) S false⟩
theorem mkfnC_ok(f:FuncId):LOK (.mkfn f) (mkfnC f):=by
 intro c cs hc xs S k a e0;exact⟨_,S,false,Ck rfl rfl rfl,e0⟩
noncomputable def eqbC (neg:Bool):LC:=⟨fun _ xs S k=>un2K xs fun x y=>bvK x (bvK y (k (.bool (true != neg)) S false) (k (.bool (false != neg)) S false)) (bvK y (k (.bool (false != neg)) S false) (k (.bool (true != neg)) S false))⟩
theorem eqbC_ok(neg:Bool):LOK (.eqb neg) (eqbC neg):=by
 intro c cs hc xs S k a e0;obtain⟨x,y,rfl,e1⟩:=G8 e0;rcases M6 e1 with⟨rfl,e2⟩ | ⟨rfl,e2⟩
 ·
  rcases M6 e2 with⟨rfl,e3⟩ | ⟨rfl,e3⟩
  ·
   exact⟨_,S,false,Ck rfl rfl rfl,e3⟩
  exact⟨_,S,false,Ck rfl rfl rfl,e3⟩
 rcases M6 e2 with⟨rfl,e3⟩ | ⟨rfl,e3⟩
 ·
  exact⟨_,S,false,Ck rfl rfl rfl,e3⟩
 exact⟨_,S,false,Ck rfl rfl rfl,e3⟩
theorem Uv(s:ByteArray)(l h:Nat):s.extract l h=⟨⟨(s.data.toList.drop l).take (h-l)⟩⟩:=by
 apply f_ext;have:s=⟨⟨s.data.toList⟩⟩:=by cases s;simp
 rw[this];simp[ByteArray.data_extract,List.extract_eq_take_drop]
noncomputable def subSC (z:Nat) (lo hi mx:Bool):LC:=Bool.rec (motive:=fun _=>LC)
 (Bool.rec (motive:=fun _=>LC) (O1 (.slice true z lo hi mx))
  ⟨fun c xs S k=>un2K xs fun x y=>svK x (fun l=>ivK y (fun _ b=>takeK l b fun r=>k (.str ⟨⟨r⟩⟩) S false) none) none⟩ hi)
 (Bool.rec (motive:=fun _=>LC) ⟨fun c xs S k=>un2K xs fun x y=>svK x (fun l=>ivK y (fun _ b=>dropK l b fun r=>k (.str ⟨⟨r⟩⟩) S false) none) none⟩
  ⟨fun c xs S k=>un3K xs fun x y w=>svK x (fun l=>ivK y (fun _ b=>ivK w (fun _ d=>ifA (Nat.ble b d) (dropK l b fun r=>takeK r (Nat.sub d b) fun r=>k (.str ⟨⟨r⟩⟩) S false) none) none) none) none⟩ hi) lo
theorem subSC_ok(z:Nat)(lo hi:Bool):LOK (.slice true z lo hi false) (subSC z lo hi false):=by
 intro c cs hc xs S k a e0
 cases lo with
 | false =>
  cases hi with
  | false=>exact Gv rfl c cs hc _ _ _ _ e0
  | true =>
   obtain⟨x,y,rfl,e1⟩:=G8 e0;rcases Ih e1 with⟨s,rfl,e2⟩ | e2
   ·
    rcases Fz e2 with⟨k0,b,rfl,e3⟩ | e3
    ·
     obtain⟨h1,h2⟩:=Nb e3;refine⟨_,S,false,Ck rfl rfl ?_,h2⟩;have h1:b≤s.size:=by rw[Pt];exact h1
     simp[pop,Bt,Ch,Er,Dj,h1,Uv]
    simp at e3
   simp at e2
 | true =>
  cases hi with
  | false =>
   obtain⟨x,y,rfl,e1⟩:=G8 e0;rcases Ih e1 with⟨s,rfl,e2⟩ | e2
   ·
    rcases Fz e2 with⟨k0,b,rfl,e3⟩ | e3
    ·
     obtain⟨h1,h2⟩:=Oa e3;refine⟨_,S,false,Ck rfl rfl ?_,h2⟩;have h1:b≤s.size:=by rw[Pt];exact h1
     have h3:(s.data.toList.drop b).take (s.size-b)=s.data.toList.drop b:=List.take_of_length_le (by rw[List.length_drop,Pt];omega);simp only[pop,Bt,Ch,Er,Dj,Int.natCast_nonneg,if_true,Int.toNat_natCast,h1,Nat.le_refl,and_self,Option.map_some,Uv,h3]
    simp at e3
   simp at e2
  | true =>
   obtain⟨x,y,w,rfl,e1⟩:=un3K_some e0;rcases Ih e1 with⟨s,rfl,e2⟩ | e2
   ·
    rcases Fz e2 with⟨k0,b,rfl,e3⟩ | e3
    ·
     rcases Fz e3 with⟨k1,d,rfl,e4⟩ | e4
     ·
      rw[Cn]at e4;split at e4
      ·
       next hbd =>
       have hbd:b≤d:=Nat.le_of_ble_eq_true hbd;obtain⟨h1,h2⟩:=Oa e4;obtain⟨h3,h4⟩:=Nb h2;refine⟨_,S,false,Ck rfl rfl ?_,h4⟩;have h5:d≤s.size:=by rw[Pt];rw[List.length_drop]at h3;have h3:d-b≤_:=h3;omega
       simp only[pop,Bt,Ch,Er,Dj,Int.natCast_nonneg,if_true,Int.toNat_natCast,hbd,h5,and_self,Option.map_some,Uv];rfl
      simp at e4
     simp at e4
    simp at e3
   simp at e2
noncomputable def celsR (l:List D):Bool:=List.rec (motive:=fun _=>Bool) true (fun h _ ih=>Bool.rec (motive:=fun _=>Bool) false ih h.celB) l
theorem celsR_all:∀{l:List D},celsR l=true→l.all D.Xv=true
 | [],_=>rfl
 | x::l,h=>by
  have e:celsR (x::l)=Bool.rec (motive:=fun _=>Bool) false (celsR l) x.celB:=rfl
  cases hx:x.celB with
  | true=>rw[e,hx]at h;rw[List.all_cons,(celB_is hx).1,celsR_all h];rfl
  | false=>rw[e,hx]at h;simp at h
noncomputable def D.vc:D→Option (List D)
 | .agg cs=>Bool.rec (motive:=fun _=>Option (List D)) none (some cs) (celsR cs)
 | d=>Bool.rec (motive:=fun _=>Option (List D)) none (some [d]) d.celB
theorem Qh{d:D}{cs:List D}(h:d.vc=some cs):d.val=true∧d.cells=cs:=by
 cases d with
 | agg l =>
  have h:Bool.rec (motive:=fun _=>Option (List D)) none (some l) (celsR l)=some cs:=h
  cases hc:celsR l with
  | false=>rw[hc]at h;simp at h
  | true =>
   rw[hc]at h;obtain rfl:l=cs:=by simpa using h
   exact⟨celsR_all hc,rfl⟩
 | undef=>exact absurd h (by simp[D.vc,D.celB])
 | skip=>exact absurd h (by simp[D.vc,D.celB])
 | tup l=>exact absurd h (by simp[D.vc,D.celB])
 | _ =>
  simp only[D.vc,D.celB,Oi]at h;subst h;exact⟨rfl,rfl⟩
theorem Pq{d:D}(h:d.flatV=true):d.cells.all D.free=true:=by
 cases d with
 | agg l=>exact List.all_eq_true.2 fun x hx=>flat_free (Nz h x hx)
 | _=>simp_all [D.flatV,D.flat,D.cells,D.free,D.Xw]
noncomputable def boxC' (e:TypeId) (sz:Nat):LC:=⟨fun _ xs S k=>Q5 xs fun x=>Ip x.vc fun cs=>ifA (Nat.beq (Ns cs) sz) (newK S ⟨e,sz,[cs],0,0,false⟩ fun n S'=>k (.ptr n 0 0 0) S' true) none⟩
theorem boxC_ok(e:TypeId)(sz:Nat):LOK (.box e sz) (boxC' e sz):=by
  intro c cs hc xs S k a e0;obtain⟨x,rfl,e1⟩:=Es e0;obtain⟨l,h1,e2⟩:=Db e1;obtain⟨h2,h3⟩:=Qh h1;rw[Cn]at e2;split at e2
  · next hl =>
    have hl:l.length=sz:=by rw[←Fx];exact Nat.eq_of_beq_eq_true hl
    exact⟨_,_,_,Ij rfl rfl (by simp[lop,h2,h3,hl]),Kg (S:=S) (k:=fun n S'=>k (.ptr n 0 0 0) S' true) e2⟩
  simp at e2
noncomputable def boxcC (sz:Nat):LC:=⟨fun _ xs S k=>Q5 xs fun x=>Ip x.vc fun cs=>ifA (Nat.beq (Ns cs) sz) (ifA x.flatV (k (.X7 cs 0) S false) (ifA (cs.all D.free) (k (.X7 cs 0) S false) none)) none⟩
theorem boxcC_ok(sz:Nat):LOK (.boxc sz) (boxcC sz):=by
  intro c cs hc xs S k a e0;obtain⟨x,rfl,e1⟩:=Es e0;obtain⟨l,h1,e2⟩:=Db e1;obtain⟨h2,h3⟩:=Qh h1;rw[Cn]at e2;split at e2
  · next hl =>
    have hl:l.length=sz:=by rw[←Fx];exact Nat.eq_of_beq_eq_true hl
    have fin:l.all D.free=true→k (.X7 l 0) S false=some a→∃r S' w,Al cs (.boxc sz) [x] S=some (r,S',w)∧k r S' w=some a:=fun hf e3 =>
      ⟨_,_,_,Ij rfl rfl (by simp only[lop,h2,h3,hl,hf,beq_self_eq_true,Bool.and_self,if_true]),e3⟩
    rw[Cn]at e2;split at e2
    · next hf=>exact fin (by rw[←h3];exact Pq hf) e2
    rw[Cn]at e2;split at e2
    · next hf=>exact fin hf e2
    simp at e2
  simp at e2
noncomputable def fillK (ps:List (Nat × Nat)):List D→List D→(List D→Ans)→Ans :=
 List.rec (motive:=fun _=>List D→List D→(List D→Ans)→Ans) (fun xs z k=>List.rec (motive:=fun _=>Ans) (k z) (fun _ _ _=>none) xs)
  (fun p _ ih xs z k=>List.rec (motive:=fun _=>Ans) none (fun x t _=>Ip x.vc fun cs=>ifA (Nat.beq (Ns cs) p.2) (overK z p.1 cs fun z'=>ih t z' k) none) xs) ps
theorem fillK_some:∀(ps:List (Nat × Nat)) {xs z:List D} {k:List D→Ans} {a:D × St × Bool},fillK ps xs z k=some a→∃r,M0 z ps xs=some r∧k r=some a
 | [],[],z,k,a,h=>⟨z,rfl,h⟩
 | [],x::xs,z,k,a,h=>by simp[fillK]at h
 | (o,s)::ps,[],z,k,a,h=>by simp[fillK]at h
 | (o, s) :: ps, x :: xs, z, k, a, h => by
  have h:(Ip x.vc fun cs=>ifA (Nat.beq (Ns cs) s) (overK z o cs fun z'=>fillK ps xs z' k) none)=some a:=h;obtain⟨cs,h1,h2⟩:=Db h;obtain⟨h3,h4⟩:=Qh h1;rw[Cn]at h2;split at h2
  ·
   next hl =>
   have hl:cs.length=s:=by rw[←Fx];exact Nat.eq_of_beq_eq_true hl
   obtain⟨h5,h6⟩:=Np h2;obtain⟨r,h7,h8⟩:=fillK_some ps h6;refine⟨r,?_,h8⟩;have:o+s≤z.length:=by rw[←hl];exact h5
   simp only[M0,h3,h4,hl,beq_self_eq_true,this,decide_true,Bool.and_self,if_true,h7]
  simp at h2
noncomputable def buildC (z:List D) (ps:List (Nat × Nat)):LC:=⟨fun _ xs S k=>fillK ps xs z fun r=>k (.agg r) S false⟩
theorem buildC_ok(z:List D)(ps:List (Nat × Nat)):LOK (.build z ps) (buildC z ps):=by
 intro c cs hc xs S k a e0;obtain⟨r,h1,h2⟩:=fillK_some ps e0;exact⟨_,S,false,Ck rfl rfl (by simp[pop,h1]),h2⟩
noncomputable def putK (S:St) (g:Nat) (o i sz:Nat) (cs:List D) (e sz':Nat) (rows:List (List D)) (ver kind:Nat) (grow:Bool) (k:K1):Ans :=
 ifA (Nat.beq (Ns cs) sz) (nthK rows i fun row=>overK row o cs fun row'=>setK row' rows i fun rows'=>setHK S g ⟨e,sz',rows',ver,kind,grow⟩ fun S'=>k .undef S' true) none
noncomputable def stC (sz:Nat):LC:=⟨fun c xs S k=>un2K xs fun p x=>Ip x.vc fun cs=>pvK p (fun _ _=>none) (fun g v i o=>hgetK S g v fun e sz' rows ver kind grow =>
 Nat.rec (motive:=fun _=>Ans) (putK S g o i sz cs e sz' rows ver kind grow k) (fun _ _=>ifA x.flatV (ifA (Nat.beq kind 2) (putK S g o i sz cs e sz' rows ver kind grow k) none) ((O1 (.store sz)).f c xs S k)) kind) none⟩
theorem stC_ok (sz : Nat) : LOK (.store sz) (stC sz) := by
  intro c cs hc xs S k a e0;obtain⟨p,x,rfl,e1⟩:=G8 e0;obtain⟨l,hv,e2⟩:=Db e1;obtain⟨hx2,hx3⟩:=Qh hv;rcases O6 e2 with⟨row,o,rfl,e3⟩ | ⟨g,v,i,o,rfl,e3⟩ | e3
  · simp at e3
  · obtain ⟨ob, h0, hve, h1, e4⟩ := Rq e3
    have fin:∀{z:Ans},putK S g o i sz l ob.elem ob.sz ob.rows ob.ver ob.kind ob.grow k=some a→(ob.kind=0∨(ob.kind=2∧x.flatV=true))→∃r S' w,Al cs (.store sz) [.ptr g v i o,x] S=some (r,S',w)∧k r S' w=some a:=by
      intro _ e5 hk;unfold putK at e5;rw[Cn]at e5;split at e5
      · next hl =>
        have hl:l.length=sz:=by rw[←Fx];exact Nat.eq_of_beq_eq_true hl
        obtain⟨row,h2,e6⟩:=Ha e5;obtain⟨h3,e7⟩:=Np e6;have e8:=Ni (Mf e7);refine⟨.undef,_,true,Ij rfl rfl ?_,e8⟩;have xg:o+sz≤row.length:=by rw[←hl];exact h3
        have qX:(if ob.kind=0 then some x else Xp S.heap.length S.heap x)=some x:=by
          rcases hk with hk | ⟨hk,hf⟩
          · rw[if_pos hk]
          rw[if_neg (by omega),Pp hf]
        have yS:(x.val&&x.cells.length==sz&&decide (o+sz≤row.length)&&(decide (ob.kind=0)||(decide (ob.kind=2)&&x.cells.all D.free)))=true:=by
          rw[hx3,hx2,decide_eq_true xg,hl];rcases hk with hk | ⟨hk,hf⟩
          · simp[hk]
          rw[←hx3,Pq hf];simp[hk]
        simp only[lop,I1,h1,h2,qX];rw[if_pos yS,hx3];rfl
      simp at e5
    match hk:ob.kind with
    | 0 =>
      rw[hk]at e4;exact fin (z:=none) (by rw[hk];exact e4) (.inl hk)
    | n + 1 =>
      rw[hk]at e4;change ifA x.flatV _ _=some a at e4;rw[Cn]at e4;split at e4
      · next hf =>
        rw[Cn]at e4;split at e4
        · next h2=>exact fin (z:=none) (by rw[hk];exact e4) (.inr ⟨by rw[hk];exact Nat.eq_of_beq_eq_true h2,hf⟩)
        simp at e4
      exact Gv rfl c cs hc _ _ _ _ e4
  simp at e3
theorem setK_lt{α:Type}{x:α}:∀{l:List α} {n:Nat} {k:List α→Ans} {a:D × St × Bool},setK x l n k=some a→n<l.length
 | [],n,k,a,h=>by simp[setK]at h
 | y::l,0,k,a,h=>Nat.zero_lt_succ _
 | y::l,n+1,k,a,h=>Nat.succ_lt_succ (setK_lt (l:=l) (n:=n) (k:=fun r=>k (y::r)) h)
noncomputable def O5 (sz:Nat) (ps:List Nat):List D→List (List D)→(List (List D)→Ans)→Ans :=
 List.rec (motive:=fun _=>List D→List (List D)→(List (List D)→Ans)→Ans) (fun xs z k=>List.rec (motive:=fun _=>Ans) (k z) (fun _ _ _=>none) xs)
  (fun p _ ih xs z k=>List.rec (motive:=fun _=>Ans) none (fun x t _=>Ip x.vc fun cs=>ifA (Nat.beq (Ns cs) sz) (setK cs z p fun z'=>ih t z' k) none) xs) ps
theorem rowsK_0{sz:Nat}:∀(ps:List Nat) {xs:List D} {z:List (List D)} {k:List (List D)→Ans} {a:D × St × Bool},O5 sz ps xs z k=some a→∃r,Dl z sz ps xs=some r∧k r=some a
 | [],[],z,k,a,h=>⟨z,rfl,h⟩
 | [],x::xs,z,k,a,h=>by simp[O5]at h
 | p::ps,[],z,k,a,h=>by simp[O5]at h
 | p :: ps, x :: xs, z, k, a, h => by
  have h:(Ip x.vc fun cs=>ifA (Nat.beq (Ns cs) sz) (setK cs z p fun z'=>O5 sz ps xs z' k) none)=some a:=h;obtain⟨cs,h1,h2⟩:=Db h;obtain⟨h3,h4⟩:=Qh h1;rw[Cn]at h2;split at h2
  ·
   next hl =>
   have hl:cs.length=sz:=by rw[←Fx];exact Nat.eq_of_beq_eq_true hl
   obtain⟨r,h7,h8⟩:=rowsK_0 ps (Mf h2);refine⟨r,?_,h8⟩;simp only[Dl,h3,h4,hl,beq_self_eq_true,setK_lt h2,decide_true,Bool.and_self,if_true,h7]
  simp at h2
theorem rowsK_f{sz:Nat}:∀(ps:List Nat) {xs:List D} {z:List (List D)} {k:List (List D)→Ans} {a:D × St × Bool},Il xs=true→O5 sz ps xs z k=some a→∃r,Dm z sz ps xs=some r∧k r=some a
 | [],[],z,k,a,_,h=>⟨z,rfl,h⟩
 | [],x::xs,z,k,a,_,h=>by simp[O5]at h
 | p::ps,[],z,k,a,_,h=>by simp[O5]at h
 | p :: ps, x :: xs, z, k, a, hf, h => by
  have h:(Ip x.vc fun cs=>ifA (Nat.beq (Ns cs) sz) (setK cs z p fun z'=>O5 sz ps xs z' k) none)=some a:=h;obtain⟨cs,h1,h2⟩:=Db h;obtain⟨h3,h4⟩:=Qh h1;rw[Cn]at h2;split at h2
  ·
   next hl =>
   have hl:cs.length=sz:=by rw[←Fx];exact Nat.eq_of_beq_eq_true hl
   obtain⟨r,h7,h8⟩:=rowsK_f ps (Ie hf).2 (Mf h2);refine⟨r,?_,h8⟩;have vP:cs.all D.free=true:=by rw[←h4];exact Pq (Ie hf).1
   simp only[Dm,h3,h4,hl,vP,beq_self_eq_true,setK_lt h2,decide_true,Bool.and_self,if_true,h7]
  simp at h2
noncomputable def bsliceC (e sz len:Nat) (z:List D) (ps:List Nat) (kind:Nat):LC :=
 if kind=0 then ⟨fun _ xs S k=>O5 sz ps xs (repR z len) fun rs=>newK S ⟨e,sz,rs,0,0,false⟩ fun n S'=>k (.msl n 0 0 len none) S' true⟩
 else if kind=2 then ⟨fun c xs S k=>ifA (Il xs) (O5 sz ps xs (repR z len) fun rs=>newK S ⟨e,sz,rs,0,2,false⟩ fun n S'=>k (.msl n 0 0 len none) S' true) ((O1 (.Xz e sz len z ps kind)).f c xs S k)⟩
 else ⟨fun c xs S k=>ifA (Il xs) (O5 sz ps xs (repR z len) fun rs=>k (.sl sz rs (some len)) S false) ((O1 (.Xz e sz len z ps kind)).f c xs S k)⟩
theorem bsliceC_ok(e sz len:Nat)(z:List D)(ps:List Nat)(kind:Nat):LOK (.Xz e sz len z ps kind) (bsliceC e sz len z ps kind):=by
  intro c cs hc xs S k a e0;unfold bsliceC at e0;split at e0
  · next hk =>
    dsimp only at e0;rw[Wx]at e0;obtain⟨rs,h1,h2⟩:=rowsK_0 ps e0;exact⟨_,_,_,Ij rfl rfl (by simp only[lop,hk,if_true,h1]),Kg (S:=S) (k:=fun n S'=>k (.msl n 0 0 len none) S' true) h2⟩
  next hk =>
  split at e0
  · next wW =>
    dsimp only at e0;rw[Cn]at e0;split at e0
    · next hf =>
      rw[Wx]at e0;obtain⟨rs,h1,h2⟩:=rowsK_f ps hf e0;exact⟨_,_,_,Ij rfl rfl (by subst wW;simp only[lop,Js _ _ hf,h1,if_true];rfl),Kg (S:=S) (k:=fun n S'=>k (.msl n 0 0 len none) S' true) h2⟩
    exact Gv rfl c cs hc _ _ _ _ e0
  next wW =>
  dsimp only at e0;rw[Cn]at e0;split at e0
  · next hf =>
    rw[Wx]at e0;obtain⟨rs,h1,h2⟩:=rowsK_f ps hf e0;exact⟨_,_,_,Ij rfl rfl (by simp only[lop,if_neg hk,if_neg wW,Js _ _ hf,h1]),h2⟩
  exact Gv rfl c cs hc _ _ _ _ e0
noncomputable def lC:LOp→LC
 | .mv=>mvC
 | .bin op=>binL op
 | .pick=>pickC
 | .un .not=>notC
 | .conv k=>convC k
 | .index=>idxC
 | .load sz agg=>loadC sz agg
 | .field o sz agg=>fieldC o sz agg
 | .extract i=>extC i
 | .X3 f=>faddrC f
 | .nilck=>nilckC
 | .X0 sz=>iaddrC sz
 | .len st=>lenC st
 | .alloc e z=>allocC e z
 | .store sz=>stC sz
 | .aaddr sz len=>aaddrC sz len
 | .mkfn f=>mkfnC f
 | .eqb neg=>eqbC neg
 | .slice true z lo hi false=>subSC z lo hi false
 | .box e sz=>boxC' e sz
 | .boxc sz=>boxcC sz
 | .build z ps=>buildC z ps
 | .Xz e sz len z ps kind=>bsliceC e sz len z ps kind
 | .call f=>callC f
 | .callv=>callvC
 | .invoke tab=>invC tab
 | op=>O1 op
theorem lC_ok(op:LOp):LOK op (lC op):=by
 cases op with
 | mv=>exact mvC_ok
 | bin op=>exact binL_ok op
 | pick=>exact pickC_ok
 | un u=>cases u<;>first | exact notC_ok | exact Gv rfl
 | conv k=>exact convC_ok k
 | index=>exact idxC_ok
 | load sz agg=>exact loadC_ok sz agg
 | field o sz agg=>exact fieldC_ok o sz agg
 | extract i=>exact extC_ok i
 | X3 f=>exact faddrC_ok f
 | nilck=>exact nilckC_ok
 | X0 sz=>exact iaddrC_ok sz
 | len st=>exact lenC_ok st
 | alloc e z=>exact allocC_ok e z
 | store sz=>exact stC_ok sz
 | aaddr sz len=>exact aaddrC_ok sz len
 | mkfn f=>exact mkfnC_ok f
 | eqb neg=>exact eqbC_ok neg
 | slice st z lo hi mx=>cases st<;>cases mx<;>first | exact subSC_ok z lo hi | exact Gv rfl
 | box e sz=>exact boxC_ok e sz
 | boxc sz=>exact boxcC_ok sz
 | build z ps=>exact buildC_ok z ps
 | Xz e sz len z ps kind=>exact bsliceC_ok e sz len z ps kind
 | call f=>exact callC_ok f
 | callv=>exact callvC_ok
 | invoke tab=>exact invC_ok tab
 | _=>exact Gv rfl
def resO (al:List Xk) (m:Nat):Xk→Option Xk
 | .loc d=>match al[d]? with
  | some (.loc i)=>if i<m then some (.loc (m-1-i)) else none
  | x=>x
 | x=>some x
def Mk (al:List Xk) (m:Nat):List Xk→Option (List Xk)
 | []=>some []
 | x::l=>match resO al m x,Mk al m l with
  | some y,some r=>some (y::r)
  | _,_=>none
def alV (dv env:List D) (m:Nat):Xk→D
 | .env j=>env.getD j .undef
 | .const c=>c
 | .loc i=>dv.getD (m-1-i) .undef
structure ALR (al:List Xk) (m:Nat) (vals dv env:List D):Prop where
 len:dv.length=m
 all:al.length=vals.length
 eq:∀(d:Nat) (x:Xk),al[d]?=some x→vals.getD d .undef=alV dv env m x
 lt:∀(d i:Nat),al[d]?=some (Xk.loc i)→i<m
theorem ALR.res{al:List Xk}{m:Nat}{vals dv env:List D}(h:ALR al m vals dv env){o o':Xk}(ho:resO al m o=some o'):opd dv env o'=opd vals env o:=by
 cases o with
 | env j=>simp only[resO,Oi]at ho;subst ho;rfl
 | const c=>simp only[resO,Oi]at ho;subst ho;rfl
 | loc d =>
  simp only[resO]at ho;split at ho
  ·
   next i hi =>
   split at ho
   ·
    injection ho with ho;subst ho;have:=h.eq d _ hi;simp only[alV]at this;simp only[opd,this]
   simp at ho
  next x hx =>
  have:=h.eq d _ ho
  cases o' with
  | loc i=>exact absurd ho (hx i)
  | env j=>simp only[alV]at this;simp only[opd,this]
  | const c=>simp only[alV]at this;simp only[opd,this]
theorem ALR.ress{al:List Xk}{m:Nat}{vals dv env:List D}(h:ALR al m vals dv env):∀{l l':List Xk},Mk al m l=some l'→l'.map (opd dv env)=l.map (opd vals env)
 | [],l',e=>by simp only[Mk,Oi]at e;subst e;rfl
 | x :: l, l', e => by
  simp only[Mk]at e;split at e
  ·
   next y r h1 h2 =>
   injection e with e;subst e;simp only[List.map_cons,h.res h1,h.ress h2]
  simp at e
theorem ALR.push {al : List Xk} {m : Nat} {vals dv env : List D} (h : ALR al m vals dv env) (r : D) : ALR (.loc m :: al) (m + 1) (r :: vals) (r :: dv) env := by
  refine⟨by simp[h.len],by simp[h.all],fun d x hx=>?_,fun d i hi=>?_⟩
  · cases d with
    | zero =>
      simp only[Lz,Oi]at hx;subst hx;simp[alV]
    | succ d =>
      rw[Ls_]at hx;rw[List.getD_cons_succ,h.eq d x hx]
      cases x with
      | loc i =>
        have hi:=h.lt d i hx;simp only[alV];rw[show m+1-1-i=(m-1-i)+1 by omega,List.getD_cons_succ]
      | env j=>rfl
      | const c=>rfl
  cases d with
  | zero=>simp only[Lz,Oi,Xk.loc.injEq]at hi;omega
  | succ d=>rw[Ls_]at hi;have:=h.lt d i hi;omega
def mvO (al:List Xk):Xk→Option Xk
 | .loc d=>al[d]?
 | x=>some x
theorem ALR.alias{al:List Xk}{m:Nat}{vals dv env:List D}(h:ALR al m vals dv env){o x:Xk}(ho:mvO al o=some x):ALR (x::al) m (opd vals env o::vals) dv env:=by
  refine⟨h.len,by simp[h.all],fun d y hy=>?_,fun d i hi=>?_⟩
  · cases d with
    | zero =>
      simp only[Lz,Oi]at hy;subst hy;rw[List.getD_cons_zero]
      cases o with
      | loc d=>exact h.eq d x ho
      | env j=>simp only[mvO,Oi]at ho;subst ho;rfl
      | const c=>simp only[mvO,Oi]at ho;subst ho;rfl
    | succ d=>rw[Ls_]at hy;rw[List.getD_cons_succ];exact h.eq d y hy
  cases d with
  | zero =>
    simp only[Lz,Oi]at hi;subst hi
    cases o with
    | loc d=>exact h.lt d i ho
    | env j=>simp[mvO]at ho
    | const c=>simp[mvO]at ho
  | succ d=>rw[Ls_]at hi;exact h.lt d i hi
structure OC where
 f:Iw→List D→ET→St→(ET→St→Ans)→Ans
noncomputable def noOC:OC:=⟨fun _ _ _ _ _=>none⟩
def D.gv:D→Nat
 | .bool false=>0
 | .bool true=>1
 | .skip=>2
 | _=>3
noncomputable def gK (b:Bool) (x:D) (on off:Ans):Ans :=
 Nat.rec (motive:=fun _=>Ans) (Bool.rec (motive:=fun _=>Ans) on off b) (fun m _=>Nat.rec (motive:=fun _=>Ans) (Bool.rec (motive:=fun _=>Ans) off on b) (fun m _=>Nat.rec (motive:=fun _=>Ans) off (fun _ _=>none) m) m) x.gv
theorem gK_some{b:Bool}{x:D}{on off:Ans}{a:D × St × Bool}(h:gK b x on off=some a){vals:List D}{d:Nat}(hx:vals.getD d .undef=x):(onG vals (some (d,b))=some true∧on=some a)∨(onG vals (some (d,b))=some false∧off=some a):=by
 unfold gK at h
 cases x with
 | bool c=>cases c<;>cases b<;>first | exact .inl ⟨by simp only[onG,hx];rfl,h⟩ | exact .inr ⟨by simp only[onG,hx];rfl,h⟩
 | skip=>exact .inr ⟨by simp only[onG,hx],h⟩
 | _=>exact absurd h (by simp[D.gv])
section
variable (n:Nat)
noncomputable def opK (op:LOp) (A:List Xk) (rest:OC):OC:=⟨fun c dv t S k=>(asC n A).f dv t fun xs=>(lC op).f c xs S fun r S' _=>rest.f c (r::dv) t S' k⟩
noncomputable def opsC (ops:List Xj) (fin:List Xk→Nat→OC):List Xk→Nat→OC :=
 List.rec (motive:=fun _=>List Xk→Nat→OC) fin (fun o _ ih al m=>match o.guard with
  | none=>match o.op,o.args with
   | .mv,[x]=>(match mvO al x with | some y=>ih (y::al) m | none=>noOC)
   | op,args=>(match Mk al m args with | some A=>opK n op A (ih (.loc m::al) (m+1)) | none=>noOC)
  | some (d,b)=>match resO al m (.loc d),Mk al m o.args with
   | some g,some A=>⟨fun c dv t S k=>(odC n g).f dv t fun x=>gK b x ((opK n o.op A (ih (.loc m::al) (m+1))).f c dv t S k) ((ih (.loc m::al) (m+1)).f c (.skip::dv) t S k)⟩
   | _,_=>noOC) ops
theorem opK_some{op:LOp}{A:List Xk}{rest:OC}{c:Iw}{cs:Aq}(hc:CKs c cs){dv env:List D}{t:ET}(hR:ETR n t env){S:St}{k:ET→St→Ans}{a:D × St × Bool}(h:(opK n op A rest).f c dv t S k=some a) :
  ∃r S' w,Al cs op (A.map (opd dv env)) S=some (r,S',w)∧rest.f c (r::dv) t S' k=some a:=by
 have h1:=Qd (k:=fun xs=>(lC op).f c xs S fun r S' _=>rest.f c (r::dv) t S' k) hR A h;exact lC_ok op c cs hc _ _ _ _ h1
theorem Mm {fin : List Xk → Nat → OC} {c : Iw} {cs : Aq} (hc : CKs c cs) {env : List D} {t : ET} (hR : ETR n t env) {k : ET → St → Ans} {a : D × St × Bool} {P : List D → St → Prop}
    (hf:∀al m vals dv S,ALR al m vals dv env→(fin al m).f c dv t S k=some a→P vals S) :
    ∀(ops:List Xj) {al:List Xk} {m:Nat} {vals dv:List D} {S:St},ALR al m vals dv env→(opsC n ops fin al m).f c dv t S k=some a→∃vals' S',Hg cs ops vals env S=some (vals',S')∧P vals' S'
  | [],al,m,vals,dv,S,hA,h=>⟨vals,S,rfl,hf al m vals dv S hA h⟩
  | o :: os, al, m, vals, dv, S, hA, h => by
    obtain⟨op,args,guard,ord,ho⟩:=o
    cases guard with
    | none =>
      have gen:∀A,Mk al m args=some A→(opK n op A (opsC n os fin (.loc m::al) (m+1))).f c dv t S k=some a→∃vals' S',Hg cs (⟨op,args,none,ord,ho⟩::os) vals env S=some (vals',S')∧P vals' S':=by
        intro A hA' h';obtain⟨r,S',w,h1,h2⟩:=opK_some n hc hR h';rw[hA.ress hA']at h1;obtain⟨vals',S2,h3,h4⟩:=Mm hc hR hf os (hA.push r) h2;exact⟨vals',S2,by simp only[Hg,onG,h1];exact h3,h4⟩
      have key:∀(op':LOp) (args':List Xk),op'=op→args'=args→((match op',args' with
          | .mv,[x]=>(match mvO al x with | some y=>opsC n os fin (y::al) m | none=>noOC)
          | op,args=>(match Mk al m args with | some A=>opK n op A (opsC n os fin (.loc m::al) (m+1)) | none=>noOC):OC)).f c dv t S k=some a→∃vals' S',Hg cs (⟨op,args,none,ord,ho⟩::os) vals env S=some (vals',S')∧P vals' S':=by
        intro op' args' e1 e2 h';split at h'
        · next x =>
          subst e1 e2;split at h'
          · next y hy =>
            obtain⟨vals',S2,h3,h4⟩:=Mm hc hR hf os (hA.alias hy) h';exact⟨vals',S2,by simp only[Hg,onG,List.map_cons,List.map_nil,Al,aop,LOp.loud,pop,Option.map_some,Bool.false_eq_true,if_false];exact h3,h4⟩
          exact absurd h' (by simp[noOC])
        split at h'
        · next A hA' =>
          subst e1 e2;exact gen A hA' h'
        exact absurd h' (by simp[noOC])
      exact key op args rfl rfl h
    | some g =>
      obtain⟨d,b⟩:=g
      have h:(match resO al m (.loc d),Mk al m args with
        | some g,some A=>(⟨fun c dv t S k=>(odC n g).f dv t fun x=>gK b x ((opK n op A (opsC n os fin (.loc m::al) (m+1))).f c dv t S k) ((opsC n os fin (.loc m::al) (m+1)).f c (.skip::dv) t S k)⟩:OC)
        | _,_=>noOC).f c dv t S k=some a:=h
      split at h
      · next g A hg hA' =>
        have h1:=Mq (k:=fun x=>gK b x ((opK n op A (opsC n os fin (.loc m::al) (m+1))).f c dv t S k) ((opsC n os fin (.loc m::al) (m+1)).f c (.skip::dv) t S k)) hR h;rw[hA.res hg]at h1;rcases gK_some h1 (vals:=vals) (d:=d) rfl with⟨h2,h3⟩ | ⟨h2,h3⟩
        · obtain ⟨r, S', w, h4, h5⟩ := opK_some n hc hR h3;rw[hA.ress hA']at h4;obtain⟨vals',S2,h6,h7⟩:=Mm hc hR hf os (hA.push r) h5;exact⟨vals',S2,by simp only[Hg,h2,h4];exact h6,h7⟩
        obtain⟨vals',S2,h6,h7⟩:=Mm hc hR hf os (hA.push .skip) h3;exact⟨vals',S2,by simp only[Hg,h2];exact h6,h7⟩
      exact absurd h (by simp[noOC])
def fqs (l:List (Option FP)):List FP:=l.map fun o=>o.getD Af
noncomputable def okR (x:FP) (fs:List (Option FP)):List Bool→Bool :=
 List.rec (motive:=fun _=>List Bool→Bool) (fun bs=>List.rec (motive:=fun _=>Bool) true (fun _ _ _=>false) bs)
  (fun f _ ih bs=>List.rec (motive:=fun _=>Bool) false (fun b t _=>Bool.rec (motive:=fun _=>Bool) false (ih t) (Option.rec (motive:=fun _=>Bool) true (fun g=>Ap b g x) f)) bs) fs
theorem okPair_quiet(b:Bool)(x:FP):Ap b Af x=true:=by
 unfold Ap;split<;>simp_all [Af,Az,Bn]
theorem okR_ok(x:FP):∀(fs:List (Option FP)) (bs:List Bool),okR x fs bs=true→Cf bs (fqs fs) x=true
 | [],[],h=>rfl
 | [],b::bs,h=>by simp[okR]at h
 | f::fs,[],h=>by simp[okR]at h
 | f :: fs, b :: bs, h => by
  have h:Bool.rec (motive:=fun _=>Bool) false (okR x fs bs) (Option.rec (motive:=fun _=>Bool) true (fun g=>Ap b g x) f)=true:=h
  have key:Ap b (f.getD Af) x=true∧okR x fs bs=true:=by
   cases f with
   | none=>exact⟨okPair_quiet b x,h⟩
   | some g =>
    have h:Bool.rec (motive:=fun _=>Bool) false (okR x fs bs) (Ap b g x)=true:=h
    cases e:Ap b g x with
    | true=>rw[e]at h;exact⟨e,h⟩
    | false=>rw[e]at h;simp at h
  have:=okR_ok x fs bs key.2;show (Ap b (f.getD Af) x&&Cf bs (fqs fs) x)=true;rw[key.1,this];rfl
theorem Pf:∀(bs:List Bool) (fs:List FP),bs.length=fs.length→Cf bs fs Af=true
 | [],[],_=>rfl
 | b::bs,f::fs,h=>by
  simp only[Cf,Bool.and_eq_true];refine⟨?_,Pf bs fs (by simpa using h)⟩;unfold Ap;split<;>simp_all [Af,Az,Bn]
 | [],_::_,h=>by simp at h
 | _::_,[],h=>by simp at h
structure FC where
 f:List D→D→Bool→List Nat→FP
def fpC:LOp→FC
 | .load ..=>⟨fun ds r wr W=>match ds with
  | [.ptr g _ _ _]=>Am [g]
  | _=>Am []⟩
 | .store ..=>⟨fun ds r wr W=>match ds with
  | [.ptr g _ _ _,x]=>⟨true,some (g::refV x),some [g],false,none⟩
  | _=>Ba wr⟩
 | .X0 ..=>⟨fun ds r wr W=>match ds with
  | [.msl g _ _ _ _,_]=>Am [g]
  | _=>Am []⟩
 | .call _=>⟨fun _ _ wr W=>if wr then ⟨true,none,some W,true,none⟩ else Ba false⟩
 | .callv=>⟨fun _ _ wr W=>if wr then ⟨true,none,some W,true,none⟩ else Ba false⟩
 | .invoke _=>⟨fun _ _ wr W=>if wr then ⟨true,none,some W,true,none⟩ else Ba false⟩
 | op=>⟨Dx op⟩
theorem fpC_eq(op:LOp):(fpC op).f=Dx op:=by
 cases op<;>rfl
def quietB (op:LOp):Bool:=!op.loud
theorem quiet_fp{op:LOp}(h:quietB op=true)(ds:List D)(r:D)(wr:Bool)(W:List Nat):Dx op ds r wr W=Af:=by
 have h:op.loud=false:=by simpa [quietB] using h
 cases op with
 | slice st sz lo hi mx=>cases st<;>first | rfl | (simp[LOp.loud]at h)
 | _=>first | rfl | (simp[LOp.loud]at h)
structure DC where
 f:Iw→Nat→List (Option FP)→List D→ET→St→(ET→St→Ans)→Ans
noncomputable def noDC:DC:=⟨fun _ _ _ _ _ _ _=>none⟩
noncomputable def opD (news:List (TypeId × List D)) (o:Xj) (q:Nat) (A:List Xk) (rest:DC):DC :=
 match o.hoist with
 | some h=>⟨fun c n0 fq dv t S k=>(asC n A).f dv t fun xs=>(lC o.op).f c xs S fun r S' _=>frc (Nat.add n0 h) fun g=>ifA (okR ⟨false,some [],some [],false,some g⟩ fq o.ord) (rest.f c n0 (some ⟨false,some [],some [],false,some g⟩::fq) (r::dv) t S' k) none⟩
 | none=>if quietB o.op&&o.ord.length==q then ⟨fun c n0 fq dv t S k=>(asC n A).f dv t fun xs=>(lC o.op).f c xs S fun r S' _=>rest.f c n0 (none::fq) (r::dv) t S' k⟩
  else ⟨fun c n0 fq dv t S k=>(asC n A).f dv t fun xs=>(lC o.op).f c xs S fun r S' w=>(fun fp=>ifA (okR fp fq o.ord) (ifA (fp.writes.isSome||Aw n0 (Ej o.ord (fqs fq)) S'.heap news 0) (rest.f c n0 (some fp::fq) (r::dv) t S' k) none) none) ((fpC o.op).f xs r w (chg S.heap S'.heap 0))⟩
theorem opD_some{news:List (TypeId × List D)}{o:Xj}{q:Nat}{A:List Xk}{rest:DC}{c:Iw}{cs:Aq}(hc:CKs c cs){dv env:List D}{t:ET}(hR:ETR n t env){S:St}{k:ET→St→Ans}{a:D × St × Bool}{n0:Nat}{fq:List (Option FP)}(hq:fq.length=q)
    (h:(opD n news o q A rest).f c n0 fq dv t S k=some a) :
    ∃r S' w f,Al cs o.op (A.map (opd dv env)) S=some (r,S',w)∧f.getD Af=Ac n0 o (A.map (opd dv env)) r w (chg S.heap S'.heap 0)∧Ar n0 news o (fqs fq) (Ac n0 o (A.map (opd dv env)) r w (chg S.heap S'.heap 0)) S'=true∧rest.f c n0 (f::fq) (r::dv) t S' k=some a:=by
  obtain⟨op,args,guard,ord,ho⟩:=o;unfold opD at h;dsimp only at h
  cases ho with
  | some g =>
    dsimp only at h;have h1:=Qd (k:=fun xs=>(lC op).f c xs S fun r S' _=>frc (Nat.add n0 g) fun g=>ifA (okR ⟨false,some [],some [],false,some g⟩ fq ord) (rest.f c n0 (some ⟨false,some [],some [],false,some g⟩::fq) (r::dv) t S' k) none) hR A h;obtain⟨r,S',w,h2,h3⟩:=lC_ok op c cs hc _ _ _ _ h1;rw[Jb,Cn]at h3;split at h3
    · next hk=>exact⟨r,S',w,_,h2,rfl,by show (Cf ord (fqs fq) ⟨false,some [],some [],false,some (Nat.add n0 g)⟩&&_)=true;rw[okR_ok _ _ _ hk];rfl,h3⟩
    simp at h3
  | none =>
    dsimp only at h;split at h
    · next kG =>
      simp only[Bool.and_eq_true,beq_iff_eq]at kG;have h1:=Qd (k:=fun xs=>(lC op).f c xs S fun r S' _=>rest.f c n0 (none::fq) (r::dv) t S' k) hR A h;obtain⟨r,S',w,h2,h3⟩:=lC_ok op c cs hc _ _ _ _ h1;have e:Ac n0 ⟨op,args,guard,ord,none⟩ (A.map (opd dv env)) r w (chg S.heap S'.heap 0)=Af:=quiet_fp kG.1 _ _ _ _;refine⟨r,S',w,none,h2,e.symm,?_,h3⟩;rw[e];simp only[Ar];rw[Pf ord (fqs fq) (by simp[fqs,kG.2,hq])];rfl
    have h1:=Qd (k:=fun xs=>(lC op).f c xs S fun r S' w=>(fun fp=>ifA (okR fp fq ord) (ifA (fp.writes.isSome||Aw n0 (Ej ord (fqs fq)) S'.heap news 0) (rest.f c n0 (some fp::fq) (r::dv) t S' k) none) none) ((fpC op).f xs r w (chg S.heap S'.heap 0))) hR A h;obtain⟨r,S',w,h2,h3⟩:=lC_ok op c cs hc _ _ _ _ h1;rw[fpC_eq]at h3;dsimp only at h3;rw[Cn]at h3;split at h3
    · next hk =>
      rw[Cn]at h3;split at h3
      · next hs=>exact⟨r,S',w,some _,h2,rfl,by simp only[Ar,Ac];rw[okR_ok _ _ _ hk,hs];rfl,h3⟩
      simp at h3
    simp at h3
def mvB (o:Xj) (q:Nat):Bool:=match o.op,o.args,o.guard,o.hoist with
 | .mv,[_],none,none=>o.ord.length==q
 | _,_,_,_=>false
noncomputable def opsD (news:List (TypeId × List D)) (ops:List Xj) (fin:List Xk→Nat→OC):List Xk→Nat→Nat→DC :=
 List.rec (motive:=fun _=>List Xk→Nat→Nat→DC) (fun al m _=>⟨fun c _ _ dv t S k=>(fin al m).f c dv t S k⟩) (fun o _ ih al m q =>
  if mvB o q then (match o.args with | [x]=>(match mvO al x with | some y=>⟨fun c n0 fq dv t S k=>(ih (y::al) m (q+1)).f c n0 (none::fq) dv t S k⟩ | none=>noDC) | _=>noDC)
  else match o.guard with
  | none=>(match Mk al m o.args with | some A=>opD n news o q A (ih (.loc m::al) (m+1) (q+1)) | none=>noDC)
  | some (d,b)=>match resO al m (.loc d),Mk al m o.args with
   | some g,some A=>⟨fun c n0 fq dv t S k=>(odC n g).f dv t fun x=>gK b x ((opD n news o q A (ih (.loc m::al) (m+1) (q+1))).f c n0 fq dv t S k) ((ih (.loc m::al) (m+1) (q+1)).f c n0 (none::fq) (.skip::dv) t S k)⟩
   | _,_=>noDC) ops
theorem Ml {news : List (TypeId × List D)} {fin : List Xk → Nat → OC} {c : Iw} {cs : Aq} (hc : CKs c cs) {env : List D} {t : ET} (hR : ETR n t env) {k : ET → St → Ans} {a : D × St × Bool} {n0 : Nat} {P : List D → St → Prop}
    (hf:∀al m vals dv S,ALR al m vals dv env→(fin al m).f c dv t S k=some a→P vals S) :
    ∀(ops:List Xj) {al:List Xk} {m q:Nat} {vals dv:List D} {S:St} {fq:List (Option FP)},ALR al m vals dv env→fq.length=q→(opsD n news ops fin al m q).f c n0 fq dv t S k=some a→∃vals' S',Im cs n0 news ops (fqs fq) vals env S=some (vals',S')∧P vals' S'
  | [],al,m,q,vals,dv,S,fq,hA,hq,h=>⟨vals,S,rfl,hf al m vals dv S hA h⟩
  | o :: os, al, m, q, vals, dv, S, fq, hA, hq, h => by
    have h:(if mvB o q then (match o.args with | [x]=>(match mvO al x with | some y=>(⟨fun c n0 fq dv t S k=>(opsD n news os fin (y::al) m (q+1)).f c n0 (none::fq) dv t S k⟩:DC) | none=>noDC) | _=>noDC)
      else match o.guard with
      | none=>(match Mk al m o.args with | some A=>opD n news o q A (opsD n news os fin (.loc m::al) (m+1) (q+1)) | none=>noDC)
      | some (d, b) => match resO al m (.loc d), Mk al m o.args with
        | some g,some A=>⟨fun c n0 fq dv t S k=>(odC n g).f dv t fun x=>gK b x ((opD n news o q A (opsD n news os fin (.loc m::al) (m+1) (q+1))).f c n0 fq dv t S k) ((opsD n news os fin (.loc m::al) (m+1) (q+1)).f c n0 (none::fq) (.skip::dv) t S k)⟩
        | _,_=>noDC).f c n0 fq dv t S k=some a:=h
    split at h
    · next hmv =>
      obtain⟨op,args,guard,ord,ho⟩:=o;unfold mvB at hmv;dsimp only at hmv h;split at hmv
      · next x h1 =>
        dsimp only at h1;split at h1
        · next y hy =>
          obtain⟨vals',S2,h3,h4⟩:=Ml hc hR hf os (fq:=none::fq) (hA.alias hy) (by simp[hq]) h1;refine⟨vals',S2,?_,h4⟩;have hl:ord.length=q:=by simpa using hmv
          have yS:∀S:St,Ar n0 news ⟨.mv,[x],none,ord,none⟩ (fqs fq) Af S=true:=fun S=>by
            simp only[Ar];rw[Pf ord (fqs fq) (by simp[fqs,hl,hq])];rfl
          have hfp:∀ds r W,Ac n0 ⟨.mv,[x],none,ord,none⟩ ds r false W=Af:=fun _ _ _=>rfl;simp only[Im,onG,List.map_cons,List.map_nil,Al,aop,LOp.loud,pop,Option.map_some,Bool.false_eq_true,if_false,hfp,yS,if_true];exact h3
        exact absurd h1 (by simp[noDC])
      simp at hmv
    split at h
    · next hg =>
      split at h
      · next A hA' =>
        obtain⟨r,S',w,f,h1,h2,h3,h4⟩:=opD_some n hc hR hq h;rw[hA.ress hA']at h1 h2 h3;obtain⟨vals',S2,h5,h6⟩:=Ml hc hR hf os (fq:=f::fq) (hA.push r) (by simp[hq]) h4;refine⟨vals',S2,?_,h6⟩;have e:fqs (f::fq)=Ac n0 o (o.args.map (opd vals env)) r w (chg S.heap S'.heap 0)::fqs fq:=by rw[←h2];rfl
        rw[e]at h5;simp only[Im,hg,onG,h1,h3,if_true];exact h5
      exact absurd h (by simp[noDC])
    next d b hg =>
    split at h
    · next g A hg' hA' =>
      have h1:=Mq (k:=fun x=>gK b x ((opD n news o q A (opsD n news os fin (.loc m::al) (m+1) (q+1))).f c n0 fq dv t S k) ((opsD n news os fin (.loc m::al) (m+1) (q+1)).f c n0 (none::fq) (.skip::dv) t S k)) hR h;rw[hA.res hg']at h1;rcases gK_some h1 (vals:=vals) (d:=d) rfl with⟨h2,h3⟩ | ⟨h2,h3⟩
      · obtain ⟨r, S', w, f, h4, h5, h6, h7⟩ := opD_some n hc hR hq h3;rw[hA.ress hA']at h4 h5 h6;obtain⟨vals',S2,h8,h9⟩:=Ml hc hR hf os (fq:=f::fq) (hA.push r) (by simp[hq]) h7;refine⟨vals',S2,?_,h9⟩;have e:fqs (f::fq)=Ac n0 o (o.args.map (opd vals env)) r w (chg S.heap S'.heap 0)::fqs fq:=by rw[←h5];rfl
        rw[e]at h8;simp only[Im,hg,h2,h4,h6,if_true];exact h8
      obtain⟨vals',S2,h8,h9⟩:=Ml hc hR hf os (fq:=none::fq) (hA.push .skip) (by simp[hq]) h3;refine⟨vals',S2,?_,h9⟩;simp only[Im,hg,h2];exact h8
    exact absurd h (by simp[noDC])
structure EC where
 f:List D→ET→ET→(ET→Ans)→Ans
noncomputable def exL (exps:List (Nat × Nat)) (al:List Xk) (m:Nat):EC :=
 List.rec (motive:=fun _=>EC) ⟨fun _ _ t k=>k t⟩ (fun p _ ih=>match resO al m (.loc p.2) with
  | some o=>if p.1<n then ⟨fun dv t0 t k=>(odC n o).f dv t0 fun x=>(setC (path p.1)).f x t fun t'=>ih.f dv t0 t' k⟩ else ⟨fun _ _ _ _=>none⟩
  | none=>⟨fun _ _ _ _=>none⟩) exps
theorem exL_some{al:List Xk}{m:Nat}{vals dv env:List D}{t0:ET}(hA:ALR al m vals dv env)(hR:ETR n t0 env):∀(exps:List (Nat × Nat)) {t:ET} {env1:List D} {k:ET→Ans} {a:D × St × Bool},ETR n t env1→(exL n exps al m).f dv t0 t k=some a→∃t',ETR n t' (exports exps vals env1)∧k t'=some a
 | [],t,env1,k,a,h1,h=>⟨t,h1,h⟩
 | (j, d) :: es, t, env1, k, a, h1, h => by
  have h:(match resO al m (.loc d) with
   | some o=>if j<n then (⟨fun dv t0 t k=>(odC n o).f dv t0 fun x=>(setC (path j)).f x t fun t'=>(exL n es al m).f dv t0 t' k⟩:EC) else ⟨fun _ _ _ _=>none⟩
   | none=>⟨fun _ _ _ _=>none⟩).f dv t0 t k=some a:=h
  split at h
  ·
   next o ho =>
   split at h
   ·
    next hj =>
    have h2:=Mq (k:=fun x=>(setC (path j)).f x t fun t'=>(exL n es al m).f dv t0 t' k) hR h;rw[hA.res ho]at h2;have h3:=Mg (path j) (k:=fun t'=>(exL n es al m).f dv t0 t' k) h2;exact exL_some hA hR es (h1.set hj _) h3
   simp at h
  simp at h
noncomputable def finC (exps:List (Nat × Nat)) (al:List Xk) (m:Nat):OC:=⟨fun _ dv t S k=>(exL n exps al m).f dv t t fun t'=>k t' S⟩
abbrev Ty:=Nat→HF→Iw
def HLe (h h':HF):Prop:=∀ys S a,h ys S=some a→h' ys S=some a
def CIs (ik:Ty) (is:Nat→HF→Aq):Prop:=∀g h h',HLe h h'→CKs (ik g h) (is g h')
structure CC where
 f:Iw→Ty→ET→St→(ET→St→Ans)→(Xm→ET→St→Ans)→Ans
noncomputable def blkX (i:Nat) (kn:ET→St→Ans) (kx:Xm→ET→St→Ans) (x:Xm) (t:ET) (S:St):Ans :=
 Xm.rec (motive:=fun _=>Ans) none (kx .ret t S) (fun j=>ifA (Nat.beq j i) (kn t S) (kx (.exit j) t S)) x
noncomputable def loopX (b:CC) (c:Iw) (ik:Ty) (kx:Xm→ET→St→Ans) (N:Nat):ET→St→Ans :=
 Nat.rec (motive:=fun _=>ET→St→Ans) (fun _ _=>none) (fun _ ih t S=>b.f c ik t S ih kx) N
noncomputable def newsK (H:List Xh) (news:List (TypeId × List D)):St→(St→Ans)→Ans :=
 List.rec (motive:=fun _=>St→(St→Ans)→Ans) (fun S k=>k S) (fun p _ ih S k=>newK S (Gg p) fun _ S'=>ih S' k) news
theorem newsK_some{H:List Xh}:∀(news:List (TypeId × List D)) {S:St} {k:St→Ans} {a:D × St × Bool},newsK H news S k=some a→k ⟨S.heap++news.map Gg,S.low⟩=some a
 | [],S,k,a,h=>by
  have h:k S=some a:=h;simpa using h
 | p::l,S,k,a,h=>by
  have h1:=Kg (k:=fun _ S'=>newsK H l S' k) h;have h2:=newsK_some l h1;simpa [newAt] using h2
noncomputable def ptrsK (n0:Nat) (k:Nat) (dv:List D):(List D→Ans)→Ans :=
 Nat.rec (motive:=fun _=>(List D→Ans)→Ans) (fun kk=>kk dv) (fun j ih kk=>ih fun l=>frc (Nat.add n0 j) fun g=>kk (.ptr g 0 0 0::l)) k
theorem ptrsK_some(n0:Nat):∀(j:Nat) {kk:List D→Ans} {a:D × St × Bool},ptrsK n0 j [] kk=some a→kk (Ex n0 j)=some a
 | 0,kk,a,h=>h
 | j + 1, kk, a, h => by
  have h1:=ptrsK_some n0 j (kk:=fun l=>frc (Nat.add n0 j) fun g=>kk (.ptr g 0 0 0::l)) h;rw[Jb]at h1
  have e:Ex n0 (j+1)=.ptr (n0+j) 0 0 0::Ex n0 j:=by
   simp[Ex,List.range_succ]
  rw[e];exact h1
def Rj (k:Nat):List Xk:=((List.range k).map Xk.loc).reverse
theorem newsAl_at(k d:Nat)(x:Xk)(h:(Rj k)[d]?=some x):d<k∧x=.loc (k-1-d):=by
 have hd:d<k:=by
  have:=(List.getElem?_eq_some_iff.1 h).1;simpa [Rj] using this
 refine⟨hd,?_⟩;rw[Rj,List.getElem?_reverse (by simpa using hd)]at h;simp only[List.length_map,List.length_range,Lp_]at h;rw[List.getElem?_range (by omega)]at h;simpa using h.symm
theorem newsALR(n0 k:Nat)(env:List D):ALR (Rj k) k (Ex n0 k) (Ex n0 k) env:=by
  refine⟨by simp[Ex],by simp[Rj,Ex],fun d x hx=>?_,fun d i hi=>?_⟩
  · obtain ⟨hd, rfl⟩ := newsAl_at k d x hx;simp only[alV];rw[show k-1-(k-1-d)=d by omega]
  obtain⟨hd,h⟩:=newsAl_at k d _ hi;injection h with h;omega
structure PSC where
 f:List D→ET→(ET→Ans)→Ans
noncomputable def psC (ps:List Nat):PSC :=
 List.rec (motive:=fun _=>PSC) ⟨fun _ t k=>k t⟩ (fun p _ ih=>if p<n then ⟨fun ys t k=>List.rec (motive:=fun _=>Ans) none (fun y l _=>(setC (path p)).f y t fun t'=>ih.f l t' k) ys⟩ else ⟨fun _ _ _=>none⟩) ps
theorem psC_some:∀(ps:List Nat) {ys:List D} {t:ET} {env:List D} {k:ET→Ans} {a:D × St × Bool},ETR n t env→(psC n ps).f ys t k=some a→∃t',ETR n t' (setPs ps ys env)∧k t'=some a
 | [],ys,t,env,k,a,hR,h=>⟨t,by simpa [setPs] using hR,h⟩
 | p :: ps, ys, t, env, k, a, hR, h => by
  have h:(if p<n then (⟨fun ys t k=>List.rec (motive:=fun _=>Ans) none (fun y l _=>(setC (path p)).f y t fun t'=>(psC n ps).f l t' k) ys⟩:PSC) else ⟨fun _ _ _=>none⟩).f ys t k=some a:=h;split at h
  ·
   next hp =>
   cases ys with
   | nil=>exact absurd (show (none:Ans)=some a from h) (by simp)
   | cons y l=>exact psC_some ps (hR.set hp y) (Mg (path p) (k:=fun t'=>(psC n ps).f l t' k) h)
  exact absurd (show (none:Ans)=some a from h) (by simp)
abbrev RK:=ET→St→(ET→St→Ans)→(Xm→ET→St→Ans)→Ans
noncomputable def rndE (g:Nat) (e:Xm) (S3:St):Ans:=Ip (lst S3 g) fun j=>ifA (Nat.beq j 1) (frc (codeOf e) fun m=>boolK (Nat.beq m 0) fun b=>setHK S3 g (Jw m) fun S4=>some (b,S4,true)) none
theorem rndE_some{g:Nat}{e:Xm}{S3:St}{a:D × St × Bool}(h:rndE g e S3=some a):lst S3 g=some 1∧a=(.bool (codeOf e==0),Oo S3 g (codeOf e),true):=by
 obtain⟨j,h1,h2⟩:=Db h;rw[Cn]at h2;split at h2
 ·
  next hj =>
  rw[Nat.eq_of_beq_eq_true hj]at h1;rw[Jb,Tu]at h2;have h3:=Ni h2;simp only[Oi]at h3;have hb:Nat.beq (codeOf e) 0=(codeOf e==0):=by rw[Bool.eq_iff_iff];simp
  rw[hb]at h3;exact⟨h1,h3.symm⟩
 simp at h2
noncomputable def rndK (A B:RK) (P:PSC) (np g:Nat) (t:ET):HF:=fun ys S1=>Ip (lst S1 g) fun j=>ifA (Nat.beq j 0) (ifA (Nat.beq (Ns ys) np) (P.f ys t fun t1=>A t1 S1 (fun t2 S2=>Ip (lst S2 g) fun j=>ifA (Nat.beq j 0) (setHK S2 g (Jw 1) fun S2'=>B t2 S2' (fun _ S3=>rndE g .normal S3) (fun e _ S3=>rndE g e S3)) none) (fun _ _ _=>none)) none) none
noncomputable def fnK (x:D) (k:Nat→List D→Ans):Ans:=Ip (match x with | .fn f caps=>some (f,caps) | _=>none) fun p=>Prod.rec (motive:=fun _=>Ans) (fun f caps=>Bool.rec (motive:=fun _=>Ans) (k f caps) none (Nat.ble YB f)) p
theorem fnK_some{x:D}{k:Nat→List D→Ans}{a:D × St × Bool}(h:fnK x k=some a):∃f caps,x=.fn f caps∧¬YB≤f∧k f caps=some a:=by
 obtain⟨⟨f,caps⟩,h1,h2⟩:=Db h
 cases x with
 | fn f' caps' =>
  simp only[Oi,Pi_]at h1;obtain⟨rfl,rfl⟩:=h1;have h2:Bool.rec (motive:=fun _=>Ans) (k f' caps') none (Nat.ble YB f')=some a:=h2
  cases hb:Nat.ble YB f' with
  | true=>rw[hb]at h2;cases h2
  | false=>rw[hb]at h2;exact⟨_,_,rfl,yb_lt hb,h2⟩
 | _=>simp at h1
noncomputable def rfK (A B:RK) (P:PSC) (np:Nat) (ik:Ty) (t:ET) (S:St) (kn:ET→St→Ans) (kx:Xm→ET→St→Ans) (x:D):Ans :=
 fnK x fun f caps=>newK S (Jw 0) fun g S1=>ik g (rndK A B P np g t) f (.yld g::caps) S1 fun _ S5 _=>Ip (lst S5 g) fun j=>Ip (Pw j) fun e=>setHK S5 g (Jw 2) fun S6=>Xm.rec (motive:=fun _=>Ans) (kn t S6) (kx .ret t S6) (fun i=>kx (.exit i) t S6) e
noncomputable def Iu (N:Nat) (c:Xl):CC :=
 Xl.rec (motive:=fun _=>CC) ⟨fun _ _ t S kn _=>kn t S⟩ ⟨fun _ _ t S _ kx=>kx .ret t S⟩ (fun i=>⟨fun _ _ t S _ kx=>kx (.exit i) t S⟩)
  (fun ops exps=>⟨fun c _ t S kn _=>(opsC n ops (finC n exps) [] 0).f c [] t S kn⟩)
  (fun ops exps news=>⟨fun c _ t S kn _=>frc (Ns S.heap) fun n0=>newsK [] news S fun S'=>ptrsK n0 news.length [] fun dv=>(opsD n news ops (finC n exps) (Rj news.length) news.length 0).f c n0 [] dv t S' kn⟩)
  (fun _ _ A B=>⟨fun c ik t S kn kx=>A.f c ik t S (fun t' S'=>B.f c ik t' S' kn kx) kx⟩)
  (fun o _ _ A B=>match o with
   | .loc _=>⟨fun _ _ _ _ _ _=>none⟩
   | o=>⟨fun c ik t S kn kx=>(odC n o).f [] t fun x=>bvK x (A.f c ik t S kn kx) (B.f c ik t S kn kx)⟩)
  (fun i _ A=>⟨fun c ik t S kn kx=>A.f c ik t S kn (blkX i kn kx)⟩)
  (fun _ A=>⟨fun c ik t S _ kx=>loopX A c ik kx N t S⟩)
  (fun _=>⟨fun _ _ _ _ _ _=>none⟩)
  (fun o m ps _ _ A B=>match o with
   | .loc _=>⟨fun _ _ _ _ _ _=>none⟩
   | o=>if m=n then ⟨fun c ik t S kn kx=>(odC n o).f [] t fun x=>rfK (A.f c ik) (B.f c ik) (psC n ps) ps.length ik t S kn kx x⟩ else ⟨fun _ _ _ _ _ _=>none⟩)
  ⟨fun _ _ _ _ _ _=>none⟩ c
def COK (N:Nat) (C:CC) (code:Xl):Prop:=∀c cs,CKs c cs→∀ik is,CIs ik is→∀t env S kn kx a,ETR n t env→C.f c ik t S kn kx=some a →
 ∃e env' S' t',Bc cs is N code env S=some (e,env',S')∧ETR n t' env'∧((e=.normal∧kn t' S'=some a)∨(e≠.normal∧kx e t' S'=some a))
theorem loopX_some{N0:Nat}{b:CC}{code:Xl}(hb:COK n N0 b code){c:Iw}{cs:Aq}(hc:CKs c cs){ik:Ty}{is:Nat→HF→Aq}(hi:CIs ik is){kx:Xm→ET→St→Ans}{a:D × St × Bool}:∀(N:Nat) {t:ET} {env:List D} {S:St},ETR n t env→loopX b c ik kx N t S=some a →
    ∃e env' S' t',Gi (Bc cs is N0 code) N env S=some (e,env',S')∧ETR n t' env'∧e≠.normal∧kx e t' S'=some a
  | 0,t,env,S,hR,h=>by simp[loopX]at h
  | N + 1, t, env, S, hR, h => by
    have h:b.f c ik t S (loopX b c ik kx N) kx=some a:=h;obtain⟨e,env',S',t',h1,h2,h3⟩:=hb c cs hc ik is hi t env S _ kx a hR h;rcases h3 with⟨rfl,h3⟩ | ⟨he,h3⟩
    · obtain ⟨e2, env2, S2, t2, h4, h5, h6, h7⟩ := loopX_some hb hc hi N h2 h3;exact⟨e2,env2,S2,t2,by simp only[Gi,h1];exact h4,h5,h6,h7⟩
    refine⟨e,env',S',t',?_,h2,he,h3⟩;simp only[Gi,h1]
    cases e<;>first | rfl | (exact absurd rfl he)
theorem Io (N : Nat) : ∀ code : Xl, COK n N (Iu n N code) code
  | .skip=>fun c cs hc ik is hi t env S kn kx a hR h=>⟨_,_,_,t,rfl,hR,.inl ⟨rfl,h⟩⟩
  | .ret=>fun c cs hc ik is hi t env S kn kx a hR h=>⟨_,_,_,t,rfl,hR,.inr ⟨by simp,h⟩⟩
  | .exit i=>fun c cs hc ik is hi t env S kn kx a hR h=>⟨_,_,_,t,rfl,hR,.inr ⟨by simp,h⟩⟩
  | .region ops exps => fun c cs hc ik is hi t env S kn kx a hR h => by
    have h:(opsC n ops (finC n exps) [] 0).f c [] t S kn=some a:=h
    obtain⟨vals',S',h1,t',h2,h3⟩:=Mm n hc hR (P:=fun vals S'=>∃t',ETR n t' (exports exps vals env)∧kn t' S'=some a)
      (fun al m vals dv S hA hf=>exL_some n hA hR exps (k:=fun t'=>kn t' S) hR hf) ops (al:=[]) (m:=0) (vals:=[]) (dv:=[]) ⟨rfl,rfl,fun d x hx=>by simp at hx,fun d i hi=>by simp at hi⟩ h
    exact⟨.normal,_,_,t',by simp only[Bc,h1],h2,.inl ⟨rfl,h3⟩⟩
  | .drawn ops exps news => fun c cs hc ik is hi t env S kn kx a hR h => by
    have h:(frc (Ns S.heap) fun n0=>newsK [] news S fun S'=>ptrsK n0 news.length [] fun dv=>(opsD n news ops (finC n exps) (Rj news.length) news.length 0).f c n0 [] dv t S' kn)=some a:=h;rw[Jb,Fx]at h;have h1:=ptrsK_some _ _ (newsK_some news h)
    obtain⟨vals',S',h1,t',h2,h3⟩:=Ml n hc hR (P:=fun vals S'=>∃t',ETR n t' (exports exps vals env)∧kn t' S'=some a)
      (fun al m vals dv S hA hf=>exL_some n hA hR exps (k:=fun t'=>kn t' S) hR hf) ops (fq:=[]) (newsALR S.heap.length news.length env) rfl h1
    have h1:Im cs S.heap.length news ops [] (Ex S.heap.length news.length) env ⟨S.heap++news.map Gg,S.low⟩=some (vals',S'):=h1;exact⟨.normal,_,_,t',by simp only[Bc,h1],h2,.inl ⟨rfl,h3⟩⟩
  | .seq x y => fun c cs hc ik is hi t env S kn kx a hR h => by
    have h:(Iu n N x).f c ik t S (fun t' S'=>(Iu n N y).f c ik t' S' kn kx) kx=some a:=h;obtain⟨e,env',S',t',h1,h2,h3⟩:=Io N x c cs hc ik is hi t env S _ kx a hR h;rcases h3 with⟨rfl,h3⟩ | ⟨he,h3⟩
    · obtain ⟨e2, env2, S2, t2, h4, h5, h6⟩ := Io N y c cs hc ik is hi t' env' S' kn kx a h2 h3;exact⟨e2,env2,S2,t2,by simp only[Bc,h1];exact h4,h5,h6⟩
    refine⟨e,env',S',t',?_,h2,.inr ⟨he,h3⟩⟩;simp only[Bc,h1]
    cases e<;>first | rfl | (exact absurd rfl he)
  | .cond o x y => fun c cs hc ik is hi t env S kn kx a hR h => by
    have key:(o=o)→(∀d,o≠.loc d)→((odC n o).f [] t fun v=>bvK v ((Iu n N x).f c ik t S kn kx) ((Iu n N y).f c ik t S kn kx))=some a→∃e env' S' t',Bc cs is N (.cond o x y) env S=some (e,env',S')∧ETR n t' env'∧((e=.normal∧kn t' S'=some a)∨(e≠.normal∧kx e t' S'=some a)):=by
      intro _ ho h;have h1:=Mq (k:=fun v=>bvK v ((Iu n N x).f c ik t S kn kx) ((Iu n N y).f c ik t S kn kx)) hR h;rcases M6 h1 with⟨hb,h2⟩ | ⟨hb,h2⟩
      · obtain ⟨e, env', S', t', h3, h4, h5⟩ := Io N x c cs hc ik is hi t env S kn kx a hR h2;exact⟨e,env',S',t',by simp only[Bc,hb];exact h3,h4,h5⟩
      obtain⟨e,env',S',t',h3,h4,h5⟩:=Io N y c cs hc ik is hi t env S kn kx a hR h2;exact⟨e,env',S',t',by simp only[Bc,hb];exact h3,h4,h5⟩
    cases o with
    | loc d=>exact absurd (show (none:Ans)=some a from h) (by simp)
    | env j=>exact key rfl (by simp) h
    | const d=>exact key rfl (by simp) h
  | .block i x => fun c cs hc ik is hi t env S kn kx a hR h => by
    have h:(Iu n N x).f c ik t S kn (blkX i kn kx)=some a:=h;obtain⟨e,env',S',t',h1,h2,h3⟩:=Io N x c cs hc ik is hi t env S kn _ a hR h;rcases h3 with⟨rfl,h3⟩ | ⟨he,h3⟩
    · exact⟨.normal,env',S',t',by simp only[Bc,h1],h2,.inl ⟨rfl,h3⟩⟩
    cases e with
    | normal=>exact absurd rfl he
    | ret=>exact⟨.ret,env',S',t',by simp only[Bc,h1],h2,.inr ⟨by simp,h3⟩⟩
    | exit j =>
      have h3:ifA (Nat.beq j i) (kn t' S') (kx (.exit j) t' S')=some a:=h3;rw[Cn]at h3;split at h3
      · next hj=>exact⟨.normal,env',S',t',by simp only[Bc,h1,Nat.eq_of_beq_eq_true hj,if_true],h2,.inl ⟨rfl,h3⟩⟩
      next hj =>
      have hj:¬j=i:=fun e=>hj (by rw[e];exact Nat.beq_refl i);exact⟨.exit j,env',S',t',by simp only[Bc,h1,hj,if_false],h2,.inr ⟨by simp,h3⟩⟩
  | .loop x => fun c cs hc ik is hi t env S kn kx a hR h => by
    obtain⟨e,env',S',t',h1,h2,h3,h4⟩:=loopX_some n (Io N x) hc hi N hR (show loopX (Iu n N x) c ik kx N t S=some a from h);exact⟨e,env',S',t',by simp only[Bc];exact h1,h2,.inr ⟨h3,h4⟩⟩
  | .dfr _=>fun c cs hc ik is hi t env S kn kx a hR h=>by exact absurd (show (none:Ans)=some a from h) (by simp)
  | .rfunc o m ps x y => fun c cs hc ik is hi t env S kn kx a hR h => by
    have key : (∀ d, o ≠ .loc d) → (if m = n then (⟨fun c ik t S kn kx => (odC n o).f [] t fun v => rfK ((Iu n N x).f c ik) ((Iu n N y).f c ik) (psC n ps) ps.length ik t S kn kx v⟩ : CC) else ⟨fun _ _ _ _ _ _ => none⟩).f c ik t S kn kx = some a → ∃ e env' S' t', Bc cs is N (.rfunc o m ps x y) env S = some (e, env', S') ∧ ETR n t' env' ∧ ((e = .normal ∧ kn t' S' = some a) ∨ (e ≠ .normal ∧ kx e t' S' = some a)) := by
      intro ho hh;split at hh
      · next hm =>
        have hm:=hm.symm;subst hm;have h1:=Mq (k:=fun v=>rfK ((Iu n N x).f c ik) ((Iu n N y).f c ik) (psC n ps) ps.length ik t S kn kx v) hR hh;obtain⟨f,caps,h2,yU,h3⟩:=fnK_some h1;have h4:=Kg h3
        have yh:HLe (rndK ((Iu n N x).f c ik) ((Iu n N y).f c ik) (psC n ps) ps.length S.heap.length t) (rndH (Bc cs is N x) (Bc cs is N y) S.heap.length ps (env.take n)):=by
          intro ys S1 a h;obtain⟨j,hj,h⟩:=Db h;rw[Cn]at h;split at h
          · next hj0 =>
            rw[Nat.eq_of_beq_eq_true hj0]at hj;rw[Cn]at h;split at h
            · next hl =>
              have hl:ys.length=ps.length:=by rw[←Fx];exact Nat.eq_of_beq_eq_true hl
              have hR0:ETR n t (env.take n):=⟨by rw[List.length_take];have:=hR.len;omega,hR.le,fun j hj=>by rw[hR.eq j hj,List.getD_eq_getElem?_getD,List.getD_eq_getElem?_getD,List.getElem?_take_of_lt hj],by rw[List.drop_eq_nil_of_le (by rw[List.length_take];omega)];rfl⟩;obtain⟨t1,hR1,h⟩:=psC_some n ps hR0 h;obtain⟨e1,env1,S2,t2,h5,hR2,h6⟩:=Io N x c cs hc ik is hi t1 _ S1 _ _ a hR1 h;rcases h6 with⟨rfl,h6⟩ | ⟨_,h6⟩
              · obtain ⟨j2, hj2, h6⟩ := Db h6;rw[Cn]at h6;split at h6
                · next hj20 =>
                  rw[Nat.eq_of_beq_eq_true hj20]at hj2;have h7:=Ni h6;obtain⟨e3,env3,S3,t3,h8,_,h9⟩:=Io N y c cs hc ik is hi t2 env1 (Oo S2 S.heap.length 1) _ _ a hR2 h7
                  have h10:rndE S.heap.length e3 S3=some a:=by
                    rcases h9 with⟨rfl,h9⟩ | ⟨_,h9⟩
                    · exact h9
                    exact h9
                  obtain⟨h11,rfl⟩:=rndE_some h10;simp only[rndH,hj,hl,if_true,h5,hj2,h8,h11]
                simp at h6
              simp at h6
            simp at h
          simp at h
        obtain⟨r,S5,w,h5,h6⟩:=hi _ _ _ yh _ _ _ _ _ h4;obtain⟨j,hj,h7⟩:=Db h6;obtain⟨e,he,h8⟩:=Db h7;have h9:=Ni h8;refine⟨e,env++[.junk],Oo S5 S.heap.length 2,t,?_,⟨by have:=hR.len;simp;omega,hR.le,fun j hj=>by rw[hR.eq j hj,List.getD_eq_getElem?_getD,List.getD_eq_getElem?_getD,La_ (by have:=hR.len;omega)],by rw[List.drop_append_of_le_length hR.len,List.all_append,hR.jk];rfl⟩,?_⟩
        · simp only [Bc, h2];rw[if_neg yU,h5];simp only[hj,he]
        cases e with
        | normal=>exact .inl ⟨rfl,h9⟩
        | ret=>exact .inr ⟨by simp,h9⟩
        | exit i=>exact .inr ⟨by simp,h9⟩
      exact absurd (show (none:Ans)=some a from hh) (by simp)
    cases o with
    | loc d=>exact absurd (show (none:Ans)=some a from h) (by simp)
    | env j=>exact key (by simp) h
    | const d=>exact key (by simp) h
  | .fail=>fun c cs hc ik is hi t env S kn kx a hR h=>by exact absurd (show (none:Ans)=some a from h) (by simp)
end
noncomputable def baseT (n:Nat):ET:=Nat.rec (motive:=fun _=>ET) .nil (fun j t=>t.put (path j) .undef) n
theorem baseT_at:∀(n:Nat) (p:List Bool),(baseT n).at p=.undef
 | 0,p=>by cases p<;>rfl
 | n+1,p=>by
  show ((baseT n).put (path n) .undef).at p=.undef;rw[ET.at_put,baseT_at n p];split<;>rfl
structure TS where
 f:List D→ET→(ET→Ans)→Ans
noncomputable def initC (nargs:Nat) (slots:List Nat):Nat→TS :=
 List.rec (motive:=fun _=>Nat→TS) (fun _=>⟨fun _ t k=>k t⟩) (fun s _ ih j=>if s<nargs then ⟨fun xs t k=>nthK xs s fun x=>(setC (path j)).f x t fun t'=>(ih (j+1)).f xs t' k⟩ else ⟨fun xs t k=>(ih (j+1)).f xs t k⟩) slots
def slotV (xs:List D) (done:List Nat) (j:Nat):D:=if j<done.length then xs.getD (done.getD j 0) D.undef else D.undef
theorem slotV_snoc(xs:List D)(done:List Nat)(s j:Nat):slotV xs (done++[s]) j=if j=done.length then xs.getD s D.undef else slotV xs done j:=by
  unfold slotV;simp only[Ll_,List.length_cons,List.length_nil,List.getD_eq_getElem?_getD];by_cases e:j=done.length
  · subst e;simp
  rw[if_neg e];by_cases e2:j<done.length
  · rw[if_pos (by omega),if_pos e2,La_ e2]
  rw[if_neg (by omega),if_neg e2]
theorem Rp {nargs n : Nat} (hn : n ≤ 4096) {xs : List D} (hx : xs.length = nargs) : ∀ (slots : List Nat) (done : List Nat) {t : ET} {k : ET → Ans} {a : D × St × Bool}, done.length + slots.length = n →
    (∀j,j<n→t.at (path j)=slotV xs done j)→(initC nargs slots done.length).f xs t k=some a →
    ∃t',ETR n t' ((done++slots).map fun s=>xs.getD s D.undef)∧k t'=some a
  | [], done, t, k, a, hl, ht, h => by
    refine⟨t,⟨by simp at hl ⊢;omega,hn,fun j hj=>?_,by rw[List.drop_eq_nil_of_le (by simp at hl ⊢;omega)];rfl⟩,h⟩;have hj':j<done.length:=by simp at hl;omega
    rw[ht j hj,slotV,if_pos hj'];simp[List.getD_eq_getElem?_getD,Lg hj']
  | s :: slots, done, t, k, a, hl, ht, h => by
    have h:(if s<nargs then (⟨fun xs t k=>nthK xs s fun x=>(setC (path done.length)).f x t fun t'=>(initC nargs slots (done.length+1)).f xs t' k⟩:TS) else ⟨fun xs t k=>(initC nargs slots (done.length+1)).f xs t k⟩).f xs t k=some a:=h;have hl':(done++[s]).length+slots.length=n:=by simp at hl ⊢;omega
    have hd:(done++[s]).length=done.length+1:=by simp
    have hdn:done.length<n:=by simp at hl;omega
    split at h
    · next hs =>
      obtain⟨x,h1,h2⟩:=Ha h;have h3:=Mg (path done.length) (k:=fun t'=>(initC nargs slots (done.length+1)).f xs t' k) h2;rw[←hd]at h3
      have:=Rp hn hx slots (done++[s]) hl' (fun j hj=>by
        rw[ET.at_put,slotV_snoc];by_cases e:j=done.length
        · subst e;simp[List.getD_eq_getElem?_getD,h1]
        rw[if_neg e,if_neg fun hp=>e (path_inj (by omega) (by omega) hp).symm,ht j hj]) h3
      simpa using this
    next hs =>
    have h:(initC nargs slots (done.length+1)).f xs t k=some a:=h;rw[←hd]at h;have hu:xs.getD s D.undef=D.undef:=by rw[List.getD_eq_getElem?_getD,List.getElem?_eq_none (by omega)];rfl
    have:=Rp hn hx slots (done++[s]) hl' (fun j hj=>by
      rw[slotV_snoc,ht j hj];by_cases e:j=done.length
      · subst e;rw[if_pos rfl,hu,slotV,if_neg (by omega)]
      rw[if_neg e]) h
    simpa using this
structure RC where
 f:ET→St→(List D→Ans)→Ans
noncomputable def resC (n:Nat) (l:List LRes):RC :=
 List.rec (motive:=fun _=>RC) ⟨fun _ _ k=>k []⟩ (fun r _ ih=>match r with
  | .tmp j=>if j<n then ⟨fun t S k=>(getC (path j)).f t fun x=>ih.f t S fun xs=>k (x::xs)⟩ else ⟨fun _ _ _=>none⟩
  | .cell j sz agg=>if j<n then ⟨fun t S k=>(getC (path j)).f t fun p=>(loadC sz agg).f (fun _ _ _ _=>none) [p] S fun x _ _=>ih.f t S fun xs=>k (x::xs)⟩ else ⟨fun _ _ _=>none⟩) l
theorem Ug {n : Nat} {t : ET} {env : List D} (hR : ETR n t env) {S : St} : ∀ (l : List LRes) {k : List D → Ans} {a : D × St × Bool}, (resC n l).f t S k = some a → ∃ xs, En env S l = some xs ∧ k xs = some a
  | [],k,a,h=>⟨[],rfl,h⟩
  | .tmp j :: l, k, a, h => by
    have h:(if j<n then (⟨fun t S k=>(getC (path j)).f t fun x=>(resC n l).f t S fun xs=>k (x::xs)⟩:RC) else ⟨fun _ _ _=>none⟩).f t S k=some a:=h;split at h
    · next hj =>
      have h1:=Mw (path j) (k:=fun x=>(resC n l).f t S fun xs=>k (x::xs)) h;rw[hR.eq j hj]at h1;obtain⟨xs,h2,h3⟩:=Ug hR l h1;exact⟨_,by simp only[En,I5,h2],h3⟩
    simp at h
  | .cell j sz agg :: l, k, a, h => by
    have h:(if j<n then (⟨fun t S k=>(getC (path j)).f t fun p=>(loadC sz agg).f (fun _ _ _ _=>none) [p] S fun x _ _=>(resC n l).f t S fun xs=>k (x::xs)⟩:RC) else ⟨fun _ _ _=>none⟩).f t S k=some a:=h;split at h
    · next hj =>
      have h1:=Mw (path j) (k:=fun p=>(loadC sz agg).f (fun _ _ _ _=>none) [p] S fun x _ _=>(resC n l).f t S fun xs=>k (x::xs)) h;rw[hR.eq j hj]at h1;obtain⟨r,S',w,h4,h5⟩:=loadC_ok sz agg (fun _ _ _ _=>none) (fun _ _ _=>none) (fun _ _ _ _ _ h=>by simp at h) _ _ _ _ h1;have h4:(G6 sz agg S (env.getD j .undef)).map (fun r=>(r,S,false))=some (r,S',w):=h4
      cases hl:G6 sz agg S (env.getD j .undef) with
      | none=>rw[hl]at h4;simp at h4
      | some r' =>
        rw[hl]at h4;simp only[Option.map_some,Oi,Pi_]at h4;obtain⟨rfl,_,_⟩:=h4;obtain⟨xs,h2,h3⟩:=Ug hR l h5;exact⟨_,by simp only[En,I5,hl,h2],h3⟩
    simp at h
noncomputable def tupK (xs:List D) (k:D→Ans):Ans:=List.rec (motive:=fun _=>Ans) (k (.tup [])) (fun x t _=>List.rec (motive:=fun _=>Ans) (k x) (fun y t' _=>k (.tup (x::y::t'))) t) xs
theorem tupK_some{env:List D}{S:St}{l:List LRes}{xs:List D}(hx:En env S l=some xs){k:D→Ans}{a:D × St × Bool}(h:tupK xs k=some a):∃r,Ce env S l=some r∧k r=some a:=by
 match xs,hx,h with
 | [],hx,h=>exact⟨_,by simp only[Ce,hx],h⟩
 | [x],hx,h=>exact⟨_,by simp only[Ce,hx],h⟩
 | x::y::t,hx,h=>exact⟨_,by simp only[Ce,hx],h⟩
noncomputable def snapK (raw:Bool) (args:List D) (S:St) (k:List D→Ans):Ans:=Bool.rec (motive:=fun _=>Ans) (ifA (Il args) (k args) (Ip (Ah S.heap.length S.heap args) k)) (k args) raw
theorem snapK_some{raw:Bool}{args:List D}{S:St}{k:List D→Ans}{a:D × St × Bool}(h:snapK raw args S k=some a):∃args',(if raw=true then some args else Ah S.heap.length S.heap args)=some args'∧k args'=some a:=by
 cases raw with
 | true=>exact⟨args,rfl,h⟩
 | false =>
  have h:ifA (Il args) (k args) (Ip (Ah S.heap.length S.heap args) k)=some a:=h;rw[Cn]at h;split at h
  ·
   next hf=>exact⟨args,Js _ _ hf,h⟩
  exact Db h
noncomputable def minS (H:List Xh) (a b:Nat) (k:St→Ans):Ans:=frc (Bool.rec (motive:=fun _=>Nat) b a (Nat.ble a b)) fun lo=>k ⟨H,lo⟩
theorem minS_some{H:List Xh}{a b:Nat}{k:St→Ans}{x:D × St × Bool}(h:minS H a b k=some x):k ⟨H,min a b⟩=some x:=by
 unfold minS at h;rw[Jb]at h
 have e:(Bool.rec (motive:=fun _=>Nat) b a (Nat.ble a b):Nat)=min a b:=by
  cases hb:Nat.ble a b with
  | true=>have:=Nat.le_of_ble_eq_true hb;show a=_;omega
  | false =>
   have:¬a≤b:=fun h=>by rw[Nat.ble_eq_true_of_le h]at hb;cases hb
   show b=_;omega
 rw[e]at h;exact h
noncomputable def pureK (deep:Bool) (S:St) (r:D) (S':St) (k:K1):Ans:=Bool.rec (motive:=fun _=>Ans) (ifA r.flatR (k r S false) (R3 (Df S r S') k)) (R3 (leaveD ⟨[],0⟩ S r S') k) deep
theorem pureK_some{deep:Bool}{S:St}{r:D}{S':St}{k:K1}{a:D × St × Bool}(h:pureK deep S r S' k=some a):∃r' S2 w,(if deep=true then leaveD ⟨[],0⟩ S r S' else Df S r S')=some (r',S2,w)∧k r' S2 w=some a:=by
  cases deep with
  | true=>exact Jd h
  | false =>
    have h:ifA r.flatR (k r S false) (R3 (Df S r S') k)=some a:=h;rw[Cn]at h;split at h
    · next hf=>exact⟨r,S,false,by simp[Df,leave,Ps hf,V5 hf],h⟩
    exact Jd h
noncomputable def leaveK (raw deep:Bool) (n0:Nat) (S:St) (r:D) (S':St) (k:K1):Ans:=Bool.rec (motive:=fun _=>Ans)
 (Bool.rec (motive:=fun _=>Ans) (ifA r.flatR (ifA (Nat.ble n0 S'.low) (k r S false) (minS S'.heap S.low S'.low fun T=>k r T true)) (R3 (leave false S r S') k)) (minS S'.heap S.low S'.low fun T=>k r T true) raw)
 (R3 (leaveD S S r S') k) deep
theorem leaveK_some {raw deep : Bool} {S : St} {r : D} {S' : St} {k : K1} {a : D × St × Bool} {n0 : Nat} (hn0 : n0 = S.heap.length) (h : leaveK raw deep n0 S r S' k = some a) : ∃ r' S2 w, (if deep = true then leaveD S S r S' else leave raw S r S') = some (r', S2, w) ∧ k r' S2 w = some a := by
  subst hn0
  cases deep with
  | true=>exact Jd h
  | false =>
    cases raw with
    | true=>exact⟨_,_,_,rfl,minS_some (k:=fun T=>k r T true) h⟩
    | false =>
      have h:ifA r.flatR (ifA (Nat.ble S.heap.length S'.low) (k r S false) (minS S'.heap S.low S'.low fun T=>k r T true)) (R3 (leave false S r S') k)=some a:=h;rw[Cn]at h;split at h
      · next hf =>
        rw[Cn]at h;split at h
        · next hl =>
          have hl:S.heap.length≤S'.low:=Nat.le_of_ble_eq_true hl;exact⟨r,S,false,by simp[leave,hl,Ps hf,V5 hf],h⟩
        next hl =>
        have hl:¬S.heap.length≤S'.low:=fun h=>hl (Nat.ble_eq_true_of_le h);exact⟨r,_,true,by simp[leave,hl,Ps hf],minS_some (k:=fun T=>k r T true) h⟩
      exact Jd h
noncomputable def freesB (l:List D):Bool:=Bool.rec (motive:=fun _=>Bool) (l.all D.Xq) true (Il l)
theorem freesB_eq(l:List D):freesB l=l.all D.Xq:=by
 unfold freesB
 cases h:Il l with
 | true=>exact (Po h).symm
 | false=>rfl
noncomputable def exitX (k:ET→St→Ans) (x:Xm) (t:ET) (S:St):Ans:=Xm.rec (motive:=fun _=>Ans) none (k t S) (fun _=>none) x
noncomputable def bodyK (F:Xi) (C:CC) (I:TS) (R:RC) (c:Iw) (ik:Ty) (args:List D) (S0:St) (fin:D→St→Ans):Ans :=
 I.f args (baseT F.slots.length) fun t=>C.f c ik t S0 (fun t' S'=>R.f t' S' fun xs=>tupK xs fun r=>fin r S') (exitX fun t' S'=>R.f t' S' fun xs=>tupK xs fun r=>fin r S')
theorem bodyK_some{N:Nat}{F:Xi}(hn:F.slots.length≤4096){c:Iw}{cs:Aq}(hc:CKs c cs){ik:Ty}{is:Nat→HF→Aq}(hi:CIs ik is){args:List D}(hl:args.length=F.nargs){S0:St}{fin:D→St→Ans}{a:D × St × Bool}
    (h:bodyK F (Iu F.slots.length N F.body) (initC F.nargs F.slots 0) (resC F.slots.length F.res) c ik args S0 fin=some a) :
    ∃e env' S' r,Bc cs is N F.body (F.slots.map fun s=>args.getD s .undef) S0=some (e,env',S')∧(env'.drop F.slots.length).all Pk=true∧(∀i,e≠.exit i)∧Ce env' S' F.res=some r∧fin r S'=some a:=by
  obtain⟨t,h1,h2⟩:=Rp hn hl F.slots [] (k:=fun t=>(Iu F.slots.length N F.body).f c ik t S0 (fun t' S'=>(resC F.slots.length F.res).f t' S' fun xs=>tupK xs fun r=>fin r S') (exitX fun t' S'=>(resC F.slots.length F.res).f t' S' fun xs=>tupK xs fun r=>fin r S')) (by simp) (fun j hj=>by
    rw[baseT_at];simp[slotV]) h
  rw[List.nil_append]at h1;obtain⟨e,env',S',t',h3,h4,h5⟩:=Io F.slots.length N F.body c cs hc ik is hi t _ S0 _ _ a h1 h2
  have fin1:∀{z:Ans},((resC F.slots.length F.res).f t' S' fun xs=>tupK xs fun r=>fin r S')=some a→∃r,Ce env' S' F.res=some r∧fin r S'=some a:=by
    intro _ h;obtain⟨xs,h6,h7⟩:=Ug h4 F.res h;exact tupK_some h6 h7
  rcases h5 with⟨rfl,h5⟩ | ⟨he,h5⟩
  · obtain ⟨r, h6, h7⟩ := fin1 (z := none) h5;exact⟨_,env',S',r,h3,h4.jk,by simp,h6,h7⟩
  cases e with
  | normal=>exact absurd rfl he
  | exit i=>exact absurd (show (none:Ans)=some a from h5) (by simp)
  | ret =>
    obtain⟨r,h6,h7⟩:=fin1 (z:=none) h5;exact⟨_,env',S',r,h3,h4.jk,by simp,h6,h7⟩
structure FnC where
 f:Iw→Ty→Iw→Ty→List D→St→K1→Ans
noncomputable def fnC (N:Nat) (raw pur deep:Bool) (F:Xi):FnC:=if F.slots.length≤4096 then
 (fun (C:CC) (I:TS) (R:RC)=>(⟨fun c0 i0 c1 i1 args S k=>snapK raw args S fun xs=>ifA (Nat.beq (Ns xs) F.nargs)
  (ifA (Bool.rec (motive:=fun _=>Bool) false (freesB xs) pur) (bodyK F C I R c0 i0 xs ⟨[],0⟩ fun r S'=>pureK deep S r S' k) (frc (Ns S.heap) fun n0=>bodyK F C I R c1 i1 xs ⟨S.heap,n0⟩ fun r S'=>leaveK raw deep n0 S r S' k)) none⟩:FnC))
 (Iu F.slots.length N F.body) (initC F.nargs F.slots 0) (resC F.slots.length F.res) else ⟨fun _ _ _ _ _ _ _=>none⟩
noncomputable def Wn (Y:YF) (g:Nat) (h:HF):YF:=fun g'=>Bool.rec (motive:=fun _=>HF) (Y g') h (Nat.beq g' g)
theorem updK_eq(Y:YF)(g:Nat)(h:HF)(g':Nat):Wn Y g h g'=M8 Y g h g':=by
 unfold Wn M8;by_cases e:g'=g
 ·
  subst e;rw[if_pos rfl,show Nat.beq g' g'=true from Nat.beq_refl _]
 rw[if_neg e]
 cases hb:Nat.beq g' g with
 | true=>exact absurd (Nat.eq_of_beq_eq_true hb) e
 | false=>rfl
def YLe (Y Y':YF):Prop:=∀g,HLe (Y g) (Y' g)
theorem YLe.upd{Y Y':YF}(h:YLe Y Y'){g:Nat}{k k':HF}(hk:HLe k k'):YLe (Wn Y g k) (M8 Y' g k'):=fun g'=>by
 rw[updK_eq];unfold M8;split
 ·
  exact hk
 exact h g'
noncomputable def Kn (L:Prg) (N:Nat) (d:Nat):YF→Iw :=
 Nat.rec (motive:=fun _=>YF→Iw) (fun _ _ _ _ _=>none) (fun _ ih Y f args S k=>Bool.rec (motive:=fun _=>Ans)
  (Option.rec (motive:=fun _=>Ans) (Option.rec (motive:=fun _=>Ans) (Ip (L.fns f) fun F=>(fnC N (L.raw f) (L.pure f) (L.deep f) F).f (ih noY) (fun g h=>ih (Wn noY g h)) (ih Y) (fun g h=>ih (Wn Y g h)) args S k) (fun p=>R3 (some p) k) (L.mem f args S)) (fun r=>k r S false) (L.ext f args))
  (R3 (Y (Nat.sub f YB) args S) k) (Nat.ble YB f)) d
theorem Ll{L:Prg}{call:Aq}{inst:Nat→HF→Aq}{N:Nat}{f:FuncId}{F:Xi}{env':List D}{S':St}(h:(env'.drop F.slots.length).all Pk=true):behind L call inst N f F env' S'=some S':=by
 unfold behind;rw[if_pos h];split<;>rfl
theorem runKY_ok(L:Prg)(N:Nat):∀d (Y Y':YF),YLe Y Y'→CKs (Kn L N d Y) (Dc L N d Y')
 | 0,Y,Y',hY=>fun f args S k a h=>by exact absurd (show (none:Ans)=some a from h) (by simp)
 | d + 1, Y, Y', hY => by
  have ih:=runKY_ok L N d;have ihI:∀Y Y':YF,YLe Y Y'→CIs (fun g h=>Kn L N d (Wn Y g h)) (fun g h=>Dc L N d (M8 Y' g h)):=fun Y Y' hY g h h' hh=>ih _ _ (hY.upd hh);have uz:YLe noY noY:=fun g ys S a h=>h;intro f args S k a h
  have h:Bool.rec (motive:=fun _=>Ans)
   (Option.rec (motive:=fun _=>Ans) (Option.rec (motive:=fun _=>Ans) (Ip (L.fns f) fun F=>(fnC N (L.raw f) (L.pure f) (L.deep f) F).f (Kn L N d noY) (fun g h=>Kn L N d (Wn noY g h)) (Kn L N d Y) (fun g h=>Kn L N d (Wn Y g h)) args S k) (fun p=>R3 (some p) k) (L.mem f args S)) (fun r=>k r S false) (L.ext f args))
   (R3 (Y (Nat.sub f YB) args S) k) (Nat.ble YB f)=some a:=h
  cases yU:Nat.ble YB f with
  | true =>
   rw[yU]at h;have yU:YB≤f:=Nat.le_of_ble_eq_true yU;obtain⟨r,S',w,h1,h2⟩:=Jd h;exact⟨r,S',w,by simp only[Dc];rw[if_pos yU];exact hY _ _ _ _ h1,h2⟩
  | false =>
  rw[yU]at h;have yU:=yb_lt yU
  replace h:Option.rec (motive:=fun _=>Ans) (Option.rec (motive:=fun _=>Ans) (Ip (L.fns f) fun F=>(fnC N (L.raw f) (L.pure f) (L.deep f) F).f (Kn L N d noY) (fun g h=>Kn L N d (Wn noY g h)) (Kn L N d Y) (fun g h=>Kn L N d (Wn Y g h)) args S k) (fun p=>R3 (some p) k) (L.mem f args S)) (fun r=>k r S false) (L.ext f args)=some a:=h
  cases hE:L.ext f args with
  | some r =>
   rw[hE]at h;exact⟨r,S,false,by simp only[Dc];rw[if_neg yU];simp only[hE],h⟩
  | none =>
   rw[hE]at h
   replace h:Option.rec (motive:=fun _=>Ans) (Ip (L.fns f) fun F=>(fnC N (L.raw f) (L.pure f) (L.deep f) F).f (Kn L N d noY) (fun g h=>Kn L N d (Wn noY g h)) (Kn L N d Y) (fun g h=>Kn L N d (Wn Y g h)) args S k) (fun p=>R3 (some p) k) (L.mem f args S)=some a:=h
   cases hMm:L.mem f args S with
   | some p =>
    rw[hMm]at h;obtain⟨r,S',w,h1,h2⟩:=Jd h;exact⟨r,S',w,by simp only[Dc];rw[if_neg yU];simp only[hE,hMm];exact h1,h2⟩
   | none =>
   rw[hMm]at h;obtain⟨F,hF,h⟩:=Db h;simp only[Dc];rw[if_neg yU];simp only[hE,hMm,hF];unfold fnC at h;split at h
   ·
    next hn =>
    dsimp only at h;obtain⟨xs,h1,h2⟩:=snapK_some h;rw[Cn]at h2;split at h2
    ·
     next hl =>
     have hl:xs.length=F.nargs:=by rw[←Fx];exact Nat.eq_of_beq_eq_true hl
     rw[h1];simp only[hl,ne_eq,not_true_eq_false,if_false]
     have hp:(Bool.rec (motive:=fun _=>Bool) false (freesB xs) (L.pure f):Bool)=(L.pure f&&xs.all D.Xq):=by
      rw[freesB_eq];cases L.pure f<;>rfl
     rw[hp,Cn]at h2;split at h2
     ·
      next hpu =>
      obtain⟨e,env',S',r,h3,hjk,h4,h5,h6⟩:=bodyK_some hn (ih noY noY uz) (ihI noY noY uz) hl (fin:=fun r S'=>pureK (L.deep f) S r S' k) h2;obtain⟨r',S2,w,h7,h8⟩:=pureK_some h6;refine⟨r',S2,w,?_,h8⟩;rw[if_pos hpu,h3]
      cases e with
      | exit i=>exact absurd rfl (h4 i)
      | normal=>simp only[Ll hjk,h5];exact h7
      | ret=>simp only[Ll hjk,h5];exact h7
     next hpu =>
     rw[Jb,Fx]at h2;obtain⟨e,env',S',r,h3,hjk,h4,h5,h6⟩:=bodyK_some hn (ih Y Y' hY) (ihI Y Y' hY) hl (fin:=fun r S'=>leaveK (L.raw f) (L.deep f) S.heap.length S r S' k) h2;obtain⟨r',S2,w,h7,h8⟩:=leaveK_some rfl h6;refine⟨r',S2,w,?_,h8⟩;rw[if_neg hpu,h3]
     cases e with
     | exit i=>exact absurd rfl (h4 i)
     | normal=>simp only[Ll hjk,h5];exact h7
     | ret=>simp only[Ll hjk,h5];exact h7
    simp at h2
   simp at h
noncomputable def Bp (L:Prg) (N:Nat) (d:Nat) (f:FuncId) (args:List D) (S:St):Ans:=Kn L N d noY f args S fun r S' w=>some (r,S',w)
theorem fast_ok{L:Prg}{N d:Nat}{f:FuncId}{args:List D}{S:St}{x:D × St × Bool}(h:Bp L N d f args S=some x):Ae L N d f args S=some x:=by
 obtain⟨r,S',w,h1,h2⟩:=runKY_ok L N d noY noY (fun g ys S a h=>h) f args S _ x h;show Dc L N d noY f args S=some x;rw[h1];exact h2
def NN:Nat:=18446744073709551616
section
variable {call:Aq}
def CW (call:Aq) (c:Xl) (Q:Xm→List D→St→Prop) (env:List D) (S:St):Prop :=
 ∃e env' S',(∀is,Bc call is NN c env S=some (e,env',S'))∧Q e env' S'
def OW (call:Aq) (ops:List Xj) (vals env:List D) (S:St) (K:List D→St→Prop):Prop :=
 ∃vals' S',Hg call ops vals env S=some (vals',S')∧K vals' S'
def DW (call:Aq) (n:Nat) (news:List (TypeId × List D)) (ops:List Xj) (fps:List FP) (vals env:List D) (S:St) (K:List D→St→Prop):Prop :=
 ∃vals' S',Im call n news ops fps vals env S=some (vals',S')∧K vals' S'
def SeqK (call:Aq) (b:Xl) (Q:Xm→List D→St→Prop):Xm→List D→St→Prop
 | .normal,env,S=>CW call b Q env S
 | e,env,S=>Q e env S
def Wt (i:Nat) (Q:Xm→List D→St→Prop):Xm→List D→St→Prop
 | .exit j,env,S=>if j=i then Q .normal env S else Q (.exit j) env S
 | e,env,S=>Q e env S
variable {Q:Xm→List D→St→Prop} {env:List D} {S:St}
theorem cw_skip(h:Q .normal env S):CW call .skip Q env S:=⟨_,_,_,fun _=>rfl,h⟩
theorem cw_ret(h:Q .ret env S):CW call .ret Q env S:=⟨_,_,_,fun _=>rfl,h⟩
theorem Jk{i:Nat}(h:Q (.exit i) env S):CW call (.exit i) Q env S:=⟨_,_,_,fun _=>rfl,h⟩
theorem cw_seq{a b:Xl}(h:CW call a (SeqK call b Q) env S):CW call (.seq a b) Q env S:=by
 obtain⟨e,env',S',h1,h2⟩:=h
 cases e with
 | normal =>
  obtain⟨e2,env2,S2,h3,h4⟩:=h2;exact⟨e2,env2,S2,fun is=>by simp only[Bc,h1];exact h3 is,h4⟩
 | ret=>exact⟨.ret,env',S',fun is=>by simp only[Bc,h1],h2⟩
 | exit i=>exact⟨.exit i,env',S',fun is=>by simp only[Bc,h1],h2⟩
theorem Gl{i:Nat}{c:Xl}(h:CW call c (Wt i Q) env S):CW call (.block i c) Q env S:=by
  obtain⟨e,env',S',h1,h2⟩:=h
  cases e with
  | normal=>exact⟨.normal,env',S',fun is=>by simp only[Bc,h1],h2⟩
  | ret=>exact⟨.ret,env',S',fun is=>by simp only[Bc,h1],h2⟩
  | exit j =>
    by_cases hj:j=i
    · exact⟨.normal,env',S',fun is=>by simp only[Bc,h1,hj,if_true],by simpa [Wt,hj] using h2⟩
    exact⟨.exit j,env',S',fun is=>by simp only[Bc,h1,hj,if_false],by simpa [Wt,hj] using h2⟩
theorem Dn{c:Xk}{a b:Xl}(hc:opd [] env c=.bool true)(h:CW call a Q env S):CW call (.cond c a b) Q env S:=by
 obtain⟨e,env',S',h1,h2⟩:=h;exact⟨e,env',S',fun is=>by simp only[Bc,hc];exact h1 is,h2⟩
theorem Au{c:Xk}{a b:Xl}(hc:opd [] env c=.bool false)(h:CW call b Q env S):CW call (.cond c a b) Q env S:=by
 obtain⟨e,env',S',h1,h2⟩:=h;exact⟨e,env',S',fun is=>by simp only[Bc,hc];exact h1 is,h2⟩
theorem He{c:Xk}{a b:Xl}{t:Bool}(hc:opd [] env c=.bool t)(ht:t=true→CW call a Q env S)(hf:t=false→CW call b Q env S):CW call (.cond c a b) Q env S:=by
 cases t with
 | true=>exact Dn hc (ht rfl)
 | false=>exact Au hc (hf rfl)
theorem M4{ops:List Xj}{exps:List (Nat × Nat)}(h:OW call ops [] env S (fun vals S'=>Q .normal (exports exps vals env) S')):CW call (.region ops exps) Q env S:=by
 obtain⟨vals,S',h1,h2⟩:=h;exact⟨_,_,_,fun is=>by simp only[Bc,h1],h2⟩
theorem cw_drawn{ops:List Xj}{exps:List (Nat × Nat)}{news:List (TypeId × List D)}{tl:List D}{S0:St}(ht:Ex S.heap.length news.length=tl)(hS:(⟨S.heap++news.map Gg,S.low⟩:St)=S0)(h:DW call S.heap.length news ops [] tl env S0 (fun vals S'=>Q .normal (exports exps vals env) S')):CW call (.drawn ops exps news) Q env S:=by
 subst ht hS;obtain⟨vals,S',h1,h2⟩:=h;exact⟨_,_,_,fun is=>by simp only[Bc,h1],h2⟩
theorem cw_mono{c:Xl}{Q':Xm→List D→St→Prop}(h:CW call c Q env S)(hq:∀e env' S',Q e env' S'→Q' e env' S'):CW call c Q' env S:=by
 obtain⟨e,env',S',h1,h2⟩:=h;exact⟨e,env',S',h1,hq _ _ _ h2⟩
variable {vals:List D} {K:List D→St→Prop} {os:List Xj} {l:LOp} {args:List Xk} {od:List Bool} {ho:Option Nat}
theorem ow_nil(h:K vals S):OW call [] vals env S K:=⟨_,_,rfl,h⟩
theorem Aa{r:D}{S':St}{wr:Bool}(hx:Al call l (args.map (opd vals env)) S=some (r,S',wr))(h:OW call os (r::vals) env S' K):OW call (⟨l,args,none,od,ho⟩::os) vals env S K:=by
 obtain⟨vals',S2,h1,h2⟩:=h;refine⟨vals',S2,?_,h2⟩;simp only[Hg,onG,hx];exact h1
theorem exOp_pop{r:D}(hl:l.loud=false)(hx:pop l (args.map (opd vals env))=some r):Al call l (args.map (opd vals env)) S=some (r,S,false):=by
 have:Al call l (args.map (opd vals env)) S=aop l (args.map (opd vals env)) S:=by cases l<;>first | rfl | (simp[LOp.loud]at hl;done)
 rw[this];simp[aop,hl,hx]
theorem ow_pop{r:D}(hl:l.loud=false)(hx:pop l (args.map (opd vals env))=some r)(h:OW call os (r::vals) env S K):OW call (⟨l,args,none,od,ho⟩::os) vals env S K:=Aa (exOp_pop hl hx) h
theorem ow_on{d:Nat}{b:Bool}(hg:vals.getD d .undef=.bool b)(h:OW call (⟨l,args,none,od,ho⟩::os) vals env S K):OW call (⟨l,args,some (d,b),od,ho⟩::os) vals env S K:=by
 obtain⟨vals',S2,h1,h2⟩:=h;refine⟨vals',S2,?_,h2⟩;simp only[Hg,onG,hg,beq_self_eq_true]at h1 ⊢;exact h1
theorem ow_off{d:Nat}{b b':Bool}(hg:vals.getD d .undef=.bool b')(hb:(b'==b)=false)(h:OW call os (.skip::vals) env S K):OW call (⟨l,args,some (d,b),od,ho⟩::os) vals env S K:=by
 obtain⟨vals',S2,h1,h2⟩:=h;refine⟨vals',S2,?_,h2⟩;simp only[Hg,onG,hg,hb];exact h1
theorem ow_gone{d:Nat}{b:Bool}(hg:vals.getD d .undef=.skip)(h:OW call os (.skip::vals) env S K):OW call (⟨l,args,some (d,b),od,ho⟩::os) vals env S K:=by
 obtain⟨vals',S2,h1,h2⟩:=h;refine⟨vals',S2,?_,h2⟩;simp only[Hg,onG,hg];exact h1
theorem Me{vals:List D}{d:Nat}{x:D}(h:vals.getD d .undef=x)(hx:x≠.undef):vals.set d x=vals:=by
 induction vals generalizing d with
 | nil=>simp at h;exact (hx h.symm).elim
 | cons a l ih =>
  cases d with
  | zero=>simp at h;simp[h]
  | succ d=>simp at h;simp;exact ih (by simpa using h)
theorem ow_split{ops:List Xj}{vt vf:List D}(d:Nat){b:Bool}(hg:vals.getD d .undef=.bool b)(ht:vals.set d (.bool true)=vt)(hf:vals.set d (.bool false)=vf)(h1:b=true→OW call ops vt env S K)(h2:b=false→OW call ops vf env S K):OW call ops vals env S K:=by
 cases b with
 | true=>rw[←Me hg (by simp)];rw[ht];exact h1 rfl
 | false=>rw[←Me hg (by simp)];rw[hf];exact h2 rfl
variable {n:Nat} {news:List (TypeId × List D)} {fps:List FP}
theorem dw_split{ops:List Xj}{vt vf:List D}(d:Nat){b:Bool}(hg:vals.getD d .undef=.bool b)(ht:vals.set d (.bool true)=vt)(hf:vals.set d (.bool false)=vf)(h1:b=true→DW call n news ops fps vt env S K)(h2:b=false→DW call n news ops fps vf env S K):DW call n news ops fps vals env S K:=by
 cases b with
 | true=>rw[←Me hg (by simp)];rw[ht];exact h1 rfl
 | false=>rw[←Me hg (by simp)];rw[hf];exact h2 rfl
theorem dw_nil(h:K vals S):DW call n news [] fps vals env S K:=⟨_,_,rfl,h⟩
theorem Ao{r:D}{S':St}{wr:Bool}{fp:FP}(hx:Al call l (args.map (opd vals env)) S=some (r,S',wr))(hf:Ac n ⟨l,args,none,od,ho⟩ (args.map (opd vals env)) r wr (chg S.heap S'.heap 0)=fp)(yS:Ar n news ⟨l,args,none,od,ho⟩ fps fp S'=true)(h:DW call n news os (fp::fps) (r::vals) env S' K):DW call n news (⟨l,args,none,od,ho⟩::os) fps vals env S K:=by
 obtain⟨vals',S2,h1,h2⟩:=h;subst hf;refine⟨vals',S2,?_,h2⟩;simp only[Im,onG,hx,yS,if_true];exact h1
theorem okFP_quiet:∀(bs:List Bool) (fs:List FP),bs.length=fs.length→Cf bs fs Af=true
 | [],[],_=>rfl
 | b::bs,f::fs,h=>by
  simp only[Cf,Bool.and_eq_true];refine⟨?_,okFP_quiet bs fs (by simpa using h)⟩;unfold Ap;split<;>simp_all [Af,Az,Bn]
 | [],_::_,h=>by simp at h
 | _::_,[],h=>by simp at h
theorem dw_pop{r:D}(hl:l.loud=false)(hx:pop l (args.map (opd vals env))=some r)(hn:od.length=fps.length)(h:DW call n news os (Af::fps) (r::vals) env S K):DW call n news (⟨l,args,none,od,none⟩::os) fps vals env S K:=by
 have hf:∀W,Dx l (args.map (opd vals env)) r false W=Af:=fun W=>by
  cases l<;>first | rfl | (simp[LOp.loud]at hl;done) | skip
  rename_i st _ _ _ _;cases st
  ·
   simp[LOp.loud]at hl
  rfl
 refine Ao (exOp_pop hl hx) (fp:=Af) (hf _) ?_ h;simp only[Ar,Bool.and_eq_true];exact⟨okFP_quiet od fps hn,rfl⟩
theorem Co{r:D}{wr:Bool}{S':St}(hx:Al call l (args.map (opd vals env)) S=some (r,S',wr))(hl:l.loud=false)(hn:od.length=fps.length)(h:DW call n news os (Af::fps) (r::vals) env S' K):DW call n news (⟨l,args,none,od,none⟩::os) fps vals env S K:=by
 have:Al call l (args.map (opd vals env)) S=aop l (args.map (opd vals env)) S:=by cases l<;>first | rfl | (simp[LOp.loud]at hl;done)
 rw[this]at hx;simp only[aop,hl,Bool.false_eq_true,if_false,Om,Pi_]at hx;obtain⟨r',h1,rfl,rfl,rfl⟩:=hx;exact dw_pop hl h1 hn h
theorem dw_on{d:Nat}{b:Bool}(hg:vals.getD d .undef=.bool b)(h:DW call n news (⟨l,args,none,od,ho⟩::os) fps vals env S K):DW call n news (⟨l,args,some (d,b),od,ho⟩::os) fps vals env S K:=by
 obtain⟨vals',S2,h1,h2⟩:=h;refine⟨vals',S2,?_,h2⟩;simp only[Im,onG,hg,beq_self_eq_true]at h1 ⊢;exact h1
theorem dw_off{d:Nat}{b b':Bool}(hg:vals.getD d .undef=.bool b')(hb:(b'==b)=false)(h:DW call n news os (Af::fps) (.skip::vals) env S K):DW call n news (⟨l,args,some (d,b),od,ho⟩::os) fps vals env S K:=by
 obtain⟨vals',S2,h1,h2⟩:=h;refine⟨vals',S2,?_,h2⟩;simp only[Im,onG,hg,hb];exact h1
theorem dw_gone{d:Nat}{b:Bool}(hg:vals.getD d .undef=.skip)(h:DW call n news os (Af::fps) (.skip::vals) env S K):DW call n news (⟨l,args,some (d,b),od,ho⟩::os) fps vals env S K:=by
 obtain⟨vals',S2,h1,h2⟩:=h;refine⟨vals',S2,?_,h2⟩;simp only[Im,onG,hg];exact h1
def LoopK (I:Nat→List D→St→Prop) (n:Nat) (Q:Xm→List D→St→Prop):Xm→List D→St→Prop
 | .normal,env,S=>∃m,m<n∧I m env S
 | e,env,S=>Q e env S
theorem Bq{c:Xl}(I:Nat→List D→St→Prop)(n:Nat)(hn:n<18446744073709551616)(h0:I n env S)(hr:∀n env S,I n env S→CW call c (LoopK I n Q) env S):CW call (.loop c) Q env S:=by
 have key:∀n k env S,n<k→I n env S→∃e env' S',(∀is,Gi (Bc call is NN c) k env S=some (e,env',S'))∧Q e env' S':=by
  intro n
  induction n using Nat.strongRecOn with
  | _ n ih =>
   intro k env S hk hI;obtain⟨e,env1,S1,h1,h2⟩:=hr n env S hI;obtain⟨k',rfl⟩:∃k',k=k'+1:=⟨k-1,by omega⟩
   cases e with
   | normal =>
    obtain⟨m,hm,hI'⟩:=h2;obtain⟨e2,env2,S2,h3,h4⟩:=ih m hm k' env1 S1 (by omega) hI';exact⟨e2,env2,S2,fun is=>by simp only[Gi,h1];exact h3 is,h4⟩
   | ret=>exact⟨.ret,env1,S1,fun is=>by simp only[Gi,h1],h2⟩
   | exit i=>exact⟨.exit i,env1,S1,fun is=>by simp only[Gi,h1],h2⟩
 obtain⟨e,env',S',h1,h2⟩:=key n NN env S (by unfold NN;exact hn) h0;exact⟨e,env',S',fun is=>by simp only[Bc];exact h1 is,h2⟩
end
def FinK (L:Prg) (f:FuncId) (F:Xi) (S:St) (x:D × St × Bool):Xm→List D→St→Prop
 | .exit _,_,_=>False
 | _,env',S2=>∃r0,Ce env' S2 F.res=some r0∧leave (L.raw f) S r0 S2=some x
def FinP (F:Xi) (r:D):Xm→List D→St→Prop
 | .exit _,_,_=>False
 | _,env',S2=>∃r0,Ce env' S2 F.res=some r0∧Df ⟨[],0⟩ r0 S2=some (r,⟨[],0⟩,false)
theorem leaveP_any{S T:St}{r0 r:D}{S2:St}(h:Df T r0 S2=some (r,T,false)):Df S r0 S2=some (r,S,false):=by
 unfold Df at h ⊢;split at h
 ·
  rename_i r' S3 hl;split at h
  ·
   rename_i hf;simp only[Oi,Pi_]at h;obtain⟨rfl,_⟩:=h;simp[hf]
  simp at h
 simp at h
theorem Ho{L:Prg}{d:Nat}{f:FuncId}{F:Xi}{args args' env0:List D}{S:St}{x:D × St × Bool}(hF:L.fns f=some F)(ha:(if L.raw f then some args else Ah S.heap.length S.heap args)=some args')(hl:args'.length=F.nargs)(hp:(L.pure f&&args'.all D.Xq)=false)(he:(F.slots.map fun s=>args'.getD s .undef)=env0)(hd:0<d)
  (hb:∀d',d=d'+1→CW (Ae L NN d') F.body (FinK L f F S x) env0 ⟨S.heap,S.heap.length⟩) (rO:L.deep f=false:=by rfl) (hE:L.ext f args=none:=by rfl) (zH:L.dfs f=false:=by rfl) (yU:f<YB:=by decide) (hM:L.mem f args S=none:=by rfl):Ae L NN d f args S=some x:=by
 subst he;obtain⟨d',rfl⟩:∃d',d=d'+1:=⟨d-1,by omega⟩;obtain⟨e,env',S2,h1,h2⟩:=hb d' rfl;have h1:=h1 (insF L NN d');have hy:¬YB≤f:=Nat.not_le.2 yU;simp only[Ae]at h1
 delta insF at h1
 simp only[Ae,Dc,behind,if_neg hy,hM,zH,hE,hF,ha,hl,hp,ne_eq,not_true_eq_false,if_false,Bool.false_eq_true,h1,rO]
 cases e with
 | exit i=>exact h2.elim
 | normal =>
  obtain⟨r0,h3,h4⟩:=h2;simp only[behind,zH,Bool.false_eq_true,if_false,h3];exact h4
 | ret =>
  obtain⟨r0,h3,h4⟩:=h2;simp only[behind,zH,Bool.false_eq_true,if_false,h3];exact h4
theorem run_pure{L:Prg}{d:Nat}{f:FuncId}{F:Xi}{args args' env0:List D}{S:St}{r:D}(hF:L.fns f=some F)(ha:(if L.raw f then some args else Ah S.heap.length S.heap args)=some args')(hl:args'.length=F.nargs)(hp:(L.pure f&&args'.all D.Xq)=true)(he:(F.slots.map fun s=>args'.getD s .undef)=env0)(hd:0<d)
  (hb:∀d',d=d'+1→CW (Ae L NN d') F.body (FinP F r) env0 ⟨[],0⟩) (rO:L.deep f=false:=by rfl) (hE:L.ext f args=none:=by rfl) (zH:L.dfs f=false:=by rfl) (yU:f<YB:=by decide) (hM:L.mem f args S=none:=by rfl):Ae L NN d f args S=some (r,S,false):=by
 subst he;obtain⟨d',rfl⟩:∃d',d=d'+1:=⟨d-1,by omega⟩;obtain⟨e,env',S2,h1,h2⟩:=hb d' rfl;have h1:=h1 (insF L NN d');have hy:¬YB≤f:=Nat.not_le.2 yU;simp only[Ae]at h1
 delta insF at h1
 simp only[Ae,Dc,behind,if_neg hy,hM,zH,hE,hF,ha,hl,hp,ne_eq,not_true_eq_false,if_false,if_true,h1,rO,Bool.false_eq_true]
 cases e with
 | exit i=>exact h2.elim
 | normal =>
  obtain⟨r0,h3,h4⟩:=h2;simp only[behind,zH,Bool.false_eq_true,if_false,h3];exact leaveP_any h4
 | ret =>
  obtain⟨r0,h3,h4⟩:=h2;simp only[behind,zH,Bool.false_eq_true,if_false,h3];exact leaveP_any h4
def FinD (F:Xi) (m:St) (r:D):Xm→List D→St→Prop
 | .exit _,_,_=>False
 | _,env',S2=>∃r0,Ce env' S2 F.res=some r0∧leaveD m m r0 S2=some (r,m,false)
theorem leaveD_any{S T:St}{r0 r:D}{S2:St}(h:leaveD T T r0 S2=some (r,T,false)):leaveD T S r0 S2=some (r,S,false):=by
 unfold leaveD at h ⊢;split at h
 ·
  rename_i hl;split at h
  ·
   split at h
   ·
    rename_i hf;simp only[Oi,Pi_]at h;obtain⟨rfl,_⟩:=h;simp[hl,hf, *]
   simp at h
  simp at h
 simp at h
theorem run_deep{L:Prg}{d:Nat}{f:FuncId}{F:Xi}{args args' env0:List D}{S:St}{r:D}(hF:L.fns f=some F)(ha:(if L.raw f then some args else Ah S.heap.length S.heap args)=some args')(hl:args'.length=F.nargs)(hp:(L.pure f&&args'.all D.Xq)=true)(he:(F.slots.map fun s=>args'.getD s .undef)=env0)(hd:0<d)
  (hb:∀d',d=d'+1→CW (Ae L NN d') F.body (FinD F ⟨[],0⟩ r) env0 ⟨[],0⟩) (rO:L.deep f=true:=by rfl) (hE:L.ext f args=none:=by rfl) (zH:L.dfs f=false:=by rfl) (yU:f<YB:=by decide) (hM:L.mem f args S=none:=by rfl):Ae L NN d f args S=some (r,S,false):=by
 subst he;obtain⟨d',rfl⟩:∃d',d=d'+1:=⟨d-1,by omega⟩;obtain⟨e,env',S2,h1,h2⟩:=hb d' rfl;have h1:=h1 (insF L NN d');have hy:¬YB≤f:=Nat.not_le.2 yU;simp only[Ae]at h1
 delta insF at h1
 simp only[Ae,Dc,behind,if_neg hy,hM,zH,hE,hF,ha,hl,hp,ne_eq,not_true_eq_false,if_false,if_true,h1,rO,Bool.false_eq_true]
 cases e with
 | exit i=>exact h2.elim
 | normal =>
  obtain⟨r0,h3,h4⟩:=h2;simp only[behind,zH,Bool.false_eq_true,if_false,h3];exact leaveD_any h4
 | ret =>
  obtain⟨r0,h3,h4⟩:=h2;simp only[behind,zH,Bool.false_eq_true,if_false,h3];exact leaveD_any h4
def FinE (S2:St):Xm→List D→St→Prop
 | .exit _,_,_=>False
 | _,_,S=>S=S2
theorem exDefs_one{tab:FuncId→Option Xi}{call:Aq}{is:Nat→HF→Aq}{f:FuncId}{caps env0:List D}{F:Xi}{S S2:St}(hF:tab f=some F)(hl:caps.length=F.nargs)(hn:Ee F.body=true)(hr:F.res=[])(he:(F.slots.map fun s=>caps.getD s .undef)=env0)(h:CW call F.body (FinE S2) env0 S):Lu tab call is NN [.fn f caps] S=some S2:=by
 subst he;obtain⟨e,env',S',h1,h2⟩:=h;simp only[Lu,hF,hl,hn,hr,and_self,if_true,h1]
 cases e with
 | exit i=>exact h2.elim
 | normal=>exact congrArg some h2
 | ret=>exact congrArg some h2
section
variable {call:Aq} {b:Xl} {Q:Xm→List D→St→Prop} {env env':List D} {S:St} {i j:Nat}
theorem sk_n(he:env'=env)(h:CW call b Q env S):SeqK call b Q .normal env' S:=he▸h
theorem sk_r(h:Q .ret env S):SeqK call b Q .ret env S:=h
theorem sk_e(h:Q (.exit i) env S):SeqK call b Q (.exit i) env S:=h
theorem bk_n(h:Q .normal env S):Wt i Q .normal env S:=h
theorem bk_r(h:Q .ret env S):Wt i Q .ret env S:=h
theorem bk_e(h:Q .normal env S):Wt i Q (.exit i) env S:=by simpa [Wt] using h
theorem lk_n{I:Nat→List D→St→Prop}{n:Nat}(he:env'=env)(h:∃m,m<n∧I m env S):LoopK I n Q .normal env' S:=he▸h
theorem lk_r{I:Nat→List D→St→Prop}{n:Nat}(h:Q .ret env S):LoopK I n Q .ret env S:=h
theorem lk_e{I:Nat→List D→St→Prop}{n:Nat}(h:Q (.exit i) env S):LoopK I n Q (.exit i) env S:=h
theorem bk_o(hj:(j==i)=false)(h:Q (.exit j) env S):Wt i Q (.exit j) env S:=by
 have:¬j=i:=by simpa using hj
 simpa [Wt,this] using h
end
theorem Bd{α:Type}(H L:List α)(k:Nat):(H++L)[H.length+k]?=L[k]?:=by
 rw[Lr_ (by omega),Nat.add_sub_cancel_left]
theorem Bf{α:Type}(H L:List α):(H++L)[H.length]?=L[0]?:=Bd H L 0
theorem Cb{α:Type}(H L:List α)(k:Nat)(x:α):(H++L).set (H.length+k) x=H++L.set k x:=by
 rw[List.set_append,if_neg (by omega),Nat.add_sub_cancel_left]
theorem Ca{α:Type}(H L:List α)(x:α):(H++L).set H.length x=H++L.set 0 x:=Cb H L 0 x
theorem min_low(n k:Nat):min n (n+k)=n:=by omega
theorem Mc(m:Nat)(H:List Xh)(k:IntKind)(n:Int):snap m H (.int k n)=some (.int k n):=rfl
theorem snapV_int(m:Nat)(H:List Xh)(k:IntKind)(n:Int):Xp m H (.int k n)=some (.int k n):=rfl
theorem snap_bool(m:Nat)(H:List Xh)(b:Bool):snap m H (.bool b)=some (.bool b):=rfl
theorem I4(m:Nat)(H:List Xh)(b:Bool):Xp m H (.bool b)=some (.bool b):=rfl
theorem Ma(m:Nat)(H:List Xh)(s:ByteArray):snap m H (.str s)=some (.str s):=rfl
theorem snapV_str(m:Nat)(H:List Xh)(s:ByteArray):Xp m H (.str s)=some (.str s):=rfl
theorem snap_nilp(m:Nat)(H:List Xh) :snap m H .nilp=some .nilp:=rfl
theorem snapV_nilp(m:Nat)(H:List Xh) :Xp m H .nilp=some .nilp:=rfl
theorem snap_nils(m:Nat)(H:List Xh) :snap m H .X4=some .X4:=rfl
theorem snapV_nils(m:Nat)(H:List Xh) :Xp m H .X4=some .X4:=rfl
theorem snap_nilfn(m:Nat)(H:List Xh) :snap m H .nilfn=some .nilfn:=rfl
theorem Vd(m:Nat)(H:List Xh) :Xp m H .nilfn=some .nilfn:=rfl
theorem snap_nilm(m:Nat)(H:List Xh) :snap m H .nilm=some .nilm:=rfl
theorem snapV_nilm(m:Nat)(H:List Xh) :Xp m H .nilm=some .nilm:=rfl
theorem snap_sl(m:Nat)(H:List Xh)(sz:Nat)(rows:List (List D))(cap:Option Nat):snap m H (.sl sz rows cap)=some (.sl sz rows cap):=rfl
theorem snapV_sl(m:Nat)(H:List Xh)(sz:Nat)(rows:List (List D))(cap:Option Nat):Xp m H (.sl sz rows cap)=some (.sl sz rows cap):=rfl
theorem snap_cptr(m:Nat)(H:List Xh)(row:List D)(o:Nat):snap m H (.X7 row o)=some (.X7 row o):=rfl
theorem snapV_cptr(m:Nat)(H:List Xh)(row:List D)(o:Nat):Xp m H (.X7 row o)=some (.X7 row o):=rfl
theorem snap_mp(m:Nat)(H:List Xh)(rows:List (List D)):snap m H (.mp rows)=some (.mp rows):=rfl
theorem snapV_mp(m:Nat)(H:List Xh)(rows:List (List D)):Xp m H (.mp rows)=some (.mp rows):=rfl
theorem snap_ptr(m:Nat)(H:List Xh)(g v i o:Nat):snap m H (.ptr g v i o)=some (.ptr g v i o):=rfl
theorem snapV_ptr(m:Nat)(H:List Xh)(g v i o:Nat):Xp m H (.ptr g v i o)=some (.ptr g v i o):=rfl
theorem snap_fn(m:Nat)(H:List Xh)(f:FuncId)(cs:List D):snap m H (.fn f cs)=some (.fn f cs):=rfl
theorem snapV_fn(m:Nat)(H:List Xh)(f:FuncId)(cs:List D):Xp m H (.fn f cs)=some (.fn f cs):=rfl
theorem Md(m:Nat)(H:List Xh)(g v lo n:Nat)(cap:Option Nat):Xp m H (.msl g v lo n cap)=snap m H (.msl g v lo n cap):=rfl
theorem snapV_mref(m:Nat)(H:List Xh)(g v:Nat):Xp m H (.mref g v)=snap m H (.mref g v):=rfl
theorem Jm(m:Nat)(H:List Xh)(g v lo n:Nat)(cap:Option Nat):snap m H (.msl g v lo n cap)=match H[g]? with | some o=>if o.ver=v∧(o.kind=1∨(m≤g∧o.kind=2)) then some (.sl o.sz ((o.rows.drop lo).take n) (match cap with | some c=>some c | none=>if o.grow then none else some (o.rows.length-lo))) else some (.msl g v lo n cap) | none=>none:=rfl
theorem snap_mref(m:Nat)(H:List Xh)(g v:Nat):snap m H (.mref g v)=if m≤g then (match H[g]? with | some o=>if o.ver=v∧o.kind=3∧o.elem=0 then some (.mp o.rows) else some (.mref g v) | none=>none) else some (.mref g v):=rfl
theorem J9(m:Nat)(H:List Xh)(cs:List D):Xp m H (.agg cs)=(Bl m H cs).map .agg:=rfl
theorem Ka(m:Nat)(H:List Xh)(cs:List D):Xt m H (.tup cs)=(Ah m H cs).map .tup:=rfl
theorem snapR_int(m:Nat)(H:List Xh)(k:IntKind)(n:Int):Xt m H (.int k n)=Xp m H (.int k n):=rfl
theorem snapR_bool(m:Nat)(H:List Xh)(b:Bool):Xt m H (.bool b)=Xp m H (.bool b):=rfl
theorem snapR_str(m:Nat)(H:List Xh)(s:ByteArray):Xt m H (.str s)=Xp m H (.str s):=rfl
theorem snapR_nilp(m:Nat)(H:List Xh) :Xt m H .nilp=Xp m H .nilp:=rfl
theorem snapR_nils(m:Nat)(H:List Xh) :Xt m H .X4=Xp m H .X4:=rfl
theorem Vf(m:Nat)(H:List Xh) :Xt m H .nilfn=Xp m H .nilfn:=rfl
theorem snapR_nilm(m:Nat)(H:List Xh) :Xt m H .nilm=Xp m H .nilm:=rfl
theorem snapR_sl(m:Nat)(H:List Xh)(sz:Nat)(rows:List (List D))(cap:Option Nat):Xt m H (.sl sz rows cap)=Xp m H (.sl sz rows cap):=rfl
theorem snapR_cptr(m:Nat)(H:List Xh)(row:List D)(o:Nat):Xt m H (.X7 row o)=Xp m H (.X7 row o):=rfl
theorem snapR_mp(m:Nat)(H:List Xh)(rows:List (List D)):Xt m H (.mp rows)=Xp m H (.mp rows):=rfl
theorem snapR_ptr(m:Nat)(H:List Xh)(g v i o:Nat):Xt m H (.ptr g v i o)=Xp m H (.ptr g v i o):=rfl
theorem snapR_fn(m:Nat)(H:List Xh)(f:FuncId)(cs:List D):Xt m H (.fn f cs)=Xp m H (.fn f cs):=rfl
theorem snapR_msl(m:Nat)(H:List Xh)(g v lo n:Nat)(cap:Option Nat):Xt m H (.msl g v lo n cap)=Xp m H (.msl g v lo n cap):=rfl
theorem snapR_mref(m:Nat)(H:List Xh)(g v:Nat):Xt m H (.mref g v)=Xp m H (.mref g v):=rfl
theorem snapR_agg(m:Nat)(H:List Xh)(cs:List D):Xt m H (.agg cs)=Xp m H (.agg cs):=rfl
theorem Kw(k:IntKind)(n:Int):D.free (.int k n)=true:=rfl
theorem freeV_int(k:IntKind)(n:Int):D.Xq (.int k n)=true:=rfl
theorem freeR_int(k:IntKind)(n:Int):D.Xr (.int k n)=true:=rfl
theorem Kt(k:IntKind)(n:Int):D.Xv (.int k n)=true:=rfl
theorem val_int(k:IntKind)(n:Int):D.val (.int k n)=true:=rfl
theorem cells_int(k:IntKind)(n:Int):D.cells (.int k n)=[(.int k n)]:=rfl
theorem Uq(b:Bool):D.free (.bool b)=true:=rfl
theorem Ja(b:Bool):D.Xq (.bool b)=true:=rfl
theorem freeR_bool(b:Bool):D.Xr (.bool b)=true:=rfl
theorem Vt(b:Bool):D.Xv (.bool b)=true:=rfl
theorem val_bool(b:Bool):D.val (.bool b)=true:=rfl
theorem cells_bool(b:Bool):D.cells (.bool b)=[(.bool b)]:=rfl
theorem Kv(s:ByteArray):D.free (.str s)=true:=rfl
theorem freeV_str(s:ByteArray):D.Xq (.str s)=true:=rfl
theorem freeR_str(s:ByteArray):D.Xr (.str s)=true:=rfl
theorem Ro(s:ByteArray):D.Xv (.str s)=true:=rfl
theorem val_str(s:ByteArray):D.val (.str s)=true:=rfl
theorem cells_str(s:ByteArray):D.cells (.str s)=[(.str s)]:=rfl
theorem free_nilp :D.free .nilp=true:=rfl
theorem freeV_nilp :D.Xq .nilp=true:=rfl
theorem freeR_nilp :D.Xr .nilp=true:=rfl
theorem Vn :D.Xv .nilp=true:=rfl
theorem val_nilp :D.val .nilp=true:=rfl
theorem cells_nilp :D.cells .nilp=[.nilp]:=rfl
theorem Uo :D.free .X4=true:=rfl
theorem freeV_nils :D.Xq .X4=true:=rfl
theorem freeR_nils :D.Xr .X4=true:=rfl
theorem Vm :D.Xv .X4=true:=rfl
theorem val_nils :D.val .X4=true:=rfl
theorem cells_nils :D.cells .X4=[.X4]:=rfl
theorem free_nilfn :D.free .nilfn=true:=rfl
theorem Vv :D.Xq .nilfn=true:=rfl
theorem Vw :D.Xr .nilfn=true:=rfl
theorem Sy :D.Xv .nilfn=true:=rfl
theorem val_nilfn :D.val .nilfn=true:=rfl
theorem Wi :D.cells .nilfn=[.nilfn]:=rfl
theorem free_nilm :D.free .nilm=true:=rfl
theorem freeV_nilm :D.Xq .nilm=true:=rfl
theorem freeR_nilm :D.Xr .nilm=true:=rfl
theorem Vo :D.Xv .nilm=true:=rfl
theorem val_nilm :D.val .nilm=true:=rfl
theorem cells_nilm :D.cells .nilm=[.nilm]:=rfl
theorem free_sl(sz:Nat)(rows:List (List D))(cap:Option Nat):D.free (.sl sz rows cap)=true:=rfl
theorem freeV_sl(sz:Nat)(rows:List (List D))(cap:Option Nat):D.Xq (.sl sz rows cap)=true:=rfl
theorem freeR_sl(sz:Nat)(rows:List (List D))(cap:Option Nat):D.Xr (.sl sz rows cap)=true:=rfl
theorem isCell_sl(sz:Nat)(rows:List (List D))(cap:Option Nat):D.Xv (.sl sz rows cap)=true:=rfl
theorem val_sl(sz:Nat)(rows:List (List D))(cap:Option Nat):D.val (.sl sz rows cap)=true:=rfl
theorem cells_sl(sz:Nat)(rows:List (List D))(cap:Option Nat):D.cells (.sl sz rows cap)=[(.sl sz rows cap)]:=rfl
theorem free_cptr(row:List D)(o:Nat):D.free (.X7 row o)=true:=rfl
theorem freeV_cptr(row:List D)(o:Nat):D.Xq (.X7 row o)=true:=rfl
theorem freeR_cptr(row:List D)(o:Nat):D.Xr (.X7 row o)=true:=rfl
theorem Vs(row:List D)(o:Nat):D.Xv (.X7 row o)=true:=rfl
theorem val_cptr(row:List D)(o:Nat):D.val (.X7 row o)=true:=rfl
theorem cells_cptr(row:List D)(o:Nat):D.cells (.X7 row o)=[(.X7 row o)]:=rfl
theorem free_mp(rows:List (List D)):D.free (.mp rows)=true:=rfl
theorem freeV_mp(rows:List (List D)):D.Xq (.mp rows)=true:=rfl
theorem freeR_mp(rows:List (List D)):D.Xr (.mp rows)=true:=rfl
theorem isCell_mp(rows:List (List D)):D.Xv (.mp rows)=true:=rfl
theorem val_mp(rows:List (List D)):D.val (.mp rows)=true:=rfl
theorem cells_mp(rows:List (List D)):D.cells (.mp rows)=[(.mp rows)]:=rfl
theorem free_ptr(g v i o:Nat):D.free (.ptr g v i o)=false:=rfl
theorem freeV_ptr(g v i o:Nat):D.Xq (.ptr g v i o)=false:=rfl
theorem freeR_ptr(g v i o:Nat):D.Xr (.ptr g v i o)=false:=rfl
theorem isCell_ptr(g v i o:Nat):D.Xv (.ptr g v i o)=true:=rfl
theorem val_ptr(g v i o:Nat):D.val (.ptr g v i o)=true:=rfl
theorem cells_ptr(g v i o:Nat):D.cells (.ptr g v i o)=[(.ptr g v i o)]:=rfl
theorem free_fn(f:FuncId)(cs:List D):D.free (.fn f cs)=cs.all D.Xw:=rfl
theorem freeV_fn(f:FuncId)(cs:List D):D.Xq (.fn f cs)=cs.all D.Xw:=rfl
theorem freeR_fn(f:FuncId)(cs:List D):D.Xr (.fn f cs)=cs.all D.Xw:=rfl
theorem isCell_fn(f:FuncId)(cs:List D):D.Xv (.fn f cs)=true:=rfl
theorem val_fn(f:FuncId)(cs:List D):D.val (.fn f cs)=true:=rfl
theorem cells_fn(f:FuncId)(cs:List D):D.cells (.fn f cs)=[(.fn f cs)]:=rfl
theorem free_msl(g v lo n:Nat)(cap:Option Nat):D.free (.msl g v lo n cap)=false:=rfl
theorem freeV_msl(g v lo n:Nat)(cap:Option Nat):D.Xq (.msl g v lo n cap)=false:=rfl
theorem freeR_msl(g v lo n:Nat)(cap:Option Nat):D.Xr (.msl g v lo n cap)=false:=rfl
theorem isCell_msl(g v lo n:Nat)(cap:Option Nat):D.Xv (.msl g v lo n cap)=true:=rfl
theorem val_msl(g v lo n:Nat)(cap:Option Nat):D.val (.msl g v lo n cap)=true:=rfl
theorem cells_msl(g v lo n:Nat)(cap:Option Nat):D.cells (.msl g v lo n cap)=[(.msl g v lo n cap)]:=rfl
theorem free_mref(g v:Nat):D.free (.mref g v)=false:=rfl
theorem freeV_mref(g v:Nat):D.Xq (.mref g v)=false:=rfl
theorem freeR_mref(g v:Nat):D.Xr (.mref g v)=false:=rfl
theorem Vq(g v:Nat):D.Xv (.mref g v)=true:=rfl
theorem val_mref(g v:Nat):D.val (.mref g v)=true:=rfl
theorem cells_mref(g v:Nat):D.cells (.mref g v)=[(.mref g v)]:=rfl
theorem Kh(cs:List D):D.Xq (.agg cs)=cs.all D.free:=rfl
theorem freeR_agg(cs:List D):D.Xr (.agg cs)=cs.all D.free:=rfl
theorem Ki(cs:List D):D.Xr (.tup cs)=cs.all D.Xq:=rfl
theorem val_agg(cs:List D):D.val (.agg cs)=cs.all D.Xv:=rfl
theorem cells_agg(cs:List D):D.cells (.agg cs)=cs:=rfl
theorem snap_nili(m:Nat)(H:List Xh) :snap m H .nili=some .nili:=rfl
theorem snapV_nili(m:Nat)(H:List Xh) :Xp m H .nili=some .nili:=rfl
theorem snapR_nili(m:Nat)(H:List Xh) :Xt m H .nili=Xp m H .nili:=rfl
theorem free_nili :D.free .nili=true:=rfl
theorem freeV_nili :D.Xq .nili=true:=rfl
theorem freeR_nili :D.Xr .nili=true:=rfl
theorem Vp :D.Xv .nili=true:=rfl
theorem val_nili :D.val .nili=true:=rfl
theorem cells_nili :D.cells .nili=[.nili]:=rfl
theorem snap_ifc(m:Nat)(H:List Xh)(t:TypeId)(d:D):snap m H (.ifc t d)=some (.ifc t d):=rfl
theorem snapV_ifc(m:Nat)(H:List Xh)(t:TypeId)(d:D):Xp m H (.ifc t d)=some (.ifc t d):=rfl
theorem snapR_ifc(m:Nat)(H:List Xh)(t:TypeId)(d:D):Xt m H (.ifc t d)=Xp m H (.ifc t d):=rfl
theorem free_ifc(t:TypeId)(d:D):D.free (.ifc t d)=true:=rfl
theorem freeV_ifc(t:TypeId)(d:D):D.Xq (.ifc t d)=true:=rfl
theorem freeR_ifc(t:TypeId)(d:D):D.Xr (.ifc t d)=true:=rfl
theorem isCell_ifc(t:TypeId)(d:D):D.Xv (.ifc t d)=true:=rfl
theorem val_ifc(t:TypeId)(d:D):D.val (.ifc t d)=true:=rfl
theorem cells_ifc(t:TypeId)(d:D):D.cells (.ifc t d)=[(.ifc t d)]:=rfl
theorem snap_ifr(m:Nat)(H:List Xh)(t:TypeId)(d:D):snap m H (.ifr t d)=some (.ifr t d):=rfl
theorem snapV_ifr(m:Nat)(H:List Xh)(t:TypeId)(d:D):Xp m H (.ifr t d)=some (.ifr t d):=rfl
theorem snapR_ifr(m:Nat)(H:List Xh)(t:TypeId)(d:D):Xt m H (.ifr t d)=Xp m H (.ifr t d):=rfl
theorem free_ifr(t:TypeId)(d:D):D.free (.ifr t d)=false:=rfl
theorem freeV_ifr(t:TypeId)(d:D):D.Xq (.ifr t d)=false:=rfl
theorem freeR_ifr(t:TypeId)(d:D):D.Xr (.ifr t d)=false:=rfl
theorem isCell_ifr(t:TypeId)(d:D):D.Xv (.ifr t d)=true:=rfl
theorem val_ifr(t:TypeId)(d:D):D.val (.ifr t d)=true:=rfl
theorem cells_ifr(t:TypeId)(d:D):D.cells (.ifr t d)=[(.ifr t d)]:=rfl
theorem snap_iter(m:Nat)(H:List Xh)(g v:Nat):snap m H (.iter g v)=some (.iter g v):=rfl
theorem snapV_iter(m:Nat)(H:List Xh)(g v:Nat):Xp m H (.iter g v)=some (.iter g v):=rfl
theorem snapR_iter(m:Nat)(H:List Xh)(g v:Nat):Xt m H (.iter g v)=Xp m H (.iter g v):=rfl
theorem free_iter(g v:Nat):D.free (.iter g v)=false:=rfl
theorem freeV_iter(g v:Nat):D.Xq (.iter g v)=false:=rfl
theorem freeR_iter(g v:Nat):D.Xr (.iter g v)=false:=rfl
theorem Vr(g v:Nat):D.Xv (.iter g v)=true:=rfl
theorem val_iter(g v:Nat):D.val (.iter g v)=true:=rfl
theorem cells_iter(g v:Nat):D.cells (.iter g v)=[(.iter g v)]:=rfl
theorem Kq(s:ByteArray):Hr true (.str s)=some (.int .i64 s.size):=rfl
theorem I8:Hr false .X4=some (.int .i64 0):=rfl
theorem Nt(sz:Nat)(rows:List (List D))(cap:Option Nat):Hr false (.sl sz rows cap)=some (.int .i64 rows.length):=rfl
theorem Kr(g v lo n:Nat)(cap:Option Nat):Hr false (.msl g v lo n cap)=some (.int .i64 n):=rfl
theorem Qz:capD .X4=some (.int .i64 0):=rfl
theorem Xe(sz:Nat)(rows:List (List D))(c:Nat):capD (.sl sz rows (some c))=some (.int .i64 c):=rfl
theorem Tq(g v lo n c:Nat):capD (.msl g v lo n (some c))=some (.int .i64 c):=rfl
theorem Qv(S:St)(sz s:Nat)(rows:List (List D))(cap:Option Nat)(k:IntKind)(i:Int):Fe S sz (.sl s rows cap) (.int k i)=if s=sz∧0≤i then rows[i.toNat]?.map (fun r=>.X7 r 0) else none:=rfl
theorem Nv(S:St)(sz g v lo n:Nat)(cap:Option Nat)(k:IntKind)(i:Int):Fe S sz (.msl g v lo n cap) (.int k i)=match rowsOf S g v with | some ob=>if ob.sz=sz∧0≤i∧i<n then some (.ptr g v (lo+i.toNat) 0) else none | none=>none:=rfl
theorem D9(S:St)(sz:Nat):Bw S sz .X4=some []:=rfl
theorem Ct(S:St)(sz s:Nat)(rows:List (List D))(cap:Option Nat):Bw S sz (.sl s rows cap)=if s=sz then some rows else none:=rfl
theorem Ea(S:St)(sz g v lo n:Nat)(cap:Option Nat):Bw S sz (.msl g v lo n cap)=match rowsOf S g v with | some o=>if o.sz=sz∧(o.kind=1∨o.kind=2) then some ((o.rows.drop lo).take n) else none | none=>none:=rfl
theorem loadD_cptr(sz:Nat)(agg:Bool)(S:St)(row:List D)(o:Nat):G6 sz agg S (.X7 row o)=Ci row o sz agg:=rfl
theorem Uk(sz:Nat)(agg:Bool)(S:St)(g v i o:Nat):G6 sz agg S (.ptr g v i o)=match rowsOf S g v with | some x=>(match x.rows[i]? with | some row=>Ci row o sz agg | none=>none) | none=>none:=rfl
theorem faddrD_ptr(f g v i o:Nat):Uu f (.ptr g v i o)=some (.ptr g v i (o+f)):=rfl
theorem V9(f:Nat)(row:List D)(o:Nat):Uu f (.X7 row o)=some (.X7 row (o+f)):=rfl
def SlD (sz:Nat) (rows:List (List D)) (x:D):Prop:=(x=.X4∧rows=[])∨∃cap,x=.sl sz rows cap
section
variable {sz:Nat} {rows:List (List D)} {x:D} (h:SlD sz rows x)
include h
theorem SlD.free:x.free=true:=by rcases h with⟨rfl,rfl⟩ | ⟨c,rfl⟩<;>rfl
theorem SlD.Xq:x.Xq=true:=by rcases h with⟨rfl,rfl⟩ | ⟨c,rfl⟩<;>rfl
theorem SlD.Xr:x.Xr=true:=by rcases h with⟨rfl,rfl⟩ | ⟨c,rfl⟩<;>rfl
theorem SlD.Xv:x.Xv=true:=by rcases h with⟨rfl,rfl⟩ | ⟨c,rfl⟩<;>rfl
theorem SlD.val:x.val=true:=by rcases h with⟨rfl,rfl⟩ | ⟨c,rfl⟩<;>rfl
theorem SlD.cells:x.cells=[x]:=by rcases h with⟨rfl,rfl⟩ | ⟨c,rfl⟩<;>rfl
theorem SlD.snap(m:Nat)(H:List Xh):snap m H x=some x:=by rcases h with⟨rfl,rfl⟩ | ⟨c,rfl⟩<;>rfl
theorem SlD.Xp(m:Nat)(H:List Xh):Xp m H x=some x:=by rcases h with⟨rfl,rfl⟩ | ⟨c,rfl⟩<;>rfl
theorem SlD.Xt(m:Nat)(H:List Xh):Xt m H x=some x:=by rcases h with⟨rfl,rfl⟩ | ⟨c,rfl⟩<;>rfl
theorem SlD.plain:Ay x=true:=by rcases h with⟨rfl,rfl⟩ | ⟨c,rfl⟩<;>rfl
theorem SlD.Xo:Xo x=true:=by rcases h with⟨rfl,rfl⟩ | ⟨c,rfl⟩<;>rfl
theorem SlD.len:Hr false x=some (.int .i64 rows.length):=by rcases h with⟨rfl,rfl⟩ | ⟨c,rfl⟩<;>rfl
theorem SlD.read(S:St):Bw S sz x=some rows:=by
 rcases h with⟨rfl,rfl⟩ | ⟨c,rfl⟩
 ·
  rfl
 simp[Bw]
theorem SlD.X0(S:St)(k:IntKind){i:Int}{r:List D}(h0:0≤i)(hr:rows[i.toNat]?=some r):Fe S sz x (.int k i)=some (.X7 r 0):=by
 rcases h with⟨rfl,rfl⟩ | ⟨c,rfl⟩
 ·
  simp at hr
 simp[Fe,h0,hr]
theorem SlD.iaddrN(S:St)(k:IntKind){i:Nat}{r:List D}(hr:rows[i]?=some r):Fe S sz x (.int k i)=some (.X7 r 0):=h.X0 S k (by omega) (by simpa using hr)
theorem SlD.fpi(n:Nat)(i r:D)(wr:Bool)(W:List Nat):Dx (.X0 n) [x,i] r wr W=Am []:=by rcases h with⟨rfl,rfl⟩ | ⟨c,rfl⟩<;>rfl
end
theorem SlD.of(sz:Nat)(rows:List (List D))(c:Option Nat):SlD sz rows (.sl sz rows c):=.inr ⟨c,rfl⟩
theorem SlD.nil(sz:Nat):SlD sz [] .X4:=.inl ⟨rfl,rfl⟩
def Cx (l:List ByteArray):List (List D):=l.map fun s=>[.str s]
theorem Iz{l:List ByteArray}{i:Nat}(h:i<l.length):(Cx l)[i]?=some [.str l[i]]:=by simp[Cx,h]
theorem Fg(l:List ByteArray):(Cx l).length=l.length:=by simp[Cx]
theorem Kk{α:Type}{n:Nat}{f g:Nat→α}(h:(List.range n).map f=(List.range n).map g)(i:Nat)(hi:i<n):f i=g i:=by
 have:=congrArg (·[i]?) h;simpa [hi] using this
def idxI {α:Type} (p:α→Bool) (l:List α):Int:=match l.findIdx? p with | some i=>i | none=>-1
theorem Un{α:Type}{p:α→Bool}{l:List α}(h:l.any p=false):idxI p l=-1:=by
 have:l.findIdx? p=none:=by
  rw[List.findIdx?_eq_none_iff];intro x hx;have:=List.any_eq_false.1 h x hx;simpa using this
 simp[idxI,this]
theorem idxI_at{α:Type}{p:α→Bool}{l:List α}{i:Nat}(hi:i<l.length)(hp:p l[i]=true)(hb:(l.take i).any p=false):idxI p l=i:=by
 have:l.findIdx? p=some i:=by
  rw[List.findIdx?_eq_some_iff_getElem];refine⟨hi,hp,fun j hj=>?_⟩
  have:=List.any_eq_false.1 hb l[j] (by
   rw[List.mem_take_iff_getElem]
   exact⟨j,by omega,rfl⟩)
  simpa using this
 simp[idxI,this]
theorem any_take_succ{α:Type}{p:α→Bool}{l:List α}{i:Nat}(hi:i<l.length)(hb:(l.take i).any p=false)(hp:p l[i]=false):(l.take (i+1)).any p=false:=by
 rw[List.take_add_one,Lg hi,List.any_append,hb];simp[hp]
theorem idxI_nonneg{α:Type}(p:α→Bool)(l:List α):decide (idxI p l≥0)=l.any p:=by
 cases h:l.any p with
 | false=>rw[Un h];rfl
 | true =>
  unfold idxI
  cases hf:l.findIdx? p with
  | some i=>simp
  | none =>
   rw[List.findIdx?_eq_none_iff]at hf;obtain⟨x,hx,hp⟩:=List.any_eq_true.1 h;rw[hf x hx]at hp;simp at hp
theorem Bu(k:Nat)(h:k<1000000000):IntKind.i64.wrap ((k:Int)+1)=((k+1:Nat):Int):=by rw[IntKind.wrap_i64];omega
theorem Td(sz:Nat)(agg:Bool)(row:List D)(o:Nat)(r:D)(wr:Bool)(W:List Nat):Dx (.load sz agg) [.X7 row o] r wr W=Am []:=rfl
theorem Vy(sz:Nat)(agg:Bool)(g v i o:Nat)(r:D)(wr:Bool)(W:List Nat):Dx (.load sz agg) [.ptr g v i o] r wr W=Am [g]:=rfl
theorem Vz(n sz:Nat)(rows:List (List D))(cap:Option Nat)(i r:D)(wr:Bool)(W:List Nat):Dx (.X0 n) [.sl sz rows cap,i] r wr W=Am []:=rfl
theorem Te(n g v lo m:Nat)(cap:Option Nat)(i r:D)(wr:Bool)(W:List Nat):Dx (.X0 n) [.msl g v lo m cap,i] r wr W=Am [g]:=rfl
theorem fp_call(f:FuncId)(ds:List D)(r:D)(wr:Bool)(W:List Nat):Dx (.call f) ds r wr W=(if wr then ⟨true,none,some W,true,none⟩ else Ba false):=rfl
theorem fp_callv(ds:List D)(r:D)(wr:Bool)(W:List Nat):Dx .callv ds r wr W=(if wr then ⟨true,none,some W,true,none⟩ else Ba false):=rfl
theorem fp_append(e sz b k:Nat)(s x r:D)(wr:Bool)(W:List Nat):Dx (.append e sz b k) [s,x] r wr W=Bv s x r wr:=rfl
theorem fp_bslice(e sz n:Nat)(z:List D)(ps:List Nat)(k:Nat)(ds:List D)(r:D)(wr:Bool)(W:List Nat):Dx (.Xz e sz n z ps k) ds r wr W=if k=0||ds.all Xo then Cq r wr else Ba wr:=rfl
theorem fp_store(sz g v i o:Nat)(x r:D)(wr:Bool)(W:List Nat):Dx (.store sz) [.ptr g v i o,x] r wr W=⟨true,some (g::refV x),some [g],false,none⟩:=rfl
theorem fp_box(e sz:Nat)(ds:List D)(g v i o:Nat)(wr:Bool)(W:List Nat):Dx (.box e sz) ds (.ptr g v i o) wr W=⟨true,some [],some [g],true,none⟩:=rfl
theorem fp_alloc(e:Nat)(z ds:List D)(r:D)(wr:Bool)(W:List Nat):Dx (.alloc e z) ds r wr W=Ba wr:=rfl
theorem fp_bstr(ds:List D)(r:D)(wr:Bool)(W:List Nat):Dx .bstr ds r wr W=Ba wr:=rfl
theorem fp_strb(ds:List D)(r:D)(wr:Bool)(W:List Nat):Dx .strb ds r wr W=Am []:=rfl
theorem Vx(n sz:Nat)(rows:List (List D))(cap:Option Nat)(a b c:Bool)(ds:List D)(r:D)(wr:Bool)(W:List Nat):Dx (.slice false n a b c) (.sl sz rows cap::ds) r wr W=Am []:=rfl
theorem Tc(n g v lo m:Nat)(cap:Option Nat)(a b c:Bool)(ds:List D)(r:D)(wr:Bool)(W:List Nat):Dx (.slice false n a b c) (.msl g v lo m cap::ds) r wr W=Am [g]:=rfl
theorem fp_mapget(kf:Nat)(z:D)(ok:Bool)(rows:List (List D))(k r:D)(wr:Bool)(W:List Nat):Dx (.mapget kf z ok) [.mp rows,k] r wr W=Am []:=rfl
theorem fp_mkslice(e sz b:Nat)(z:List D)(k:Nat)(ds:List D)(g v lo n:Nat)(c:Option Nat)(wr:Bool)(W:List Nat):Dx (.mkslice e sz b z k) ds (.msl g v lo n c) wr W=⟨true,some [],some [g],true,none⟩:=rfl
theorem fpAll_f:Ba false=⟨true,none,some [],false,none⟩:=rfl
theorem fpAll_t:Ba true=⟨true,none,none,true,none⟩:=rfl
theorem natOf_nat(k:IntKind)(n:Nat):Dj (.int k (n:Int))=some n:=by simp[Dj]
section
variable {call:Aq} {S:St}
end
def AppS (H:List Xh) (lo:Nat) (e:TypeId) (sz:Nat) (rows:List (List D)) (S:St) (x:D):Prop :=
 (rows=[]∧S=⟨H,lo⟩∧x=.X4)∨∃v,S=⟨H++[⟨e,sz,rows,v,1,true⟩],lo⟩∧x=.msl H.length v 0 rows.length none
theorem AppS.nil(H:List Xh)(lo:Nat)(e:TypeId)(sz:Nat):AppS H lo e sz [] ⟨H,lo⟩ .X4:=.inl ⟨rfl,rfl,rfl⟩
theorem AppS.app{H:List Xh}{lo:Nat}{e sz:Nat}{rows:List (List D)}{S:St}{x:D}(h:AppS H lo e sz rows S x)(xU:lo≤H.length)(bytes:Nat){new:List (List D)}{c:Option Nat}(hn:new.isEmpty=false)(hb:(rows.length+new.length)*bytes≤140737488355328) :
  ∃x' S',Bo e sz bytes 1 x (.sl sz new c) S=some (x',S',true)∧AppS H lo e sz (rows++new) S' x':=by
 rcases h with⟨rfl,rfl,rfl⟩ | ⟨v,rfl,rfl⟩
 ·
  refine⟨.msl H.length 0 0 new.length none,newAt ⟨H,lo⟩ ⟨e,sz,new,0,1,true⟩,?_,.inr ⟨0,rfl,by simp⟩⟩;simp only[List.length_nil,Nat.zero_add]at hb;simp[Bo,Av,Bw,hn,hb]
 refine⟨.msl H.length (v+1) 0 (rows.length+new.length) none,⟨H++[⟨e,sz,rows++new,v+1,1,true⟩],lo⟩,?_,.inr ⟨v+1,rfl,by simp⟩⟩;have hm:min lo H.length=lo:=by omega
 simp[Bo,Av,Bw,rowsOf,hb,setAt,hm]
theorem AppS.len{H:List Xh}{lo:Nat}{e sz:Nat}{rows:List (List D)}{S:St}{x:D}(h:AppS H lo e sz rows S x):Hr false x=some (.int .i64 rows.length):=by
 rcases h with⟨rfl,rfl,rfl⟩ | ⟨v,rfl,rfl⟩<;>rfl
theorem AppS.snap{H:List Xh}{lo:Nat}{e sz:Nat}{rows:List (List D)}{S:St}{x:D}(h:AppS H lo e sz rows S x)(m:Nat):∃y,SlD sz rows y∧Xp m S.heap x=some y:=by
 rcases h with⟨rfl,rfl,rfl⟩ | ⟨v,rfl,rfl⟩
 ·
  exact⟨.X4,.nil sz,rfl⟩
 exact⟨.sl sz rows none,.of _ _ _,by simp[Md,Jm]⟩
theorem run_snap{L:Prg}{N d:Nat}{f:FuncId}{args args':List D}{S:St}(hraw:L.raw f=false)(h:Ah S.heap.length S.heap args=some args')(h':Ah S.heap.length S.heap args'=some args')(hE:L.ext f args=none:=by rfl)(hE':L.ext f args'=none:=by rfl)(yU:f<YB:=by decide)(hM:L.mem f args S=none:=by rfl)(hM':L.mem f args' S=none:=by rfl):Ae L N d f args S=Ae L N d f args' S:=by
 cases d with
 | zero=>rfl
 | succ d =>
  have hy:¬YB≤f:=Nat.not_le.2 yU;simp only[Ae,Dc,if_neg hy,hE,hE',hM,hM',hraw,h,h',Bool.false_eq_true,if_false]
theorem St.eta(S:St):(⟨S.heap,S.low⟩:St)=S:=rfl
theorem tmod_nat(a b:Nat):(a:Int).tmod (b:Int)=((a % b:Nat):Int):=by
 rw[Int.tmod_eq_emod_of_nonneg (by omega)];omega
def Cu (n:Nat):D→D
 | .sl s rows cap=>.sl s (rows.drop n) (cap.map (·-n))
 | d=>d
theorem SlD.drop{sz:Nat}{rows:List (List D)}{x:D}(h:SlD sz rows x)(n:Nat):SlD sz (rows.drop n) (Cu n x):=by
  rcases h with⟨rfl,rfl⟩ | ⟨c,rfl⟩
  · exact .inl ⟨rfl,by simp⟩
  exact .inr ⟨_,rfl⟩
theorem SlD.slice_lo{sz:Nat}{rows:List (List D)}{x:D}(h:SlD sz rows x)(S:St)(k:IntKind){n:Nat}(hn:n≤rows.length):D5 S sz x (some (.int k n)) none none=some (Cu n x):=by
 rcases h with⟨rfl,rfl⟩ | ⟨c,rfl⟩
 ·
  simp at hn;subst hn;simp[D5,Ch,Er,Dj,Cu]
 simp only[D5,ne_eq,not_true_eq_false,if_false,Ch,Er,natOf_nat];simp only[hn,Nat.le_refl,and_self,if_true,Cu];rw[List.take_of_length_le (by simp)]
theorem SlD.slice_1{sz:Nat}{rows:List (List D)}{x:D}(h:SlD sz rows x)(S:St)(hn:1≤rows.length):D5 S sz x (some (.int .i64 1)) none none=some (Cu 1 x):=h.slice_lo S .i64 hn
def Lj:D→D
 | .sl s rows _=>.sl s rows (some rows.length)
 | d=>d
theorem SlD.clip{sz:Nat}{rows:List (List D)}{x:D}(h:SlD sz rows x):SlD sz rows (Lj x):=by
 rcases h with⟨rfl,rfl⟩ | ⟨c,rfl⟩
 ·
  exact .nil _
 exact .of _ _ _
theorem SlD.slice_clip{sz:Nat}{rows:List (List D)}{x:D}(h:SlD sz rows x)(S:St):D5 S sz x none (some (.int .i64 rows.length)) (some (.int .i64 rows.length))=some (Lj x):=by
 rcases h with⟨rfl,rfl⟩ | ⟨c,rfl⟩
 ·
  simp[D5,Ch,Er,Dj,Lj]
 simp[D5,Ch,Er,natOf_nat,Lj]
theorem SlD.fps{sz:Nat}{rows:List (List D)}{x:D}(h:SlD sz rows x)(n:Nat)(a b c:Bool)(ds:List D)(r:D)(wr:Bool)(W:List Nat):Dx (.slice false n a b c) (x::ds) r wr W=Am []:=by
 rcases h with⟨rfl,rfl⟩ | ⟨c,rfl⟩<;>rfl
abbrev qo (l:LOp) (a:List Xk):Xj:=⟨l,a,none,[],none⟩
abbrev qg (l:LOp) (a:List Xk) (d:Nat) (b:Bool):Xj:=⟨l,a,some (d,b),[],none⟩
abbrev qw (l:LOp) (a:List Xk) (n k:Nat):Xj:=⟨l,a,none,ob n k,none⟩
abbrev qh (l:LOp) (a:List Xk) (d:Nat) (b:Bool) (n k:Nat):Xj:=⟨l,a,some (d,b),ob n k,none⟩
theorem zr:(type_of% @faddrD_ptr)∧(type_of% @V9):=⟨@faddrD_ptr,@V9⟩
theorem SlD.q5{sz:Nat}{rows:List (List D)}{x:D}(h:SlD sz rows x):x.Xv=true∧x.val=true∧x.cells=[x]∧Hr false x=some (.int .i64 rows.length)∧Ay x=true:=⟨h.Xv,h.val,h.cells,h.len,h.plain⟩
end Go.Proofs.YtlhdliikahebhaaGreatDoor
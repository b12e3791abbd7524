/- Proved here: what functions compute in an abstract machine; no condition. -/
import Derived.Test.YtlhdliikahebhaaGreatDoorM9
namespace Go.Proofs.YtlhdliikahebhaaGreatDoor
set_option linter.unusedSimpArgs false
set_option linter.unusedVariables false
set_option maxRecDepth 100000
set_option maxHeartbeats 4000000
def FL (H:List Xh) (gs:Nat) (x:D) (rows:List (List D)):Prop:=(x=.X4∧rows=[])∨∃vs,x=.msl gs vs 0 rows.length none∧H[gs]?=some ⟨125,16,rows,vs,0,true⟩
theorem FL.len{H:List Xh}{gs:Nat}{x:D}{rows:List (List D)}(h:FL H gs x rows):Hr false x=some (.int .i64 (rows.length:Nat)):=by
 rcases h with⟨rfl,rfl⟩ | ⟨vs,rfl,_⟩<;>rfl
def tokT (f:FM):List (Nat × ByteArray):=(if f.lo then [(1,Jh),(1,Sw),(1,kNUM),(1,kIS),(2,Fu f.line),(1,kCOL),(1,kIS),(2,Fu f.column)] else [(1,Sw),(2,Fu f.line),(1,Ji),(2,Fu f.column)])++tailL f
theorem Wv(f:FM):J2 f=(2,Fu 5)::tokT f:=rfl
theorem FL.app{H Z:List Xh}{gs g m:Nat}{x:D}{rows:List (List D)}{row:List D}(h:FL H gs x rows)(hgs:g<gs)(hm:Z.length=m+1)(hr:Z[m]?=some (FO row))(hgm:gs<m∨x=.X4)(hZ:∀vs,H[gs]?=some ⟨125,16,rows,vs,0,true⟩→x≠.X4→Z[gs]?=some ⟨125,16,rows,vs,0,true⟩)(hl:rows.length<256) :
  ∃x' HY gs' rd wt cr,Bo 125 16 128 0 x (.msl m 0 0 1 none) ⟨Z,g⟩=some (x',⟨HY,g⟩,true)∧x'.val=true∧Xo x'=false∧x'.cells=[x']∧Bv x (.msl m 0 0 1 none) x' true=⟨true,some rd,some wt,cr,none⟩∧FL HY gs' x' (rows++[row])∧(gs'=gs∨gs'=Z.length)∧Z.length≤HY.length∧∀k,k<Z.length→(k≠gs∨x=.X4)→HY[k]?=Z[k]?:=by
 have zM:Da ⟨Z,g⟩ 16 (.msl m 0 0 1 none)=some [row]:=by simp[Da,rowsOf,hr,FO]
 rcases h with⟨rfl,rfl⟩ | ⟨vs,rfl,ho⟩
 ·
  refine⟨.msl Z.length 0 0 1 none,Z++[⟨125,16,[row],0,0,true⟩],Z.length,[m],[Z.length],true,?_,rfl,rfl,rfl,?_,.inr ⟨0,rfl,by simp⟩,.inr rfl,by simp,fun k hk _=>Bj hk⟩
  ·
   simp[Bo,zM,Av,newAt]
  simp[Bv,Cc]
 have hz:=hZ vs ho (by simp);have xJ:=Aj hz;refine⟨.msl gs (vs+1) 0 (rows.length+1) none,Z.set gs ⟨125,16,rows++[row],vs+1,0,true⟩,gs,[gs,m],[gs],false,?_,rfl,rfl,rfl,?_,.inr ⟨vs+1,by simp,by rw[Et xJ]⟩,.inl rfl,by simp,fun k hk hn=>?_⟩
 ·
  have hb:(rows.length+1)*128≤140737488355328:=by omega
  have xM:min g gs=g:=by omega
  simp[Bo,zM,Av,rowsOf,hz,setAt,hb,xM]
 ·
  simp[Bv,Cc]
 rcases hn with hn | hn
 ·
  rw[Ln_ (Ne.symm hn)]
 cases hn
theorem Ur(f:FM)(p:Nat){d:Nat}(hd:2≤d)(S:St):Ae LP NN d 101 [.agg (Gs f p)] S=some (.bool true,S,false):=by
 unfold Gs row2;split
 ·
  exact fits_run hd S f false 1 (.of _ _ _) (.nil 5)
 exact fits_run hd S f f.nu f.kind (.nil 1) (.of _ _ _)
theorem field_run{d:Nat}(hd:18≤d){H:List Xh}{g go gs a c m v l0 c0:Nat}{f:FM}{lx x:D}{rs rows:List (List D)}{nm:ByteArray}(hgo:g<go)(hgs:g<gs)(xA:gs≠go)(qY:rs.length<100)(xE:rows.length<256)
  (hH:H[g]?=some (PO lx a c (.msl go v 0 (rs.length+1) none))) (hO:H[go]?=some (GO rs nm x l0 c0 v)) (hF:FL H gs x rows) (hL:SlD 5 (Eo m (tokT f)) lx) :
  ∃H' lx' x' gs' p,(∀lo,Ae LP NN d 112 [.ptr g 0 0 0] ⟨H,lo⟩=some (.tup [],⟨H',min lo g⟩,true))∧H'[g]?=some (PO lx' a c (.msl go v 0 (rs.length+1) none))∧H'[go]?=some (GO rs nm x' l0 c0 v)∧FL H' gs' x' (rows++[Gs f p])∧(gs'=gs∨H.length≤gs')∧H.length≤H'.length∧∀k,k<H.length→k≠g→k≠go→(k≠gs∨x=.X4)→H'[k]?=H[k]?:=by
 have xJ:=Aj hH;have zR:=Aj hO;have hk:=f.kind_le;have hln:=f.line_le;have hcn:=f.column_le;have qX:=f.size_le;have xM:min H.length g=g:=by omega
 -- FILLER
 have q:∃H1 lx1 lo1 w1 m1,Ae LP NN (d-1) 182 [.ptr g 0 0 0,.sl 1 [[.str Jh]] (some 1)] ⟨H,H.length⟩=some (.bool f.lo,⟨H1,lo1⟩,w1)∧min lo1 g=g∧Upd H H1 g (PO lx1 a c (.msl go v 0 (rs.length+1) none)) ∧
   SlD 5 (Eo m1 ((1,Sw)::((if f.lo then [(1,kNUM)] else [])++((if f.lo then [(1,kIS)] else [])++(2,Fu f.line)::(1,if f.lo then kCOL else Ji)::((if false then [(1,kNUM)] else [])++((if f.lo then [(1,kIS)] else [])++(2,Fu f.column)::tailL f)))))) lx1:=by
  unfold tokT at hL
  cases xU:f.lo with
  | true =>
   simp only[xU,if_true]at hL;have s:=skip_hit (d:=d-1) (texts:=[Jh]) (tx:=.sl 1 [[.str Jh]] (some 1)) (by omega) hH (Ey hL) (.of _ _ _) (by simp) (by simp[isB]) H.length;rw[xM]at s;exact⟨_,_,_,_,_,s,Nat.min_self g,by have:=Upd.of xJ (PO (Cu 1 lx) a c (.msl go v 0 (rs.length+1) none)) [];rwa [List.append_nil]at this,Gj hL⟩
  | false =>
   simp only[xU,if_false,Bool.false_eq_true]at hL;exact⟨_,_,_,_,_,Ue (d:=d-1) (texts:=[Jh]) (tx:=.sl 1 [[.str Jh]] (some 1)) (by omega) hH (Ey hL) (.of _ _ _) (by simp) (by decide +kernel) H.length,xM,Upd.refl hH,hL⟩
 obtain⟨H1,lx1,lo1,w1,m1,r1,rE,u1,s1⟩:=q;have r9:=u1.len
 -- the places
 have zP:(H1++[FO row0])[g]?=some (PO lx1 a c (.msl go v 0 (rs.length+1) none)):=by rw[Bj (Aj u1.at_)];exact u1.at_
 obtain⟨H2,lx2,m2,r2,u2,s2⟩:=place_run (d:=d-1) (tx:=.sl 1 [[.str Sw]] (some 1)) (texts:=[Sw]) (by omega) f.lo f.lo (by omega) zP (.of _ _ _) (by simp) (by simp[isB]) s1;have hw:isB 1 1 (if f.lo then kCOL else Ji) [Ji,kCOL]=true:=by cases f.lo<;>decide +kernel
 obtain⟨H3,lx3,m3,r3,u3,s3⟩:=place_run (d:=d-1) (tx:=.sl 1 [[.str Ji],[.str kCOL]] (some 2)) (texts:=[Ji,kCOL]) (by omega) false f.lo (by omega) u2.at_ (.of _ _ _) (by simp) hw s2;have hN1:(H1++[FO row0])[H1.length]?=some (FO row0):=by simp
 have wJ:=u2.lt (k:=H1.length) (by omega) hN1;have uh:=u3.lt (k:=H1.length) (by omega) wJ;have wu:=u2.len;have rW:=u3.len;rw[Ll_,List.length_cons,List.length_nil]at wu;have u123:=u2.trans u3
 -- the value
 have hg3:(H3.set H1.length (FO (row1 f)))[g]?=some (PO lx3 a c (.msl go v 0 (rs.length+1) none)):=by rw[Ln_ (by omega)];exact u3.at_
 obtain⟨H4,lx4,p,q,r4,u4,s4⟩:=value_run (d:=d-1) (by omega) f (gf:=H1.length) (by omega) hg3 (Et (Aj uh) _) s3;have hl4:=u4.len;rw[List.length_set]at hl4
 have keep:∀k,k<H.length→k≠g→H4[k]?=H[k]?:=fun k hk hn=>by
  rw[u4.ne k (by rw[List.length_set];omega) hn (by omega),Ln_ (by omega),u123.ne k (by rw[Ll_];omega) hn,Bj (by omega),u1.ne k hk hn]
 have h4o:H4[go]?=some (GO rs nm x l0 c0 v):=(keep go zR (by omega)).trans hO;have wE:=hF.len;have uw:decide (((rows.length:Nat):Int)≥256)=false:=decide_eq_false (by omega)
 have hgsl:gs<H.length∨x=.X4:=by
  rcases hF with⟨h,_⟩ | ⟨vs,_,h⟩
  ·
   exact .inr h
  exact .inl (Aj h)
 have fin:∀(Z:List Xh) (mm:Nat),Z.length=mm+1→Z[mm]?=some (FO (Gs f p))→H.length<mm→(∀k,k<H.length→k≠g→Z[k]?=H[k]?)→Z[g]?=some (PO lx4 a c (.msl go v 0 (rs.length+1) none)) →
   (∀x' HY rd wt cr,Bo 125 16 128 0 x (.msl mm 0 0 1 none) ⟨Z,g⟩=some (x',⟨HY,g⟩,true)→x'.val=true→Xo x'=false→x'.cells=[x']→Bv x (.msl mm 0 0 1 none) x' true=⟨true,some rd,some wt,cr,none⟩→HY[go]?=some (GO rs nm x l0 c0 v)→∀lo,Ae LP NN d 112 [.ptr g 0 0 0] ⟨H,lo⟩=some (.tup [],⟨HY.set go (GO rs nm x' l0 c0 v),min lo g⟩,true)) →
   ∃H' lx' x' gs' p,(∀lo,Ae LP NN d 112 [.ptr g 0 0 0] ⟨H,lo⟩=some (.tup [],⟨H',min lo g⟩,true))∧H'[g]?=some (PO lx' a c (.msl go v 0 (rs.length+1) none))∧H'[go]?=some (GO rs nm x' l0 c0 v)∧FL H' gs' x' (rows++[Gs f p])∧(gs'=gs∨H.length≤gs')∧H.length≤H'.length∧∀k,k<H.length→k≠g→k≠go→(k≠gs∨x=.X4)→H'[k]?=H[k]?:=by
  intro Z mm hZl hZr hmm hZk hZg xu
  obtain⟨x',HY,gs',rd,wt,cr,ha,hv,hp,hc,hf,hFL,kS,xg,hkeep⟩:=hF.app (Z:=Z) (g:=g) hgs hZl hZr (hgsl.imp (by omega) id) (fun vs h hn=>by
   rcases hgsl with h1 | h1
   ·
    rw[hZk gs h1 (by omega)];exact h
   exact absurd h1 hn) xE
  have hYo:HY[go]?=some (GO rs nm x l0 c0 v):=by
   rw[hkeep go (by omega) (.inl (Ne.symm xA)),hZk go zR (by omega)];exact hO
  have hYg:HY[g]?=some (PO lx4 a c (.msl go v 0 (rs.length+1) none)):=by
   rw[hkeep g (by omega) (.inl (by omega))];exact hZg
  refine⟨_,lx4,x',gs',p,xu x' HY rd wt cr ha hv hp hc hf hYo,by rw[Ln_ (by omega)];exact hYg,Et (Aj hYo) _,?_,?_,by rw[List.length_set];omega,fun k hk h1 h2 h3=>?_⟩
  ·
   rcases hFL with h | ⟨vs,h1,h2⟩
   ·
    exact .inl h
   refine .inr ⟨vs,h1,?_⟩;rw[Ln_ ?_];exact h2;rcases kS with e | e<;>rw[e]
   ·
    exact Ne.symm xA
   omega
  ·
   rcases kS with e | e
   ·
    exact .inl e
   exact .inr (by omega)
  rw[Ln_ (Ne.symm h2),hkeep k (by omega) h3,hZk k hk h1]
 by_cases y7:f.kind=1
 ·
  have e3:Gs f p=[.int .i64 (f.line:Nat),.int .i64 (f.column:Nat),.int .u8 1,.sl 1 (byteRows f.text) none]++shpR false f.size++[.X4]:=(if_pos y7).trans (if_pos y7);have e2:row2 f p=[.int .i64 (f.line:Nat),.int .i64 (f.column:Nat),.int .u8 1,.sl 1 (byteRows f.text) none]++shpR false f.size++[.X4]:=if_pos y7;have vS:=u4.at2;rw[e2]at vS;simp only[y7,if_true]at r4;refine fin (H4++[K4,FO (Gs f p)]) (H4.length+1) (by simp) (Bd H4 _ 1) (by omega) (fun k hk hn=>by rw[Bj (by omega)];exact keep k hk hn) (by rw[Bj (Aj u4.at1)];exact u4.at1) (fun x' HY rd wt cr ha hv hp hc hf hYo lo=>?_);rw[e3]at ha;exact field_lit hd hgo (by omega) xJ qY rE (fun d' e=>by subst e;exact r1) (fun d' e=>by subst e;exact r2) (fun d' e=>by subst e;exact r3) wJ uh (fun d' e=>by subst e;exact r4) u4.at1 s4 vS h4o (fun d' e S=>by rw[←e3];exact Ur f p (by omega) S) wE uw ha hv hp hc hf hYo lo
 have e3:Gs f p=[.int .i64 (f.line:Nat),.int .i64 (f.column:Nat),.int .u8 (f.kind:Nat),.X4]++shpR f.nu f.size++[.sl 5 [tkR 1 ⟨#[78]⟩ p 12] (some 1)]:=if_neg y7;have e2:row2 f p=[.int .i64 (f.line:Nat),.int .i64 (f.column:Nat),.int .u8 (f.kind:Nat),.X4]++shp0++[.sl 5 [tkR 1 ⟨#[78]⟩ p 12] (some 1)]:=if_neg y7;have vS:=u4.at2;rw[e2]at vS;simp only[y7,if_false]at r4;have hlf:=Aj vS;refine fin (H4.set H1.length (FO (Gs f p))++[tkO 4 f.pic q 12,⟨101,11,[shpR f.nu f.size],0,0,false⟩,FO (Gs f p)]) (H4.length+2) (by simp) (by have e:=Bd (H4.set H1.length (FO (Gs f p))) [tkO 4 f.pic q 12,⟨101,11,[shpR f.nu f.size],0,0,false⟩,FO (Gs f p)] 2;rw[List.length_set]at e;exact e) (by omega) (fun k hk hn=>by rw[Qc (by omega) (by omega)];exact keep k hk hn) (by rw[Qc (Aj u4.at1) (by omega)];exact u4.at1) (fun x' HY rd wt cr ha hv hp hc hf hYo lo=>?_);rw[e3]at ha;exact field_pic hd hgo (by omega) xJ qY rE (fun d' e=>by subst e;exact r1) (fun d' e=>by subst e;exact r2) (fun d' e=>by subst e;exact r3) wJ uh y7 (fun d' e=>by subst e;exact r4) u4.at1 s4 vS h4o (fun d' e S=>by rw[←e3];exact Ur f p (by omega) S) wE uw ha hv hp hc hf hYo lo
theorem loopN_mono{f:List D→St→Option (Xm × List D × St)}:∀{k:Nat} {env:List D} {S:St} {r:Xm × List D × St},Gi f k env S=some r→Gi f (k+1) env S=some r
 | 0,env,S,r,h=>by simp[Gi]at h
 | k + 1, env, S, r, h => by
  rw[Gi]at h ⊢
  cases e:f env S with
  | none=>rw[e]at h;simp at h
  | some x =>
   obtain⟨ex,env1,S1⟩:=x;rw[e]at h
   cases ex with
   | normal=>exact loopN_mono h
   | ret=>exact h
   | exit i=>exact h
def CL (call:Aq) (k:Nat) (c:Xl) (Q:Xm→List D→St→Prop) (env:List D) (S:St):Prop:=∃e env' S',(∀is,Gi (Bc call is NN c) k env S=some (e,env',S'))∧Q e env' S'
theorem loopN_le{f:List D→St→Option (Xm × List D × St)}{k:Nat}{env:List D}{S:St}{r:Xm × List D × St}(h:Gi f k env S=some r)(j:Nat):Gi f (k+j) env S=some r:=by
 induction j with
 | zero=>exact h
 | succ j ih=>exact loopN_mono ih
section
variable {call:Aq} {Q:Xm→List D→St→Prop} {env env':List D} {S:St} {c:Xl} {k:Nat}
def LuK (call:Aq) (k:Nat) (c:Xl) (Q:Xm→List D→St→Prop):Xm→List D→St→Prop
 | .normal,env,S=>CL call k c Q env S
 | e,env,S=>Q e env S
theorem Wp(h:env=env')(h2:CL call k c Q env' S):LuK call k c Q .normal env S:=by subst h;exact h2
theorem lu_r(h:Q .ret env S):LuK call k c Q .ret env S:=h
theorem lu_e{i:Nat}(h:Q (.exit i) env S):LuK call k c Q (.exit i) env S:=h
theorem Dt(h:CW call c (LuK call k c Q) env S):CL call (k+1) c Q env S:=by
 obtain⟨e,env',S',h1,h2⟩:=h
 cases e with
 | normal =>
  obtain⟨e2,env2,S2,h3,h4⟩:=h2;exact⟨e2,env2,S2,fun is=>by simp only[Gi,h1];exact h3 is,h4⟩
 | ret=>exact⟨.ret,env',S',fun is=>by simp only[Gi,h1],h2⟩
 | exit i=>exact⟨.exit i,env',S',fun is=>by simp only[Gi,h1],h2⟩
theorem Gq(h:CL call 1000 c Q env S):CW call (.loop c) Q env S:=by
 obtain⟨e,env',S',h1,h2⟩:=h;refine⟨e,env',S',fun is=>?_,h2⟩;simp only[Bc];have:=loopN_le (h1 is) (18446744073709551616-1000);exact this
end
def CutK (I:List D→St→Prop):Xm→List D→St→Prop
 | .normal,env,S=>I env S
 | _,_,_=>False
theorem U2{I:List D→St→Prop}{env env':List D}{S:St}(h:env=env')(h2:I env' S):CutK I .normal env S:=by subst h;exact h2
theorem Ry{call:Aq}{Q:Xm→List D→St→Prop}{env:List D}{S:St}{a b:Xl}(I:List D→St→Prop)(h1:CW call a (CutK I) env S)(h2:∀env S,I env S→CW call b Q env S):CW call (.seq a b) Q env S:=by
 refine cw_seq (cw_mono h1 ?_);intro e env' S' h
 cases e with
 | normal=>exact h2 env' S' h
 | ret=>exact h.elim
 | exit i=>exact h.elim
theorem cw_dfr{call:Aq}{Q:Xm→List D→St→Prop}{env env':List D}{S:St}{x:Xk}{f:FuncId}{caps:List D}(hc:opd [] env x=.fn f caps)(he:env++[.fn f caps]=env')(h:Q .normal env' S):CW call (.dfr x) Q env S:=by
 subst he;exact⟨_,_,_,fun is=>by simp only[Bc,hc],h⟩
def FinKD (L:Prg) (d:Nat) (f:FuncId) (F:Xi) (S:St) (x:D × St × Bool):Xm→List D→St→Prop
 | .exit _,_,_=>False
 | _,env',S1=>(env'.drop F.slots.length).all Pk=false∧∃S2,Lu L.dfn (Ae L NN d) (insF L NN d) NN (env'.drop F.slots.length).reverse S1=some S2∧∃r0,Ce env' S2 F.res=some r0∧leave (L.raw f) S r0 S2=some x
theorem run_atD_ex{L:Prg}{d:Nat}{f:FuncId}{F:Xi}{args args' env0:List D}{S:St}{P:D × St × Bool→Prop}(hF:L.fns f=some F)(ha:(if L.raw f then some args else Ah S.heap.length S.heap args)=some args')(hl:args'.length=F.nargs)(hp:(L.pure f&&args'.all D.Xq)=false)(he:(F.slots.map fun s=>args'.getD s .undef)=env0)(hd:0<d)
  (hb:∀d',d=d'+1→CW (Ae L NN d') F.body (fun e env' S1=>∃x,P x∧FinKD L d' f F S x e env' S1) env0 ⟨S.heap,S.heap.length⟩) (rO:L.deep f=false:=by rfl) (hE:L.ext f args=none:=by rfl) (zH:L.dfs f=true:=by rfl) (yU:f<YB:=by decide) (hM:L.mem f args S=none:=by rfl):∃x,P x∧Ae L NN d f args S=some x:=by
 subst he;obtain⟨d',rfl⟩:∃d',d=d'+1:=⟨d-1,by omega⟩;obtain⟨e,env',S1,h1,x,hP,h2⟩:=hb d' rfl;refine⟨x,hP,?_⟩;have h1:=h1 (insF L NN d');have hy:¬YB≤f:=Nat.not_le.2 yU;simp only[Ae]at h1
 delta insF at h1
 simp only[Ae,Dc,behind,if_neg hy,hM,zH,hE,hF,ha,hl,hp,ne_eq,not_true_eq_false,if_false,if_true,Bool.false_eq_true,h1,rO]
 cases e with
 | exit i=>exact h2.elim
 | normal =>
  obtain⟨hj,S2,h3,r0,h4,h5⟩:=h2;simp only[Ae]at h3
  delta insF at h3
  simp only[behind,zH,if_true,hj,Bool.false_eq_true,if_false,h3,h4];exact h5
 | ret =>
  obtain⟨hj,S2,h3,r0,h4,h5⟩:=h2;simp only[Ae]at h3
  delta insF at h3
  simp only[behind,zH,if_true,hj,Bool.false_eq_true,if_false,h3,h4];exact h5
theorem Kc{L:Prg}{d:Nat}{f:FuncId}{F:Xi}{args args' env0:List D}{S:St}{P:D × St × Bool→Prop}(hF:L.fns f=some F)(ha:(if L.raw f then some args else Ah S.heap.length S.heap args)=some args')(hl:args'.length=F.nargs)(hp:(L.pure f&&args'.all D.Xq)=false)(he:(F.slots.map fun s=>args'.getD s .undef)=env0)(hd:0<d)
  (hb:∀d',d=d'+1→CW (Ae L NN d') F.body (fun e env' S1=>∃x,P x∧FinK L f F S x e env' S1) env0 ⟨S.heap,S.heap.length⟩) (rO:L.deep f=false:=by rfl) (hE:L.ext f args=none:=by rfl) (zH:L.dfs f=false:=by rfl) (yU:f<YB:=by decide) (hM:L.mem f args S=none:=by rfl):∃x,P x∧Ae L NN d f args S=some x:=by
 obtain⟨d',rfl⟩:∃d',d=d'+1:=⟨d-1,by omega⟩;obtain⟨e,env',S1,h1,x,hP,h2⟩:=hb d' rfl;refine⟨x,hP,Ho hF ha hl hp he (by omega) (fun d'' e'=>?_) rO hE zH yU hM⟩;obtain rfl:d'=d'':=by omega
 subst he;exact⟨e,env',S1,h1,h2⟩
def nmO (nm:ByteArray):Xh:=⟨9,1,[[.str nm]],0,0,false⟩
theorem FL.cell{H:List Xh}{gs:Nat}{x:D}{rows:List (List D)}(h:FL H gs x rows):x.Xv=true:=by
 rcases h with⟨rfl,rfl⟩ | ⟨vs,rfl,_⟩<;>rfl
theorem FL.snap{H:List Xh}{gs:Nat}{x:D}{rows:List (List D)}(h:FL H gs x rows)(m:Nat)(l:List Xh):snap m (H++l) x=some x:=by
 rcases h with⟨rfl,rfl⟩ | ⟨vs,rfl,ho⟩
 ·
  rfl
 rw[Jm,Bj (Aj ho),ho];simp
theorem find37{d:Nat}(hd:1≤d){H:List Xh}{r:Nat}{x:D}{nm nm':ByteArray}{l c:Nat}(hR:H[r]?=some (nmO nm))(hx:snap H.length H x=some x)(hc:x.Xv=true)(lo:Nat) :
  Ae LP NN d 95 [.agg [.str nm',x,.int .i64 (l:Nat),.int .i64 (c:Nat)],.ptr r 0 0 0] ⟨H,lo⟩=some (.bool (nm'.toList==nm.toList),⟨H,lo⟩,false):=by
 have yI:=Aj hR;simp only[nmO]at hR;have zz:=aI hR (aI (fun l=>@Bj _ l _ yI) (aI hc hx));refine raz (hb:=?_);rintro d rfl;refine g16 (q:=?_);refine⟨_,by simp only[F95,P95,mkP,Ce,En,I5,zg,zd,rowsOf,Ci,List.take,List.drop,zm,hR]<;>exact rfl,?_⟩;simp[leave,LP,Xt,Xp,snap,D.Xr,D.Xq,D.free,D.Xw,Ah]
theorem find36{d:Nat}(hd:3≤d){H:List Xh}{r go v:Nat}{x:D}{nm nm':ByteArray}{l c:Nat}(hO:H[go]?=some (GO [] nm' x l c v))(hR:H[r]?=some (nmO nm))(hx:snap H.length H x=some x)(hc:x.Xv=true)(xA:(nm'.toList==nm.toList)=false)(lo:Nat) :
  Ae LP NN d 94 [.msl go v 0 1 none,.fn 95 [.ptr r 0 0 0]] ⟨H,lo⟩=some (.int .i64 (-1),⟨H,lo⟩,false):=by
 simp only[GO,List.nil_append]at hO;have zz:=aI hO (aI (show ((0:Nat)=1)=False from by decide) (show ((0:Nat)=2)=False from by decide));refine Ho (F:=F94) rfl (by simp only[LP,Ah,Bl,zs,zm,zv,and_false,or_false,or_self,false_or,ite_false,if_false,Bool.and_false,zz]<;>exact rfl) rfl (by simp only[LP,zf,zm,and_false,or_false,or_self,false_or,ite_false,if_false,Bool.and_false,zz];try rfl) (by simp only[F94,P94,mkP,zv]<;>exact rfl) (by omega) ?_;rintro d rfl;refine g13 (q:=Gl (Gq (Dt (g6 (q:=Dn (by simp only[opd,zv,and_false,or_false,or_self,false_or,ite_false,if_false,Bool.and_false,zz]<;>rfl) (g17 (q:=Aa (by simp only[zo,and_false,or_false,or_self,false_or,ite_false,if_false,Bool.and_false,zz];exact (find37 (by omega) hR hx hc _).trans (congrArg (fun b=>some (D.bool b,_,false)) xA)) (g2 (q:=Au (by simp only[opd,zv,and_false,or_false,or_self,false_or,ite_false,if_false,Bool.and_false,zz]<;>rfl) (g7 (q:=Wp (by simp only[ze]<;>exact rfl) (Dt (g6 (q:=Au (by simp only[opd,zv,and_false,or_false,or_self,false_or,ite_false,if_false,Bool.and_false,zz]<;>rfl) (Jk (sk_e (lu_e (bk_e (sk_n rfl (cw_sr (g4 (q:=fq (h:=?_)))))))))))))))))))))));simp[leave,LP,Xt,Xp,snap,D.Xr,D.Xq,D.free,D.Xw,Ah]
theorem find_one{d:Nat}(hd:5≤d){H:List Xh}{go v gs:Nat}{x:D}{rows:List (List D)}{nm nm':ByteArray}{l c:Nat}(hO:H[go]?=some (GO [] nm' x l c v))(hF:FL H gs x rows)(xA:(nm'.toList==nm.toList)=false)(lo:Nat) :
  Ae LP NN d 40 [.msl go v 0 1 none,.str nm] ⟨H,lo⟩=some (.tup [.int .i64 0,.int .i64 7],⟨H,lo⟩,false):=by
 have zR:=Aj hO;have hO0:=hO;have hc:=hF.cell;have hx:=hF.snap;simp only[GO,List.nil_append]at hO;have zz:=aI hO (aI (fun l=>@Bj _ l _ zR) (aI (show ((0:Nat)=1)=False from by decide) (show ((0:Nat)=2)=False from by decide)));refine Ho (F:=F40) rfl (by simp only[LP,Ah,Bl,zs,zm,zv,and_false,or_false,or_self,false_or,ite_false,if_false,Bool.and_false,zz]<;>exact rfl) rfl (by simp only[LP,zf,zm,and_false,or_false,or_self,false_or,ite_false,if_false,Bool.and_false,zz];try rfl) (by simp only[F40,P40,mkP,zv]<;>exact rfl) (by omega) ?_;rintro d rfl;refine g11 (q:=Aa (by simp only[zo,and_false,or_false,or_self,false_or,ite_false,if_false,Bool.and_false,zz];exact find36 (by omega) (by rw[Bj zR];exact hO0) (Bf H _) (by rw[Ll_];exact hx _ _) hc xA _) (g10 (q:=Dn (by simp only[opd,zv,and_false,or_false,or_self,false_or,ite_false,if_false,Bool.and_false,zz]<;>rfl) (g8 (q:=fq (h:=?_))))));simp[leave,LP,Xt,Xp,snap,D.Xr,D.Xq,D.free,D.Xw,Ah]
section
variable (d:Nat) (S:St) (s:ByteArray)
theorem find_nil:Bp LP NN (d+5) 40 [.X4,.str s] S=some (.tup [.int .i64 0,.int .i64 7],S,false):=by kernel_rfl
end
theorem find_nils{d:Nat}(hd:5≤d)(S:St)(s:ByteArray):Ae LP NN d 40 [.X4,.str s] S=some (.tup [.int .i64 0,.int .i64 7],S,false):=by
 obtain⟨d,rfl⟩:∃d',d=d'+5:=⟨d-5,by omega⟩;exact fast_ok (find_nil d S s)
def SO (nm:ByteArray) (l c:Nat):Xh:=⟨32,4,[[.str nm,.X4,.int .i64 (l:Nat),.int .i64 (c:Nat)]],0,0,false⟩
theorem read_one{H:List Xh}{g m e:Nat}{row:List D}(h:H[m]?=some ⟨e,4,[row],0,0,false⟩):Da ⟨H,g⟩ 4 (.msl m 0 0 1 none)=some [row]:=by simp[Da,rowsOf,h]
theorem Vh{d:Nat}(hd:6≤d){H H1 HY:List Xh}{g a c n l0 c0:Nat}{ox ox' lx1:D}{nm:ByteArray}{rd wt:List Nat}{cr:Bool}(xJ:g<H.length)
  (h1:∀d',d=d'+1→Ae LP NN d' 178 [.ptr g 0 0 0,.int .u8 1,.X4] ⟨H,H.length⟩=some (.agg (tkR 1 nm l0 c0),⟨H1,g⟩,true)) (h1g:H1[g]?=some (PO lx1 a c ox)) (zi:SlD 5 [] lx1)
  (hwd:∀d',d=d'+1→∀S,Ae LP NN d' 181 [.str nm] S=some (.int .u8 0,S,false))
  (h3:∀d',d=d'+1→Ae LP NN d' 40 [ox,.str nm] ⟨H1++[tkO 1 nm l0 c0],g⟩=some (.tup [.int .i64 0,.int .i64 7],⟨H1++[tkO 1 nm l0 c0],g⟩,false))
  (wE:Hr false ox=some (.int .i64 (n:Nat))) (hx64:decide (((n:Nat):Int)≥64)=false)
  (wm:Bo 32 4 56 0 ox (.msl (H1.length+1) 0 0 1 none) ⟨H1++[tkO 1 nm l0 c0,SO nm a c],g⟩=some (ox',⟨HY,g⟩,true)) (hxv:ox'.val=true) (qG:Xo ox'=false) (vU:ox'.cells=[ox']) (xX:Bv ox (.msl (H1.length+1) 0 0 1 none) ox' true=⟨true,some rd,some wt,cr,none⟩) (hYg:HY[g]?=some (PO lx1 a c ox)) (lo:Nat) :
  Ae LP NN d 111 [.ptr g 0 0 0] ⟨H,lo⟩=some (.tup [],⟨HY.set g (PO lx1 a c ox'),min lo g⟩,true):=by
 have zP:=Aj h1g;have ieq1:¬g=H1.length:=by omega
 have ieq2:¬H1.length=g:=by omega
 have ieq3:¬g=H1.length+1:=by omega
 have ieq4:¬H1.length+1=g:=by omega
 have ieq:=aI ieq1 (aI ieq2 (aI ieq3 ieq4));have wJ:(0:Nat)=0:=rfl;have uh:=wJ;have hw0:=wJ;have uN:min g H1.length=g:=by omega
 have qK:min g (H1.length+1)=g:=by omega
 have hmg3:min g g=g:=by omega
 have wR:¬H.length≤g:=by omega
 have r9:=zi.len;simp only[PO,tkO,tkR,SO]at h1 h1g h3 wm hYg;have zz:=aI (fun l=>@Bj _ l _ zP) (aI (fun l=>@Em _ l _ zP) (aI h1g (aI r9 (aI hw0 (aI wE (aI hx64 (aI @PO.eq_1 (aI @tkR.eq_1 (aI @Bd (aI @Bf (aI @Cb (aI @Ca (aI uN (aI qK (aI hmg3 (aI hYg (aI hxv vU)))))))))))))))));refine raz (hb:=?_);rintro d rfl;refine g5 (q:=Aa (by simp only[zo,Nat.reduceAdd,zz];exact h1 d rfl) (g16 (q:=Au (by simp only[opd,zv,Nat.reduceAdd,zz]<;>rfl) (g7 (q:=Aa (by simp only[zo,Nat.reduceAdd,zz];exact hwd d rfl _) (g3 (q:=Au (by simp only[opd,zv,Nat.reduceAdd,zz]<;>rfl) (g8 (q:=?_)))))))));have zz:=aI xX (aI wJ (aI uh (aI qG zz)));refine Ao (by simp only[zl,zm,zd,Ci,List.take,List.drop,Nat.reduceAdd,zz]<;>exact rfl) (by simp only[Ac,zo,zq,qG,Bool.false_eq_true,if_false]<;>exact rfl) (by first | rfl | (simp[show ob 7 3=[true,true,true] from rfl,Xo,Ay,Ar,Cf,Ap,Bn,djl,djr,djs,Am,Af,Az,Ba,Cq,xX,Cc,ieq];done) | (simp[show ob 7 3=[true,true,true] from rfl,Xo,Ay,Ar,Cf,Ap,Bn,djl,djr,djs,Am,Af,Az,Ba,Cq,xX,Cc,ieq,Ej,Aw,E9,Fq,Ir,wJ,uh,qV,qU];done)) (g2 (q:=Ao (by simp only[zo,Nat.reduceAdd,zz];exact h3 d rfl) (by simp only[Ac,zo,zq,qG,Bool.false_eq_true,if_false]<;>exact rfl) (by first | rfl | (simp[show ob 63 6=[true,true,true,true,true,true] from rfl,Xo,Ay,Ar,Cf,Ap,Bn,djl,djr,djs,Am,Af,Az,Ba,Cq,xX,Cc,ieq];done) | (simp[show ob 63 6=[true,true,true,true,true,true] from rfl,Xo,Ay,Ar,Cf,Ap,Bn,djl,djr,djs,Am,Af,Az,Ba,Cq,xX,Cc,ieq,Ej,Aw,E9,Fq,Ir,wJ,uh,qV,qU];done)) (g13 (q:=Au (by simp only[opd,zv,Nat.reduceAdd,zz]<;>rfl) (g13 (q:=Au (by simp only[opd,zv,Nat.reduceAdd,zz]<;>rfl) (g17 (q:=Kz (by simp only[Al,aop,LOp.loud,lop,if_true,opd,zv];exact wm) (h:=g4 (q:=?_))))))))));simp only[ze];refine fq (h:=?_);simp[leave,LP,Xt,Xp,snap,D.Xr,D.Xq,D.free,D.Xw,wR,Ah,PO]
theorem screen_run1{d:Nat}(hd:16≤d){H:List Xh}{g a c m:Nat}{lx:D}{nm:ByteArray}(hH:H[g]?=some (PO lx a c .X4))(hL:SlD 5 (Eo m [(1,nm)]) lx)(hwd:∀d',14≤d'→∀S,Ae LP NN d' 181 [.str nm] S=some (.int .u8 0,S,false)) :
  ∃H' lx' go,(∀lo,Ae LP NN d 111 [.ptr g 0 0 0] ⟨H,lo⟩=some (.tup [],⟨H',min lo g⟩,true))∧H'[g]?=some (PO lx' a c (.msl go 0 0 1 none))∧H'[go]?=some (GO [] nm .X4 a c 0)∧H.length≤go∧H.length≤H'.length∧∀k,k<H.length→k≠g→H'[k]?=H[k]?:=by
 have xJ:=Aj hH;have xM:min H.length g=g:=by omega
 have r1:=Jl (d:=d-1) (kd:=1) (by omega) hH (Ey hL) (texts:=[]) (.nil 1) (by simp) (Sz 1 _) H.length;rw[xM]at r1;have u:=Upd.of xJ (PO (Cu 1 lx) a c .X4) [tkO 1 nm m 12,tkO 1 nm m 12];generalize hH1:(H.set g (PO (Cu 1 lx) a c .X4)++[tkO 1 nm m 12,tkO 1 nm m 12])=H1 at r1 u;have s1:SlD 5 [] (Cu 1 lx):=Gj hL;have xq:=u.len;have zP:=Aj u.at_
 have wm:Bo 32 4 56 0 .X4 (.msl (H1.length+1) 0 0 1 none) ⟨H1++[tkO 1 nm m 12,SO nm a c],g⟩=some (.msl (H1.length+2) 0 0 1 none,⟨(H1++[tkO 1 nm m 12,SO nm a c])++[GO [] nm .X4 a c 0],g⟩,true):=by
  have hr:(H1++[tkO 1 nm m 12,SO nm a c])[H1.length+1]?=some (SO nm a c):=Bd H1 _ 1;have zM:Da ⟨H1++[tkO 1 nm m 12,SO nm a c],g⟩ 4 (.msl (H1.length+1) 0 0 1 none)=some [[.str nm,.X4,.int .i64 (a:Nat),.int .i64 (c:Nat)]]:=read_one hr;simp[Bo,zM,Av,newAt,GO]
 have hYg:((H1++[tkO 1 nm m 12,SO nm a c])++[GO [] nm .X4 a c 0])[g]?=some (PO (Cu 1 lx) a c .X4):=by rw[Bj (by rw[Ll_];omega),Bj zP];exact u.at_
 refine⟨((H1++[tkO 1 nm m 12,SO nm a c])++[GO [] nm .X4 a c 0]).set g (PO (Cu 1 lx) a c (.msl (H1.length+2) 0 0 1 none)),Cu 1 lx,H1.length+2,fun lo=>?_,Et (Aj hYg) _,?_,by omega,by simp;omega,fun k hk hn=>?_⟩
 ·
  exact Vh (n:=0) (by omega) xJ (fun d' e=>by subst e;exact r1) u.at_ s1 (fun d' e S=>hwd d' (by omega) S) (fun d' e=>find_nils (by omega) _ nm) rfl rfl wm rfl rfl rfl (rd:=[H1.length+1]) (wt:=[H1.length+2]) (cr:=true) (by simp[Bv,Cc]) hYg lo
 ·
  rw[Ln_ (by omega)];simp
 rw[Ln_ (Ne.symm hn),Bj (by rw[Ll_];omega),Bj (by omega)];exact u.ne k hk hn
theorem screen_run2{d:Nat}(hd:16≤d){H:List Xh}{g go gs a c m v l0 c0:Nat}{lx x:D}{nm nm':ByteArray}{rows:List (List D)}(hgo:g<go)(hgs:gs≠g∨x=.X4)(hH:H[g]?=some (PO lx a c (.msl go v 0 1 none)))(hO:H[go]?=some (GO [] nm' x l0 c0 v))(hF:FL H gs x rows)(xA:(nm'.toList==nm.toList)=false)(hL:SlD 5 (Eo m [(1,nm)]) lx)(hwd:∀d',14≤d'→∀S,Ae LP NN d' 181 [.str nm] S=some (.int .u8 0,S,false)) :
  ∃H' lx',(∀lo,Ae LP NN d 111 [.ptr g 0 0 0] ⟨H,lo⟩=some (.tup [],⟨H',min lo g⟩,true))∧H'[g]?=some (PO lx' a c (.msl go (v+1) 0 2 none))∧H'[go]?=some (GO [[.str nm',x,.int .i64 (l0:Nat),.int .i64 (c0:Nat)]] nm .X4 a c (v+1))∧H.length≤H'.length∧∀k,k<H.length→k≠g→k≠go→H'[k]?=H[k]?:=by
 have xJ:=Aj hH;have zR:=Aj hO;have xM:min H.length g=g:=by omega
 have r1:=Jl (d:=d-1) (kd:=1) (by omega) hH (Ey hL) (texts:=[]) (.nil 1) (by simp) (Sz 1 _) H.length;rw[xM]at r1;have u:=Upd.of xJ (PO (Cu 1 lx) a c (.msl go v 0 1 none)) [tkO 1 nm m 12,tkO 1 nm m 12];generalize hH1:(H.set g (PO (Cu 1 lx) a c (.msl go v 0 1 none))++[tkO 1 nm m 12,tkO 1 nm m 12])=H1 at r1 u;have s1:SlD 5 [] (Cu 1 lx):=Gj hL;have xq:=u.len;have zP:=Aj u.at_;have h1o:H1[go]?=some (GO [] nm' x l0 c0 v):=u.lt (by omega) hO
 have hF1:FL H1 gs x rows:=by
  rcases hF with h | ⟨vs,h1,h2⟩
  ·
   exact .inl h
  refine .inr ⟨vs,h1,u.lt ?_ h2⟩;rcases hgs with h | h
  ·
   exact h
  rw[h]at h1;cases h1
 have hF2:FL (H1++[tkO 1 nm m 12]) gs x rows:=by
  rcases hF1 with h | ⟨vs,h1,h2⟩
  ·
   exact .inl h
  exact .inr ⟨vs,h1,by rw[Bj (Aj h2)];exact h2⟩
 have h2o:(H1++[tkO 1 nm m 12,SO nm a c])[go]?=some (GO [] nm' x l0 c0 v):=by rw[Bj (Aj h1o)];exact h1o
 have wm:Bo 32 4 56 0 (.msl go v 0 1 none) (.msl (H1.length+1) 0 0 1 none) ⟨H1++[tkO 1 nm m 12,SO nm a c],g⟩=some (.msl go (v+1) 0 2 none,⟨(H1++[tkO 1 nm m 12,SO nm a c]).set go (GO [[.str nm',x,.int .i64 (l0:Nat),.int .i64 (c0:Nat)]] nm .X4 a c (v+1)),g⟩,true):=by
  have hr:(H1++[tkO 1 nm m 12,SO nm a c])[H1.length+1]?=some (SO nm a c):=Bd H1 _ 1;have zM:Da ⟨H1++[tkO 1 nm m 12,SO nm a c],g⟩ 4 (.msl (H1.length+1) 0 0 1 none)=some [[.str nm,.X4,.int .i64 (a:Nat),.int .i64 (c:Nat)]]:=read_one hr;have uN:min g go=g:=by omega
  simp only[GO]at h2o;simp[Bo,zM,Av,rowsOf,h2o,setAt,GO,uN]
 have hYg:((H1++[tkO 1 nm m 12,SO nm a c]).set go (GO [[.str nm',x,.int .i64 (l0:Nat),.int .i64 (c0:Nat)]] nm .X4 a c (v+1)))[g]?=some (PO (Cu 1 lx) a c (.msl go v 0 1 none)):=by rw[Ln_ (by omega),Bj zP];exact u.at_
 refine⟨((H1++[tkO 1 nm m 12,SO nm a c]).set go (GO [[.str nm',x,.int .i64 (l0:Nat),.int .i64 (c0:Nat)]] nm .X4 a c (v+1))).set g (PO (Cu 1 lx) a c (.msl go (v+1) 0 2 none)),Cu 1 lx,fun lo=>?_,Et (Aj hYg) _,?_,by simp;omega,fun k hk hn qy=>?_⟩
 ·
  exact Vh (n:=1) (by omega) xJ (fun d' e=>by subst e;exact r1) u.at_ s1 (fun d' e S=>hwd d' (by omega) S) (fun d' e=>find_one (by omega) (by rw[Bj (Aj h1o)];exact h1o) hF2 xA g) rfl rfl wm rfl rfl rfl (rd:=[go,H1.length+1]) (wt:=[go]) (cr:=false) (by simp[Bv,Cc]) hYg lo
 ·
  rw[Ln_ (by omega),Et (Aj h2o)]
 rw[Ln_ (Ne.symm hn),Ln_ (Ne.symm qy),Bj (by omega)];exact u.ne k hk hn
theorem entry_scr{d:Nat}(hd:3≤d){H H1 H2:List Xh}{g a0 c0 a c n:Nat}{ox lx0 lx:D}{rows:List (List D)}(hH:H[g]?=some (PO lx0 a0 c0 ox))(hL:SlD 5 rows lx)(hn:n=1)
  (h5:∀d',d=d'+1→Ae LP NN d' 110 [.ptr g 0 0 0] ⟨H.set g (PO lx a c ox)++[⟨30,2,[[.int .i64 (a:Nat),.int .i64 (c:Nat)]],0,0,false⟩],g⟩=some (.int .i64 (n:Nat),⟨H1,g⟩,true))
  (h6:∀d',d=d'+1→Ae LP NN d' 111 [.ptr g 0 0 0] ⟨H1,g⟩=some (.tup [],⟨H2,g⟩,true)) (lo:Nat) :
  Ae LP NN d 55 [.ptr g 0 0 0,lx,.agg [.int .i64 (a:Nat),.int .i64 (c:Nat)]] ⟨H,lo⟩=some (.tup [],⟨H2,min lo g⟩,true):=by
 have xJ:=Aj hH;have ieq1:¬g=H.length:=by omega
 have ieq2:¬H.length=g:=by omega
 have wR:¬H.length≤g:=by omega
 have uN:min H.length g=g:=by omega
 have qK:min g g=g:=by omega
 have hSg:∀l x,(H.set g x++l)[g]?=some x:=fun l x=>by rw[Bj (by simpa using xJ)];exact Et xJ x
 have hSg2:∀l x y,(H.set g x++l).set g y=H.set g y++l:=fun l x y=>by rw[Em (by simpa using xJ),List.set_set]
 have r9:(((n:Nat):Int)==1)=true:=by rw[beq_iff_eq];omega
 have wu:decide (((n:Nat):Int)≥2)=false:=decide_eq_false (by omega);have rW:decide (((n:Nat):Int)≤49)=true:=decide_eq_true (by omega);simp only[PO]at hH h5;have zz:=aI (fun l=>@Bj _ l _ xJ) (aI (fun l=>@Em _ l _ xJ) (aI hH (aI @PO.eq_1 (aI @Bd (aI @Bf (aI hSg (aI hSg2 (aI hL.Xv (aI hL.val (aI hL.cells (aI uN (aI qK (aI r9 (aI wu (aI rW (aI hL.Xp hL.Xq))))))))))))))));refine raz (hb:=?_);rintro d rfl;refine g10 (q:=?_);have zz:=aI hL.Xo zz;refine g4 (q:=?_);have zz:=aI ieq1 (aI ieq2 zz);refine g12 (q:=Aa (by simp only[zo,Bool.and_false,zz];exact h5 d rfl) (g11 (q:=Dn (by simp only[opd,zv,Bool.and_false,zz]<;>rfl) (g2 (q:=Aa (by simp only[zo,Bool.and_false,zz];exact h6 d rfl) (g2 (q:=?_)))))));simp only[ze];refine fq (h:=?_);simp[leave,LP,Xt,Xp,snap,D.Xr,D.Xq,D.free,D.Xw,wR,Ah,PO]
theorem entry_fld{d:Nat}(hd:3≤d){H H1 H2:List Xh}{g a0 c0 a c n:Nat}{ox lx0 lx:D}{rows:List (List D)}(hH:H[g]?=some (PO lx0 a0 c0 ox))(hL:SlD 5 rows lx)(hn:2≤n∧n≤49)
  (h5:∀d',d=d'+1→Ae LP NN d' 110 [.ptr g 0 0 0] ⟨H.set g (PO lx a c ox)++[⟨30,2,[[.int .i64 (a:Nat),.int .i64 (c:Nat)]],0,0,false⟩],g⟩=some (.int .i64 (n:Nat),⟨H1,g⟩,true))
  (h6:∀d',d=d'+1→Ae LP NN d' 112 [.ptr g 0 0 0] ⟨H1,g⟩=some (.tup [],⟨H2,g⟩,true)) (lo:Nat) :
  Ae LP NN d 55 [.ptr g 0 0 0,lx,.agg [.int .i64 (a:Nat),.int .i64 (c:Nat)]] ⟨H,lo⟩=some (.tup [],⟨H2,min lo g⟩,true):=by
 have xJ:=Aj hH;have ieq1:¬g=H.length:=by omega
 have ieq2:¬H.length=g:=by omega
 have wR:¬H.length≤g:=by omega
 have uN:min H.length g=g:=by omega
 have qK:min g g=g:=by omega
 have hSg:∀l x,(H.set g x++l)[g]?=some x:=fun l x=>by rw[Bj (by simpa using xJ)];exact Et xJ x
 have hSg2:∀l x y,(H.set g x++l).set g y=H.set g y++l:=fun l x y=>by rw[Em (by simpa using xJ),List.set_set]
 have r9:(((n:Nat):Int)==1)=false:=by rw[beq_eq_false_iff_ne];omega
 have wu:decide (((n:Nat):Int)≥2)=true:=decide_eq_true (by omega);have rW:decide (((n:Nat):Int)≤49)=true:=decide_eq_true (by omega);simp only[PO]at hH h5;have zz:=aI (fun l=>@Bj _ l _ xJ) (aI (fun l=>@Em _ l _ xJ) (aI hH (aI @PO.eq_1 (aI @Bd (aI @Bf (aI hSg (aI hSg2 (aI hL.Xv (aI hL.val (aI hL.cells (aI uN (aI qK (aI r9 (aI wu (aI rW (aI hL.Xp hL.Xq))))))))))))))));refine raz (hb:=?_);rintro d rfl;refine g10 (q:=?_);have zz:=aI hL.Xo zz;refine g4 (q:=?_);have zz:=aI ieq1 (aI ieq2 zz);refine g12 (q:=Aa (by simp only[zo,Bool.and_false,zz];exact h5 d rfl) (g11 (q:=Au (by simp only[opd,zv,Bool.and_false,zz]<;>rfl) (g5 (q:=Dh 0 (b:=true) (by simp only[opd,zv,Bool.and_false,zz]<;>rfl) (by simp only[zn]<;>exact rfl) (g8 (q:=Dn (by simp only[opd,zv,Bool.and_false,zz]<;>rfl) (g2 (q:=Aa (by simp only[zo,Bool.and_false,zz];exact h6 d rfl) (g2 (q:=?_)))))))))));simp only[ze];refine fq (h:=?_);simp[leave,LP,Xt,Xp,snap,D.Xr,D.Xq,D.free,D.Xw,wR,Ah,PO]
theorem per_run{d:Nat}(hd:2≤d)(S:St)(k l c:Nat)(s:ByteArray):Ae LP NN d 54 [.agg (tkR k s l c)] S=some (.bool ((k:Int)==6),S,false):=by
 have zz:=@tkR.eq_1;refine rpz (hb:=?_);rintro d rfl;refine g15 (q:=fq (h:=?_));simp only[Df,leave,Ah,Bl,zs,zf,zk]
theorem posR_at{m:Nat}{l:List (Nat × ByteArray)}{i:Nat}(h:i<l.length):(Eo m l)[i]?=some (tkR l[i].1 l[i].2 (m+i) 12):=by simp[Eo,List.getElem?_mapIdx,h]
theorem index27_run{d:Nat}(hd:4≤d)(S:St){x:D}{m:Nat}{l:List (Nat × ByteArray)}(hS:SlD 5 (Eo m l) x)(hl:l.length≤1000000) :
  Ae LP NN d 53 [x,.fn 54 []] S=some (.int .i64 (idxI (fun x:Nat × ByteArray=>((x.1:Int)==6)) l),S,false):=by
 have zz:=aI hS.len (aI @Ed (aI hS.Xp hS.Xq));refine rpz (hb:=?_);rintro d rfl;refine g14 (q:=Bq (fun n env S'=>∃(i:Nat) (u3 u6 u7:D),i≤l.length∧n=l.length-i∧((l.take i).any fun x=>((x.1:Int)==6))=false∧S'=⟨[],0⟩∧env=[x,.fn 54 [],.int .i64 0,u3,.int .i64 l.length,.int .i64 i,u6,u7]) (l.length) (by omega) (⟨0,_,_,_,by omega,by omega,by simp,rfl,rfl⟩) ?_);rintro n env S' ⟨i,u3,u6,u7,hi,rfl,vI,rfl,rfl⟩;have h0:(0:Int)≤(i:Int):=by omega
 have zz:=aI h0 zz;refine g6 (q:=Bz (ht:=fun xZ=>?_) (hf:=fun xZ=>?_))
 ·
  have xq:i<l.length:=by have:=of_decide_eq_true xZ;omega
  have hw:=Bu i (by omega);have hx:=Lg xq;have yD:=fun (S:St)=>hS.iaddrN S .i64 (posR_at (m:=m) xq);have zz:=aI hw (aI hx (aI yD (aI @tkR.eq_1 zz)));refine g17 (q:=Aa (by simp only[zo,zz];exact per_run (by omega) _ _ _ _ _) (g2 (q:=Bz (ht:=fun yJ=>?_) (hf:=fun yJ=>?_))))
  ·
   refine g12 (q:=fq (h:=?_));rw[idxI_at (p:=fun x:Nat × ByteArray=>((x.1:Int)==6)) xq yJ vI];rfl
  refine g8 (q:=?_);exact⟨l.length-(i+1),by omega,i+1,_,_,_,by omega,rfl,any_take_succ xq vI yJ,rfl,rfl⟩
 have yK:l.length≤i:=by have:=of_decide_eq_false xZ;omega
 refine g11 (q:=fq (h:=?_));rw[List.take_of_length_le yK]at vI;rw[Un vI];rfl
theorem idxI_app{α:Type}{p:α→Bool}{e L:List α}{t:α}(he:e.any p=false)(ht:p t=true):idxI p (e++t::L)=(e.length:Nat):=by
 refine idxI_at (by simp) (by simp[ht]) (by simp[he])
def takeD (n:Nat):D→D
 | .sl s rows cap=>.sl s (rows.take n) cap
 | x=>x
theorem SlD.take{sz:Nat}{rows:List (List D)}{x:D}(h:SlD sz rows x)(n:Nat):SlD sz (rows.take n) (takeD n x):=by
 rcases h with⟨rfl,rfl⟩ | ⟨c,rfl⟩
 ·
  simp[takeD,SlD.nil]
 exact .of _ _ _
theorem SlD.slice_hi{sz:Nat}{rows:List (List D)}{x:D}(h:SlD sz rows x)(S:St)(k:IntKind){n:Nat}(hn:n≤rows.length):D5 S sz x none (some (.int k n)) none=some (takeD n x):=by
 rcases h with⟨rfl,rfl⟩ | ⟨c,rfl⟩
 ·
  simp only[List.length_nil,Nat.le_zero]at hn;subst hn;simp[D5,Ch,Er,Dj,takeD]
 cases c<;>simp[D5,Ch,Er,Dj,takeD,hn]
theorem posR_take(m n:Nat)(l:List (Nat × ByteArray)):(Eo m l).take n=Eo m (l.take n):=by
 refine List.ext_getElem? fun i=>?_;rw[List.getElem?_take];simp only[Eo,List.getElem?_mapIdx,List.getElem?_take];split<;>rfl
theorem posR_drop(m n:Nat)(l:List (Nat × ByteArray)):(Eo m l).drop n=Eo (m+n) (l.drop n):=by
 refine List.ext_getElem? fun i=>?_;rw[List.getElem?_drop];simp only[Eo,List.getElem?_mapIdx,List.getElem?_drop];cases l[n+i]?<;>simp[Nat.add_assoc]
def RW (l:List FM) (rows:List (List D)):Prop:=∃ps:List Nat,ps.length=l.length∧rows=List.zipWith Gs l ps
theorem RW.nil:RW [] []:=⟨[],rfl,rfl⟩
theorem RW.snoc{l:List FM}{rows:List (List D)}(h:RW l rows)(f:FM)(p:Nat):RW (l++[f]) (rows++[Gs f p]):=by
 obtain⟨ps,h1,rfl⟩:=h;exact⟨ps++[p],by simp[h1],by rw[List.zipWith_append (by omega)];rfl⟩
theorem RW.len{l:List FM}{rows:List (List D)}(h:RW l rows):rows.length=l.length:=by
 obtain⟨ps,h1,rfl⟩:=h;simp[h1]
theorem RW.at_{l:List FM}{rows:List (List D)}(h:RW l rows){i:Nat}(hi:i<l.length):∃p,rows[i]?=some (Gs l[i] p):=by
 obtain⟨ps,h1,rfl⟩:=h;exact⟨ps[i]'(by omega),by simp[h1,hi]⟩
structure P0 (B H:List Xh):Prop where
 o0:H[B.length]?=some ⟨50,1,[[.X4]],0,0,false⟩
 o1:H[B.length+1]?=some ⟨40,3,[[.int .i64 0,.int .i64 0,.int .i64 0]],0,0,false⟩
 fr:∀k,k<B.length→H[k]?=B[k]?
theorem P0.keep{B H H':List Xh}(h:P0 B H)(hk:∀k,k<B.length+2→H'[k]?=H[k]?):P0 B H':=⟨(hk _ (by omega)).trans h.o0,(hk _ (by omega)).trans h.o1,fun k hl=>(hk k (by omega)).trans (h.fr k hl)⟩
def nmA:ByteArray:=⟨#[65]⟩
def nmB:ByteArray:=⟨#[66]⟩
def PA (B H:List Xh) (l:List FM):Prop:=∃lx a c go gs x rows,H[B.length+2]?=some (PO lx a c (.msl go 0 0 1 none))∧H[go]?=some (GO [] nmA x 1 12 0)∧FL H gs x rows∧RW l rows∧B.length+2<go∧B.length+2<gs∧gs≠go
def PB (B H:List Xh) (la l:List FM):Prop:=∃lx a c go ga gs xa x lb ra rows,H[B.length+2]?=some (PO lx a c (.msl go 1 0 2 none))∧H[go]?=some (GO [[.str nmA,xa,.int .i64 ((1:Nat):Int),.int .i64 ((12:Nat):Int)]] nmB x lb 12 1)∧FL H ga xa ra∧FL H gs x rows∧RW la ra∧RW l rows∧B.length+2<go∧B.length+2<ga∧B.length+2<gs∧gs≠go∧ga≠go∧ga≠gs
inductive PI (B:List Xh) (a b:List FM):List (Nat × ByteArray)→List Xh→Prop
 | start {H:List Xh}:P0 B H→H[B.length+2]?=some (PO .X4 0 0 .X4)→PI B a b (Gb a b) H
 | first {H:List Xh} {i:Nat}:P0 B H→i≤a.length→PA B H (a.take i)→PI B a b (Hu (a.drop i)++Ht nmB++Hu b) H
 | second {H:List Xh} {i:Nat}:P0 B H→i≤b.length→PB B H a (b.take i)→PI B a b (Hu (b.drop i)) H
theorem tokL_any(f:FM):(J2 f).any (fun x:Nat × ByteArray=>((x.1:Int)==6))=false:=by
 unfold J2;split<;>split<;>(try split)<;>rfl
theorem Uy(f:FM)(l:List FM):Hu (f::l)=J2 f++Wo::Hu l:=by simp[Hu]
theorem Uz{l:List FM}{i:Nat}(h:i<l.length):l.drop i=l[i]::l.drop (i+1):=List.drop_eq_getElem_cons h
theorem take_e{m:Nat}{e L:List (Nat × ByteArray)}{t:Nat × ByteArray}{x:D}(hx:SlD 5 (Eo m (e++t::L)) x):SlD 5 (Eo m e) (takeD e.length x):=by
 have h:=hx.take e.length;rwa [posR_take,List.take_left']at h;rfl
theorem Qr{d:Nat}(hd:7≤d){H:List Xh}{g m a0 c0 n:Nat}{lx0 lx ox:D}{T:List (Nat × ByteArray)}(hn:n<100)(hH:H[g]?=some (PO lx0 a0 c0 ox))(hL:SlD 5 (Eo m ((2,Fu n)::T)) lx) :
  ∃H1 lx1,Ae LP NN d 110 [.ptr g 0 0 0] ⟨H.set g (PO lx m 12 ox)++[⟨30,2,[[.int .i64 (m:Nat),.int .i64 ((12:Nat):Int)]],0,0,false⟩],g⟩=some (.int .i64 (n:Nat),⟨H1,g⟩,true)∧H1[g]?=some (PO lx1 m 12 ox)∧SlD 5 (Eo (m+1) T) lx1∧H.length≤H1.length∧∀k,k<H.length→k≠g→H1[k]?=H[k]?:=by
 have u1:=Upd.of (Aj hH) (PO lx m 12 ox) [⟨30,2,[[.int .i64 (m:Nat),.int .i64 ((12:Nat):Int)]],0,0,false⟩];have r:=number_at hd hn u1.at_ (Ey hL) g;rw[Nat.min_self]at r;have u:=u1.trans (Upd.of (Aj u1.at_) (PO (Cu 1 lx) m 12 ox) [tkO 2 (Fu n) m 12,tkO 2 (Fu n) m 12,tkO 2 (Fu n) m 12]);exact⟨_,_,r,u.at_,Gj hL,u.len,u.ne⟩
theorem FL.keep{H H':List Xh}{gs:Nat}{x:D}{rows:List (List D)}(h:FL H gs x rows)(hk:gs<H.length→H'[gs]?=H[gs]?):FL H' gs x rows:=by
 rcases h with h | ⟨vs,h1,h2⟩
 ·
  exact .inl h
 exact .inr ⟨vs,h1,(hk (Aj h2)).trans h2⟩
theorem PI_step{d:Nat}(hd:20≤d){a b:List FM}(ha:a.length≤20)(hb:b.length≤20){L:List (Nat × ByteArray)}{B H:List Xh}(h:PI B a b L H)(hL:L≠[]){x:D}{m:Nat}(hm:L=Gb a b→m=1)(hx:SlD 5 (Eo m L) x) :
  ∃e L' H',L=e++Wo::L'∧e.any (fun x:Nat × ByteArray=>((x.1:Int)==6))=false∧Ae LP NN d 55 [.ptr (B.length+2) 0 0 0,takeD e.length x,.agg [.int .i64 (m:Nat),.int .i64 ((12:Nat):Int)]] ⟨H,B.length⟩=some (.tup [],⟨H',B.length⟩,true)∧PI B a b L' H'∧e≠[]:=by
 have xq:∀{H:List Xh},(∃o,H[B.length+2]?=some o)→B.length+2<H.length:=fun ⟨_,h⟩=>Aj h;have xM:min B.length (B.length+2)=B.length:=by omega
 cases h with
 | start h0 h2 =>
  have:=hm rfl;subst this;have eL:Gb a b=[(2,Fu 1),(1,nmA)]++Wo::(Hu a++Ht nmB++Hu b):=by simp[Gb,Ht,nmA,nmB]
  rw[eL]at hx;have se:=take_e hx;obtain⟨H1,lx1,r1,g1,s1,l1,n1⟩:=Qr (d:=d-1) (by omega) (by omega) h2 se;obtain⟨H',lx',go,r2,g2,o2,hgo,l2,n2⟩:=screen_run1 (d:=d-1) (by omega) g1 s1 (fun d' hd' S=>wordA_run (by omega) S);have:=r2 (B.length+2);rw[Nat.min_self]at this;have hw:=xq ⟨_,g1⟩;have h2l:=xq ⟨_,h2⟩;refine⟨_,_,H',eL,rfl,by have:=entry_scr (d:=d) (by omega) h2 se rfl (fun d' e=>by subst e;exact r1) (fun d' e=>by subst e;exact this) B.length;rwa [xM]at this,?_,by simp⟩
  have:=PI.first (B:=B) (a:=a) (b:=b) (i:=0) (h0.keep fun k hk=>by rw[n2 k (by omega) (by omega),n1 k (by omega) (by omega)]) (Nat.zero_le _) ⟨lx',1,12,go,go+1,.X4,[],g2,o2,.inl ⟨rfl,rfl⟩,by rw[List.take_zero];exact .nil,by omega,by omega,by omega⟩
  rwa [List.drop_zero]at this
 | @first _ i h0 hi hA =>
  obtain⟨lx,a0,c0,go,gs,xf,rows,h2,ho,hF,hR,hgo,hgs,xA⟩:=hA;have h2l:=xq ⟨_,h2⟩;have zR:=Aj ho;by_cases yD:i<a.length
  ·
   have eL:Hu (a.drop i)++Ht nmB++Hu b=J2 a[i]++Wo::(Hu (a.drop (i+1))++Ht nmB++Hu b):=by
    rw[Uz yD,Uy];simp
   rw[eL]at hx;have se:=take_e hx;have se':=se;rw[Wv]at se';obtain⟨H1,lx1,r1,g1,s1,l1,n1⟩:=Qr (d:=d-1) (by omega) (by omega) h2 se';have yI:=hR.len;rw[List.length_take]at yI;obtain⟨H',lx',x',gs',p,r2,g2,o2,hF2,uW,l2,n2⟩:=field_run (d:=d-1) (by omega) (rs:=[]) hgo hgs xA (by simp) (by omega) g1 ((n1 go zR (by omega)).trans ho) (hF.keep fun h=>n1 gs h (by omega)) s1;have:=r2 (B.length+2);rw[Nat.min_self]at this;refine⟨_,_,H',eL,tokL_any _,by have:=entry_fld (d:=d) (n:=5) (by omega) h2 se (by omega) (fun d' e=>by subst e;exact r1) (fun d' e=>by subst e;exact this) B.length;rwa [xM]at this,?_,by rw[Wv];simp⟩
   refine PI.first (B:=B) (i:=i+1) (h0.keep fun k hk=>?_) yD ⟨lx',m,12,go,gs',x',rows++[Gs a[i] p],g2,o2,hF2,?_,hgo,?_,?_⟩
   ·
    rw[n2 k (by omega) (by omega) (by omega) (.inl (by omega)),n1 k (by omega) (by omega)]
   ·
    rw[List.take_succ_eq_append_getElem yD];exact hR.snoc _ _
   ·
    rcases uW with e | e<;>omega
   rcases uW with e | e<;>omega
  have hia':i=a.length:=by omega
  subst hia';have eL:Hu (a.drop a.length)++Ht nmB++Hu b=[(2,Fu 1),(1,nmB)]++Wo::Hu b:=by simp[Ht,Hu]
  rw[eL]at hx;have se:=take_e hx;obtain⟨H1,lx1,r1,g1,s1,l1,n1⟩:=Qr (d:=d-1) (by omega) (by omega) h2 se;obtain⟨H',lx',r2,g2,o2,l2,n2⟩:=screen_run2 (d:=d-1) (by omega) hgo (.inl (by omega)) g1 ((n1 go zR (by omega)).trans ho) (hF.keep fun h=>n1 gs h (by omega)) (by decide +kernel) s1 (fun d' hd' S=>wordB_run (by omega) S);have:=r2 (B.length+2);rw[Nat.min_self]at this;refine⟨_,_,H',eL,rfl,by have:=entry_scr (d:=d) (by omega) h2 se rfl (fun d' e=>by subst e;exact r1) (fun d' e=>by subst e;exact this) B.length;rwa [xM]at this,?_,by simp⟩;rw[List.take_length]at hR;have:=PI.second (B:=B) (a:=a) (b:=b) (i:=0) (h0.keep fun k hk=>by rw[n2 k (by omega) (by omega) (by omega),n1 k (by omega) (by omega)]) (Nat.zero_le _) ⟨lx',m,12,go,gs,go+gs+3,xf,.X4,m,rows,[],g2,o2,hF.keep fun h=>by rw[n2 gs (by omega) (by omega) xA,n1 gs h (by omega)],.inl ⟨rfl,rfl⟩,hR,by rw[List.take_zero];exact .nil,hgo,hgs,by omega,by omega,xA,by omega⟩;rwa [List.drop_zero]at this
 | @second _ i h0 hi hB =>
  obtain⟨lx,a0,c0,go,ga,gs,xa,xf,lb,ra,rows,h2,ho,hFa,hF,hRa,hR,hgo,hga,hgs,xA,hnea,wR⟩:=hB;have h2l:=xq ⟨_,h2⟩;have zR:=Aj ho
  have qz:i<b.length:=by
   refine Nat.lt_of_not_le fun h=>hL ?_;rw[List.drop_eq_nil_of_le h];rfl
  have eL:Hu (b.drop i)=J2 b[i]++Wo::Hu (b.drop (i+1)):=by rw[Uz qz,Uy]
  rw[eL]at hx;have se:=take_e hx;have se':=se;rw[Wv]at se';obtain⟨H1,lx1,r1,g1,s1,l1,n1⟩:=Qr (d:=d-1) (by omega) (by omega) h2 se';have yI:=hR.len;rw[List.length_take]at yI;obtain⟨H',lx',x',gs',p,r2,g2,o2,hF2,uW,l2,n2⟩:=field_run (d:=d-1) (by omega) (rs:=[[.str nmA,xa,.int .i64 ((1:Nat):Int),.int .i64 ((12:Nat):Int)]]) hgo hgs xA (by simp) (by omega) g1 ((n1 go zR (by omega)).trans ho) (hF.keep fun h=>n1 gs h (by omega)) s1;have:=r2 (B.length+2);rw[Nat.min_self]at this;refine⟨_,_,H',eL,tokL_any _,by have:=entry_fld (d:=d) (n:=5) (by omega) h2 se (by omega) (fun d' e=>by subst e;exact r1) (fun d' e=>by subst e;exact this) B.length;rwa [xM]at this,?_,by rw[Wv];simp⟩;have hRs:RW (b.take (i+1)) (rows++[Gs b[i] p]):=by rw[List.take_succ_eq_append_getElem qz];exact hR.snoc _ _
  have h0':P0 B H':=h0.keep fun k hk=>by rw[n2 k (by omega) (by omega) (by omega) (.inl (by omega)),n1 k (by omega) (by omega)]
  have kS:B.length+2<gs'∧gs'≠go:=by rcases uW with e | e<;>omega
  rcases hFa with⟨e1,e2⟩ | ⟨vs,e1,e2⟩
  ·
   exact PI.second (B:=B) (i:=i+1) h0' qz ⟨lx',m,12,go,gs'+go+1,gs',xa,x',lb,ra,_,g2,o2,.inl ⟨e1,e2⟩,hF2,hRa,hRs,hgo,by omega,kS.1,kS.2,by omega,by omega⟩
  have hal:=Aj e2;refine PI.second (B:=B) (i:=i+1) h0' qz ⟨lx',m,12,go,ga,gs',xa,x',lb,ra,_,g2,o2,.inr ⟨vs,e1,?_⟩,hF2,hRa,hRs,hgo,hga,kS.1,kS.2,hnea,?_⟩
  ·
   rw[n2 ga (by omega) (by omega) hnea (.inl wR),n1 ga hal (by omega)];exact e2
  rcases uW with e | e<;>omega
def Br:D→D
 | .msl g v lo n _=>.msl g v lo n (some n)
 | x=>x
theorem FL.clip_val{H:List Xh}{gs:Nat}{x:D}{rows:List (List D)}(h:FL H gs x rows):(Br x).val=true∧(Br x).cells=[Br x]:=by
 rcases h with⟨rfl,rfl⟩ | ⟨vs,rfl,_⟩<;>exact⟨rfl,rfl⟩
theorem clip30_nil{d:Nat}(hd:1≤d)(H:List Xh)(lo:Nat):Ae LP NN d 56 [.X4] ⟨H,lo⟩=some (.X4,⟨H,lo⟩,false):=by
 refine raq (hb:=?_);rintro d rfl;refine g17 (q:=fq (h:=?_));simp[leave,LP,Xt,Xp,snap,D.Xr,D.Xq,D.free,D.Xw]
theorem clip30_msl{d:Nat}(hd:1≤d){H:List Xh}{gs vs:Nat}{rows:List (List D)}(h2:H[gs]?=some ⟨125,16,rows,vs,0,true⟩)(lo:Nat):Ae LP NN d 56 [.msl gs vs 0 rows.length none] ⟨H,lo⟩=some (.msl gs vs 0 rows.length (some rows.length),⟨H,lo⟩,false):=by
 have hb:∀(n:Nat),(0:Int)≤(n:Int):=fun n=>by omega
 have zz:=aI h2 (aI hb (aI @Int.toNat_natCast (aI @Nat.sub_zero (aI (show ((0:Nat)=1)=False from by decide) (show ((0:Nat)=2)=False from by decide)))));refine Ho (F:=F56) rfl (by simp only[LP,Ah,Bl,zs,zm,zv,and_false,or_false,or_self,false_or,ite_false,if_false,Bool.and_false,zz]<;>exact rfl) rfl (by simp only[LP,zf,zm,and_false,or_false,or_self,false_or,ite_false,if_false,Bool.and_false,zz];try rfl) (by simp only[F56,P56,mkP,zv]<;>exact rfl) (by omega) ?_;rintro d rfl;refine g17 (q:=fq (h:=?_));simp[leave,LP,Xt,Xp,snap,D.Xr,D.Xq,D.free,D.Xw,h2]
theorem clip30_run{d:Nat}(hd:1≤d){H:List Xh}{gs:Nat}{x:D}{rows:List (List D)}(h:FL H gs x rows)(lo:Nat):Ae LP NN d 56 [x] ⟨H,lo⟩=some (Br x,⟨H,lo⟩,false):=by
 rcases h with⟨rfl,rfl⟩ | ⟨vs,rfl,h2⟩
 ·
  exact clip30_nil hd H lo
 exact clip30_msl hd h2 lo
theorem clip31_run{d:Nat}(hd:1≤d){H:List Xh}{go v:Nat}{rows:List (List D)}(h2:H[go]?=some ⟨32,4,rows,v,0,true⟩)(lo:Nat):Ae LP NN d 57 [.msl go v 0 2 none] ⟨H,lo⟩=some (.msl go v 0 2 (some 2),⟨H,lo⟩,false):=by
 have zz:=aI h2 (aI (show ((0:Nat)=1)=False from by decide) (show ((0:Nat)=2)=False from by decide));refine Ho (F:=F57) rfl (by simp only[LP,Ah,Bl,zs,zm,zv,and_false,or_false,or_self,false_or,ite_false,if_false,Bool.and_false,zz]<;>exact rfl) rfl (by simp only[LP,zf,zm,and_false,or_false,or_self,false_or,ite_false,if_false,Bool.and_false,zz];try rfl) (by simp only[F57,P57,mkP,zv]<;>exact rfl) (by omega) ?_;rintro d rfl;refine g17 (q:=fq (h:=?_));simp[leave,LP,Xt,Xp,snap,D.Xr,D.Xq,D.free,D.Xw,h2]
structure PF (a b:List FM) (B H:List Xh) (go ga gs:Nat) (xa xb:D) (lb:Nat) (ra rb:List (List D)):Prop where
 len:B.length≤H.length
 fr:∀k,k<B.length→H[k]?=B[k]?
 ho:H[go]?=some ⟨32,4,[[.str nmA,Br xa,.int .i64 ((1:Nat):Int),.int .i64 ((12:Nat):Int)],[.str nmB,Br xb,.int .i64 ((lb:Nat):Int),.int .i64 ((12:Nat):Int)]],1,0,true⟩
 fa:FL H ga xa ra
 fb:FL H gs xb rb
 wa:RW a ra
 wb:RW b rb
 hgo:B.length≤go
 hga:B.length≤ga
 hgs:B.length≤gs
 ne:ga≠go∧gs≠go∧ga≠gs
theorem parse_all{d:Nat}(hd:22≤d)(B:List Xh)(lo:Nat)(a b:List FM)(hla:a.length≤20)(hlb:b.length≤20):∃r,(fun r=>∃H' go ga gs xa xb lb ra rb,r=(.tup [.msl go 1 0 2 (some 2),.agg [.int .i64 0,.int .i64 0,.int .i64 0]],⟨H',min lo B.length⟩,true)∧PF a b B H' go ga gs xa xb lb ra rb) r∧Ae LP NN d 19 [.sl 5 (Eo 1 (Gb a b)) none] ⟨B,lo⟩=some r:=by
 have zu:(Gb a b).length≤700:=by
  have h1:=Ju a;have h2:=Ju b;simp only[Gb,Ht,Ll_,List.length_cons,List.length_nil];omega
 refine run_atD_ex (F:=F19) (P:=fun r=>∃H' go ga gs xa xb lb ra rb,r=(.tup [.msl go 1 0 2 (some 2),.agg [.int .i64 0,.int .i64 0,.int .i64 0]],⟨H',min lo B.length⟩,true)∧PF a b B H' go ga gs xa xb lb ra rb) rfl (by simp only[LP,Ah,Bl,zs,zm,zv]<;>exact rfl) rfl (by simp only[LP,zf,zm];try rfl) (by simp only[F19,P19,mkP,zv]<;>exact rfl) (by omega) ?_;rintro d rfl;refine g12 (q:=cw_dfr (by simp only[opd,zv]<;>exact rfl) (by simp only[List.cons_append,List.nil_append]<;>exact rfl) (g10 (q:=Bq (fun n env S'=>∃(L:List (Nat × ByteArray)) (H:List Xh) (m:Nat) (x0 u4 u5 u7 u8 u9 u10 u11:D),S'=⟨H,B.length⟩∧env=[x0,.ptr B.length 0 0 0,.ptr (B.length+1) 0 0 0,.ptr (B.length+2) 0 0 0,u4,u5,.fn 52 [.ptr B.length 0 0 0,.ptr (B.length+1) 0 0 0],u7,u8,u9,u10,u11,.fn 52 [.ptr B.length 0 0 0,.ptr (B.length+1) 0 0 0]]∧PI B a b L H∧SlD 5 (Eo m L) x0∧(L=Gb a b→m=1)∧L.length≤(Gb a b).length∧n=L.length) ((Gb a b).length) (by omega) (⟨Gb a b,_,1,_,_,_,_,_,_,_,_,rfl,rfl,.start ⟨Bd B _ 0,Bd B _ 1,fun k hk=>Bj hk⟩ (Bd B _ 2),.of _ _ _,fun _=>rfl,by omega,rfl⟩) ?_)));rintro n env S' ⟨L,H,m,x0,u4,u5,u7,u8,u9,u10,u11,rfl,rfl,hPI,hx,wS,yh,rfl⟩;have wE:=hx.len;rw[Ed]at wE;have zz:=wE;refine g8 (q:=Bz (ht:=fun xZ=>?_) (hf:=fun xZ=>?_))
 ·
  have hL0:L≠[]:=by
   intro e;have:=of_decide_eq_true xZ;rw[e]at this;simp at this
  obtain⟨e,L',H',eL,he,hr,hPI',xA⟩:=PI_step (d:=d) (by omega) hla hlb hPI hL0 wS hx;have hel:L.length=e.length+(L'.length+1):=by rw[eL];simp
  have hlt':L'.length<L.length:=by omega
  have hi:Ae LP NN d 53 [x0,.fn 54 []] ⟨H,B.length⟩=some (.int .i64 (e.length:Nat),⟨H,B.length⟩,false):=by
   rw[index27_run (d:=d) (by omega) _ hx (by omega),eL,idxI_app (t:=Wo) he rfl]
  have hneg:decide (((e.length:Nat):Int)<0)=false:=decide_eq_false (by omega);have zu:=fun S=>hx.slice_hi S .i64 (n:=e.length) (by rw[Ed];omega);have h00:0<L.length:=by omega
  have yD:=fun S=>hx.X0 S .i64 (i:=0) (by omega) (posR_at (m:=m) h00);have hw:=Bu e.length (by omega);have hsd:=fun S=>hx.slice_lo S .i64 (n:=e.length+1) (by rw[Ed];omega)
  have hx':SlD 5 (Eo (m+(e.length+1)) L') (Cu (e.length+1) x0):=by
   have h:=hx.drop (e.length+1);rw[posR_drop,eL,show (e++Wo::L').drop (e.length+1)=L' from by rw[List.drop_append];simp]at h;exact h
  simp only[Nat.add_zero]at yD;have zz:=aI hneg (aI zu (aI yD (aI hw (aI hsd (aI @tkR.eq_1 zz)))));refine g6 (q:=Aa (by simp only[zo,zz];exact hi) (g18 (q:=?_)));have zz:=aI hx.fps (aI hx.fpi zz);refine Kz (by simp only[opd,zv,Al,aop,LOp.loud,lop,if_true,Bt,Option.map_some,zz]<;>exact rfl) (h:=g4 (q:=Ao (by simp only[zo,zz];exact hr) (by simp only[Ac,zo,zq,hx.fps,hx.fpi]<;>exact rfl) (by first | rfl | (generalize Xo (Br xa)=t;cases t<;>rfl) | (generalize Xo (Br xf)=t;cases t<;>rfl) | (simp[show ob 255 8=[true,true,true,true,true,true,true,true] from rfl,Xo,Ay,Ar,Cf,Ap,Bn,djl,djr,djs,Am,Af,Az,Ba,ieq1,ieq2];done)) (g6 (q:=xo0 (h:=g4 (q:=?_))))));exact⟨_,hlt',L',H',_,_,_,_,_,_,_,_,_,rfl,rfl,hPI',hx',fun e=>absurd (congrArg List.length e) (by omega),by omega,rfl⟩
 have hL0:L=[]:=by
  have:=of_decide_eq_false xZ;exact List.length_eq_zero_iff.1 (by omega)
 obtain⟨h0,hB⟩:P0 B H∧PB B H a b:=by
  cases hPI with
  | start=>simp[Gb,Ht]at hL0
  | first=>simp[Ht]at hL0
  | @second _ i h0 hi hB =>
   have hbi:b.length≤i:=by
    refine Nat.le_of_not_lt fun h=>?_;rw[Uz h,Uy]at hL0;simp at hL0
   rw[List.take_of_length_le hbi]at hB;exact⟨h0,hB⟩
 obtain⟨lx,a0,c0,go,ga,gs,xa,xf,lb,ra,rows,h2,ho,hFa,hF,hRa,hR,hgo,hga,hgs,hneo,hnea,wR⟩:=hB;have h2l:=Aj h2;have zR:=Aj ho;obtain⟨o0,o1,ofr⟩:=h0;have y8:=clip30_run (d:=d) (by omega) hFa B.length;have hF1:∀x,FL (H.set go x) gs xf rows:=fun x=>hF.keep fun h=>by rw[Ln_ (by omega)]
 have w9:=fun x=>clip30_run (d:=d) (by omega) (hF1 x) B.length;obtain⟨v1,v2⟩:=hFa.clip_val;obtain⟨v3,v4⟩:=hF.clip_val;have ieq1:¬go=B.length+2:=by omega
 have ieq2:¬B.length+2=go:=by omega
 have n2:(go=B.length+2)=False:=eq_false (by omega);have n0:(go=B.length)=False:=eq_false (by omega);have n1:(go=B.length+1)=False:=eq_false (by omega);have n3:(B.length=B.length+1)=False:=eq_false (by omega);have l0:(go<H.length)=True:=eq_true zR;have l1:(B.length<H.length)=True:=eq_true (by omega);have l2:(B.length+1<H.length)=True:=eq_true (by omega);have m1:min B.length go=B.length:=by omega
 simp only[PO,GO,List.cons_append,List.nil_append]at h2 ho;have zz:=aI h2 (aI ho (aI n0 (aI @n1 (aI n2 (aI n3 (aI l0 (aI l1 (aI l2 (aI m1 (aI v1 (aI v2 (aI v3 (aI v4 (aI @List.getElem?_set.{0} (aI @List.length_set.{0} (aI @List.set_set.{0} (aI o0 (aI o1 (aI @Int.toNat_zero (aI (show IntKind.i64.wrap (0+1)=1 from rfl) (aI @List.set_cons_succ.{0} (aI @List.set_cons_zero.{0} (aI (show ((0:Int)≤1)=True from by decide) (aI (show ((1:Int).toNat)=1 from rfl) zz))))))))))))))))))))))));refine g16 (q:=Gl (Gq (Dt (g21 (q:=?_)))));have zz:=aI hx.fps (aI hx.fpi zz);refine g10 (q:=?_)
 first
  | refine Ao (by simp only[zo,zz];exact y8) (by simp only[Ac,zo,zq,hx.fps,hx.fpi]<;>exact rfl) (by first | rfl | (generalize Xo (Br xa)=t;cases t<;>rfl) | (generalize Xo (Br xf)=t;cases t<;>rfl) | (simp[show ob 8160 13=[true,true,true,true,true,true,true,true,false,false,false,false,false] from rfl,Xo,Ay,Ar,Cf,Ap,Bn,djl,djr,djs,Am,Af,Az,Ba,ieq1,ieq2];done)) ?_
  | refine Ao (by simp only[zo,zz];exact w9 _) (by simp only[Ac,zo,zq,hx.fps,hx.fpi]<;>exact rfl) (by first | rfl | (generalize Xo (Br xa)=t;cases t<;>rfl) | (generalize Xo (Br xf)=t;cases t<;>rfl) | (simp[show ob 8160 13=[true,true,true,true,true,true,true,true,false,false,false,false,false] from rfl,Xo,Ay,Ar,Cf,Ap,Bn,djl,djr,djs,Am,Af,Az,Ba,ieq1,ieq2];done)) ?_
 refine g2 (q:=Ao (by simp only[zl,zm,I1,overlay,Ah,Bl,zs,zc,zf,List.take,List.drop,zz]<;>exact rfl) (by simp only[Ac,zo,zq,hx.fps,hx.fpi]<;>exact rfl) (by first | rfl | (generalize Xo (Br xa)=t;cases t<;>rfl) | (generalize Xo (Br xf)=t;cases t<;>rfl) | (simp[show ob 65535 16=[true,true,true,true,true,true,true,true,true,true,true,true,true,true,true,true] from rfl,Xo,Ay,Ar,Cf,Ap,Bn,djl,djr,djs,Am,Af,Az,Ba,ieq1,ieq2];done)) (g7 (q:=Wp (by simp only[ze]<;>exact rfl) (Dt (g31 (q:=?_))))))
 first
  | refine Ao (by simp only[zo,zz];exact y8) (by simp only[Ac,zo,zq,hx.fps,hx.fpi]<;>exact rfl) (by first | rfl | (generalize Xo (Br xa)=t;cases t<;>rfl) | (generalize Xo (Br xf)=t;cases t<;>rfl) | (simp[show ob 8160 13=[true,true,true,true,true,true,true,true,false,false,false,false,false] from rfl,Xo,Ay,Ar,Cf,Ap,Bn,djl,djr,djs,Am,Af,Az,Ba,ieq1,ieq2];done)) ?_
  | refine Ao (by simp only[zo,zz];exact w9 _) (by simp only[Ac,zo,zq,hx.fps,hx.fpi]<;>exact rfl) (by first | rfl | (generalize Xo (Br xa)=t;cases t<;>rfl) | (generalize Xo (Br xf)=t;cases t<;>rfl) | (simp[show ob 8160 13=[true,true,true,true,true,true,true,true,false,false,false,false,false] from rfl,Xo,Ay,Ar,Cf,Ap,Bn,djl,djr,djs,Am,Af,Az,Ba,ieq1,ieq2];done)) ?_
 refine g2 (q:=Ao (by simp only[zl,zm,I1,overlay,Ah,Bl,zs,zc,zf,List.take,List.drop,zz]<;>exact rfl) (by simp only[Ac,zo,zq,hx.fps,hx.fpi]<;>exact rfl) (by first | rfl | (generalize Xo (Br xa)=t;cases t<;>rfl) | (generalize Xo (Br xf)=t;cases t<;>rfl) | (simp[show ob 65535 16=[true,true,true,true,true,true,true,true,true,true,true,true,true,true,true,true] from rfl,Xo,Ay,Ar,Cf,Ap,Bn,djl,djr,djs,Am,Af,Az,Ba,ieq1,ieq2];done)) (g7 (q:=Wp (by simp only[ze]<;>exact rfl) (Dt (g7 (q:=Jk (sk_e (lu_e (bk_e (sk_n rfl (cw_sr (g4 (q:=Aa (by simp only[zo,zz];exact clip31_run (by omega) (Et zR _) _) (g6 (q:=?_)))))))))))))))
 have hz2:∀k,k≠go→k≠B.length→k≠B.length+1→∀x y z,(((H.set go x).set B.length y).set (B.length+1) z)[k]?=H[k]?:=fun k h1 h2 h3 x y z=>by
  rw[Ln_ (Ne.symm h3),Ln_ (Ne.symm h2),Ln_ (Ne.symm h1)]
 have hB2:B.length+2<H.length:=h2l;refine⟨(.tup [.msl go 1 0 2 (some 2),.agg [.int .i64 0,.int .i64 0,.int .i64 0]],⟨((H.set go ⟨32,4,[[.str nmA,Br xa,.int .i64 ((1:Nat):Int),.int .i64 ((12:Nat):Int)],[.str nmB,Br xf,.int .i64 ((lb:Nat):Int),.int .i64 ((12:Nat):Int)]],1,0,true⟩).set B.length ⟨50,1,[[.msl go 1 0 2 (some 2)]],0,0,false⟩).set (B.length+1) ⟨40,3,[[.int .i64 0,.int .i64 0,.int .i64 0]],0,0,false⟩,min lo B.length⟩,true),⟨((H.set go ⟨32,4,[[.str nmA,Br xa,.int .i64 ((1:Nat):Int),.int .i64 ((12:Nat):Int)],[.str nmB,Br xf,.int .i64 ((lb:Nat):Int),.int .i64 ((12:Nat):Int)]],1,0,true⟩).set B.length ⟨50,1,[[.msl go 1 0 2 (some 2)]],0,0,false⟩).set (B.length+1) ⟨40,3,[[.int .i64 0,.int .i64 0,.int .i64 0]],0,0,false⟩,go,ga,gs,xa,xf,lb,ra,rows,rfl,⟨?_,?_,?_,?_,?_,hRa,hR,by omega,by omega,by omega,hnea,hneo,wR⟩⟩,⟨rfl,⟨((H.set go ⟨32,4,[[.str nmA,Br xa,.int .i64 ((1:Nat):Int),.int .i64 ((12:Nat):Int)],[.str nmB,Br xf,.int .i64 ((lb:Nat):Int),.int .i64 ((12:Nat):Int)]],1,0,true⟩).set B.length ⟨50,1,[[.msl go 1 0 2 (some 2)]],0,0,false⟩).set (B.length+1) ⟨40,3,[[.int .i64 0,.int .i64 0,.int .i64 0]],0,0,false⟩,B.length⟩,exDefs_one (F:=FD52) rfl rfl rfl rfl (by simp only[FD52,zv]<;>exact rfl) (by refine⟨_,_,_,fun is=>rfl,?_⟩;exact rfl),.tup [.msl go 1 0 2 (some 2),.agg [.int .i64 0,.int .i64 0,.int .i64 0]],?_,?_⟩⟩
 ·
  rw[List.length_set,List.length_set,List.length_set];omega
 ·
  intro k hk;rw[hz2 k (by omega) (by omega) (by omega)];exact ofr k hk
 ·
  rw[Ln_ (by omega),Ln_ (by omega),Et zR]
 ·
  exact hFa.keep fun h=>hz2 ga hnea (by omega) (by omega) _ _ _
 ·
  exact hF.keep fun h=>hz2 gs hneo (by omega) (by omega) _ _ _
 ·
  simp only[F19,P19,mkP,Ce,En,I5,List.getD_cons_zero,List.getD_cons_succ,Uk,rowsOf,Ci,List.getElem?_set,List.length_set,n3,show (B.length+1=B.length)=False from eq_false (by omega),l1,l2,if_true,if_false,Lz,List.take,List.drop,Bool.false_eq_true];rfl
 have x9:B.length≤B.length:=Nat.le_refl _;have xg:¬H.length=B.length:=by omega
 have hgo2:¬B.length+1=go:=by omega
 have hgo3:¬B.length=go:=by omega
 simp[leave,LP,Xt,Ah,Xp,snap,Bl,D.Xr,D.Xq,D.free,D.Xw,List.getElem?_set,hgo2,hgo3,zR,xg,Ne.symm hgo2,Ne.symm hgo3]
structure SrcF (H:List Xh) (x:D) (rows:List (List D)) (gs v:Nat):Prop where
 len:Hr false x=some (.int .i64 (rows.length:Nat))
 cell:x.Xv=true
 snap:∀m l,snap m (H++l) x=some x
 fpi:∀n i r wr W,Dx (.X0 n) [x,i] r wr W=Am (Cc x)
 ia:∀l lo i,i<rows.length→Fe ⟨H++l,lo⟩ 16 x (.int .i64 (i:Nat))=some (.ptr gs v i 0)
 ld:∀l lo i r,rows[i]?=some r→16≤r.length→G6 16 true ⟨H++l,lo⟩ (.ptr gs v i 0)=some (.agg (r.take 16))
theorem FL.src{H:List Xh}{gs:Nat}{x:D}{rows:List (List D)}(h:FL H gs x rows):∃v,SrcF H (Br x) rows gs v:=by
 rcases h with⟨rfl,rfl⟩ | ⟨vs,rfl,ho⟩
 ·
  exact⟨0,rfl,rfl,fun _ _=>rfl,fun _ _ _ _ _=>rfl,fun _ _ i h=>absurd h (by simp),fun _ _ i r h=>by simp at h⟩
 refine⟨vs,rfl,rfl,fun m l=>?_,fun _ _ _ _ _=>rfl,fun l lo i h=>?_,fun l lo i r h h16=>?_⟩
 ·
  simp only[Br];rw[Jm,Bj (Aj ho),ho];simp
 ·
  simp[Br,Fe,rowsOf,Bj (Aj ho),ho,h]
 simp[G6,rowsOf,Bj (Aj ho),ho,h,Ci,h16]
theorem SrcF.zero{H:List Xh}{x:D}{rows:List (List D)}{gs v:Nat}(h:SrcF H x rows gs v):∀m,Go.Proofs.YtlhdliikahebhaaGreatDoor.snap m H x=some x:=fun m=>by have:=h.snap m [];rwa [List.append_nil]at this
theorem Ke(f:FM)(p:Nat):∃tx op nu r1 r2,Gs f p=[.int .i64 (f.line:Nat),.int .i64 (f.column:Nat),.int .u8 (f.kind:Nat),tx,.int .u8 (if nu then (if f.size=1 then 4 else 5) else 2),.int .u8 0,.str (Dp nu f.size),.int .i64 (if nu then (f.size:Nat) else 0),.int .i64 0,.bool false,.bool false,.bool false,.bool false,.bool false,.int .i64 (f.size:Nat),op]∧SlD 1 r1 tx∧SlD 5 r2 op ∧
  (f.kind=1→nu=false∧tx=.sl 1 (byteRows f.text) none∧op=.X4∧r1=byteRows f.text)∧(f.kind≠1→nu=f.nu∧tx=.X4∧op=.sl 5 [tkR 1 ⟨#[78]⟩ p 12] (some 1)):=by
 by_cases h:f.kind=1
 ·
  refine⟨.sl 1 (byteRows f.text) none,.X4,false,byteRows f.text,[],?_,.of _ _ _,.nil 5,fun _=>⟨rfl,rfl,rfl,rfl⟩,fun h'=>absurd h h'⟩;unfold Gs row2;rw[if_pos h,if_pos h,h];rfl
 refine⟨.X4,.sl 5 [tkR 1 ⟨#[78]⟩ p 12] (some 1),f.nu,[],_,?_,.nil 1,.of _ _ _,fun h'=>absurd h' h,fun _=>⟨rfl,rfl,rfl⟩⟩;unfold Gs;rw[if_neg h];rfl
theorem Mj(f:FM)(p:Nat):(Gs f p).length=16:=by
 unfold Gs row2 shpR;split<;>rfl
theorem Mi(f:FM)(p:Nat):(Gs f p).take 16=Gs f p:=List.take_of_length_le (by rw[Mj];exact Nat.le_refl _)
theorem pcheck_form{d:Nat}(hd:16≤d)(S:St)(nu:Bool)(f:FM):Ae LP NN d 100 [.agg [.int .u8 (if nu then (if f.size=1 then 4 else 5) else 2),.int .u8 0,.str (Dp nu f.size),.int .i64 (if nu then (f.size:Nat) else 0),.int .i64 0,.bool false,.bool false,.bool false,.bool false,.bool false,.int .i64 (f.size:Nat)]] S=some (.int .i64 0,S,false):=pcheck_run (by omega) S hd nu f.size f.size_le.1 f.size_le.2
theorem check_run{d:Nat}(hd:18≤d){H:List Xh}{x:D}{rows:List (List D)}{gs v:Nat}{l0:List FM}(hS:SrcF H x rows gs v)(hR:RW l0 rows)(xg:l0.length≤256)(nm:ByteArray)(p0 c0:Nat)(lo:Nat) :
  Ae LP NN d 44 [.agg [.str nm,x,.int .i64 (p0:Nat),.int .i64 (c0:Nat)]] ⟨H,lo⟩=some (.int .i64 0,⟨H,lo⟩,false):=by
 have yI:=hR.len;have uw:decide (((rows.length:Nat):Int)>256)=false:=decide_eq_false (by omega);have zz:=aI hS.len (aI hS.cell (aI uw (aI @Bd (aI @Bf (aI @Cb (aI @Ca (aI hS.zero @Bool.false_and)))))));refine raz (hb:=?_);rintro d rfl;refine g28 (q:=Bq (fun n env S'=>∃(i:Nat) (l:List Xh) (u3 u9 u10 u11 u8:D),i≤rows.length∧n=rows.length-i∧S'=⟨H++⟨32,4,[[.str nm,x,.int .i64 (p0:Nat),.int .i64 (c0:Nat)]],0,0,false⟩::l,H.length⟩∧env=[.agg [.str nm,x,.int .i64 (p0:Nat),.int .i64 (c0:Nat)],.ptr H.length 0 0 0,.int .i64 0,u3,.bool false,x,.int .i64 rows.length,.int .i64 i,u8,u9,u10,u11]) (rows.length) (by omega) (⟨0,[],_,_,_,_,_,by omega,by omega,rfl,rfl⟩) ?_);rintro n env S' ⟨i,l,u3,u9,u10,u11,u8,hi,rfl,rfl,rfl⟩;refine g6 (q:=Bz (ht:=fun xZ=>?_) (hf:=fun xZ=>?_))
 ·
  have xq:i<rows.length:=by have:=of_decide_eq_true xZ;omega
  have hltl:i<l0.length:=by omega
  have hw:=Bu i (by omega);have yD:=fun l lo=>hS.ia l lo i xq;obtain⟨p,xO⟩:=hR.at_ hltl;have wT:=fun (l:List Xh) lo=>hS.ld l lo i _ xO (by rw[Mj];exact Nat.le_refl _);rw[Mi]at wT;have xW:=fun (S:St)=>Ur l0[i] p (d:=d) (by omega) S;obtain⟨tx,op,nu,r1,r2,hrf,kE,yR,y7,wW⟩:=Ke l0[i] p;have hpc:=fun (S:St)=>pcheck_form (d:=d) (by omega) S nu l0[i];rw[hrf]at wT xW;have xC:=l0[i].size_le;have uO:=l0[i].kind_le;have yw:∀k:Nat,(H++⟨32,4,[[.str nm,x,.int .i64 (p0:Nat),.int .i64 (c0:Nat)]],0,0,false⟩::l).length=H.length+l.length+1:=fun k=>by simp;omega
  have vH:∀(o:Xh) (m:List Xh),(H++⟨32,4,[[.str nm,x,.int .i64 (p0:Nat),.int .i64 (c0:Nat)]],0,0,false⟩::(l++o::m))[H.length+(l.length+1)]?=some o:=fun o m=>by rw[Bd,Ls_,Bf];rfl
  have xH:∀(o y:Xh) (m:List Xh),(H++⟨32,4,[[.str nm,x,.int .i64 (p0:Nat),.int .i64 (c0:Nat)]],0,0,false⟩::(l++o::m)).set (H.length+(l.length+1)) y=H++⟨32,4,[[.str nm,x,.int .i64 (p0:Nat),.int .i64 (c0:Nat)]],0,0,false⟩::(l++y::m):=fun o y m=>by rw[Cb,List.set_cons_succ,Ca];rfl
  have k1:decide (((l0[i].kind:Nat):Int)<1)=false:=decide_eq_false (by omega);have k2:decide (((l0[i].kind:Nat):Int)>4)=false:=decide_eq_false (by omega);have zz:=aI hw (aI yD (aI wT (aI vH (aI xH (aI kE.Xv (aI yR.Xv (aI kE.cells (aI yR.cells (aI kE.val (aI yR.val (aI kE.len (aI k1 (aI k2 (aI @List.cons_append.{0} (aI @List.append_assoc.{0} zz)))))))))))))));by_cases hk:l0[i].kind=1
  ·
   obtain⟨rfl,rfl,rfl,rfl⟩:=y7 hk;have e1:(((l0[i].kind:Nat):Int)==1)=true:=by rw[beq_iff_eq];omega
   have e2:(((byteRows l0[i].text).length:Int) != ((l0[i].size:Nat):Int))=false:=by rw[Oc,Qj,bne_self_eq_false]
   have zz:=aI e1 (aI e2 (aI @Bool.false_eq_true (aI @bne_self_eq_false.{0} zz)));refine g19 (q:=Dh 0 (b:=false) (by simp only[opd,zv,zz,if_false]<;>rfl) (by simp only[zn]<;>exact rfl) (g8 (q:=Dh 0 (b:=false) (by simp only[opd,zv,zz,if_false]<;>rfl) (by simp only[zn]<;>exact rfl) (g5 (q:=Aa (by simp only[zo,zz,if_false];exact hpc _) (g6 (q:=Au (by simp only[opd,zv,zz,if_false]<;>rfl) (g6 (q:=Dh 0 (b:=true) (by simp only[opd,zv,zz,if_false]<;>rfl) (by simp only[zn]<;>exact rfl) (g10 (q:=Dh 0 (b:=false) (by simp only[opd,zv,zz,if_false]<;>rfl) (by simp only[zn]<;>exact rfl) (g20 (q:=Au (by simp only[opd,zv,zz,if_false]<;>rfl) (g3 (q:=Aa (by simp only[zo,zz,if_false];exact xW _) (g4 (q:=Au (by simp only[opd,zv,zz,if_false]<;>rfl) (g9 (q:=?_)))))))))))))))))));exact⟨rows.length-(i+1),by omega,i+1,_,_,_,_,_,_,by omega,rfl,rfl,rfl⟩
  have e1:(((l0[i].kind:Nat):Int)==1)=false:=by rw[beq_eq_false_iff_ne];omega
  have zz:=aI e1 zz;refine g19 (q:=Bb 0 (b:=false) (h:=g8 (q:=Bb 0 (b:=false) (h:=g5 (q:=Aa (by simp only[zo,zz];exact hpc _) (g13 (q:=Bb 0 (b:=false) (h:=g21 (q:=Aa (by simp only[zo,zz];exact xW _) (g14 (q:=?_)))))))))));exact⟨rows.length-(i+1),by omega,i+1,_,_,_,_,_,_,by omega,rfl,rfl,rfl⟩
 refine g11 (q:=fq (h:=?_));simp[leave,LP,Xt,Xp,snap,D.Xr,D.Xq,D.free,D.Xw]
theorem ba_self(s:ByteArray):(s==s)=true:=by
 show (s.data==s.data)=true;simp
theorem str_rows(s:ByteArray):(⟨s.data.toList.toArray⟩:ByteArray)=s:=by simp
theorem fmRows_nil:SlD 6 (Cr []) .X4:=.nil 6
theorem of_walk{d:Nat}(hd:24≤d){B H':List Xh}{lx xa xb:D}{l:List FM}{go lb:Nat}(zG:SlD 6 (Cr l) lx)(zX:l.length≤20)
  (xu:Ae LP NN (d-1) 19 [.sl 5 (Eo 1 (Gb l [])) none] ⟨B++[⟨32,4,[[.str ⟨#[]⟩,.X4,.int .i64 0,.int .i64 0]],0,0,false⟩],B.length⟩=some (.tup [.msl go 1 0 2 (some 2),.agg [.int .i64 0,.int .i64 0,.int .i64 0]],⟨H',min B.length (B++[(⟨32,4,[[.str ⟨#[]⟩,.X4,.int .i64 0,.int .i64 0]],0,0,false⟩:Xh)]).length⟩,true))
  (hz:H'[B.length]?=some ⟨32,4,[[.str ⟨#[]⟩,.X4,.int .i64 0,.int .i64 0]],0,0,false⟩) (ho:H'[go]?=some ⟨32,4,[[.str nmA,Br xa,.int .i64 ((1:Nat):Int),.int .i64 ((12:Nat):Int)],[.str nmB,Br xb,.int .i64 ((lb:Nat):Int),.int .i64 ((12:Nat):Int)]],1,0,true⟩) (hc:(Br xa).Xv=true) (hX:∀x m l,snap m (H'.set B.length x++l) (Br xa)=some (Br xa)) (lo:Nat) :
  Ae LP NN d 5 [lx] ⟨B,lo⟩=some (.tup [.agg [.str nmA,Br xa,.int .i64 ((1:Nat):Int),.int .i64 ((12:Nat):Int)],.bool true],if (Br xa).free then ⟨B,lo⟩ else ⟨H'.set B.length ⟨32,4,[[.str nmA,Br xa,.int .i64 ((1:Nat):Int),.int .i64 ((12:Nat):Int)]],0,0,false⟩++[⟨40,3,[[.int .i64 0,.int .i64 0,.int .i64 0]],0,0,false⟩],min lo B.length⟩,!(Br xa).free):=by
 have vT:=Aj hz;have zR:=Aj ho;have hnil0:=fmRows_nil;have xC:∀l x,(H'.set B.length x++l)[B.length]?=some x:=fun l x=>by rw[Bj (by simpa using vT)];exact Et vT x
 have xC:=xC;have yK:¬H'.length+1=B.length:=by omega
 have wS:min B.length (B.length+1)=B.length:=by omega
 have wR:¬H'.length=B.length:=by omega
 rw[Ll_,List.length_cons,List.length_nil,wS]at xu;have zz:=aI (fun l=>@Bj _ l _ vT) (aI (fun l=>@Bj _ l _ zR) (aI (fun l=>@Em _ l _ vT) (aI hz (aI ho (aI xC (aI hc (aI @Bd (aI @Bf (aI @Cb (aI @Ca (aI wS (aI zG.Xp zG.Xq))))))))))));refine raz (hb:=?_);rintro d rfl;refine g9 (q:=Aa (by simp only[zo,Bool.and_false,zz];exact section_run (by omega) _ zG hnil0 zX (by simp)) (Aa (by simp only[zo,Bool.and_false,zz];exact xu) (g15 (q:=Dh 0 (b:=false) (by simp only[opd,zv,Bool.and_false,zz]<;>rfl) (by simp only[zn]<;>exact rfl) (g9 (q:=Au (by simp only[opd,zv,Bool.and_false,zz]<;>rfl) (g12 (q:=?_))))))));refine⟨_,by simp only[F5,P5,mkP,Ce,En,I5,zg,zd,rowsOf,Ci,List.take,List.drop,zm,xC,xC]<;>exact rfl,?_⟩;have hmm:min (min B.length H'.length) B.length=B.length:=by omega
 have yh:(B.length≤B.length)=True:=eq_true (Nat.le_refl _);cases hf:(Br xa).free
 ·
  simp[leave,LP,Ka,Ah,J9,Bl,Ma,Mc,I4,hX,Ki,Kh,Kv,Kw,Ja,hf,hmm,yh,yK]
 simp[leave,LP,Ka,Ah,J9,Bl,Ma,Mc,I4,hX,Ki,Kh,Kv,Kw,Ja,hf,hmm,yh,yK]
theorem FL.clip_free{H:List Xh}{gs:Nat}{x:D}{rows:List (List D)}(h:FL H gs x rows)(hf:(Br x).free=true):x=.X4∧rows=[]:=by
 rcases h with h | ⟨vs,rfl,_⟩
 ·
  exact h
 cases hf
theorem of_run{d:Nat}(hd:24≤d)(B:List Xh)(lo:Nat)(xU:lo≤B.length){lx:D}{l:List FM}(zG:SlD 6 (Cr l) lx)(zX:l.length≤20) :
  ∃H' x0 gs rows wr,Ae LP NN d 5 [lx] ⟨B,lo⟩=some (.tup [.agg [.str nmA,Br x0,.int .i64 ((1:Nat):Int),.int .i64 ((12:Nat):Int)],.bool true],⟨H',lo⟩,wr)∧B.length≤H'.length∧(∀k,k<B.length→H'[k]?=B[k]?)∧FL H' gs x0 rows∧RW l rows∧B.length≤gs:=by
 obtain⟨_,⟨H',go,ga,gs,xa,xb,lb,ra,rb,rfl,hP⟩,xu⟩:=parse_all (d:=d-1) (by omega) (B++[⟨32,4,[[.str ⟨#[]⟩,.X4,.int .i64 0,.int .i64 0]],0,0,false⟩]) B.length l [] zX (by simp);have hz:=(hP.fr B.length (by simp)).trans (Bd B [⟨32,4,[[.str ⟨#[]⟩,.X4,.int .i64 0,.int .i64 0]],0,0,false⟩] 0);have xg:=hP.len;rw[Ll_,List.length_cons,List.length_nil]at xg;have hga:=hP.hga;rw[Ll_,List.length_cons,List.length_nil]at hga
 have hX:∀x m l,snap m (H'.set B.length x++l) (Br xa)=some (Br xa):=by
  intro x m l;obtain⟨v,hS⟩:=(hP.fa.keep (H':=H'.set B.length x) fun h=>by rw[Ln_ (by omega)]).src;exact hS.snap m l
 obtain⟨v0,hS0⟩:=hP.fa.src;have r:=of_walk hd zG zX xu hz hP.ho hS0.cell hX lo;have hm:min lo B.length=lo:=by omega
 rw[hm]at r
 cases hf:(Br xa).free with
 | true =>
  obtain⟨e1,e2⟩:=hP.fa.clip_free hf;rw[hf,if_pos rfl]at r;exact⟨B,xa,B.length,ra,_,r,Nat.le_refl _,fun _ _=>rfl,.inl ⟨e1,e2⟩,hP.wa,Nat.le_refl _⟩
 | false =>
  rw[hf,if_neg (by simp)]at r;refine⟨_,xa,ga,ra,_,r,by rw[Ll_,List.length_set];omega,fun k hk=>?_,?_,hP.wa,by omega⟩
  ·
   rw[Qc (by omega) (by omega),hP.fr k (by rw[Ll_];omega),Bj hk]
  exact hP.fa.keep fun h=>Qc h (by omega)
def spR (j:Nat):List (List D):=List.replicate j [.int .u8 32]++List.replicate (80-j) [.junk]
theorem spR_len{j:Nat}(h:j≤80):(spR j).length=80:=by simp[spR];omega
theorem spR_step{j:Nat}(h1:1≤j)(h:j<80):List.take j (spR j)++(List.take (min (min j 80) (80-j)) (List.take j (spR j))++List.drop (j+min (min j 80) (80-j)) (spR j))=spR (j+min j (80-j)):=by
 have e:min (min j 80) (80-j)=min j (80-j):=by omega
 rw[e]
 have t:List.take j (spR j)=List.replicate j [.int .u8 32]:=by
  unfold spR;rw[List.take_left' (by simp)]
 rw[t,List.take_replicate]
 have d:List.drop (j+min j (80-j)) (spR j)=List.replicate (80-(j+min j (80-j))) [.junk]:=by
  unfold spR;rw[List.drop_append,List.drop_eq_nil_of_le (by simp),List.nil_append,List.length_replicate,List.drop_replicate];congr 1;omega
 rw[d,←Lo_,List.replicate_append_replicate];unfold spR;congr 2;omega
section
variable (d:Nat) (S:St)
theorem mul_cl:Bp LP NN (d+4) 106 [.int .u64 1,.int .u64 80] S=some (.tup [.int .u64 0,.int .u64 80],S,false):=by kernel_rfl
end
theorem mul_run{d:Nat}(hd:4≤d)(S:St):Ae LP NN d 106 [.int .u64 1,.int .u64 80] S=some (.tup [.int .u64 0,.int .u64 80],S,false):=by
 obtain⟨d,rfl⟩:∃d',d=d'+4:=⟨d-4,by omega⟩;exact fast_ok (mul_cl d S)
theorem repeat_run{d:Nat}(hd:6≤d){H:List Xh}{gb:Nat}(hg:H[gb]?=some ⟨5,1,[[.int .u8 32]],0,2,false⟩)(lo:Nat) :
  Ae LP NN d 49 [.msl gb 0 0 1 none,.int .i64 80] ⟨H,lo⟩=some (.msl H.length 0 0 80 (some 80),⟨H++[⟨5,1,spR 80,0,2,true⟩],min lo H.length⟩,true):=by
 have xJ:=Aj hg;have hw80:IntKind.i64.wrap 80=80:=by decide
 have h80n:(80:Int).toNat=80:=rfl;have zz:=aI hw80 (aI h80n (aI hg (aI (fun l=>@Bj _ l _ xJ) (aI @Bd (aI @Bf (aI @Cb (aI @Ca @mul_run)))))));refine raz (hb:=?_);rintro d rfl;refine g32 (q:=Aa (by simp only[zo,zz];exact mul_run (by omega) _) (g13 (q:=Bb 0 (b:=false) (h:=g60 (q:=g4 (q:=Bq (fun n env S'=>∃(j:Nat) (u9 u15 u16:D),1≤j∧j≤80∧n=80-j∧S'=⟨H++[⟨5,1,spR j,0,2,true⟩],H.length⟩∧env=[.msl gb 0 0 1 none,.int .i64 80,.X4,.int .u64 0,.int .u64 80,.int .i64 80,.int .i64 80,.msl H.length 0 0 80 (some 80),.int .i64 j,u9,.bool false,.bool false,.bool false,.bool false,.bool false,u15,u16]) (79) (by omega) (⟨1,_,_,_,by omega,by omega,by omega,by simp[spR,List.drop_replicate],rfl⟩) ?_))))));rintro n env S' ⟨j,u9,u15,u16,hj1,hj,rfl,rfl,rfl⟩;refine g8 (q:=Bz (ht:=fun xZ=>?_) (hf:=fun xZ=>?_))
 ·
  have xq:j<80:=by have:=of_decide_eq_true xZ;omega
  have hstep:=spR_step hj1 xq;have hmn:((80:Int)<(j:Int))=False:=eq_false (by omega);have hw:IntKind.i64.wrap ((j:Int)+((min (min j 80) (80-j):Nat):Int))=((j+min j (80-j):Nat):Int):=by rw[IntKind.wrap_i64];omega
  have h0:(0:Int)≤(j:Int):=by omega
  have hb1:j≤80:=hj;have hl:=spR_len hj;have zz:=aI hmn (aI hw (aI h0 (aI hb1 (aI hl (aI @Int.toNat_natCast (aI @readK.eq_1 (aI @kW.eq_1 (aI @List.length_take.{0} (aI @Nat.sub_zero (aI @Nat.zero_add (aI @List.take_zero.{0} (aI @List.nil_append.{0} zz))))))))))));refine g7 (q:=Aa (by simp only[zo,Jr,minD,zz,Dj,Dy]<;>exact rfl) (g7 (q:=xo2 (h:=g2 (q:=xo2 (h:=Kz (by simp only[opd,zv,Al,aop,LOp.loud,lop,rowsOf,readK,Bw,Dy,kW,setAt,if_true,if_false,zm,zz,Dj,Dy]<;>exact rfl) (h:=Co (by simp only[zo,Ec,zb,Int.reduceEq,Int.reduceToNat,Int.reduceLT,zz,Dj,Dy]<;>exact rfl) rfl rfl (g4 (q:=?_)))))))));exact⟨80-(j+min j (80-j)),by omega,j+min j (80-j),_,_,_,by omega,by omega,rfl,by rw[←hstep];simp only[List.set_cons_zero,Lo_,Nat.min_self],rfl⟩
 have hj':j=80:=by have:=of_decide_eq_false xZ;omega
 subst hj';refine g12 (q:=fq (h:=?_));simp[leave,LP,Xt,Xp,snap,D.Xr,D.Xq,D.free,D.Xw]
theorem clone8_0{d:Nat}(hd:1≤d){H:List Xh}{g v n:Nat}{L:List UInt8}{gr:Bool}{cap:Option Nat}(hg:H[g]?=some ⟨5,1,bR L,v,2,gr⟩)(hn:n≤L.length)(hL:L.length≤1000)(h0:n=0)(lo:Nat) :
  Ae LP NN d 48 [.msl g v 0 n cap] ⟨H,lo⟩=some (.sl 1 [] (some 0),⟨H,lo⟩,false):=by
 have xJ:=Aj hg;have yK:¬H.length≤g:=by omega
 subst h0;have hem:((bR L).take 0).isEmpty=true:=rfl;have zz:=aI hg (aI yK (aI hem (show ((2:Nat)=1)=False from by decide)));refine Ho (F:=F48) rfl (by simp only[LP,Ah,Bl,zs,zm,zv,false_or,and_false,or_false,or_self,ite_false,if_false,Bool.and_false,zz]<;>exact rfl) rfl (by simp only[LP,zf,zm,false_or,and_false,or_false,or_self,ite_false,if_false,Bool.and_false,zz];try rfl) (by simp only[F48,P48,mkP,zv]<;>exact rfl) (by omega) ?_;rintro d rfl;refine g12 (q:=Au (by simp only[opd,zv,false_or,and_false,or_false,or_self,ite_false,if_false,Bool.and_false,zz]<;>rfl) (g11 (q:=fq (h:=?_))));simp[leave,LP,Xt,Xp,snap,D.Xr,D.Xq,D.free,D.Xw,hg]
theorem clone8_1{d:Nat}(hd:1≤d){H:List Xh}{g v n:Nat}{L:List UInt8}{gr:Bool}{cap:Option Nat}(hg:H[g]?=some ⟨5,1,bR L,v,2,gr⟩)(hn:n≤L.length)(hL:L.length≤1000)(h0:0<n)(lo:Nat) :
  Ae LP NN d 48 [.msl g v 0 n cap] ⟨H,lo⟩=some (.sl 1 (bR (L.take n)) none,⟨H,lo⟩,false):=by
 have xJ:=Aj hg;have yK:¬H.length≤g:=by omega
 have htk:(bR L).take n=bR (L.take n):=by simp[bR,List.map_take]
 have hem:(bR (L.take n)).isEmpty=false:=by
  rw[List.isEmpty_eq_false_iff];intro e;have:=congrArg List.length e;rw[Ga,List.length_take,List.length_nil]at this;omega
 have rY:((bR (L.take n)).length*1≤140737488355328)=True:=eq_true (by rw[Ga,List.length_take];omega);have zz:=aI hg (aI yK (aI hem (aI rY (aI htk (aI (show ((1:Nat)=0)=False from by decide) (aI @Nat.zero_add (aI @List.nil_append.{0} (aI @List.length_nil.{0} (aI @Int.toNat_natCast (show ((2:Nat)=1)=False from by decide))))))))));refine Ho (F:=F48) rfl (by simp only[LP,Ah,Bl,zs,zm,zv,false_or,and_false,or_false,or_self,ite_false,if_false,Bool.and_false,zz]<;>exact rfl) rfl (by simp only[LP,zf,zm,false_or,and_false,or_false,or_self,ite_false,if_false,Bool.and_false,zz];try rfl) (by simp only[F48,P48,mkP,zv]<;>exact rfl) (by omega) ?_;rintro d rfl;refine g9 (q:=Aa (by simp only[zo,N9,or_true,false_or,and_false,or_false,or_self,ite_false,if_false,Bool.and_false,zz]<;>exact rfl) (g2 (q:=Au (by simp only[opd,zv,or_true,false_or,and_false,or_false,or_self,ite_false,if_false,Bool.and_false,zz]<;>rfl) (g4 (q:=Aa (by simp only[zl,zm,Dm,List.replicate,Ah,Bl,zs,zc,zf,or_true,false_or,and_false,or_false,or_self,ite_false,if_false,Bool.and_false,zz]<;>exact rfl) (g1 (q:=xo3 (h:=g4 (q:=fq (h:=?_))))))))));simp[leave,LP,Xt,Xp,snap,D.Xr,D.Xq,D.free,D.Xw,hg]
theorem clip8_run{d:Nat}(hd:1≤d)(S:St){x:D}{rows:List (List D)}(hS:SlD 1 rows x):Ae LP NN d 47 [x] S=some (Lj x,S,false):=by
 have zu:=hS.slice_clip;have zz:=aI hS.len (aI zu (aI hS.Xp hS.Xq));refine rpz (hb:=?_);rintro d rfl;refine g12 (q:=xo0 (h:=g4 (q:=fq (h:=?_))));simp only[Df,leave,hS.clip.Xp,hS.clip.Xt,hS.clip.Xr,List.length_nil,Nat.le_refl,Nat.zero_le,if_true,Bool.false_eq_true,if_false]
def U1 (L:List UInt8) (n:Nat):D:=if n=0 then .sl 1 [] (some 0) else .sl 1 (bR (L.take n)) none
theorem cloneY_S(L:List UInt8)(n:Nat):SlD 1 (bR (L.take n)) (U1 L n):=by
 unfold U1;split
 ·
  subst_vars;exact .of _ _ _
 exact .of _ _ _
theorem We(L:List UInt8){n:Nat}(h:n≤L.length):Lj (U1 L n)=.sl 1 (bR (L.take n)) (some n):=by
 unfold U1;split
 ·
  subst_vars;rfl
 simp[Lj,Ga,Nat.min_eq_left h]
theorem clone8_at{d:Nat}(hd:1≤d){H:List Xh}{g v n:Nat}{L:List UInt8}{gr:Bool}{cap:Option Nat}(hg:H[g]?=some ⟨5,1,bR L,v,2,gr⟩)(hn:n≤L.length)(hL:L.length≤1000)(lo:Nat):Ae LP NN d 48 [.msl g v 0 n cap] ⟨H,lo⟩=some (U1 L n,⟨H,lo⟩,false):=by
 unfold U1;split
 ·
  exact clone8_0 hd hg hn hL (by assumption) lo
 exact clone8_1 hd hg hn hL (by omega) lo
def tn:List UInt8→Nat
 | []=>0
 | a::l=>if tn l=0 then (if a=32 then 0 else 1) else tn l+1
theorem Na:∀(l:List UInt8) (c:UInt8),tn (l++[c])=if c=32 then tn l else l.length+1
 | [],c=>by simp[tn]
 | a :: l, c => by
  simp only[List.cons_append,tn,Na l c];by_cases h:c=32
  ·
   simp[h]
  simp[h]
theorem tn_le:∀l:List UInt8,tn l≤l.length
 | []=>Nat.le_refl _
 | a :: l => by
  have:=tn_le l;simp only[tn,List.length_cons];split
  ·
   split<;>omega
  omega
theorem tn_take:∀(l:List UInt8) (n:Nat),n≤l.length→(∀i c,n≤i→l[i]?=some c→c=32)→tn l=tn (l.take n):=by
 intro l n hn h
 induction hk:l.length-n generalizing n with
 | zero =>
  have:n=l.length:=by omega
  rw[this,List.take_length]
 | succ k ih =>
  have h1:=ih (n+1) (by omega) (fun i c hi hc=>h i c (by omega) hc) (by omega);rw[h1];have xq:n<l.length:=by omega
  rw[List.take_succ_eq_append_getElem xq,Na,if_pos (h n _ (Nat.le_refl _) (Lg xq))]
theorem tn_at{l:List UInt8}{n:Nat}(hn:n≤l.length)(h:∀i c,n≤i→l[i]?=some c→c=32)(h2:n=0∨∃c,l[n-1]?=some c∧c≠32):tn l=n:=by
 rw[tn_take l n hn h];rcases h2 with rfl | ⟨c,hc,xA⟩
 ·
  simp[tn]
 have xq:=(List.getElem?_eq_some_iff.1 hc).1
 obtain⟨m,rfl⟩:∃m,n=m+1:=⟨n-1,by
  rcases Nat.eq_zero_or_pos n with h0 | h0
  ·
   subst h0;exact absurd (h 0 c (Nat.le_refl _) hc) xA
  omega⟩
 rw[List.take_succ_eq_append_getElem (by omega),Na,if_neg]
 ·
  simp;omega
 rw[Nat.add_sub_cancel,Lg (by omega)]at hc;cases hc;exact xA
theorem u8_32(b:UInt8):(((b.toNat:Nat):Int)==32)=decide (b=32):=by
 by_cases h:b=32
 ·
  subst h;rfl
 rw[decide_eq_false h,beq_eq_false_iff_ne];intro e;apply h;have e1:b.toNat=32:=by omega
 exact UInt8.toNat_inj.1 e1
theorem trim_run{d:Nat}(hd:3≤d){H:List Xh}{g v:Nat}{L:List UInt8}{gr:Bool}{cap:Option Nat}(hg:H[g]?=some ⟨5,1,bR L,v,2,gr⟩)(hL:L.length≤1000)(lo:Nat) :
  Ae LP NN d 51 [.msl g v 0 L.length cap] ⟨H,lo⟩=some (.sl 1 (bR (L.take (tn L))) (some (tn L)),⟨H,lo⟩,false):=by
 have xJ:=Aj hg;have yK:¬H.length≤g:=by omega
 have hbo:=Ga L;have zz:=aI hg (aI hbo (aI yK (show ((2:Nat)=1)=False from by decide)));refine Ho (F:=F51) rfl (by simp only[LP,Ah,Bl,zs,zm,zv,false_or,and_false,or_false,or_self,ite_false,if_false,Bool.and_false,zz]<;>exact rfl) rfl (by simp only[LP,zf,zm,false_or,and_false,or_false,or_self,ite_false,if_false,Bool.and_false,zz];try rfl) (by simp only[F51,P51,mkP,zv]<;>exact rfl) (by omega) ?_;rintro d rfl;refine g14 (q:=Bq (fun n env S'=>∃(k:Nat) (u3:D),k≤L.length∧n=k+0∧S'=⟨H,H.length⟩∧env=[.msl g v 0 L.length cap,.X4,.int .i64 k,u3]∧(∀i c,k≤i→L[i]?=some c→c=32)) (L.length) (by omega) (⟨L.length,_,by omega,rfl,rfl,rfl,fun i c h1 h2=>absurd (List.getElem?_eq_some_iff.1 h2).1 (by omega)⟩) ?_);rintro n env S' ⟨k,u3,hk,kL,rfl,rfl,xw⟩;refine g6 (q:=Fy 0 (h:=fun hgA=>?_) (k:=fun hgA=>?_))
 ·
  have xq:0<k:=by have:=of_decide_eq_true hgA;omega
  have hw:IntKind.i64.wrap ((k:Int)-1)=((k-1:Nat):Int):=by rw[IntKind.wrap_i64];omega
  have zy:k-1<L.length:=by omega
  have hbk:=Lg zy;have hbr:=bR_at hbk;have h0:(0:Int)≤((k-1:Nat):Int):=by omega
  have h1:((k-1:Nat):Int)<((L.length:Nat):Int):=by omega
  have zz:=aI hw (aI hbr (aI h0 (aI h1 zz)));refine g15 (q:=He (by simp only[opd,zv,false_or,and_false,or_false,or_self,ite_false,if_false,Bool.and_false,zz]<;>exact rfl) (fun yJ=>?_) (fun yJ=>?_))
  ·
   refine g10 (q:=?_);refine⟨k-1,by omega,k-1,_,by omega,rfl,rfl,rfl,fun i c h1 h2=>?_⟩;rcases Nat.eq_or_lt_of_le h1 with e | e
   ·
    rw[←e,hbk]at h2;cases h2;have h:=yJ;rw[u8_32]at h;exact of_decide_eq_true h
   exact xw i c (by omega) h2
  have htn:tn L=k:=tn_at hk xw (.inr ⟨_,hbk,by intro e;rw[e]at yJ;simp at yJ⟩);have yw:=fun lo cap=>clone8_at (d:=d) (by omega) (cap:=cap) hg hk hL lo;have hcy:=clip8_run (d:=d) (by omega) ⟨H,H.length⟩ (cloneY_S L k);rw[We L hk]at hcy;have yO:(k≤L.length)=True:=eq_true hk;have vO:((0:Int)≤(k:Int))=True:=eq_true (by omega);have zz:=aI yO (aI vO (aI @Nat.sub_zero (aI @Int.toNat_natCast zz)));refine g10 (q:=Aa (by simp only[zo,false_or,and_false,or_false,or_self,ite_false,if_false,Bool.and_false,zz,Nat.zero_le,and_self,true_and,if_true];exact yw _ _) (Aa (by simp only[zo,false_or,and_false,or_false,or_self,ite_false,if_false,Bool.and_false,zz,Nat.zero_le,and_self,true_and,if_true];exact hcy) (g4 (q:=fq (h:=?_)))));simp[leave,LP,Xt,Xp,snap,D.Xr,D.Xq,D.free,D.Xw,htn]
 have htn:tn L=k:=tn_at hk xw (.inl (by have:=of_decide_eq_false hgA;omega));have yw:=fun lo cap=>clone8_at (d:=d) (by omega) (cap:=cap) hg hk hL lo;have hcy:=clip8_run (d:=d) (by omega) ⟨H,H.length⟩ (cloneY_S L k);rw[We L hk]at hcy;have yO:(k≤L.length)=True:=eq_true hk;have vO:((0:Int)≤(k:Int))=True:=eq_true (by omega);have zz:=aI yO (aI vO (aI @Nat.sub_zero (aI @Int.toNat_natCast zz)));refine g9 (q:=Au (by simp only[opd,zv,false_or,and_false,or_false,or_self,ite_false,if_false,Bool.and_false,zz,Nat.zero_le,and_self,true_and,if_true]) (g10 (q:=Aa (by simp only[zo,false_or,and_false,or_false,or_self,ite_false,if_false,Bool.and_false,zz,Nat.zero_le,and_self,true_and,if_true];exact yw _ _) (Aa (by simp only[zo,false_or,and_false,or_false,or_self,ite_false,if_false,Bool.and_false,zz,Nat.zero_le,and_self,true_and,if_true];exact hcy) (g4 (q:=fq (h:=?_)))))));simp[leave,LP,Xt,Xp,snap,D.Xr,D.Xq,D.free,D.Xw,htn]
theorem prn_tab(d:Nat)(S:St):(List.range 256).map (fun k=>Bp LP NN (d+5) 50 [.str ⟨#[UInt8.ofNat k]⟩] S)=(List.range 256).map (fun k=>some (.bool (decide (32≤k)&&decide (k≤126)),S,false)):=by kernel_rfl
theorem prn_run{d:Nat}(hd:5≤d)(S:St)(b:UInt8):Ae LP NN d 50 [.str ⟨#[b]⟩] S=some (.bool (decide (32≤b.toNat)&&decide (b.toNat≤126)),S,false):=by
 obtain⟨d,rfl⟩:∃d',d=d'+5:=⟨d-5,by omega⟩;have:=fast_ok (Kk (prn_tab d S) b.toNat b.toNat_lt);rwa [UInt8.ofNat_toNat]at this
def prn (b:UInt8):UInt8:=if decide (32≤b.toNat)&&decide (b.toNat≤126) then b else 46
abbrev G7:=Nat→Nat→UInt8
def Ef (G:G7) (r:Nat):List UInt8:=(List.range 80).map (G r)
theorem Qq(G:G7)(r:Nat):(Ef G r).length=80:=by simp[Ef]
def Eu (G:G7) (f:FM) (bs:List UInt8) (k:Nat):G7:=fun r c=>if r+1=f.line∧f.column≤c+1∧c+1<f.column+k then prn (bs.getD (c+1-f.column) 0) else G r c
def G0:G7:=fun _ _=>32
def Ak (P:List (FM × List UInt8)):G7:=P.foldl (fun G p=>Eu G p.1 p.2 p.1.size) G0
theorem paintK_0(G:G7)(f:FM)(bs:List UInt8):Eu G f bs 0=G:=by
 funext r c
 unfold Eu;rw[if_neg];intro h;omega
theorem Vu{P:List (FM × List UInt8)}{i:Nat}(h:i<P.length):Ak (P.take (i+1))=Eu (Ak (P.take i)) P[i].1 P[i].2 P[i].1.size:=by
 unfold Ak;rw[List.take_succ_eq_append_getElem h,List.foldl_append];rfl
theorem Vj(G:G7)(f:FM)(bs:List UInt8){k:Nat}(hk:k<f.size):∀r,Ef (Eu G f bs (k+1)) r=if r=f.line-1 then (Ef (Eu G f bs k) r).set (f.column-1+k) (prn (bs.getD k 0)) else Ef (Eu G f bs k) r:=by
 intro r;have hl:=f.line_le;have hc:=f.column_le;split
 ·
  rename_i hr;refine List.ext_getElem? fun c=>?_;rw[List.getElem?_set];simp only[Ef,List.length_map,List.length_range,Lp_,List.getElem?_range];by_cases hc80:c<80
  ·
   rw[List.getElem?_range hc80];simp only[Option.map_some];by_cases he:f.column-1+k=c
   ·
    rw[if_pos he,if_pos (by omega)];unfold Eu;rw[if_pos (by omega),show c+1-f.column=k from by omega]
   rw[if_neg he];unfold Eu;congr 1;by_cases hx:r+1=f.line∧f.column≤c+1∧c+1<f.column+k
   ·
    rw[if_pos hx,if_pos (by omega)]
   rw[if_neg hx,if_neg (by omega)]
  have hn:(List.range 80)[c]?=none:=by simp;omega
  rw[hn];have:¬f.column-1+k=c:=by omega
  rw[if_neg this];rfl
 rename_i hr;unfold Ef;refine List.map_congr_left fun c hc=>?_;unfold Eu;rw[if_neg (by omega),if_neg (by omega)]
def lnO (L:List UInt8):Xh:=⟨5,1,bR L,0,2,true⟩
def b32O:Xh:=⟨5,1,[[.int .u8 32]],0,2,false⟩
def LNi (G:G7) (i:Nat):List Xh:=(List.range i).flatMap fun r=>[b32O,lnO (Ef G r)]
theorem Lp(G:G7)(i:Nat):(LNi G i).length=2*i:=by
 induction i with
 | zero=>rfl
 | succ i ih=>unfold LNi at ih ⊢;rw[List.range_succ,List.flatMap_append,Ll_,ih];simp;omega
theorem Tx(G:G7)(i:Nat):LNi G (i+1)=LNi G i++[b32O,lnO (Ef G i)]:=by
 unfold LNi;rw[List.range_succ,List.flatMap_append];simp
theorem LNi_at(G:G7):∀{i r:Nat},r<i→(LNi G i)[2*r+1]?=some (lnO (Ef G r))
 | i + 1, r, h => by
  rw[Tx];by_cases hr:r<i
  ·
   rw[La_ (by rw[Lp];omega)];exact LNi_at G hr
  have:r=i:=by omega
  subst this;rw[Lr_ (by rw[Lp];omega),Lp];simp[show 2*r+1-2*r=1 from by omega]
theorem LNi_set(G G':G7):∀{i r:Nat} {L:List UInt8},r<i→(∀j,Ef G' j=if j=r then L else Ef G j)→(LNi G i).set (2*r+1) (lnO L)=LNi G' i
 | i + 1, r, L, h, hG => by
  rw[Tx,Tx];by_cases hr:r<i
  ·
   rw[List.set_append_left _ _ (by rw[Lp];omega),LNi_set G G' hr hG,hG i,if_neg (by omega)]
  have:r=i:=by omega
  subst this;rw[List.set_append_right _ _ (by rw[Lp];omega),Lp,show 2*r+1-2*r=1 from by omega,hG r,if_pos rfl]
  have yX:LNi G r=LNi G' r:=by
   unfold LNi;rw[List.flatMap_def,List.flatMap_def];congr 1;refine List.map_congr_left fun j hj=>?_;have:=List.mem_range.1 hj;rw[hG j,if_neg (by omega)]
  rw[yX];rfl
def Rs (n0 i:Nat):List (List D):=(List.range 24).map fun r=>if r<i then [.msl (n0+(3+2*r)) 0 0 80 (some 80)] else [.X4]
def GLi (n0 i:Nat):Xh:=⟨57,1,Rs n0 i,0,0,false⟩
theorem I9{n0 i r:Nat}(h:r<24):(Rs n0 i)[r]?=some (if r<i then [.msl (n0+(3+2*r)) 0 0 80 (some 80)] else [.X4]):=by simp[Rs,h]
theorem Ny(n0 i:Nat):(Rs n0 i).length=24:=by simp[Rs]
theorem glRows_set{n0 i:Nat}(h:i<24):(Rs n0 i).set i [.msl (n0+(3+2*i)) 0 0 80 (some 80)]=Rs n0 (i+1):=by
 refine List.ext_getElem? fun j=>?_;rw[List.getElem?_set];by_cases hj:i=j
 ·
  subst hj;rw[if_pos rfl,if_pos (by rw[Ny];exact h),I9 h,if_pos (by omega)]
 rw[if_neg hj];by_cases h24:j<24
 ·
  rw[I9 h24,I9 h24];by_cases hi:j<i
  ·
   rw[if_pos hi,if_pos (by omega)]
  rw[if_neg hi,if_neg (by omega)]
 rw[List.getElem?_eq_none (by rw[Ny];omega),List.getElem?_eq_none (by rw[Ny];omega)]
def HB (sb:Xh) (n0:Nat) (G:G7):List Xh:=sb::GLi n0 24::LNi G 24
theorem Qg(sb:Xh)(n0:Nat)(G:G7):(HB sb n0 G).length=50:=by simp[HB,Lp]
section
variable (H:List Xh) (sb:Xh) (G:G7) (t:List Xh)
theorem HB_sb:(H++(HB sb H.length G++t))[H.length]?=some sb:=by rw[Bf];rfl
theorem HB_gl:(H++(HB sb H.length G++t))[H.length+1]?=some (GLi H.length 24):=by rw[Bd];rfl
theorem HB_ln{r:Nat}(h:r<24):(H++(HB sb H.length G++t))[H.length+(3+2*r)]?=some (lnO (Ef G r)):=by
 rw[Bd,La_ (by rw[Qg];omega),show 3+2*r=(2*r+1)+1+1 from by omega];exact LNi_at G h
theorem HB_set{G':G7}{r:Nat}{L:List UInt8}(h:r<24)(hG:∀j,Ef G' j=if j=r then L else Ef G j):(H++(HB sb H.length G++t)).set (H.length+(3+2*r)) (lnO L)=H++(HB sb H.length G'++t):=by
 rw[Cb,List.set_append_left _ _ (by rw[Qg];omega),show 3+2*r=(2*r+1)+1+1 from by omega];unfold HB;rw[List.set_cons_succ,List.set_cons_succ,LNi_set G G' h hG]
theorem HB_new(o:Xh)(m:List Xh):(H++(HB sb H.length G++(t++o::m)))[H.length+(50+t.length)]?=some o:=by
 rw[Bd,←Lo_,Lr_ (by simp[Qg]),Ll_,Qg];simp
theorem HB_newS(o y:Xh)(m:List Xh):(H++(HB sb H.length G++(t++o::m))).set (H.length+(50+t.length)) y=H++(HB sb H.length G++(t++y::m)):=by
 rw[Cb,←Lo_,List.set_append_right _ _ (by simp[Qg]),Ll_,Qg];simp
end
theorem bR_set(L:List UInt8)(c:Nat)(b:UInt8):(bR L).set c [.int .u8 b.toNat]=bR (L.set c b):=by simp[bR,List.map_set]
theorem spR_blank(r:Nat):spR 80=bR (Ef G0 r):=by
 have:Ef G0 r=List.replicate 80 32:=by
  show (List.range 80).map (fun _=>(32:UInt8))=_;rw[List.map_const',List.length_range]
 rw[this];simp[spR,bR]
structure SrcV (H:List Xh) (x:D) (vals:List D) (gv vv:Nat):Prop where
 len:Hr false x=some (.int .i64 (vals.length:Nat))
 cell:x.Xv=true
 Xp:∀m l,Xp m (H++l) x=some x
 ia:∀l lo i,i<vals.length→Fe ⟨H++l,lo⟩ 1 x (.int .i64 (i:Nat))=some (.ptr gv vv i 0)
 ld:∀l lo i v,vals[i]?=some v→G6 1 false ⟨H++l,lo⟩ (.ptr gv vv i 0)=some v
structure RdB (H:List Xh) (w:D) (bs:List UInt8):Prop where
 len:Hr false w=some (.int .i64 (bs.length:Nat))
 cell:w.Xv=true
 rd:∀(k:Nat) (b:UInt8),bs[k]?=some b→∃A,∀l lo,Fe ⟨H++l,lo⟩ 1 w (.int .i64 (k:Nat))=some A∧G6 1 false ⟨H++l,lo⟩ A=some (.int .u8 (b.toNat:Nat))
theorem SlD.rdb{w:D}{bs:List UInt8}(h:SlD 1 (bR bs) w)(H:List Xh):RdB H w bs:=by
 refine⟨by rw[h.len,Ga],h.Xv,fun k b hb=>⟨.X7 [.int .u8 (b.toNat:Nat)] 0,fun l lo=>⟨h.iaddrN _ .i64 (bR_at hb),rfl⟩⟩⟩
def Fits (H:List Xh) (f:FM) (bs:List UInt8) (v:D):Prop:=bs.length=f.size∧if f.kind=1 then bs=f.text.data.toList else RdB H v bs
def trS (G:G7) (r:Nat):ByteArray:=⟨((Ef G r).take (tn (Ef G r))).toArray⟩
def De (G:G7) (i:Nat):List (List D):=(List.range 24).map fun r=>if r<i then [.str (trS G r)] else [.str ⟨#[]⟩]
theorem Hz{G:G7}{i r:Nat}(h:r<24):(De G i)[r]?=some (if r<i then [.str (trS G r)] else [.str ⟨#[]⟩]):=by simp[De,h]
theorem Gy(G:G7)(i:Nat):(De G i).length=24:=by simp[De]
theorem outRows_set{G:G7}{i:Nat}(h:i<24):(De G i).set i [.str (trS G i)]=De G (i+1):=by
 refine List.ext_getElem? fun j=>?_;rw[List.getElem?_set];by_cases hj:i=j
 ·
  subst hj;rw[if_pos rfl,if_pos (by rw[Gy];exact h),Hz h,if_pos (by omega)]
 rw[if_neg hj];by_cases h24:j<24
 ·
  rw[Hz h24,Hz h24];by_cases hi:j<i
  ·
   rw[if_pos hi,if_pos (by omega)]
  rw[if_neg hi,if_neg (by omega)]
 rw[List.getElem?_eq_none (by rw[Gy];omega),List.getElem?_eq_none (by rw[Gy];omega)]
theorem SrcF.mono{H:List Xh}{x:D}{rows:List (List D)}{gs v:Nat}(h:SrcF H x rows gs v)(l:List Xh):SrcF (H++l) x rows gs v :=
 ⟨h.len,h.cell,fun m l'=>by rw[Lo_];exact h.snap m _,h.fpi,fun l' lo i hi=>by rw[Lo_];exact h.ia _ lo i hi,fun l' lo i r hr h16=>by rw[Lo_];exact h.ld _ lo i r hr h16⟩
abbrev sbO (nm:ByteArray) (x:D) (p0 c0:Nat):Xh:=⟨32,4,[[.str nm,x,.int .i64 (p0:Nat),.int .i64 (c0:Nat)]],0,0,false⟩
theorem show_run{d:Nat}(hd:24≤d){H:List Xh}{x xv:D}{rows:List (List D)}{vals:List D}{gs v gv vv:Nat}{P:List (FM × List UInt8)}(hS:SrcF H x rows gs v)(hR:RW (P.map (·.1)) rows)(hv:SrcV H xv vals gv vv)(xg:P.length≤256)(wU:vals.length=P.length)(xW:∀(i:Nat) (p:FM × List UInt8) (w:D),P[i]?=some p→vals[i]?=some w→Fits H p.1 p.2 w)(nm:ByteArray)(p0 c0:Nat)(lo:Nat) :
  Ae LP NN d 18 [.agg [.str nm,x,.int .i64 (p0:Nat),.int .i64 (c0:Nat)],xv] ⟨H,lo⟩=some (.tup [.sl 1 (De (Ak P) 24) (some 24),.int .i64 0],⟨H,lo⟩,false):=by
 have hvz:∀m,Go.Proofs.YtlhdliikahebhaaGreatDoor.Xp m H xv=some xv:=fun m=>by have:=hv.Xp m [];rwa [List.append_nil]at this
 have yI:=hR.len;rw[List.length_map]at yI;have hE:(((vals.length:Nat):Int) != ((rows.length:Nat):Int))=false:=by rw[wU,yI,bne_self_eq_false]
 have hchk:∀d',d=d'+1→∀l lo,Ae LP NN d' 44 [.agg [.str nm,x,.int .i64 (p0:Nat),.int .i64 (c0:Nat)]] ⟨H++l,lo⟩=some (.int .i64 0,⟨H++l,lo⟩,false):=fun d' e l lo=>check_run (l0:=P.map (·.1)) (by omega) (hS.mono l) hR (by rw[List.length_map];omega) nm p0 c0 lo;have zz:=aI hv.len (aI hS.len (aI hS.cell (aI hE (aI @Bd (aI @Bf (aI @Cb (aI @Ca (aI hS.zero (aI hvz @Bool.false_and)))))))));refine raz (hb:=?_);rintro d rfl;refine g11 (q:=Aa (by simp only[zo,Int.reduceToNat,zz];exact hchk d rfl _ _) (g9 (q:=Au (by simp only[opd,zv,Int.reduceToNat,zz]<;>rfl) (g13 (q:=Au (by simp only[opd,zv,Int.reduceToNat,zz]<;>rfl) (g17 (q:=Bq (fun n env S'=>∃(i:Nat) (u7 u20:D),i≤24∧n=24-i∧S'=⟨H++(sbO nm x p0 c0::GLi H.length i::LNi G0 i),H.length⟩∧env=[.agg [.str nm,x,.int .i64 (p0:Nat),.int .i64 (c0:Nat)],xv,.ptr H.length 0 0 0,.X4,.int .i64 0,.int .i64 0,.msl (H.length+1) 0 0 24 none,u7,.undef,.undef,.undef,.undef,.undef,.undef,.undef,.undef,.bool false,.bool false,.int .i64 24,.int .i64 (i:Nat),u20,.undef,.undef,.undef,.undef,.undef,.undef,.undef,.undef,.undef,.undef,.undef,.undef,.undef,.undef,.undef]) (24) (by omega) (⟨0,_,_,by omega,by omega,rfl,rfl⟩) ?_)))))));rintro n env S' ⟨i,u7,u20,hi,kL,rfl,rfl⟩;refine g6 (q:=He (by simp only[opd,zv,Int.reduceToNat,zz]<;>exact rfl) (fun xZ=>?_) (fun xZ=>?_))
 ·
  have xq:i<24:=by have:=of_decide_eq_true xZ;omega
  have hw:=Bu i (by omega);have hga:=(I9 (n0:=H.length) (i:=i) xq).trans (by rw[if_neg (by omega)]);have hgs:=glRows_set (n0:=H.length) xq;have xJ:=Ny H.length i;have h0:(0:Int)≤(i:Int):=by omega
  have h24:(i:Int)<((24:Nat):Int):=by omega
  have zX:=Lp G0 i
  have hb32:(H++(sbO nm x p0 c0::GLi H.length i::(LNi G0 i++[⟨5,1,[[.int .u8 32]],0,2,false⟩])))[H.length+(2*i+1+1)]?=some ⟨5,1,[[.int .u8 32]],0,2,false⟩:=by
   rw[Bd,Ls_,Ls_,Lr_ (by rw[zX];omega),zX];simp
  have hrep:=fun lo=>repeat_run (d:=d) (by omega) hb32 lo
  have xg:(H++(sbO nm x p0 c0::GLi H.length i::(LNi G0 i++[⟨5,1,[[.int .u8 32]],0,2,false⟩]))).length=H.length+(3+2*i):=by
   simp[zX];omega
  have xM:min H.length (H.length+(3+2*i))=H.length:=by omega
  have hLN:LNi G0 (i+1)=LNi G0 i++[⟨5,1,[[.int .u8 32]],0,2,false⟩,⟨5,1,spR 80,0,2,true⟩]:=by rw[Tx,spR_blank i];rfl
  rw[xg]at hrep;have zz:=aI hw (aI hga (aI hgs (aI xJ (aI h0 (aI h24 (aI zX (aI @GLi.eq_1 (aI xM zz))))))));refine g14 (q:=Aa (by simp only[zo,Int.reduceToNat,zz];exact (hrep _)) (g10 (q:=?_)));exact⟨24-(i+1),by omega,i+1,_,_,by omega,rfl,by rw[hLN];rfl,rfl⟩
 have hi':i=24:=by have:=of_decide_eq_false xZ;omega
 subst hi';refine g15 (q:=Bq (fun n env S'=>∃(i:Nat) (t:List Xh) (u7 u8 u9 u10 u11 u12 u19 u20 u24 u25 u26 u27 u28 u29 u30 u31:D),i≤P.length∧n=P.length-i∧S'=⟨H++(HB (sbO nm x p0 c0) H.length (Ak (P.take i))++t),H.length⟩∧env=[.agg [.str nm,x,.int .i64 (p0:Nat),.int .i64 (c0:Nat)],xv,.ptr H.length 0 0 0,.X4,.int .i64 0,.int .i64 0,.msl (H.length+1) 0 0 24 none,u7,u8,u9,u10,u11,u12,.undef,.undef,.undef,.bool false,.bool false,.int .i64 24,u19,u20,x,.int .i64 rows.length,.int .i64 (i:Nat),u24,u25,u26,u27,u28,u29,u30,u31,.undef,.undef,.undef,.undef]) (P.length) (by omega) (⟨0,[],_,_,_,_,_,_,_,_,_,_,_,_,_,_,_,_,by omega,by omega,by rw[List.append_nil,List.take_zero];rfl,rfl⟩) ?_);rintro n env S' ⟨i,t,u7,u8,u9,u10,u11,u12,u19,u20,u24,u25,u26,u27,u28,u29,u30,u31,hi,kL,rfl,rfl⟩;refine g6 (q:=He (by simp only[opd,zv,Int.reduceToNat,zz]<;>exact rfl) (fun zZ=>?_) (fun zZ=>?_))
 ·
  have xq:i<P.length:=by have:=of_decide_eq_true zZ;omega
  have hw:=Bu i (by omega);obtain⟨f,bs,hPe⟩:∃f bs,P[i]=(f,bs):=⟨_,_,rfl⟩;have hPi:P[i]?=some (f,bs):=by rw[Lg xq,hPe]
  obtain⟨w,vK⟩:∃w,vals[i]?=some w:=⟨_,Lg (by omega)⟩;obtain⟨wD,hbf⟩:=xW i _ w hPi vK;simp only at wD hbf;have hltr:i<rows.length:=by omega
  have yD:=fun l lo=>hS.ia l lo i hltr;have hiv:=fun l lo=>hv.ia l lo i (by omega);have hlv:=fun l lo=>hv.ld l lo i w vK;obtain⟨p,xO⟩:=hR.at_ (i:=i) (by rw[List.length_map];exact xq);have hfe:(P.map (·.1))[i]'(by rw[List.length_map];exact xq)=f:=by rw[List.getElem_map,hPe]
  rw[hfe]at xO;have wT:=fun (l:List Xh) lo=>hS.ld l lo i _ xO (by rw[Mj];exact Nat.le_refl _);rw[Mi]at wT;obtain⟨tx,op,nu,r1,r2,hrf,kE,yR,y7,wW⟩:=Ke f p;rw[hrf]at wT;obtain⟨G,hG⟩:∃G,G=Ak (P.take i):=⟨_,rfl⟩;rw[←hG];have xC:=f.size_le;have uO:=f.kind_le;have hnw:=fun G o m=>HB_new H (sbO nm x p0 c0) G t o m;have hns:=fun G o y m=>HB_newS H (sbO nm x p0 c0) G t o y m;have hBl:=fun G=>Qg (sbO nm x p0 c0) H.length G;have hsbo:=fun G t=>HB_sb H (sbO nm x p0 c0) G t;have zz:=aI hw (aI yD (aI hiv (aI hlv (aI wT (aI hnw (aI hns (aI hBl (aI hsbo (aI kE.Xv (aI yR.Xv (aI kE.cells (aI yR.cells (aI kE.val (aI yR.val (aI @List.cons_append.{0} (aI @FO.eq_1 zz))))))))))))))));by_cases hk1':f.kind=1
  ·
   obtain⟨rfl,rfl,rfl,rfl⟩:=y7 hk1';rw[if_pos hk1']at hbf;have e1:(((f.kind:Nat):Int)==1)=true:=by rw[beq_iff_eq];omega
   have hb:RdB H (.sl 1 (byteRows f.text) none) bs:=by rw[hbf];exact SlD.rdb (.of _ _ _) H
   have hbl2:(byteRows f.text).length=f.size:=by rw[Oc,Qj]
   have zz:=aI e1 (aI hbl2 (aI @bne_self_eq_false.{0} (aI @Bool.false_eq_true zz)));refine g31 (q:=Dn (by simp only[opd,zv,Int.reduceToNat,zz,if_false]<;>rfl) (g17 (q:=Au (by simp only[opd,zv,Int.reduceToNat,zz,if_false]<;>rfl) (g10 (q:=Bq (fun n env S'=>∃(k:Nat) (t2:List Xh) (v11 v12 v30 v31:D),k≤f.size∧n=f.size-k∧S'=⟨H++(HB (sbO nm x p0 c0) H.length (Eu G f bs k)++(t++FO [.int .i64 (f.line:Nat),.int .i64 (f.column:Nat),.int .u8 (f.kind:Nat),.sl 1 (byteRows f.text) none,.int .u8 (if false then (if f.size=1 then 4 else 5) else 2),.int .u8 0,.str (Dp false f.size),.int .i64 (if false then (f.size:Nat) else 0),.int .i64 0,.bool false,.bool false,.bool false,.bool false,.bool false,.int .i64 (f.size:Nat),.X4]::t2)),H.length⟩∧env=[.agg [.str nm,x,.int .i64 (p0:Nat),.int .i64 (c0:Nat)],xv,.ptr H.length 0 0 0,.X4,.int .i64 0,.int .i64 0,.msl (H.length+1) 0 0 24 none,u7,.int .i64 (i:Nat),.ptr (H.length+(50+t.length)) 0 0 0,(.sl 1 (byteRows f.text) none),v11,v12,.undef,.undef,.undef,.bool false,.bool false,.int .i64 24,u19,u20,x,.int .i64 rows.length,.int .i64 (i:Nat),.bool (decide (((i:Nat):Int)<((rows.length:Nat):Int))),.bool true,.bool false,(.sl 1 (byteRows f.text) none),.int .i64 (f.size:Nat),.int .i64 (k:Nat),v30,v31,.undef,.undef,.undef,.undef]) (f.size) (by omega) (⟨0,[],_,_,_,_,by omega,by omega,by rw[paintK_0];rfl,rfl⟩) ?_)))));rintro n env S' ⟨k,t2,v11,v12,v30,v31,hk,hnk2,rfl,rfl⟩;refine g6 (q:=He (by simp only[opd,zv,Int.reduceToNat,zz,if_false]<;>exact rfl) (fun vF=>?_) (fun vF=>?_))
   ·
    have zy:k<f.size:=by have:=of_decide_eq_true vF;omega
    have kC:=Bu k (by omega);have hbk:bs[k]?=some (bs[k]'(by omega)):=Lg _;obtain⟨c,hc⟩:∃c,c=bs[k]'(by omega):=⟨_,rfl⟩;rw[←hc]at hbk;obtain⟨A,hA⟩:=hb.rd k c hbk;have hiab:=fun l lo=>(hA l lo).1;have hlab:=fun l lo=>(hA l lo).2;have hln:=f.line_le;have hcn:=f.column_le;have hwl:IntKind.i64.wrap (((f.line:Nat):Int)-1)=((f.line-1:Nat):Int):=by rw[IntKind.wrap_i64];omega
    have hwc:IntKind.i64.wrap (((f.column:Nat):Int)-1)=((f.column-1:Nat):Int):=by rw[IntKind.wrap_i64];omega
    have kD:IntKind.i64.wrap (((f.column-1:Nat):Int)+((k:Nat):Int))=((f.column-1+k:Nat):Int):=by rw[IntKind.wrap_i64];omega
    have qF:f.line-1<24:=by omega
    have hc80:f.column-1+k<80:=by omega
    have xJ:=fun G t=>HB_gl H (sbO nm x p0 c0) G t;have hgr:=(I9 (n0:=H.length) (i:=24) qF).trans (by rw[if_pos qF]);have wK:=fun G t=>HB_ln H (sbO nm x p0 c0) G t qF
    have hnw2:∀(G:G7) (fo o:Xh),(H++(HB (sbO nm x p0 c0) H.length G++(t++fo::(t2++[o]))))[H.length+(50+(t.length+(t2.length+1)))]?=some o:=fun G fo o=>by
     have:=HB_new H (sbO nm x p0 c0) G (t++fo::t2) o [];simpa using this
    have hbo:bytesOf [[D.int .u8 (c.toNat:Nat)]]=some [c]:=by simp[bytesOf]
    have hp:=fun S=>prn_run (d:=d) (by omega) S c;have yB:UInt8.ofNat (((c.toNat:Nat):Int)).toNat=c:=by simp
    have hp2:∀S,Ae LP NN d 50 [.str ⟨#[UInt8.ofNat (((c.toNat:Nat):Int)).toNat]⟩] S=some (.bool (decide (32≤c.toNat)&&decide (c.toNat≤126)),S,false):=fun S=>by rw[yB];exact hp S
    have uJ:=bR_at (Lg (l:=Ef (Eu G f bs k) (f.line-1)) (i:=f.column-1+k) (by rw[Qq];exact hc80))
    have xH:∀(v:UInt8) m,v=prn c→(H++(HB (sbO nm x p0 c0) H.length (Eu G f bs k)++m)).set (H.length+(3+2*(f.line-1))) ⟨5,1,(bR (Ef (Eu G f bs k) (f.line-1))).set (f.column-1+k) [.int .u8 (v.toNat:Nat)],0,2,true⟩=H++(HB (sbO nm x p0 c0) H.length (Eu G f bs (k+1))++m):=fun v m e=>by
     subst e;rw[bR_set];refine HB_set H _ (Eu G f bs k) m qF fun j=>?_;rw[Vj G f bs zy j];have:bs.getD k 0=c:=by rw[List.getD_eq_getElem?_getD,hbk];rfl
     rw[this];split
     ·
      rename_i e;rw[e]
     rfl
    have z1:(0:Int)≤((f.line-1:Nat):Int):=by omega
    have z2:((f.line-1:Nat):Int)<((24:Nat):Int):=by omega
    have z3:(0:Int)≤((f.column-1+k:Nat):Int):=by omega
    have z4:((f.column-1+k:Nat):Int)<((80:Nat):Int):=by omega
    have zz:=aI kC (aI hiab (aI hlab (aI hwl (aI hwc (aI kD (aI xJ (aI hgr (aI wK (aI hnw2 (aI hbo (aI uJ (aI z1 (aI z2 (aI z3 (aI z4 (aI @GLi.eq_1 (aI @lnO.eq_1 (aI @Nat.zero_add zz))))))))))))))))));refine g19 (q:=?_)
    first
     | refine Aa (by simp only[zo,Int.reduceToNat,zz,if_false];exact hp _) ?_
     | refine Aa (by simp only[zo,Int.reduceToNat,zz,if_false];exact hp2 _) ?_
    refine g3 (q:=He (by simp only[opd,zv,Int.reduceToNat,zz,if_false]<;>exact rfl) (fun uf=>?_) (fun uf=>?_))
    ·
     have hv46:(46:UInt8)=prn c:=by
      have h:=uf;unfold prn;rw[if_neg (by intro h2;rw[h2]at h;cases h)]
     have wF:=fun m=>xH 46 m hv46;simp only[show ((((46:UInt8).toNat:Nat):Int))=46 from rfl]at wF;have vW:=fun m=>List.append_cancel_left ((Cb H _ _ _).symm.trans (wF m));refine g27 (q:=?_);exact⟨f.size-(k+1),by omega,k+1,_,_,_,_,_,by omega,rfl,by rw[←vW];rfl,rfl⟩
    have hvc:c=prn c:=by
     have h:=uf;unfold prn;rw[if_pos (by simpa using h)]
    have wF:=fun m=>xH c m hvc;have vW:=fun m=>List.append_cancel_left ((Cb H _ _ _).symm.trans (wF m));refine g25 (q:=?_);exact⟨f.size-(k+1),by omega,k+1,_,_,_,_,_,by omega,rfl,by rw[←vW];rfl,rfl⟩
   have hk':k=f.size:=by have:=of_decide_eq_false vF;omega
   subst hk';refine g11 (q:=?_);exact⟨P.length-(i+1),by omega,i+1,_,_,_,_,_,_,_,_,_,_,_,_,_,_,_,_,_,by omega,rfl,by rw[Vu xq,hPe,←hG],rfl⟩
  rw[if_neg hk1']at hbf;have e1:(((f.kind:Nat):Int)==1)=false:=by rw[beq_eq_false_iff_ne];omega
  have hb:=hbf;have hbl2:=hb.len;rw[wD]at hbl2;have zz:=aI e1 (aI hbl2 (aI @bne_self_eq_false.{0} zz));refine g31 (q:=Au (by simp only[opd,zv,Int.reduceToNat,zz]<;>rfl) (g13 (q:=Au (by simp only[opd,zv,Int.reduceToNat,zz]<;>rfl) (g10 (q:=Bq (fun n env S'=>∃(k:Nat) (t2:List Xh) (v11 v12 v30 v31:D),k≤f.size∧n=f.size-k∧S'=⟨H++(HB (sbO nm x p0 c0) H.length (Eu G f bs k)++(t++FO [.int .i64 (f.line:Nat),.int .i64 (f.column:Nat),.int .u8 (f.kind:Nat),tx,.int .u8 (if nu then (if f.size=1 then 4 else 5) else 2),.int .u8 0,.str (Dp nu f.size),.int .i64 (if nu then (f.size:Nat) else 0),.int .i64 0,.bool false,.bool false,.bool false,.bool false,.bool false,.int .i64 (f.size:Nat),op]::t2)),H.length⟩∧env=[.agg [.str nm,x,.int .i64 (p0:Nat),.int .i64 (c0:Nat)],xv,.ptr H.length 0 0 0,.X4,.int .i64 0,.int .i64 0,.msl (H.length+1) 0 0 24 none,u7,.int .i64 (i:Nat),.ptr (H.length+(50+t.length)) 0 0 0,w,v11,v12,.undef,.undef,.undef,.bool false,.bool false,.int .i64 24,u19,u20,x,.int .i64 rows.length,.int .i64 (i:Nat),.bool (decide (((i:Nat):Int)<((rows.length:Nat):Int))),.bool false,.bool false,w,.int .i64 (f.size:Nat),.int .i64 (k:Nat),v30,v31,.undef,.undef,.undef,.undef]) (f.size) (by omega) (⟨0,[],_,_,_,_,by omega,by omega,by rw[paintK_0];rfl,rfl⟩) ?_)))));rintro n env S' ⟨k,t2,v11,v12,v30,v31,hk,hnk2,rfl,rfl⟩;refine g6 (q:=He (by simp only[opd,zv,Int.reduceToNat,zz]<;>exact rfl) (fun vE=>?_) (fun vE=>?_))
  ·
   have zy:k<f.size:=by have:=of_decide_eq_true vE;omega
   have kC:=Bu k (by omega);have hbk:bs[k]?=some (bs[k]'(by omega)):=Lg _;obtain⟨c,hc⟩:∃c,c=bs[k]'(by omega):=⟨_,rfl⟩;rw[←hc]at hbk;obtain⟨A,hA⟩:=hb.rd k c hbk;have hiab:=fun l lo=>(hA l lo).1;have hlab:=fun l lo=>(hA l lo).2;have hln:=f.line_le;have hcn:=f.column_le;have hwl:IntKind.i64.wrap (((f.line:Nat):Int)-1)=((f.line-1:Nat):Int):=by rw[IntKind.wrap_i64];omega
   have hwc:IntKind.i64.wrap (((f.column:Nat):Int)-1)=((f.column-1:Nat):Int):=by rw[IntKind.wrap_i64];omega
   have kD:IntKind.i64.wrap (((f.column-1:Nat):Int)+((k:Nat):Int))=((f.column-1+k:Nat):Int):=by rw[IntKind.wrap_i64];omega
   have qF:f.line-1<24:=by omega
   have hc80:f.column-1+k<80:=by omega
   have xJ:=fun G t=>HB_gl H (sbO nm x p0 c0) G t;have hgr:=(I9 (n0:=H.length) (i:=24) qF).trans (by rw[if_pos qF]);have wK:=fun G t=>HB_ln H (sbO nm x p0 c0) G t qF
   have hnw2:∀(G:G7) (fo o:Xh),(H++(HB (sbO nm x p0 c0) H.length G++(t++fo::(t2++[o]))))[H.length+(50+(t.length+(t2.length+1)))]?=some o:=fun G fo o=>by
    have:=HB_new H (sbO nm x p0 c0) G (t++fo::t2) o [];simpa using this
   have hbo:bytesOf [[D.int .u8 (c.toNat:Nat)]]=some [c]:=by simp[bytesOf]
   have hp:=fun S=>prn_run (d:=d) (by omega) S c;have yB:UInt8.ofNat (((c.toNat:Nat):Int)).toNat=c:=by simp
   have hp2:∀S,Ae LP NN d 50 [.str ⟨#[UInt8.ofNat (((c.toNat:Nat):Int)).toNat]⟩] S=some (.bool (decide (32≤c.toNat)&&decide (c.toNat≤126)),S,false):=fun S=>by rw[yB];exact hp S
   have uJ:=bR_at (Lg (l:=Ef (Eu G f bs k) (f.line-1)) (i:=f.column-1+k) (by rw[Qq];exact hc80))
   have xH:∀(v:UInt8) m,v=prn c→(H++(HB (sbO nm x p0 c0) H.length (Eu G f bs k)++m)).set (H.length+(3+2*(f.line-1))) ⟨5,1,(bR (Ef (Eu G f bs k) (f.line-1))).set (f.column-1+k) [.int .u8 (v.toNat:Nat)],0,2,true⟩=H++(HB (sbO nm x p0 c0) H.length (Eu G f bs (k+1))++m):=fun v m e=>by
    subst e;rw[bR_set];refine HB_set H _ (Eu G f bs k) m qF fun j=>?_;rw[Vj G f bs zy j];have:bs.getD k 0=c:=by rw[List.getD_eq_getElem?_getD,hbk];rfl
    rw[this];split
    ·
     rename_i e;rw[e]
    rfl
   have z1:(0:Int)≤((f.line-1:Nat):Int):=by omega
   have z2:((f.line-1:Nat):Int)<((24:Nat):Int):=by omega
   have z3:(0:Int)≤((f.column-1+k:Nat):Int):=by omega
   have z4:((f.column-1+k:Nat):Int)<((80:Nat):Int):=by omega
   have zz:=aI kC (aI hiab (aI hlab (aI hwl (aI hwc (aI kD (aI xJ (aI hgr (aI wK (aI hnw2 (aI hbo (aI uJ (aI z1 (aI z2 (aI z3 (aI z4 (aI @GLi.eq_1 (aI @lnO.eq_1 (aI @Nat.zero_add zz))))))))))))))))));refine g19 (q:=?_)
   first
    | refine Aa (by simp only[zo,Int.reduceToNat,zz];exact hp _) ?_
    | refine Aa (by simp only[zo,Int.reduceToNat,zz];exact hp2 _) ?_
   refine g3 (q:=He (by simp only[opd,zv,Int.reduceToNat,zz]<;>exact rfl) (fun wZ=>?_) (fun wZ=>?_))
   ·
    have hv46:(46:UInt8)=prn c:=by
     have h:=wZ;unfold prn;rw[if_neg (by intro h2;rw[h2]at h;cases h)]
    have wF:=fun m=>xH 46 m hv46;simp only[show ((((46:UInt8).toNat:Nat):Int))=46 from rfl]at wF;have vW:=fun m=>List.append_cancel_left ((Cb H _ _ _).symm.trans (wF m));refine g27 (q:=?_);exact⟨f.size-(k+1),by omega,k+1,_,_,_,_,_,by omega,rfl,by rw[←vW];rfl,rfl⟩
   have hvc:c=prn c:=by
    have h:=wZ;unfold prn;rw[if_pos (by simpa using h)]
   have wF:=fun m=>xH c m hvc;have vW:=fun m=>List.append_cancel_left ((Cb H _ _ _).symm.trans (wF m));refine g25 (q:=?_);exact⟨f.size-(k+1),by omega,k+1,_,_,_,_,_,by omega,rfl,by rw[←vW];rfl,rfl⟩
  have hk':k=f.size:=by have:=of_decide_eq_false vE;omega
  subst hk';refine g11 (q:=?_);exact⟨P.length-(i+1),by omega,i+1,_,_,_,_,_,_,_,_,_,_,_,_,_,_,_,_,_,by omega,rfl,by rw[Vu xq,hPe,←hG],rfl⟩
 have hi':i=P.length:=by have:=of_decide_eq_false zZ;omega
 subst hi';have hnw:=fun G o m=>HB_new H (sbO nm x p0 c0) G t o m;have hns:=fun G o y m=>HB_newS H (sbO nm x p0 c0) G t o y m;have hBl:=fun G=>Qg (sbO nm x p0 c0) H.length G;have hsbo:=fun G t=>HB_sb H (sbO nm x p0 c0) G t;have zz:=aI hnw (aI hns (aI hBl (aI hsbo zz)));refine g20 (q:=Bq (fun n env S'=>∃(i:Nat) (w14 w15 w24 w35:D),i≤24∧n=24-i∧S'=⟨H++(HB (sbO nm x p0 c0) H.length (Ak P)++(t++[⟨9,1,De (Ak P) i,0,2,false⟩])),H.length⟩∧env=[.agg [.str nm,x,.int .i64 (p0:Nat),.int .i64 (c0:Nat)],xv,.ptr H.length 0 0 0,.X4,.int .i64 0,.int .i64 0,.msl (H.length+1) 0 0 24 none,u7,u8,u9,u10,u11,u12,.msl (H.length+(50+t.length)) 0 0 24 none,w14,w15,.bool false,.bool false,.int .i64 24,u19,u20,x,.int .i64 rows.length,.int .i64 (P.length:Nat),w24,u25,u26,u27,u28,u29,u30,u31,.msl (H.length+1) 0 0 24 none,.int .i64 24,.int .i64 (i:Nat),w35]) (24) (by omega) (⟨0,_,_,_,_,by omega,by omega,by rw[List.take_length];rfl,rfl⟩) ?_);rintro n env S' ⟨i,w14,w15,w24,w35,zD,hnk3,rfl,rfl⟩;refine g6 (q:=He (by simp only[opd,zv,Int.reduceToNat,zz]<;>exact rfl) (fun qR=>?_) (fun qR=>?_))
 ·
  have xq:i<24:=by have:=of_decide_eq_true qR;omega
  have hw:=Bu i (by omega);have h0:(0:Int)≤(i:Int):=by omega
  have h24:(i:Int)<((24:Nat):Int):=by omega
  have xJ:=fun G t=>HB_gl H (sbO nm x p0 c0) G t;have hgr:=(I9 (n0:=H.length) (i:=24) xq).trans (by rw[if_pos xq]);have wK:=fun G t=>HB_ln H (sbO nm x p0 c0) G t xq
  have hTr:∀m lo,Ae LP NN d 51 [.msl (H.length+(3+2*i)) 0 0 80 (some 80)] ⟨H++(HB (sbO nm x p0 c0) H.length (Ak P)++m),lo⟩=some (.sl 1 (bR ((Ef (Ak P) i).take (tn (Ef (Ak P) i)))) (some (tn (Ef (Ak P) i))),⟨H++(HB (sbO nm x p0 c0) H.length (Ak P)++m),lo⟩,false):=fun m lo=>by
   have:=trim_run (d:=d) (cap:=some 80) (by omega) (wK (Ak P) m) (by rw[Qq];omega) lo;rwa [Qq]at this
  have rY:=E8 ((Ef (Ak P) i).take (tn (Ef (Ak P) i)));have hoa:=(Hz (G:=Ak P) (i:=i) xq).trans (by rw[if_neg (by omega)]);have hos:=outRows_set (G:=Ak P) xq;rw[show trS (Ak P) i=⟨((Ef (Ak P) i).take (tn (Ef (Ak P) i))).toArray⟩ from rfl]at hos;have zz:=aI hw (aI h0 (aI h24 (aI xJ (aI hgr (aI wK (aI @GLi.eq_1 (aI rY (aI hoa (aI hos (aI @Nat.zero_add zz))))))))));refine g17 (q:=Aa (by simp only[zo,Int.reduceToNat,zz];exact hTr _ _) (g11 (q:=?_)));exact⟨24-(i+1),by omega,i+1,_,_,_,_,by omega,rfl,by rw[←hos];rfl,rfl⟩
 have hi':i=24:=by have:=of_decide_eq_false qR;omega
 subst hi';have hto:(De (Ak P) 24).take 24=De (Ak P) 24:=List.take_of_length_le (by rw[Gy];exact Nat.le_refl _);have zR:=Gy (Ak P) 24;have yK:H.length≤H.length+(50+t.length):=by omega
 refine g13 (q:=fq (h:=?_));simp[leave,LP,Xt,Xp,snap,D.Xr,D.Xq,D.free,D.Xw,Ah,hnw,hto,zR,yK]
def OL (l:List Xh) (n0 q:Nat) (x:D) (rows:List (List D)):Prop:=(x=.X4∧rows=[])∨∃vs,x=.msl (n0+q) vs 0 rows.length none∧l[q]?=some ⟨83,2,rows,vs,0,true⟩
theorem OL.app{H l:List Xh}{q n0 lo:Nat}{x:D}{rows:List (List D)}{row:List D}(hn:H.length=n0)(xU:lo≤n0)(h:OL l n0 q x rows)(hq:0<q)(hl:rows.length<1000)(yY:0<l.length) :
  ∃x' l' q',Bo 83 2 32 0 x (.msl (n0+l.length) 0 0 1 none) ⟨H++(l++[⟨83,2,[row],0,0,false⟩]),lo⟩=some (x',⟨H++l',lo⟩,true)∧OL l' n0 q' x' (rows++[row])∧0<q'∧l.length+1≤l'.length∧l'[0]?=l[0]?∧x'.Xv=true∧∀(k:Nat) (o:Xh),l[k]?=some o→o.elem≠83→l'[k]?=some o:=by
 subst hn;have hr:(H++(l++[(⟨83,2,[row],0,0,false⟩:Xh)]))[H.length+l.length]?=some ⟨83,2,[row],0,0,false⟩:=by rw[Bd,Bf];rfl
 have zM:Da ⟨H++(l++[⟨83,2,[row],0,0,false⟩]),lo⟩ 2 (.msl (H.length+l.length) 0 0 1 none)=some [row]:=by simp[Da,rowsOf,hr]
 rcases h with⟨rfl,rfl⟩ | ⟨vs,rfl,ho⟩
 ·
  refine⟨.msl (H.length+(l.length+1)) 0 0 1 none,l++[⟨83,2,[row],0,0,false⟩,⟨83,2,[row],0,0,true⟩],l.length+1,?_,.inr ⟨0,rfl,by simp⟩,by omega,by simp,by rw[La_ yY],rfl,fun k o h _=>by rw[Bj (Aj h)];exact h⟩;simp[Bo,zM,Av,newAt]
 have uM:=Aj ho;have hz:(H++(l++[(⟨83,2,[row],0,0,false⟩:Xh)]))[H.length+q]?=some ⟨83,2,rows,vs,0,true⟩:=by rw[Bd,Bj uM];exact ho
 refine⟨.msl (H.length+q) (vs+1) 0 (rows.length+1) none,l.set q ⟨83,2,rows++[row],vs+1,0,true⟩++[⟨83,2,[row],0,0,false⟩],q,?_,.inr ⟨vs+1,by simp,by rw[Bj (by simpa using uM)];exact Et uM _⟩,hq,by simp,?_,rfl,fun k o h he=>?_⟩
 ·
  have hb:(rows.length+1)*32≤140737488355328:=by omega
  have xM:min lo (H.length+q)=lo:=by omega
  simp[Bo,zM,Av,rowsOf,hz,setAt,hb,xM,Em uM]
 ·
  rw[La_ (by simpa using yY),Ln_ (by omega)]
 rw[Bj (by simpa using Aj h),Ln_ ?_]
 ·
  exact h
 intro e;subst e;rw[ho]at h;cases h;exact he rfl
theorem OL.len{l:List Xh}{n0 q:Nat}{x:D}{rows:List (List D)}(h:OL l n0 q x rows):Hr false x=some (.int .i64 (rows.length:Nat)):=by
 rcases h with⟨rfl,rfl⟩ | ⟨vs,rfl,_⟩<;>rfl
theorem OL.more{l:List Xh}{n0 q:Nat}{x:D}{rows:List (List D)}(h:OL l n0 q x rows)(m:List Xh):OL (l++m) n0 q x rows:=by
 rcases h with h | ⟨vs,h1,h2⟩
 ·
  exact .inl h
 exact .inr ⟨vs,h1,by rw[Bj (Aj h2)];exact h2⟩
def Ez (T:Nat→D × Bool) (m j:Nat):Option (Nat × D):=if j<m then (if (T j).2 then some (j+1,(T j).1) else Ez T m (j+1)) else none
termination_by m-j
def H7 (T:Nat→Nat→D × Bool) (m:Nat):List FM→Nat→Nat→List (Nat × D)→Option (Nat × List (Nat × D))
 | [],_,used,out=>some (used,out)
 | f::l,i,used,out=>if f.kind<3 then H7 T m l (i+1) used out else match Ez (T i) m used with
  | none=>none
  | some (j,b)=>H7 T m l (i+1) j (out++[(i,b)])
def Fp (l:List (Nat × D)):List (List D):=l.map fun p=>[.int .i64 (p.1:Nat),p.2]
theorem U6(l:List (Nat × D))(i:Nat)(b:D):Fp (l++[(i,b)])=Fp l++[[.int .i64 (i:Nat),b]]:=by simp[Fp]
theorem Iy(l:List (Nat × D)):(Fp l).length=l.length:=by simp[Fp]
theorem findOk_lt{T:Nat→D × Bool}{m j:Nat}{r:Nat × D}(h:Ez T m j=some r):r.1≤m:=by
 induction hk:m-j generalizing j with
 | zero =>
  rw[Ez,if_neg (by omega)]at h;cases h
 | succ k ih =>
  rw[Ez,if_pos (by omega)]at h;split at h
  ·
   cases h;show j+1≤m;omega
  exact ih h (by omega)
theorem clip49_msl{d:Nat}(hd:1≤d){H:List Xh}{gs vs:Nat}{rows:List (List D)}(h2:H[gs]?=some ⟨83,2,rows,vs,0,true⟩)(lo:Nat):Ae LP NN d 46 [.msl gs vs 0 rows.length none] ⟨H,lo⟩=some (.msl gs vs 0 rows.length (some rows.length),⟨H,lo⟩,false):=by
 have hb:∀(n:Nat),(0:Int)≤(n:Int):=fun n=>by omega
 have zz:=aI h2 (aI hb (aI @Int.toNat_natCast (aI @Nat.sub_zero (aI (show ((0:Nat)=1)=False from by decide) (show ((0:Nat)=2)=False from by decide)))));refine Ho (F:=F46) rfl (by simp only[LP,Ah,Bl,zs,zm,zv,and_false,or_false,or_self,false_or,ite_false,if_false,Bool.and_false,zz]<;>exact rfl) rfl (by simp only[LP,zf,zm,and_false,or_false,or_self,false_or,ite_false,if_false,Bool.and_false,zz];try rfl) (by simp only[F46,P46,mkP,zv]<;>exact rfl) (by omega) ?_;rintro d rfl;refine g17 (q:=fq (h:=?_));simp[leave,LP,Xt,Xp,snap,D.Xr,D.Xq,D.free,D.Xw,h2]
theorem clip49_nil{d:Nat}(hd:1≤d)(H:List Xh)(lo:Nat):Ae LP NN d 46 [.X4] ⟨H,lo⟩=some (.X4,⟨H,lo⟩,false):=by
 refine raq (hb:=?_);rintro d rfl;refine g17 (q:=fq (h:=?_));simp[leave,LP,Xt,Xp,snap,D.Xr,D.Xq,D.free,D.Xw]
theorem clip49_run{d:Nat}(hd:1≤d){H l:List Xh}{q:Nat}{x:D}{rows:List (List D)}(h:OL l H.length q x rows)(lo:Nat):Ae LP NN d 46 [x] ⟨H++l,lo⟩=some (Br x,⟨H++l,lo⟩,false):=by
 rcases h with⟨rfl,rfl⟩ | ⟨vs,rfl,h2⟩
 ·
  exact clip49_nil hd _ lo
 exact clip49_msl hd (by rw[Bd];exact h2) lo
def TL (H:List Xh) (go:Nat) (y:D) (rows:List (List D)):Prop:=(y=.X4∧rows=[])∨∃vs,y=.msl go vs 0 rows.length (some rows.length)∧H[go]?=some ⟨83,2,rows,vs,0,true⟩
def AccR (H:List Xh) (lo:Nat):Option (Nat × List (Nat × D))→D × St × Bool→Prop
 | none,x=>x=(.tup [.X4,.int .i64 0,.int .i64 7],⟨H,lo⟩,false)
 | some (u,out),x=>∃y H' go wr,x=(.tup [y,.int .i64 (u:Nat),.int .i64 0],⟨H',lo⟩,wr)∧TL H' go y (Fp out)∧H.length≤H'.length∧(∀k,k<H.length→H'[k]?=H[k]?)∧u≤1000000
theorem accF_len{T:Nat→Nat→D × Bool}{m:Nat}:∀{l:List FM} {i used:Nat} {out:List (Nat × D)} {r:Nat × List (Nat × D)},used≤m→H7 T m l i used out=some r→r.1≤m
 | [],i,used,out,r,hu,h=>by cases h;exact hu
 | f :: l, i, used, out, r, hu, h => by
  unfold H7 at h;split at h
  ·
   exact accF_len hu h
  split at h
  ·
   cases h
  rename_i j b hf;exact accF_len (findOk_lt hf) h
theorem Od{d:Nat}(hd:24≤d){H:List Xh}{x xl:D}{rows:List (List D)}{gs v:Nat}{l0:List FM}{ls:List ByteArray}{T:Nat→Nat→D × Bool}(hS:SrcF H x rows gs v)(hR:RW l0 rows)(zG:SlD 1 (Cx ls) xl)(xg:l0.length≤256)(qZ:ls.length≤1000)
  (hT:∀i j p (hi:i<l0.length) (hj:j<ls.length),3≤l0[i].kind→(∀d',d=d'+1→∀S,Ae LP NN d' 45 [.agg (Gs l0[i] p),.str ls[j]] S=some (.tup [(T i j).1,.bool (T i j).2],S,false))∧∃ys,SlD 1 ys (T i j).1) (nm:ByteArray) (p0 c0:Nat) (lo:Nat) (xU:lo≤H.length) :
  ∃r,AccR H lo (H7 T ls.length l0 0 0 []) r∧Ae LP NN d 16 [.agg [.str nm,x,.int .i64 (p0:Nat),.int .i64 (c0:Nat)],xl] ⟨H,lo⟩=some r:=by
 have yI:=hR.len;have hchk:∀d',d=d'+1→∀l lo,Ae LP NN d' 44 [.agg [.str nm,x,.int .i64 (p0:Nat),.int .i64 (c0:Nat)]] ⟨H++l,lo⟩=some (.int .i64 0,⟨H++l,lo⟩,false):=fun d' e l lo=>check_run (l0:=l0) (by omega) (hS.mono l) hR (by omega) nm p0 c0 lo;refine Kc (F:=F16) (P:=fun r=>AccR H lo (H7 T ls.length l0 0 0 []) r) rfl (by simp only[LP,Ah,Bl,zs,zm,zv,hS.zero,Bool.false_and,zG.Xp]<;>exact rfl) rfl (by simp only[LP,zf,zm];try rfl) (by simp only[F16,P16,mkP,zv]<;>exact rfl) (by omega) ?_;rintro d rfl;have zz:=aI zG.len (aI @Fg (aI hS.len (aI hS.cell (aI @Bd (aI @Bf (aI @Cb @Ca))))));refine g12 (q:=Aa (by simp only[zo,zz];exact hchk d rfl _ _) (g32 (q:=Bq (fun n env S'=>∃(i used q:Nat) (out:List (Nat × D)) (l:List Xh) (xo u9 u10 u11 u12 u13 u18 u19 u20 u21 u22:D),i≤l0.length∧n=l0.length-i∧S'=⟨H++l,H.length⟩∧env=[.agg [.str nm,x,.int .i64 (p0:Nat),.int .i64 (c0:Nat)],xl,.ptr H.length 0 0 0,.X4,.int .i64 0,.int .i64 0,.int .i64 0,xo,.int .i64 (used:Nat),u9,u10,u11,u12,u13,.bool false,x,.int .i64 rows.length,.int .i64 (i:Nat),u18,u19,u20,u21,u22]∧OL l H.length q xo (Fp out)∧0<q∧l[0]?=some (sbO nm x p0 c0)∧used≤ls.length∧out.length≤i∧H7 T ls.length l0 0 0 []=H7 T ls.length (l0.drop i) i used out) (l0.length) (by omega) (⟨0,0,1,[],[sbO nm x p0 c0],.X4,_,_,_,_,_,_,_,_,_,_,by omega,by omega,rfl,rfl,.inl ⟨rfl,rfl⟩,by omega,rfl,by omega,by simp,by rw[List.drop_zero]⟩) ?_)));rintro n env S' ⟨i,used,q,out,l,xo,u9,u10,u11,u12,u13,u18,u19,u20,u21,u22,hi,kL,rfl,rfl,hO,hq,vM,hu,hou,zC⟩;refine g6 (q:=Bz (ht:=fun xZ=>?_) (hf:=fun xZ=>?_))
 ·
  have xq:i<rows.length:=by have:=of_decide_eq_true xZ;omega
  have wB:i<l0.length:=by omega
  have hw:=Bu i (by omega);have kV:=List.drop_eq_getElem_cons wB;obtain⟨f,uX⟩:∃f,f=l0[i]:=⟨_,rfl⟩;rw[←uX]at kV;have yD:=fun l lo=>hS.ia l lo i xq;obtain⟨p,xO⟩:=hR.at_ wB;rw[←uX]at xO;have wT:=fun (l:List Xh) lo=>hS.ld l lo i _ xO (by rw[Mj];exact Nat.le_refl _);rw[Mi]at wT;have hTy:=fun j hj hk=>hT i j p wB hj (by rw[←uX];exact hk);rw[←uX]at hTy;obtain⟨tx,op,nu,r1,r2,hrf,kE,yR,y7,wW⟩:=Ke f p;rw[hrf]at wT hTy;have uO:=f.kind_le;have vY:=Aj vM;have hll0:∀o:Xh,(l++[o])[l.length]?=some o:=fun o=>by simp
  have hlls:∀o y:Xh,(l++[o]).set l.length y=l++[y]:=fun o y=>by simp
  have zz:=aI hw (aI yD (aI wT (aI hll0 (aI hlls (aI kE.Xv (aI yR.Xv (aI kE.cells (aI yR.cells (aI kE.val (aI yR.val (aI @List.append_assoc.{0} (aI @FO.eq_1 zz))))))))))));rcases (by omega:f.kind<3∨f.kind=3∨f.kind=4) with yO | yO | yO
  ·
   have e3:(((f.kind:Nat):Int) != 3)=true:=by rw[bne_iff_ne];omega
   have e4:(((f.kind:Nat):Int) != 4)=true:=by rw[bne_iff_ne];omega
   have zz:=aI e3 (aI e4 zz);refine g21 (q:=Bb 0 (b:=true) (h:=g19 (q:=?_)));exact⟨l0.length-(i+1),by omega,i+1,used,q,out,_,xo,_,_,_,_,_,_,_,_,_,_,by omega,rfl,rfl,rfl,hO.more _,hq,by rw[Bj (Aj vM)];exact vM,hu,by omega,by rw[zC,kV,H7,if_pos (by omega)]⟩
  ·
   have e3:(((f.kind:Nat):Int) != 3)=false:=by rw[yO];rfl
   have xK:3≤f.kind:=by omega
   have zz:=aI e3 zz;refine g21 (q:=Bb 0 (b:=false) (h:=g15 (q:=Bq (fun n env S'=>∃(j q2:Nat) (done:Bool) (out2:List (Nat × D)) (l2:List Xh) (xo2 v12 v13 v20 v21 v22:D),S'=⟨H++l2,H.length⟩∧env=[.agg [.str nm,x,.int .i64 (p0:Nat),.int .i64 (c0:Nat)],xl,.ptr H.length 0 0 0,.X4,.int .i64 0,.int .i64 0,.int .i64 0,xo2,.int .i64 (j:Nat),.int .i64 (i:Nat),.ptr (H.length+l.length) 0 0 0,.bool done,v12,v13,.bool false,x,.int .i64 rows.length,.int .i64 (i:Nat),.bool (decide (((i:Nat):Int)<((rows.length:Nat):Int))),.bool false,v20,v21,v22]∧OL l2 H.length q2 xo2 (Fp out2)∧0<q2∧l2[0]?=some (sbO nm x p0 c0)∧l2[l.length]?=some (FO [.int .i64 (f.line:Nat),.int .i64 (f.column:Nat),.int .u8 (f.kind:Nat),tx,.int .u8 (if nu then (if f.size=1 then 4 else 5) else 2),.int .u8 0,.str (Dp nu f.size),.int .i64 (if nu then (f.size:Nat) else 0),.int .i64 0,.bool false,.bool false,.bool false,.bool false,.bool false,.int .i64 (f.size:Nat),op])∧j≤ls.length∧n=2*(ls.length-j)+(if done then 0 else 1)∧((done=false∧Ez (T i) ls.length used=Ez (T i) ls.length j∧out2=out)∨(done=true∧∃b,Ez (T i) ls.length used=some (j,b)∧out2=out++[(i,b)]))) (2*(ls.length-used)+1) (by omega) (⟨used,q,false,out,_,xo,_,_,_,_,_,rfl,rfl,hO.more _,hq,by rw[Bj vY];exact vM,hll0 _,hu,rfl,.inl ⟨rfl,rfl,rfl⟩⟩) ?_)));rintro n env S' ⟨j,q2,done,out2,l2,xo2,v12,v13,v20,v21,v22,rfl,rfl,hO2,hq2,uR,hfo,hj,hnB,hdone⟩;rcases hdone with⟨rfl,hf,rfl⟩ | ⟨rfl,b0,hf,rfl⟩
   ·
    have zz:=aI hfo zz;refine g20 (q:=Bz (ht:=fun qQ=>?_) (hf:=fun qQ=>?_))
    ·
     have hjm:ls.length≤j:=by have:=of_decide_eq_true qQ;omega
     have yE:H7 T ls.length l0 0 0 []=none:=by
      rw[zC,kV,H7,if_neg (by omega),hf,Ez,if_neg (by omega)]
     refine g17 (q:=?_);refine⟨_,by rw[yE];exact rfl,?_⟩;refine fq (h:=?_);simp[leave,LP,Xt,Xp,snap,D.Xr,D.Xq,D.free,D.Xw,Ah]
    have yP:j<ls.length:=by have:=of_decide_eq_false qQ;omega
    have hwj:=Bu j (by omega);have zh:=fun (S:St)=>zG.iaddrN S .i64 (Iz yP);obtain⟨hty,ys,hyc⟩:=hTy j yP (by omega);have vP:Dl [[D.int .i64 0,D.X4]] 2 [0] [D.agg [D.int .i64 (i:Nat),(T i j).1]]=some [[D.int .i64 (i:Nat),(T i j).1]]:=by simp[Dl,D.val,D.cells,hyc.Xv,Kt]
    have zz:=aI hwj (aI zh (aI hyc.Xv (aI hyc.val (aI hyc.cells (aI vP zz)))));refine g4 (q:=?_);have zz:=aI zG.fpi zz;refine g5 (q:=Ao (by simp only[zo,zz];exact (hty d rfl _)) (by simp only[Ac,zo,zq,zG.fpi]<;>exact rfl) (by first | rfl | (simp[show ob 31 5=[true,true,true,true,true] from rfl,Xo,Ay,Ar,Cf,Ap,Bn,djl,djr,djs,Am,Af,Az,Ba,Cc];done)) (g19 (q:=Bz (ht:=fun vD=>?_) (hf:=fun vD=>?_))))
    ·
     have yS:(T i j).2=true:=vD;obtain⟨x3,l3,q3,wm,rR,hq3,rW,h30,hx3,hkp⟩:=OL.app (H:=H) (lo:=H.length) (row:=[.int .i64 (i:Nat),(T i j).1]) rfl (Nat.le_refl _) hO2 hq2 (by rw[Iy];omega) (by have:=Aj uR;omega);rw[←U6]at rR;have hfo3:=hkp _ _ hfo (by simp[FO]);have zz:=aI hx3 zz;refine g7 (q:=Aa (by simp only[Al,aop,LOp.loud,lop,if_true,opd,zv];exact wm) (g8 (q:=?_)));exact⟨2*(ls.length-(j+1))+0,by simp at hnB;omega,j+1,q3,true,_,l3,x3,_,_,_,_,_,rfl,rfl,rR,hq3,by rw[h30];exact uR,hfo3,by omega,rfl,.inr ⟨rfl,_,by rw[hf,Ez,if_pos yP,if_pos yS],rfl⟩⟩
    have yS:(T i j).2=false:=vD;refine g3 (q:=?_);exact⟨2*(ls.length-(j+1))+1,by simp at hnB;omega,j+1,q2,false,_,l2,xo2,_,_,_,_,_,rfl,rfl,hO2,hq2,uR,hfo,by omega,rfl,.inl ⟨rfl,by rw[hf,Ez,if_pos yP,if_neg (by rw[yS];simp)],rfl⟩⟩
   have zz:=aI hfo zz;refine g19 (q:=?_);exact⟨l0.length-(i+1),by omega,i+1,j,q2,_,_,xo2,_,_,_,_,_,_,_,_,_,_,by omega,rfl,rfl,rfl,hO2,hq2,uR,hj,by rw[Ll_,List.length_cons,List.length_nil];omega,by rw[zC,kV,H7,if_neg (by omega),hf]⟩
  have e3:(((f.kind:Nat):Int) != 3)=true:=by rw[yO];rfl
  have e4:(((f.kind:Nat):Int) != 4)=false:=by rw[yO];rfl
  have xK:3≤f.kind:=by omega
  have zz:=aI e3 (aI e4 zz);refine g21 (q:=Bb 0 (b:=true) (h:=g18 (q:=Bq (fun n env S'=>∃(j q2:Nat) (done:Bool) (out2:List (Nat × D)) (l2:List Xh) (xo2 v12 v13 v20 v21 v22:D),S'=⟨H++l2,H.length⟩∧env=[.agg [.str nm,x,.int .i64 (p0:Nat),.int .i64 (c0:Nat)],xl,.ptr H.length 0 0 0,.X4,.int .i64 0,.int .i64 0,.int .i64 0,xo2,.int .i64 (j:Nat),.int .i64 (i:Nat),.ptr (H.length+l.length) 0 0 0,.bool done,v12,v13,.bool false,x,.int .i64 rows.length,.int .i64 (i:Nat),.bool (decide (((i:Nat):Int)<((rows.length:Nat):Int))),.bool false,v20,v21,v22]∧OL l2 H.length q2 xo2 (Fp out2)∧0<q2∧l2[0]?=some (sbO nm x p0 c0)∧l2[l.length]?=some (FO [.int .i64 (f.line:Nat),.int .i64 (f.column:Nat),.int .u8 (f.kind:Nat),tx,.int .u8 (if nu then (if f.size=1 then 4 else 5) else 2),.int .u8 0,.str (Dp nu f.size),.int .i64 (if nu then (f.size:Nat) else 0),.int .i64 0,.bool false,.bool false,.bool false,.bool false,.bool false,.int .i64 (f.size:Nat),op])∧j≤ls.length∧n=2*(ls.length-j)+(if done then 0 else 1)∧((done=false∧Ez (T i) ls.length used=Ez (T i) ls.length j∧out2=out)∨(done=true∧∃b,Ez (T i) ls.length used=some (j,b)∧out2=out++[(i,b)]))) (2*(ls.length-used)+1) (by omega) (⟨used,q,false,out,_,xo,_,_,_,_,_,rfl,rfl,hO.more _,hq,by rw[Bj vY];exact vM,hll0 _,hu,rfl,.inl ⟨rfl,rfl,rfl⟩⟩) ?_)));rintro n env S' ⟨j,q2,done,out2,l2,xo2,v12,v13,v20,v21,v22,rfl,rfl,hO2,hq2,uR,hfo,hj,hnB,hdone⟩;rcases hdone with⟨rfl,hf,rfl⟩ | ⟨rfl,b0,hf,rfl⟩
  ·
   have zz:=aI hfo zz;refine g20 (q:=Bz (ht:=fun qP=>?_) (hf:=fun qP=>?_))
   ·
    have hjm:ls.length≤j:=by have:=of_decide_eq_true qP;omega
    have yE:H7 T ls.length l0 0 0 []=none:=by
     rw[zC,kV,H7,if_neg (by omega),hf,Ez,if_neg (by omega)]
    refine g17 (q:=?_);refine⟨_,by rw[yE];exact rfl,?_⟩;refine fq (h:=?_);simp[leave,LP,Xt,Xp,snap,D.Xr,D.Xq,D.free,D.Xw,Ah]
   have yP:j<ls.length:=by have:=of_decide_eq_false qP;omega
   have hwj:=Bu j (by omega);have zh:=fun (S:St)=>zG.iaddrN S .i64 (Iz yP);obtain⟨hty,ys,hyc⟩:=hTy j yP (by omega);have vP:Dl [[D.int .i64 0,D.X4]] 2 [0] [D.agg [D.int .i64 (i:Nat),(T i j).1]]=some [[D.int .i64 (i:Nat),(T i j).1]]:=by simp[Dl,D.val,D.cells,hyc.Xv,Kt]
   have zz:=aI hwj (aI zh (aI hyc.Xv (aI hyc.val (aI hyc.cells (aI vP zz)))));refine g4 (q:=?_);have zz:=aI zG.fpi zz;refine g5 (q:=Ao (by simp only[zo,zz];exact (hty d rfl _)) (by simp only[Ac,zo,zq,zG.fpi]<;>exact rfl) (by first | rfl | (simp[show ob 31 5=[true,true,true,true,true] from rfl,Xo,Ay,Ar,Cf,Ap,Bn,djl,djr,djs,Am,Af,Az,Ba,Cc];done)) (g19 (q:=Bz (ht:=fun vB=>?_) (hf:=fun vB=>?_))))
   ·
    have yS:(T i j).2=true:=vB;obtain⟨x3,l3,q3,wm,rR,hq3,rW,h30,hx3,hkp⟩:=OL.app (H:=H) (lo:=H.length) (row:=[.int .i64 (i:Nat),(T i j).1]) rfl (Nat.le_refl _) hO2 hq2 (by rw[Iy];omega) (by have:=Aj uR;omega);rw[←U6]at rR;have hfo3:=hkp _ _ hfo (by simp[FO]);have zz:=aI hx3 zz;refine g7 (q:=Aa (by simp only[Al,aop,LOp.loud,lop,if_true,opd,zv];exact wm) (g8 (q:=?_)));exact⟨2*(ls.length-(j+1))+0,by simp at hnB;omega,j+1,q3,true,_,l3,x3,_,_,_,_,_,rfl,rfl,rR,hq3,by rw[h30];exact uR,hfo3,by omega,rfl,.inr ⟨rfl,_,by rw[hf,Ez,if_pos yP,if_pos yS],rfl⟩⟩
   have yS:(T i j).2=false:=vB;refine g3 (q:=?_);exact⟨2*(ls.length-(j+1))+1,by simp at hnB;omega,j+1,q2,false,_,l2,xo2,_,_,_,_,_,rfl,rfl,hO2,hq2,uR,hfo,by omega,rfl,.inl ⟨rfl,by rw[hf,Ez,if_pos yP,if_neg (by rw[yS];simp)],rfl⟩⟩
  have zz:=aI hfo zz;refine g19 (q:=?_);exact⟨l0.length-(i+1),by omega,i+1,j,q2,_,_,xo2,_,_,_,_,_,_,_,_,_,_,by omega,rfl,rfl,rfl,hO2,hq2,uR,hj,by rw[Ll_,List.length_cons,List.length_nil];omega,by rw[zC,kV,H7,if_neg (by omega),hf]⟩
 have hi':i=l0.length:=by have:=of_decide_eq_false xZ;omega
 subst hi';refine g8 (q:=Aa (by simp only[zo,zz];exact (clip49_run (by omega) hO _)) (g7 (q:=?_)));rw[List.drop_length]at zC;rw[H7]at zC;rcases hO with⟨rfl,hto⟩ | ⟨vs,rfl,ho⟩
 ·
  refine⟨(.tup [.X4,.int .i64 (used:Nat),.int .i64 0],⟨H,lo⟩,false),by rw[zC];exact⟨_,_,0,_,rfl,.inl ⟨rfl,hto⟩,Nat.le_refl _,fun _ _=>rfl,by omega⟩,?_⟩;refine fq (h:=?_);simp[leave,LP,Xt,Xp,snap,D.Xr,D.Xq,D.free,D.Xw,Ah,Br]
 have hHl:min lo H.length=lo:=by omega
 have xA:¬l=[]:=by intro e;rw[e]at vM;cases vM
 have ho':(H++l)[H.length+q]?=some ⟨83,2,Fp out,vs,0,true⟩:=by rw[Bd];exact ho
 refine⟨(.tup [.msl (H.length+q) vs 0 (Fp out).length (some (Fp out).length),.int .i64 (used:Nat),.int .i64 0],⟨H++l,lo⟩,true),by rw[zC];exact⟨_,_,H.length+q,_,rfl,.inr ⟨vs,rfl,ho'⟩,by rw[Ll_];omega,fun k hk=>Bj hk,by omega⟩,?_⟩;refine fq (h:=?_);simp[leave,LP,Xt,Xp,snap,D.Xr,D.Xq,D.free,D.Xw,Ah,Br,ho',hHl,xA,ho]
def fm1:FM:=⟨1,2,0,1,false,false,by decide⟩
def fm2:FM:=⟨1,3,3,2,true,false,by decide⟩
section
variable (d:Nat) (S:St) (p:Nat)
theorem typed_x:Bp LP NN (d+20) 45 [.agg [.int .i64 2,.int .i64 4,.int .u8 4,.X4,.int .u8 5,.int .u8 0,.str ⟨#[90,90,57]⟩,.int .i64 3,.int .i64 0,.bool false,.bool false,.bool false,.bool false,.bool false,.int .i64 3,.sl 5 [[.int .u8 1,.str ⟨#[78]⟩,.int .i64 (p:Nat),.int .i64 12,.bool false]] (some 1)],.str ⟨#[120]⟩] S=some (.tup [.X4,.bool false],S,false):=by kernel_rfl
theorem typed_7:Bp LP NN (d+20) 45 [.agg [.int .i64 2,.int .i64 4,.int .u8 4,.X4,.int .u8 5,.int .u8 0,.str ⟨#[90,90,57]⟩,.int .i64 3,.int .i64 0,.bool false,.bool false,.bool false,.bool false,.bool false,.int .i64 3,.sl 5 [[.int .u8 1,.str ⟨#[78]⟩,.int .i64 (p:Nat),.int .i64 12,.bool false]] (some 1)],.str ⟨#[55]⟩] S=some (.tup [.sl 1 [[.int .u8 32],[.int .u8 32],[.int .u8 55]] (some 3),.bool true],S,false):=by kernel_rfl
end
def P0v:List (FM × List UInt8):=[(fm1,[65,66]),(fm2,[32,49,50])]
theorem out_cl:De (Ak P0v) 24=[.str ⟨#[]⟩]::[.str ⟨#[32,32,65,32,49,50]⟩]::List.replicate 22 [.str ⟨#[]⟩]:=by kernel_rfl
end Go.Proofs.YtlhdliikahebhaaGreatDoor
/- Proved here: what functions compute in an abstract machine; no condition. -/
import Derived.Test.YtlhdliikahebhaaGreatDoorN11
namespace Go.Proofs.YtlhdliikahebhaaGreatDoor
set_option linter.unusedSimpArgs false
set_option linter.unusedVariables false
set_option maxRecDepth 100000
set_option maxHeartbeats 4000000
theorem Qe{call:Aq}{H L:List Xh}{q e sz v kind bytes n lo:Nat}{rows new:List (List D)}{gr:Bool}{x:D}(hg:L[q]?=some ⟨e,sz,rows,v,kind,gr⟩)(hk:kind=1∨kind=2)(hx:SlD sz new x)(hn:n=rows.length)(hb:(n+new.length)*bytes≤140737488355328)(xU:lo≤H.length+q) :
  Al call (.append e sz bytes kind) [.msl (H.length+q) v 0 n none,x] ⟨H++L,lo⟩=some (.msl (H.length+q) (v+1) 0 (n+new.length) none,⟨H++L.set q ⟨e,sz,rows++new,v+1,kind,true⟩,lo⟩,true):=by
 have:=Q4 (call:=call) (lo:=lo) (bytes:=bytes) (H:=H++L) (g:=H.length+q) (by rw[Bd];exact hg) hk hx hn hb;rw[Cb,Nat.min_eq_left xU]at this;exact this
theorem section_runH{d:Nat}(hd:12≤d){H:List Xh}{g v0:Nat}{gr0:Bool}{a b:List FM}{bx:D}(hg:H[g]?=some ⟨27,6,Cr a,v0,2,gr0⟩)(hb:SlD 6 (Cr b) bx)(hla:a.length≤20)(hlb:b.length≤20)(lo:Nat):Ae LP NN d 20 [.msl g v0 0 a.length none,bx] ⟨H,lo⟩=some (.sl 5 (Eo 1 (Gb a b)) none,⟨H,lo⟩,false):=by
 have zu:(Gb a b).length≤700:=by
  have h1:=Ju a;have h2:=Ju b;simp only[Gb,Ht,Ll_,List.length_cons,List.length_nil];omega
 have hgl0:=Aj hg;have yK:¬H.length≤g:=by omega
 have xJ:∀l:List Xh,(H++l)[g]?=some ⟨27,6,Cr a,v0,2,gr0⟩:=fun l=>by rw[La_ hgl0];exact hg
 have zz:=aI hb.len (aI @Gh (aI @oPer.eq_1 (aI @tkR.eq_1 (aI hg (aI yK (aI hb.Xp hb.Xq))))));refine raz (hb:=?_);rintro d rfl;refine g14 (q:=?_)
 first
  | refine Ao (by simp only[zo,zz];exact Ew (by omega) _ 1 (by omega)) (by simp only[Ac,zo,zq,hb.fpi]<;>exact rfl) rfl ?_
  | refine Ao (by simp only[zo,zz];exact Ld (by omega) _) (by simp only[Ac,zo,zq,hb.fpi]<;>exact rfl) rfl ?_
 apply Ao (by simp only[zo,zz];exact Cv (by omega) _ _) (by simp only[Ac,zo,zq,hb.fpi]<;>exact rfl) (by first | rfl | (simp[show ob 1 1=[true] from rfl,Xo,Ay,Ar,Cf,Ap,Bn,djl,djr,djs,Am,Af,Az,Ba,Cq,Bv,Cc,Aw,hb.fpi];done) | (simp[show ob 1 1=[true] from rfl,Xo,Ay,Ar,Cf,Ap,Bn,djl,djr,djs,Am,Af,Az,Ba,Cq,Bv,Cc,Aw,hb.fpi];omega));have zz:=aI hb.fpi zz;refine g12 (q:=Bq (fun n env S'=>∃(i v:Nat) (gr:Bool) (A6 A7 A8 A9 A10:D),S'=⟨H++[oPer,⟨116,5,K5 (Fb preA a i),v,2,gr⟩],H.length⟩∧env=[.msl g v0 0 a.length none,bx,.X4,.ptr H.length 0 0 0,.msl (H.length+1) v 0 (K5 (Fb preA a i)).length none,.int .i64 (i:Nat),A6,A7,A8,A9,A10]∧i≤a.length∧n=a.length-i) (a.length) (by omega) (⟨0,_,_,_,_,_,_,_,rfl,rfl,by omega,by omega⟩) ?_);rintro n env S' ⟨i,v,gr,A6,A7,A8,A9,A10,rfl,rfl,hi,rfl⟩;refine g9 (q:=Bz (ht:=fun xZ=>?_) (hf:=fun xZ=>?_))
 ·
  have hia0:(0:Int)≤(i:Int):=by omega
  have xq:i<a.length:=by have:=of_decide_eq_true xZ;omega
  have hia1:(i:Int)<(a.length:Int):=by omega
  have yD:=Jc xq;have hw:=Bu i (by omega);have zQ:=Ov a[i];have hsp:=Gw preA a i;have hsq:=Gw (preB a) b i;have hpa:=Ko;have hpb:=Si a;have zz:=aI hw (aI yD (aI hia0 (aI hia1 (aI xJ (aI @Int.toNat_natCast (aI @FM.row.eq_1 zz))))));refine g10 (q:=Ao (by simp only[zo,zz];exact M9 (by omega) _ a[i]) (by simp only[Ac,zo,zq,hb.fpi]<;>exact rfl) (by first | rfl | (simp[show ob 30 5=[true,true,true,true,false] from rfl,Xo,Ay,Ar,Cf,Ap,Bn,djl,djr,djs,Am,Af,Az,Ba,Cq,Bv,Cc,Aw,hb.fpi];done) | (simp[show ob 30 5=[true,true,true,true,false] from rfl,Xo,Ay,Ar,Cf,Ap,Bn,djl,djr,djs,Am,Af,Az,Ba,Cq,Bv,Cc,Aw,hb.fpi];omega)) (Kz (by simp only[opd,zv];exact (Qe (by first | rfl | exact hg0) (.inr rfl) (.of _ _ _) (by simp only[Ll_,List.length_cons,List.length_nil,Cw]) (by simp only[Ll_,List.length_cons,List.length_nil,Cw,Ff];omega) (by omega)).trans (by simp only[List.set_cons_succ,List.set_cons_zero,Nat.zero_min]<;>exact rfl)) (h:=g2 (q:=Kz (by simp only[opd,zv];exact (Qe (by first | rfl | exact hg0) (.inr rfl) (.of _ _ _) (by simp only[Ll_,List.length_cons,List.length_nil,Cw]) (by simp only[Ll_,List.length_cons,List.length_nil,Cw,Ff];omega) (by omega)).trans (by simp only[List.set_cons_succ,List.set_cons_zero,Nat.zero_min]<;>exact rfl)) (h:=g10 (q:=?_))))));exact⟨a.length-(i+1),by omega,i+1,_,_,_,_,_,_,_,by rw[Ia xq,Di (Fb _ _ _),Di (J2 _)];simp only[Lo_];exact rfl,by rw[Ia xq,Di (Fb _ _ _),Di (J2 _)];simp only[Ll_,Nat.add_assoc];exact rfl,by omega,rfl⟩
 have hi':i=a.length:=by have:=of_decide_eq_false xZ;omega
 subst hi';have hsp:=Gw preA a a.length;have hpa:=Ko;refine g8 (q:=?_)
 first
  | refine Ao (by simp only[zo,zz];exact Ew (by omega) _ 1 (by omega)) (by simp only[Ac,zo,zq,hb.fpi]<;>exact rfl) (by first | rfl | (simp[show ob 0 1=[false] from rfl,Xo,Ay,Ar,Cf,Ap,Bn,djl,djr,djs,Am,Af,Az,Ba,Cq,Bv,Cc,Aw,hb.fpi];done) | (simp[show ob 0 1=[false] from rfl,Xo,Ay,Ar,Cf,Ap,Bn,djl,djr,djs,Am,Af,Az,Ba,Cq,Bv,Cc,Aw,hb.fpi];omega)) ?_
  | refine Ao (by simp only[zo,zz];exact Ld (by omega) _) (by simp only[Ac,zo,zq,hb.fpi]<;>exact rfl) (by first | rfl | (simp[show ob 0 1=[false] from rfl,Xo,Ay,Ar,Cf,Ap,Bn,djl,djr,djs,Am,Af,Az,Ba,Cq,Bv,Cc,Aw,hb.fpi];done) | (simp[show ob 0 1=[false] from rfl,Xo,Ay,Ar,Cf,Ap,Bn,djl,djr,djs,Am,Af,Az,Ba,Cq,Bv,Cc,Aw,hb.fpi];omega)) ?_
 refine Ao (by simp only[zo,zz];exact Cv (by omega) _ _) (by simp only[Ac,zo,zq,hb.fpi]<;>exact rfl) (by first | rfl | (simp[show ob 2 2=[true,false] from rfl,Xo,Ay,Ar,Cf,Ap,Bn,djl,djr,djs,Am,Af,Az,Ba,Cq,Bv,Cc,Aw,hb.fpi];done) | (simp[show ob 2 2=[true,false] from rfl,Xo,Ay,Ar,Cf,Ap,Bn,djl,djr,djs,Am,Af,Az,Ba,Cq,Bv,Cc,Aw,hb.fpi];omega)) (g2 (q:=Kz (by simp only[opd,zv];exact (Qe (by first | rfl | exact hg0) (.inr rfl) (.of _ _ _) (by simp only[Ll_,List.length_cons,List.length_nil,Cw]) (by simp only[Ll_,List.length_cons,List.length_nil,Cw,Ff];omega) (by omega)).trans (by simp only[List.set_cons_succ,List.set_cons_zero,Nat.zero_min]<;>exact rfl)) (h:=g10 (q:=Bq (fun n env S'=>∃(i v:Nat) (B5 B7 B8 B9 B10:D),S'=⟨H++[oPer,⟨116,5,K5 (Fb (preB a) b i),v,2,true⟩],H.length⟩∧env=[.msl g v0 0 a.length none,bx,.X4,.ptr H.length 0 0 0,.msl (H.length+1) v 0 (K5 (Fb (preB a) b i)).length none,B5,.int .i64 (i:Nat),B7,B8,B9,B10]∧i≤b.length∧n=b.length-i) (b.length) (by omega) (⟨0,_,_,_,_,_,_,by rw[show Fb (preB a) b 0=Fb preA a a.length++Ht ⟨#[66]⟩ from by unfold Fb preB;simp[Hu,Fb],Di (Fb _ _ _)];exact rfl,by rw[show Fb (preB a) b 0=Fb preA a a.length++Ht ⟨#[66]⟩ from by unfold Fb preB;simp[Hu,Fb],Di (Fb _ _ _),Ll_];exact rfl,by omega,by omega⟩) ?_))));rintro n env S' ⟨i,v,B5,B7,B8,B9,B10,rfl,rfl,hi,rfl⟩;refine g9 (q:=Bz (ht:=fun zZ=>?_) (hf:=fun zZ=>?_))
 ·
  have xq:i<b.length:=by have:=of_decide_eq_true zZ;omega
  have yD:=fun (S:St)=>hb.iaddrN S .i64 (Jc xq);have hw:=Bu i (by omega);have zQ:=Ov b[i];have hsp:=Gw preA a i;have hsq:=Gw (preB a) b i;have hpa:=Ko;have hpb:=Si a;have zz:=aI hw (aI yD (aI @FM.row.eq_1 zz));refine g10 (q:=Ao (by simp only[zo,zz];exact M9 (by omega) _ b[i]) (by simp only[Ac,zo,zq,hb.fpi]<;>exact rfl) (by first | rfl | (simp[show ob 30 5=[true,true,true,true,false] from rfl,Xo,Ay,Ar,Cf,Ap,Bn,djl,djr,djs,Am,Af,Az,Ba,Cq,Bv,Cc,Aw,hb.fpi];done) | (simp[show ob 30 5=[true,true,true,true,false] from rfl,Xo,Ay,Ar,Cf,Ap,Bn,djl,djr,djs,Am,Af,Az,Ba,Cq,Bv,Cc,Aw,hb.fpi];omega)) (Kz (by simp only[opd,zv];exact (Qe (by first | rfl | exact hg0) (.inr rfl) (.of _ _ _) (by simp only[Ll_,List.length_cons,List.length_nil,Cw]) (by simp only[Ll_,List.length_cons,List.length_nil,Cw,Ff];omega) (by omega)).trans (by simp only[List.set_cons_succ,List.set_cons_zero,Nat.zero_min]<;>exact rfl)) (h:=g2 (q:=Kz (by simp only[opd,zv];exact (Qe (by first | rfl | exact hg0) (.inr rfl) (.of _ _ _) (by simp only[Ll_,List.length_cons,List.length_nil,Cw]) (by simp only[Ll_,List.length_cons,List.length_nil,Cw,Ff];omega) (by omega)).trans (by simp only[List.set_cons_succ,List.set_cons_zero,Nat.zero_min]<;>exact rfl)) (h:=g10 (q:=?_))))));exact⟨b.length-(i+1),by omega,i+1,_,_,_,_,_,_,by rw[Ia xq,Di (Fb _ _ _),Di (J2 _)];simp only[Lo_];exact rfl,by rw[Ia xq,Di (Fb _ _ _),Di (J2 _)];simp only[Ll_,Nat.add_assoc];exact rfl,by omega,rfl⟩
 have hi':i=b.length:=by have:=of_decide_eq_false zZ;omega
 subst hi';refine g12 (q:=Bq (fun n env S'=>∃(i v:Nat) (C5 C6 C8 C9 C10:D),S'=⟨H++[oPer,⟨116,5,posT (Gb a b) i,v,2,true⟩],H.length⟩∧env=[.msl g v0 0 a.length none,bx,.X4,.ptr H.length 0 0 0,.msl (H.length+1) v 0 (Gb a b).length none,C5,C6,.int .i64 (i:Nat),C8,C9,C10]∧i≤(Gb a b).length∧n=(Gb a b).length-i) ((Gb a b).length) (by omega) (⟨0,_,_,_,_,_,_,by rw[posT_0,Ww];exact rfl,by rw[Ww,←Cw];exact rfl,by omega,by omega⟩) ?_);rintro n env S' ⟨i,v,C5,C6,C8,C9,C10,rfl,rfl,hi,rfl⟩;refine g9 (q:=Bz (ht:=fun yQ=>?_) (hf:=fun yQ=>?_))
 ·
  have xq:i<(Gb a b).length:=by have:=of_decide_eq_true yQ;omega
  have hw:=Bu i (by omega);have vH:=posT_at xq;have hi0:(0:Int)≤(i:Int):=by omega
  have wO:(i:Int)<((Gb a b).length:Int):=by omega
  have zz:=aI hw (aI vH (aI hi0 (aI wO (aI @Int.toNat_natCast zz))));refine g22 (q:=?_);exact⟨(Gb a b).length-(i+1),by omega,i+1,_,_,_,_,_,_,by rw[←posT_set xq];exact rfl,rfl,by omega,rfl⟩
 have hi':i=(Gb a b).length:=by have:=of_decide_eq_false yQ;omega
 subst hi';refine g12 (q:=fq (h:=?_));simp[leave,LP,Xt,Xp,snap,D.Xr,D.Xq,D.free,D.Xw,posT_end,Ed,take_posR]
theorem of_walkH{d:Nat}(hd:24≤d){B H':List Xh}{xa xb:D}{l:List FM}{go lb g v0:Nat}{gr0:Bool}(hg:B[g]?=some ⟨27,6,Cr l,v0,2,gr0⟩)(zX:l.length≤20)
  (xu:Ae LP NN (d-1) 19 [.sl 5 (Eo 1 (Gb l [])) none] ⟨B++[⟨32,4,[[.str ⟨#[]⟩,.X4,.int .i64 0,.int .i64 0]],0,0,false⟩],B.length⟩=some (.tup [.msl go 1 0 2 (some 2),.agg [.int .i64 0,.int .i64 0,.int .i64 0]],⟨H',min B.length (B++[(⟨32,4,[[.str ⟨#[]⟩,.X4,.int .i64 0,.int .i64 0]],0,0,false⟩:Xh)]).length⟩,true))
  (hz:H'[B.length]?=some ⟨32,4,[[.str ⟨#[]⟩,.X4,.int .i64 0,.int .i64 0]],0,0,false⟩) (ho:H'[go]?=some ⟨32,4,[[.str nmA,Br xa,.int .i64 ((1:Nat):Int),.int .i64 ((12:Nat):Int)],[.str nmB,Br xb,.int .i64 ((lb:Nat):Int),.int .i64 ((12:Nat):Int)]],1,0,true⟩) (hc:(Br xa).Xv=true) (hX:∀x m l,snap m (H'.set B.length x++l) (Br xa)=some (Br xa)) (lo:Nat) :
  Ae LP NN d 5 [.msl g v0 0 l.length none] ⟨B,lo⟩=some (.tup [.agg [.str nmA,Br xa,.int .i64 ((1:Nat):Int),.int .i64 ((12:Nat):Int)],.bool true],if (Br xa).free then ⟨B,lo⟩ else ⟨H'.set B.length ⟨32,4,[[.str nmA,Br xa,.int .i64 ((1:Nat):Int),.int .i64 ((12:Nat):Int)]],0,0,false⟩++[⟨40,3,[[.int .i64 0,.int .i64 0,.int .i64 0]],0,0,false⟩],min lo B.length⟩,!(Br xa).free):=by
 have hgl0:=Aj hg;have hgeB:¬B.length≤g:=by omega
 have hgZ:(B++[(⟨32,4,[[.str ⟨#[]⟩,.X4,.int .i64 0,.int .i64 0]],0,0,false⟩:Xh)])[g]?=some ⟨27,6,Cr l,v0,2,gr0⟩:=by rw[La_ hgl0];exact hg
 have vT:=Aj hz;have zR:=Aj ho;have hnil0:=fmRows_nil;have xC:∀l x,(H'.set B.length x++l)[B.length]?=some x:=fun l x=>by rw[Bj (by simpa using vT)];exact Et vT x
 have xC:=xC;have yK:¬H'.length+1=B.length:=by omega
 have wS:min B.length (B.length+1)=B.length:=by omega
 have wR:¬H'.length=B.length:=by omega
 rw[Ll_,List.length_cons,List.length_nil,wS]at xu;have zz:=aI (fun l=>@Bj _ l _ vT) (aI (fun l=>@Bj _ l _ zR) (aI (fun l=>@Em _ l _ vT) (aI hz (aI ho (aI xC (aI hc (aI @Bd (aI @Bf (aI @Cb (aI @Ca (aI wS (aI hg hgeB))))))))))));refine raz (hb:=?_);rintro d rfl;refine g9 (q:=Aa (by simp only[zo,Bool.and_false,zz];exact section_runH (by omega) hgZ hnil0 zX (by simp) _) (Aa (by simp only[zo,Bool.and_false,zz];exact xu) (g15 (q:=Dh 0 (b:=false) (by simp only[opd,zv,Bool.and_false,zz]<;>rfl) (by simp only[zn]<;>exact rfl) (g9 (q:=Au (by simp only[opd,zv,Bool.and_false,zz]<;>rfl) (g12 (q:=?_))))))));refine⟨_,by simp only[F5,P5,mkP,Ce,En,I5,zg,zd,rowsOf,Ci,List.take,List.drop,zm,xC,xC]<;>exact rfl,?_⟩;have hmm:min (min B.length H'.length) B.length=B.length:=by omega
 have yh:(B.length≤B.length)=True:=eq_true (Nat.le_refl _);cases hf:(Br xa).free
 ·
  simp[leave,LP,Ka,Ah,J9,Bl,Ma,Mc,I4,hX,Ki,Kh,Kv,Kw,Ja,hf,hmm,yh,yK]
 simp[leave,LP,Ka,Ah,J9,Bl,Ma,Mc,I4,hX,Ki,Kh,Kv,Kw,Ja,hf,hmm,yh,yK]
theorem of_runH{d:Nat}(hd:24≤d)(B:List Xh)(lo:Nat)(xU:lo≤B.length){g v0:Nat}{gr0:Bool}{l:List FM}(hg:B[g]?=some ⟨27,6,Cr l,v0,2,gr0⟩)(zX:l.length≤20) :
  ∃H' x0 gs rows wr,Ae LP NN d 5 [.msl g v0 0 l.length none] ⟨B,lo⟩=some (.tup [.agg [.str nmA,Br x0,.int .i64 ((1:Nat):Int),.int .i64 ((12:Nat):Int)],.bool true],⟨H',lo⟩,wr)∧B.length≤H'.length∧(∀k,k<B.length→H'[k]?=B[k]?)∧FL H' gs x0 rows∧RW l rows∧B.length≤gs:=by
 obtain⟨_,⟨H',go,ga,gs,xa,xb,lb,ra,rb,rfl,hP⟩,xu⟩:=parse_all (d:=d-1) (by omega) (B++[⟨32,4,[[.str ⟨#[]⟩,.X4,.int .i64 0,.int .i64 0]],0,0,false⟩]) B.length l [] zX (by simp);have hz:=(hP.fr B.length (by simp)).trans (Bd B [⟨32,4,[[.str ⟨#[]⟩,.X4,.int .i64 0,.int .i64 0]],0,0,false⟩] 0);have xg:=hP.len;rw[Ll_,List.length_cons,List.length_nil]at xg;have hga:=hP.hga;rw[Ll_,List.length_cons,List.length_nil]at hga
 have hX:∀x m l,snap m (H'.set B.length x++l) (Br xa)=some (Br xa):=by
  intro x m l;obtain⟨v,hS⟩:=(hP.fa.keep (H':=H'.set B.length x) fun h=>by rw[Ln_ (by omega)]).src;exact hS.snap m l
 obtain⟨v0,hS0⟩:=hP.fa.src;have r:=of_walkH hd hg zX xu hz hP.ho hS0.cell hX lo;have hm:min lo B.length=lo:=by omega
 rw[hm]at r
 cases hf:(Br xa).free with
 | true =>
  obtain⟨e1,e2⟩:=hP.fa.clip_free hf;rw[hf,if_pos rfl]at r;exact⟨B,xa,B.length,ra,_,r,Nat.le_refl _,fun _ _=>rfl,.inl ⟨e1,e2⟩,hP.wa,Nat.le_refl _⟩
 | false =>
  rw[hf,if_neg (by simp)]at r;refine⟨_,xa,ga,ra,_,r,by rw[Ll_,List.length_set];omega,fun k hk=>?_,?_,hP.wa,by omega⟩
  ·
   rw[Qc (by omega) (by omega),hP.fr k (by rw[Ll_];omega),Bj hk]
  exact hP.fa.keep fun h=>Qc h (by omega)
def layS:D:=.sl 22 [[.str ⟨#[78]⟩,.int .i64 1,.int .i64 (-1),.int .u8 4,.int .u8 0,.str ⟨#[57,57,57,57,57,57]⟩,.int .i64 6,.int .i64 0,.bool false,.bool false,.bool false,.bool false,.bool false,.int .i64 6,.int .i64 0,.int .i64 1,.int .i64 1,.int .i64 (-1),.int .i64 (-1),.int .i64 (-1),.int .i64 (-1),.X4]] (some 1)
def sh9:List D:=[.int .u8 4,.int .u8 0,.str ⟨#[57,57,57,57,57,57]⟩,.int .i64 6,.int .i64 0,.bool false,.bool false,.bool false,.bool false,.bool false,.int .i64 6]
def saidD (v n:ByteArray):D:=.agg [.str v,.int .i64 0,.int .i64 0,.sl 2 [[.str ⟨#[]⟩,.sl 5 [[.int .u8 1,.str n,.int .i64 0,.int .i64 0,.bool false]] (some 1)]] (some 1),.X4]
theorem build_cl(d:Nat)(S:St) :Bp LP NN (d+30) 6 [.sl 19 [[.int .i64 1,.str ⟨#[78]⟩,.str ⟨#[]⟩,.str ⟨#[57,40,54,41]⟩,.int .u8 0,.bool false,.int .i64 0,.int .i64 0,.X4,.bool false,.bool false,.bool false,.bool false,.bool false,.X4,.X4,.X4,.int .i64 0,.int .i64 0]] (some 1)] S=some (.tup [.agg [layS,.int .i64 6],.agg [.int .i64 0,.int .i64 0,.int .i64 0]],S,false):=by kernel_rfl
theorem build_run{d:Nat}(hd:30≤d)(S:St) :Ae LP NN d 6 [.sl 19 [[.int .i64 1,.str ⟨#[78]⟩,.str ⟨#[]⟩,.str ⟨#[57,40,54,41]⟩,.int .u8 0,.bool false,.int .i64 0,.int .i64 0,.X4,.bool false,.bool false,.bool false,.bool false,.bool false,.X4,.X4,.X4,.int .i64 0,.int .i64 0]] (some 1)] S=some (.tup [.agg [layS,.int .i64 6],.agg [.int .i64 0,.int .i64 0,.int .i64 0]],S,false):=by
 obtain⟨d,rfl⟩:∃d',d=d'+30:=⟨d-30,by omega⟩;exact fast_ok (build_cl d S )
theorem said_cl(d:Nat)(S:St)(v n:ByteArray):Bp LP NN (d+6) 15 [.str v,.str n] S=some (saidD v n,S,false):=by kernel_rfl
theorem said_run{d:Nat}(hd:6≤d)(S:St)(v n:ByteArray):Ae LP NN d 15 [.str v,.str n] S=some (saidD v n,S,false):=by
 obtain⟨d,rfl⟩:∃d',d=d'+6:=⟨d-6,by omega⟩;exact fast_ok (said_cl d S v n)
theorem sfind_cl(d:Nat)(S:St)(v n:ByteArray):Bp LP NN (d+6) 39 [saidD v n,.str ⟨#[]⟩] S=some (.tup [.sl 5 [[.int .u8 1,.str n,.int .i64 0,.int .i64 0,.bool false]] (some 1),.bool true],S,false):=by kernel_rfl
theorem Kb{d:Nat}(hd:6≤d)(S:St)(v n:ByteArray):Ae LP NN d 39 [saidD v n,.str ⟨#[]⟩] S=some (.tup [.sl 5 [[.int .u8 1,.str n,.int .i64 0,.int .i64 0,.bool false]] (some 1),.bool true],S,false):=by
 obtain⟨d,rfl⟩:∃d',d=d'+6:=⟨d-6,by omega⟩;exact fast_ok (sfind_cl d S v n)
theorem snew_cl(d:Nat)(S:St) :Bp LP NN (d+20) 31 [.agg [layS,.int .i64 6]] S=some (.tup [.sl 1 [[.int .u8 48],[.int .u8 48],[.int .u8 48],[.int .u8 48],[.int .u8 48],[.int .u8 48]] (some 6),.int .i64 0],S,false):=by kernel_rfl
theorem snew_run{d:Nat}(hd:20≤d)(S:St) :Ae LP NN d 31 [.agg [layS,.int .i64 6]] S=some (.tup [.sl 1 [[.int .u8 48],[.int .u8 48],[.int .u8 48],[.int .u8 48],[.int .u8 48],[.int .u8 48]] (some 6),.int .i64 0],S,false):=by
 obtain⟨d,rfl⟩:∃d',d=d'+20:=⟨d-20,by omega⟩;exact fast_ok (snew_cl d S )
theorem put6_cl(d:Nat)(S:St)(x0 x1 x2 x3 x4 x5:Int)(y0 y1 y2 y3 y4 y5:Int)(c:Option Nat):Bp LP NN (d+6) 10 [.sl 1 [[.int .u8 x0],[.int .u8 x1],[.int .u8 x2],[.int .u8 x3],[.int .u8 x4],[.int .u8 x5]] (some 6),.agg [.int .i64 0,.int .i64 6],.sl 1 [[.int .u8 y0],[.int .u8 y1],[.int .u8 y2],[.int .u8 y3],[.int .u8 y4],[.int .u8 y5]] c] S=some (.tup [.sl 1 [[.int .u8 y0],[.int .u8 y1],[.int .u8 y2],[.int .u8 y3],[.int .u8 y4],[.int .u8 y5]] (some 6),.int .i64 0],S,false):=by kernel_rfl
theorem put6_run{d:Nat}(hd:6≤d)(S:St)(x0 x1 x2 x3 x4 x5:Int)(y0 y1 y2 y3 y4 y5:Int)(c:Option Nat):Ae LP NN d 10 [.sl 1 [[.int .u8 x0],[.int .u8 x1],[.int .u8 x2],[.int .u8 x3],[.int .u8 x4],[.int .u8 x5]] (some 6),.agg [.int .i64 0,.int .i64 6],.sl 1 [[.int .u8 y0],[.int .u8 y1],[.int .u8 y2],[.int .u8 y3],[.int .u8 y4],[.int .u8 y5]] c] S=some (.tup [.sl 1 [[.int .u8 y0],[.int .u8 y1],[.int .u8 y2],[.int .u8 y3],[.int .u8 y4],[.int .u8 y5]] (some 6),.int .i64 0],S,false):=by
 obtain⟨d,rfl⟩:∃d',d=d'+6:=⟨d-6,by omega⟩;exact fast_ok (put6_cl d S x0 x1 x2 x3 x4 x5 y0 y1 y2 y3 y4 y5 c)
theorem get6_cl(d:Nat)(S:St)(x0 x1 x2 x3 x4 x5:Int):Bp LP NN (d+6) 17 [.sl 1 [[.int .u8 x0],[.int .u8 x1],[.int .u8 x2],[.int .u8 x3],[.int .u8 x4],[.int .u8 x5]] (some 6),.agg [.int .i64 0,.int .i64 6]] S=some (.tup [.sl 1 [[.int .u8 x0],[.int .u8 x1],[.int .u8 x2],[.int .u8 x3],[.int .u8 x4],[.int .u8 x5]] (some 6),.int .i64 0],S,false):=by kernel_rfl
theorem get6_run{d:Nat}(hd:6≤d)(S:St)(x0 x1 x2 x3 x4 x5:Int):Ae LP NN d 17 [.sl 1 [[.int .u8 x0],[.int .u8 x1],[.int .u8 x2],[.int .u8 x3],[.int .u8 x4],[.int .u8 x5]] (some 6),.agg [.int .i64 0,.int .i64 6]] S=some (.tup [.sl 1 [[.int .u8 x0],[.int .u8 x1],[.int .u8 x2],[.int .u8 x3],[.int .u8 x4],[.int .u8 x5]] (some 6),.int .i64 0],S,false):=by
 obtain⟨d,rfl⟩:∃d',d=d'+6:=⟨d-6,by omega⟩;exact fast_ok (get6_cl d S x0 x1 x2 x3 x4 x5)
theorem litN_cl(d:Nat)(S:St)(p q:Int):Bp LP NN (d+12) 146 [.sl 5 [[.int .u8 1,.str ⟨#[78]⟩,.int .i64 p,.int .i64 q,.bool false]] (some 1)] S=some (.bool false,S,false):=by kernel_rfl
theorem litN_run{d:Nat}(hd:12≤d)(S:St)(p q:Int):Ae LP NN d 146 [.sl 5 [[.int .u8 1,.str ⟨#[78]⟩,.int .i64 p,.int .i64 q,.bool false]] (some 1)] S=some (.bool false,S,false):=by
 obtain⟨d,rfl⟩:∃d',d=d'+12:=⟨d-12,by omega⟩;exact fast_ok (litN_cl d S p q)
theorem plfield_cl(d:Nat)(S:St)(x0 x1 x2 x3 x4 x5:Int):Bp LP NN (d+16) 220 [.agg [layS,.int .i64 6],.sl 1 [[.int .u8 x0],[.int .u8 x1],[.int .u8 x2],[.int .u8 x3],[.int .u8 x4],[.int .u8 x5]] (some 6),.agg [.sl 1 [[.str ⟨#[78]⟩]] (some 1),.X4,.nilp,.nilp]] S=some (.tup [.agg [.int .u8 4,.int .u8 0,.str ⟨#[57,57,57,57,57,57]⟩,.int .i64 6,.int .i64 0,.bool false,.bool false,.bool false,.bool false,.bool false,.int .i64 6,.sl 1 [[.int .u8 x0],[.int .u8 x1],[.int .u8 x2],[.int .u8 x3],[.int .u8 x4],[.int .u8 x5]] (some 6)],.agg [.int .i64 0,.int .i64 6],.int .i64 0],S,false):=by kernel_rfl
theorem plfield_run{d:Nat}(hd:16≤d)(S:St)(x0 x1 x2 x3 x4 x5:Int):Ae LP NN d 220 [.agg [layS,.int .i64 6],.sl 1 [[.int .u8 x0],[.int .u8 x1],[.int .u8 x2],[.int .u8 x3],[.int .u8 x4],[.int .u8 x5]] (some 6),.agg [.sl 1 [[.str ⟨#[78]⟩]] (some 1),.X4,.nilp,.nilp]] S=some (.tup [.agg [.int .u8 4,.int .u8 0,.str ⟨#[57,57,57,57,57,57]⟩,.int .i64 6,.int .i64 0,.bool false,.bool false,.bool false,.bool false,.bool false,.int .i64 6,.sl 1 [[.int .u8 x0],[.int .u8 x1],[.int .u8 x2],[.int .u8 x3],[.int .u8 x4],[.int .u8 x5]] (some 6)],.agg [.int .i64 0,.int .i64 6],.int .i64 0],S,false):=by
 obtain⟨d,rfl⟩:∃d',d=d'+16:=⟨d-16,by omega⟩;exact fast_ok (plfield_cl d S x0 x1 x2 x3 x4 x5)
theorem wordN_cl(d:Nat)(S:St) :Bp LP NN (d+6) 181 [.str ⟨#[78]⟩] S=some (.int .u8 0,S,false):=by kernel_rfl
theorem wordN_run{d:Nat}(hd:6≤d)(S:St) :Ae LP NN d 181 [.str ⟨#[78]⟩] S=some (.int .u8 0,S,false):=by
 obtain⟨d,rfl⟩:∃d',d=d'+6:=⟨d-6,by omega⟩;exact fast_ok (wordN_cl d S )
theorem clipN_cl(d:Nat)(p q:Int):Bp LP NN (d+3) 32 [.msl 3 0 0 1 none] ⟨[⟨299,4,[[.X4,.X4,.nilp,.nilp]],0,0,false⟩,⟨339,2,[[.sl 5 [[.int .u8 1,.str ⟨#[78]⟩,.int .i64 p,.int .i64 q,.bool false]] (some 1),.int .i64 1]],0,0,false⟩,⟨299,4,[[.X4,.X4,.nilp,.nilp]],0,0,false⟩,⟨9,1,[[.str ⟨#[78]⟩]],0,1,true⟩],1⟩=some (.sl 1 [[.str ⟨#[78]⟩]] (some 1),⟨[⟨299,4,[[.X4,.X4,.nilp,.nilp]],0,0,false⟩,⟨339,2,[[.sl 5 [[.int .u8 1,.str ⟨#[78]⟩,.int .i64 p,.int .i64 q,.bool false]] (some 1),.int .i64 1]],0,0,false⟩,⟨299,4,[[.X4,.X4,.nilp,.nilp]],0,0,false⟩,⟨9,1,[[.str ⟨#[78]⟩]],0,1,true⟩],1⟩,false):=by kernel_rfl
theorem clipN_run{d:Nat}(hd:3≤d)(p q:Int):Ae LP NN d 32 [.msl 3 0 0 1 none] ⟨[⟨299,4,[[.X4,.X4,.nilp,.nilp]],0,0,false⟩,⟨339,2,[[.sl 5 [[.int .u8 1,.str ⟨#[78]⟩,.int .i64 p,.int .i64 q,.bool false]] (some 1),.int .i64 1]],0,0,false⟩,⟨299,4,[[.X4,.X4,.nilp,.nilp]],0,0,false⟩,⟨9,1,[[.str ⟨#[78]⟩]],0,1,true⟩],1⟩=some (.sl 1 [[.str ⟨#[78]⟩]] (some 1),⟨[⟨299,4,[[.X4,.X4,.nilp,.nilp]],0,0,false⟩,⟨339,2,[[.sl 5 [[.int .u8 1,.str ⟨#[78]⟩,.int .i64 p,.int .i64 q,.bool false]] (some 1),.int .i64 1]],0,0,false⟩,⟨299,4,[[.X4,.X4,.nilp,.nilp]],0,0,false⟩,⟨9,1,[[.str ⟨#[78]⟩]],0,1,true⟩],1⟩,false):=by
 obtain⟨d,rfl⟩:∃d',d=d'+3:=⟨d-3,by omega⟩;exact fast_ok (clipN_cl d p q)
theorem signN_cl(d:Nat)(p q:Int):Bp LP NN (d+3) 271 [.ptr 1 0 0 0,.str ⟨#[40]⟩] ⟨[⟨299,4,[[.X4,.X4,.nilp,.nilp]],0,0,false⟩,⟨339,2,[[.sl 5 [[.int .u8 1,.str ⟨#[78]⟩,.int .i64 p,.int .i64 q,.bool false]] (some 1),.int .i64 1]],0,0,false⟩,⟨299,4,[[.sl 1 [[.str ⟨#[78]⟩]] (some 1),.X4,.nilp,.nilp]],0,0,false⟩,⟨9,1,[[.str ⟨#[78]⟩]],0,1,true⟩],0⟩=some (.bool false,⟨[⟨299,4,[[.X4,.X4,.nilp,.nilp]],0,0,false⟩,⟨339,2,[[.sl 5 [[.int .u8 1,.str ⟨#[78]⟩,.int .i64 p,.int .i64 q,.bool false]] (some 1),.int .i64 1]],0,0,false⟩,⟨299,4,[[.sl 1 [[.str ⟨#[78]⟩]] (some 1),.X4,.nilp,.nilp]],0,0,false⟩,⟨9,1,[[.str ⟨#[78]⟩]],0,1,true⟩],0⟩,false):=by kernel_rfl
theorem signN_run{d:Nat}(hd:3≤d)(p q:Int):Ae LP NN d 271 [.ptr 1 0 0 0,.str ⟨#[40]⟩] ⟨[⟨299,4,[[.X4,.X4,.nilp,.nilp]],0,0,false⟩,⟨339,2,[[.sl 5 [[.int .u8 1,.str ⟨#[78]⟩,.int .i64 p,.int .i64 q,.bool false]] (some 1),.int .i64 1]],0,0,false⟩,⟨299,4,[[.sl 1 [[.str ⟨#[78]⟩]] (some 1),.X4,.nilp,.nilp]],0,0,false⟩,⟨9,1,[[.str ⟨#[78]⟩]],0,1,true⟩],0⟩=some (.bool false,⟨[⟨299,4,[[.X4,.X4,.nilp,.nilp]],0,0,false⟩,⟨339,2,[[.sl 5 [[.int .u8 1,.str ⟨#[78]⟩,.int .i64 p,.int .i64 q,.bool false]] (some 1),.int .i64 1]],0,0,false⟩,⟨299,4,[[.sl 1 [[.str ⟨#[78]⟩]] (some 1),.X4,.nilp,.nilp]],0,0,false⟩,⟨9,1,[[.str ⟨#[78]⟩]],0,1,true⟩],0⟩,false):=by
 obtain⟨d,rfl⟩:∃d',d=d'+3:=⟨d-3,by omega⟩;exact fast_ok (signN_cl d p q)
theorem names_run{d:Nat}(hd:9≤d)(p q:Int):Ae LP NN d 270 [.ptr 1 0 0 0] ⟨[⟨299,4,[[.X4,.X4,.nilp,.nilp]],0,0,false⟩,⟨339,2,[[.sl 5 [[.int .u8 1,.str ⟨#[78]⟩,.int .i64 p,.int .i64 q,.bool false]] (some 1),.int .i64 0]],0,0,false⟩,⟨299,4,[[.X4,.X4,.nilp,.nilp]],0,0,false⟩],0⟩=some (.tup [.sl 1 [[.str ⟨#[78]⟩]] (some 1),.int .i64 0],⟨[⟨299,4,[[.X4,.X4,.nilp,.nilp]],0,0,false⟩,⟨339,2,[[.sl 5 [[.int .u8 1,.str ⟨#[78]⟩,.int .i64 p,.int .i64 q,.bool false]] (some 1),.int .i64 1]],0,0,false⟩,⟨299,4,[[.X4,.X4,.nilp,.nilp]],0,0,false⟩,⟨9,1,[[.str ⟨#[78]⟩]],0,1,true⟩],0⟩,true):=by
 refine raq (hb:=?_);rintro d rfl;refine g11 (q:=Gl (Gq (Dt (g16 (q:=dw_kq 0 (b:=false) (h:=g42 (q:=Ao (by simp only[zo];exact wordN_run (by omega) _) (by simp only[Ac,zo,zq]<;>exact rfl) rfl (g53 (q:=dw_kq 0 (b:=true) (h:=g47 (q:=Aa (by simp only[zo];exact clipN_run (by omega) p q) (g4 (q:=cw_ret (sk_r (bk_r (lu_r (bk_r ?_)))))))))))))))));refine fq (h:=?_);simp[leave,LP,Xt,Xp,snap,D.Xr,D.Xq,D.free,D.Xw,Ah,Bl]
theorem plparse_run{d:Nat}(hd:12≤d)(S:St)(p q:Int):Ae LP NN d 219 [.sl 5 [[.int .u8 1,.str ⟨#[78]⟩,.int .i64 p,.int .i64 q,.bool false]] (some 1)] S=some (.tup [.agg [.sl 1 [[.str ⟨#[78]⟩]] (some 1),.X4,.nilp,.nilp],.int .i64 0],S,false):=by
 refine run_deep (F:=F219) rfl (by simp only[LP,Ah,Bl,zs,zm,zv]<;>exact rfl) rfl (by simp only[LP,zf,zm];try rfl) (by simp only[F219,P219,mkP,zv]<;>exact rfl) (by omega) ?_;rintro d rfl;refine g28 (q:=Aa (by simp only[zo];exact names_run (by omega) p q) (g20 (q:=Aa (by simp only[zo];exact signN_run (by omega) p q) (g8 (q:=ow_kq 0 (b:=false) (h:=g24 (q:=ow_kq 0 (b:=true) (h:=g38 (q:=?_)))))))));exact fq (h:=rfl)
def STo (st inn ou:D) (gd:Nat):Xh:=⟨63,7,[[layS,.int .i64 6,st,inn,ou,.ifr 48 (.ptr gd 0 0 0),.bool false]],0,0,false⟩
theorem spot_run{d:Nat}(hd:18≤d){x0 x1 x2 x3 x4 x5:Int}{H:List Xh}{gm gd:Nat}{inn ou:D}(hM:H[gm]?=some (STo (.sl 1 [[.int .u8 x0],[.int .u8 x1],[.int .u8 x2],[.int .u8 x3],[.int .u8 x4],[.int .u8 x5]] (some 6)) inn ou gd))(p q:Int)(lo:Nat):Ae LP NN d 147 [.ptr gm 0 0 0,.sl 5 [[.int .u8 1,.str ⟨#[78]⟩,.int .i64 p,.int .i64 q,.bool false]] (some 1)] ⟨H,lo⟩=some (.tup [.agg [.int .u8 4,.int .u8 0,.str ⟨#[57,57,57,57,57,57]⟩,.int .i64 6,.int .i64 0,.bool false,.bool false,.bool false,.bool false,.bool false,.int .i64 6,.sl 1 [[.int .u8 x0],[.int .u8 x1],[.int .u8 x2],[.int .u8 x3],[.int .u8 x4],[.int .u8 x5]] (some 6)],.agg [.int .i64 0,.int .i64 6],.int .i64 0],⟨H,lo⟩,false):=by
 have xJ:=Aj hM;have ieq1:¬gm=H.length:=by omega
 have ieq2:¬H.length=gm:=by omega
 have ieq3:¬gm=H.length+1:=by omega
 have ieq4:¬H.length+1=gm:=by omega
 have ieq5:¬gm=H.length+2:=by omega
 have ieq6:¬H.length+2=gm:=by omega
 have zz:=aI (fun l=>@Bj _ l _ xJ) (aI (fun l=>@Em _ l _ xJ) (aI hM (aI @STo.eq_1 (aI @Bd (aI @Bf (aI @Cb @Ca))))));refine raz (hb:=?_);rintro d rfl;refine g10 (q:=Aa (by simp only[zo,zz];exact plparse_run (by omega) _ p q) (g23 (q:=?_)));have zz:=aI ieq1 (aI ieq2 (aI ieq3 (aI ieq4 (aI ieq5 (aI ieq6 zz)))));refine g6 (q:=Ao (by simp only[zo,zz];exact plfield_run (by omega) _ x0 x1 x2 x3 x4 x5) (by simp only[Ac,zo,zq]<;>exact rfl) (by first | rfl | (simp[show ob 511 9=[true,true,true,true,true,true,true,true,true] from rfl,Xo,Ay,Ar,Cf,Ap,Bn,djl,djr,djs,Am,Af,Az,Ba,Cq,Bv,Cc,Aw,ieq1,ieq2,ieq3,ieq4,ieq5,ieq6];done)) (g9 (q:=?_)));refine⟨_,by simp only[F147,P147,mkP,Ce,En,I5,zg,zd,rowsOf,Ci,List.take,List.drop,zm,Bd,Bf]<;>exact rfl,?_⟩;simp[leave,LP,Xt,Xp,snap,D.Xr,D.Xq,D.free,D.Xw,Bj xJ,hM,STo,Ah,Bl]
theorem sfield_run{d:Nat}(hd:20≤d){x0 x1 x2 x3 x4 x5:Int}{H:List Xh}{gm gd:Nat}{inn ou:D}(hM:H[gm]?=some (STo (.sl 1 [[.int .u8 x0],[.int .u8 x1],[.int .u8 x2],[.int .u8 x3],[.int .u8 x4],[.int .u8 x5]] (some 6)) inn ou gd))(p q:Int)(lo:Nat):Ae LP NN d 96 [.ptr gm 0 0 0,.sl 5 [[.int .u8 1,.str ⟨#[78]⟩,.int .i64 p,.int .i64 q,.bool false]] (some 1)] ⟨H,lo⟩=some (.tup [.agg [.int .u8 4,.int .u8 0,.str ⟨#[57,57,57,57,57,57]⟩,.int .i64 6,.int .i64 0,.bool false,.bool false,.bool false,.bool false,.bool false,.int .i64 6,.sl 1 [[.int .u8 x0],[.int .u8 x1],[.int .u8 x2],[.int .u8 x3],[.int .u8 x4],[.int .u8 x5]] (some 6)],.int .i64 0],⟨H,lo⟩,false):=by
 have xJ:=Aj hM;have ieq1:¬gm=H.length:=by omega
 have ieq2:¬H.length=gm:=by omega
 have ieq3:¬gm=H.length+1:=by omega
 have ieq4:¬H.length+1=gm:=by omega
 have ieq5:¬gm=H.length+2:=by omega
 have ieq6:¬H.length+2=gm:=by omega
 have zz:=aI (fun l=>@Bj _ l _ xJ) (aI (fun l=>@Em _ l _ xJ) (aI hM (aI @STo.eq_1 (aI @Bd (aI @Bf (aI @Cb @Ca))))));refine raz (hb:=?_);rintro d rfl;refine g19 (q:=Aa (by simp only[zo,zz];exact litN_run (by omega) _ p q) (g11 (q:=Aa (by simp only[zo,zz];exact spot_run (by omega) (by rw[Bj xJ];exact hM) p q _) (g20 (q:=?_)))));refine⟨_,by simp only[F96,P96,mkP,Ce,En,I5,zg,zd,rowsOf,Ci,List.take,List.drop,zm,Bd,Bf]<;>exact rfl,?_⟩;simp[leave,LP,Xt,Xp,snap,D.Xr,D.Xq,D.free,D.Xw,Bj xJ,hM,STo,Ah,Bl]
theorem mput_run{d:Nat}(hd:10≤d){x0 x1 x2 x3 x4 x5:Int}{H:List Xh}{gm gd:Nat}{inn ou:D}(hM:H[gm]?=some (STo (.sl 1 [[.int .u8 x0],[.int .u8 x1],[.int .u8 x2],[.int .u8 x3],[.int .u8 x4],[.int .u8 x5]] (some 6)) inn ou gd))(y0 y1 y2 y3 y4 y5:Int)(c:Option Nat)(lo:Nat):Ae LP NN d 156 [.ptr gm 0 0 0,.agg [.int .i64 0,.int .i64 6],.sl 1 [[.int .u8 y0],[.int .u8 y1],[.int .u8 y2],[.int .u8 y3],[.int .u8 y4],[.int .u8 y5]] c] ⟨H,lo⟩=some (.int .i64 0,⟨(H.set gm (STo (.sl 1 [[.int .u8 y0],[.int .u8 y1],[.int .u8 y2],[.int .u8 y3],[.int .u8 y4],[.int .u8 y5]] (some 6)) inn ou gd)++[⟨65,2,[[.int .i64 0,.int .i64 6]],0,0,false⟩]),min lo gm⟩,true):=by
 have xJ:=Aj hM;have ieq1:¬gm=H.length:=by omega
 have ieq2:¬H.length=gm:=by omega
 have ieq3:¬gm=H.length+1:=by omega
 have ieq4:¬H.length+1=gm:=by omega
 have ieq5:¬gm=H.length+2:=by omega
 have ieq6:¬H.length+2=gm:=by omega
 have zz:=aI (fun l=>@Bj _ l _ xJ) (aI (fun l=>@Em _ l _ xJ) (aI hM (aI @STo.eq_1 (aI @Bd (aI @Bf (aI @Cb @Ca))))));refine raz (hb:=?_);rintro d rfl;refine g11 (q:=?_);have zz:=aI ieq1 (aI ieq2 (aI ieq3 (aI ieq4 (aI ieq5 (aI ieq6 zz)))));refine g3 (q:=Ao (by simp only[zo,zz];exact put6_run (by omega) _ x0 x1 x2 x3 x4 x5 y0 y1 y2 y3 y4 y5 c) (by simp only[Ac,zo,zq]<;>exact rfl) (by first | rfl | (simp[show ob 63 6=[true,true,true,true,true,true] from rfl,Xo,Ay,Ar,Cf,Ap,Bn,djl,djr,djs,Am,Af,Az,Ba,Cq,Bv,Cc,Aw,ieq1,ieq2,ieq3,ieq4,ieq5,ieq6];done)) (g30 (q:=?_)));refine⟨_,by simp only[F156,P156,mkP,Ce,En,I5,zg,zd,rowsOf,Ci,List.take,List.drop,zm,Bd,Bf]<;>exact rfl,?_⟩;have uN:min H.length gm=gm:=by omega
 have yK:¬H.length≤gm:=by omega
 simp[leave,LP,Xt,Xp,snap,D.Xr,D.Xq,D.free,D.Xw,Bj xJ,hM,STo,uN,yK,Ah]
theorem uof9_cl(d:Nat)(S:St) :Bp LP NN (d+8) 242 [.agg sh9] S=some (.agg [.fn 328 [],.fn 329 []],S,false):=by kernel_rfl
theorem uof9_run{d:Nat}(hd:8≤d)(S:St) :Ae LP NN d 242 [.agg sh9] S=some (.agg [.fn 328 [],.fn 329 []],S,false):=by
 obtain⟨d,rfl⟩:∃d',d=d'+8:=⟨d-8,by omega⟩;exact fast_ok (uof9_cl d S )
theorem usg9_cl(d:Nat)(S:St) :Bp LP NN (d+3) 354 [.agg sh9] S=some (.int .i64 5,S,false):=by kernel_rfl
theorem usg9_run{d:Nat}(hd:3≤d)(S:St) :Ae LP NN d 354 [.agg sh9] S=some (.int .i64 5,S,false):=by
 obtain⟨d,rfl⟩:∃d',d=d'+3:=⟨d-3,by omega⟩;exact fast_ok (usg9_cl d S )
theorem ck9_cl(d:Nat)(S:St) :Bp LP NN (d+16) 100 [.agg sh9] S=some (.int .i64 0,S,false):=by kernel_rfl
theorem Xd{d:Nat}(hd:16≤d)(S:St) :Ae LP NN d 100 [.agg sh9] S=some (.int .i64 0,S,false):=by
 obtain⟨d,rfl⟩:∃d',d=d'+16:=⟨d-16,by omega⟩;exact fast_ok (ck9_cl d S )
theorem ukd9_cl(d:Nat)(S:St) :Bp LP NN (d+18) 241 [.agg sh9] S=some (.int .i64 0,S,false):=by kernel_rfl
theorem ukd9_run{d:Nat}(hd:18≤d)(S:St) :Ae LP NN d 241 [.agg sh9] S=some (.int .i64 0,S,false):=by
 obtain⟨d,rfl⟩:∃d',d=d'+18:=⟨d-18,by omega⟩;exact fast_ok (ukd9_cl d S )
theorem al9E_cl(d:Nat)(S:St) :Bp LP NN (d+4) 148 [.agg sh9,.agg (shpE 6)] S=some (.bool true,S,false):=by kernel_rfl
theorem al9E_run{d:Nat}(hd:4≤d)(S:St) :Ae LP NN d 148 [.agg sh9,.agg (shpE 6)] S=some (.bool true,S,false):=by
 obtain⟨d,rfl⟩:∃d',d=d'+4:=⟨d-4,by omega⟩;exact fast_ok (al9E_cl d S )
theorem alE9_cl(d:Nat)(S:St) :Bp LP NN (d+4) 148 [.agg (shpE 6),.agg sh9] S=some (.bool true,S,false):=by kernel_rfl
theorem alE9_run{d:Nat}(hd:4≤d)(S:St) :Ae LP NN d 148 [.agg (shpE 6),.agg sh9] S=some (.bool true,S,false):=by
 obtain⟨d,rfl⟩:∃d',d=d'+4:=⟨d-4,by omega⟩;exact fast_ok (alE9_cl d S )
structure D6 (V:List UInt8):Prop where
 len:V.length=6
 num:Dq V=true
theorem D6.dig{V:List UInt8}(h:D6 V):V.all Dw=true:=by
 have:=h.num;simp only[Dq,Bool.and_eq_true]at this;exact this.2
theorem six{V:List UInt8}(h:V.length=6):∃a b c d e f,V=[a,b,c,d,e,f]:=by
 match V,h with
 | [a,b,c,d,e,f],_=>exact⟨a,b,c,d,e,f,rfl⟩
theorem D6.nrm{V:List UInt8}(h:D6 V):Nrm false (strip V):=by
 have:=Nrm.of false V h.num (by have:=L9 V;have:=h.len;omega);simpa using this
theorem zoned_run{d:Nat}(hd:8≤d)(S:St){V:List UInt8}(hV:D6 V)(c:Option Nat):Ae LP NN d 328 [.agg sh9,.sl 1 (bR V) c] S=some (.tup [.agg [.bool false,.str (mkS V)],.bool true],S,false):=by
 have hn:=hV.num;have hl:=hV.len;have ht:(Ou V==[])=true:=by rw[G9];exact hV.dig
 have wD:(bR V).length=6:=by rw[Ga,hl]
 have zz:=aI @Ag (aI @Ai (aI @Ad (aI @sh9.eq_1 (aI @E8 ht))));refine rpz (hb:=?_);rintro d rfl;refine g10 (q:=Aa (by simp only[zl,zm,Ct,E8,zm,zz]<;>exact rfl) (g9 (q:=Aa (by simp only[zo,zz];exact usg9_run (by omega) _) (g17 (q:=Ao (by simp only[zo,zz];exact trimDg_run (by omega) _ V (by omega)) (by simp only[Ac,zo,zq]<;>exact rfl) rfl (g6 (q:=?_)))))));exact fq (h:=rfl)
theorem uread_run{d:Nat}(hd:12≤d)(S:St){V:List UInt8}(hV:D6 V)(c:Option Nat):Ae LP NN d 277 [.agg [.int .u8 4,.int .u8 0,.str ⟨#[57,57,57,57,57,57]⟩,.int .i64 6,.int .i64 0,.bool false,.bool false,.bool false,.bool false,.bool false,.int .i64 6,.sl 1 (bR V) c]] S=some (.tup [.agg [.bool false,.str (mkS V)],.int .i64 0],S,false):=by
 have hn:=hV.num;have hl:=hV.len;have ht:(Ou V==[])=true:=by rw[G9];exact hV.dig
 have wD:(bR V).length=6:=by rw[Ga,hl]
 have zz:=aI @Ag (aI @Ai (aI @Ad (aI @sh9.eq_1 wD)));refine rpz (hb:=?_);rintro d rfl;refine g38 (q:=Ao (by simp only[zo,zz];exact uof9_run (by omega) _) (by simp only[Ac,zo,zq]<;>exact rfl) rfl (g5 (q:=Ao (by simp only[zo,zz];exact zoned_run (by omega) _ hV c) (by simp only[Ac,zo,zq]<;>exact rfl) rfl (g3 (q:=Ao (by simp only[zo]<;>exact rfl) rfl rfl (g22 (q:=?_)))))));exact fq (h:=rfl)
theorem uget_run{d:Nat}(hd:20≤d)(S:St){V:List UInt8}(hV:D6 V)(c:Option Nat):Ae LP NN d 222 [.agg [.int .u8 4,.int .u8 0,.str ⟨#[57,57,57,57,57,57]⟩,.int .i64 6,.int .i64 0,.bool false,.bool false,.bool false,.bool false,.bool false,.int .i64 6,.sl 1 (bR V) c]] S=some (.tup [.agg [.bool false,.str (mkS (strip V)),.int .i64 0],.int .i64 0],S,false):=by
 have hn:=hV.num;have hl:=hV.len;have ht:(Ou V==[])=true:=by rw[G9];exact hV.dig
 have wD:(bR V).length=6:=by rw[Ga,hl]
 have zz:=aI @Ag (aI @Ai (aI @Ad (aI @sh9.eq_1 @Bool.false_and)));refine rpz (hb:=?_);rintro d rfl;refine g12 (q:=Aa (by simp only[zo,zz];exact ukd9_run (by omega) _) (g15 (q:=Aa (by simp only[zo,zz];exact uread_run (by omega) _ hV c) (g27 (q:=Aa (by simp only[zo,zz];exact Rx (by omega) _ false V (by omega) hn) (g7 (q:=?_)))))));exact fq (h:=rfl)
theorem D6.ne{V:List UInt8}(h:D6 V):V≠[]:=by
 intro e;have:=h.len;rw[e]at this;cases this
theorem D6.le{V:List UInt8}(h:D6 V):(strip V).length≤6:=by
 have:=(J8 V h.ne).1;have:=h.len;omega
theorem D6.pad{V:List UInt8}(h:D6 V):pad 6 (strip V)=V:=by
 have:=pad_strip V 6 h.ne h.le (by have:=h.len;omega);rw[show V.length-6=0 by have:=h.len;omega]at this;exact this.symm
theorem D6.last{V:List UInt8}(h:D6 V):strip (Ei 6 (strip V))=strip V:=U7 (Rc V) h.le
theorem mnum9_run{d:Nat}(hd:22≤d)(S:St){V:List UInt8}(hV:D6 V)(c:Option Nat):Ae LP NN d 150 [.agg [.int .u8 4,.int .u8 0,.str ⟨#[57,57,57,57,57,57]⟩,.int .i64 6,.int .i64 0,.bool false,.bool false,.bool false,.bool false,.bool false,.int .i64 6,.sl 1 (bR V) c]] S=some (.tup [.agg [.bool false,.str (mkS (strip V)),.int .i64 0],.int .i64 0],S,false):=by
 have hn:=hV.num;have hl:=hV.len;have ht:(Ou V==[])=true:=by rw[G9];exact hV.dig
 have wD:(bR V).length=6:=by rw[Ga,hl]
 have zz:=aI @Ag (aI @Ai (aI @Ad @sh9.eq_1));refine rpz (hb:=?_);rintro d rfl;refine g26 (q:=Aa (by simp only[zo,zz];exact uget_run (by omega) _ hV c) (g9 (q:=?_)));exact fq (h:=rfl)
theorem move9E_run{d:Nat}(hd:26≤d)(S:St){V:List UInt8}(hV:D6 V)(c:Option Nat):Ae LP NN d 97 [.agg [.int .u8 4,.int .u8 0,.str ⟨#[57,57,57,57,57,57]⟩,.int .i64 6,.int .i64 0,.bool false,.bool false,.bool false,.bool false,.bool false,.int .i64 6,.sl 1 (bR V) c],.agg (shpE 6)] S=some (.tup [.sl 1 (bR (edS V)) (some 6),.int .i64 0],S,false):=by
 have hn:=hV.num;have hl:=hV.len;have ht:(Ou V==[])=true:=by rw[G9];exact hV.dig
 have wD:(bR V).length=6:=by rw[Ga,hl]
 have zz:=aI @Ag (aI @Ai (aI @Ad (aI @sh9.eq_1 (aI @shpE.eq_1 wD))));refine rpz (hb:=?_);rintro d rfl;refine g14 (q:=?_)
 first
  | refine Aa (by simp only[zo,zz];exact Xd (by omega) _) ?_
  | refine Aa (by simp only[zo,zz];exact Ky (n:=6) (by omega) _ (by omega) (by omega)) ?_
 refine g2 (q:=Bb 0 (b:=false) (h:=g3 (q:=?_)))
 first
  | refine Aa (by simp only[zo,zz];exact Xd (by omega) _) ?_
  | refine Aa (by simp only[zo,zz];exact Ky (n:=6) (by omega) _ (by omega) (by omega)) ?_
 refine g25 (q:=Aa (by simp only[zo,zz];exact al9E_run (by omega) _) (g21 (q:=Bb 0 (b:=false) (h:=g14 (q:=Aa (by simp only[zo,zz];exact mnum9_run (by omega) _ hV c) (g31 (q:=Aa (by simp only[zo,zz];exact P6 (n:=6) (by omega) _ (by omega) (by omega) hV.nrm) (g10 (q:=fq (h:=?_))))))))));rw[hV.last,hV.pad];rfl
theorem zout_at:∀(l:List UInt8) (st:Int) (i:Nat) (b:UInt8),(K3 l st)[i]?=some b→∃v,l[i]?=some v∧(b=v∨(b=32∧v=48))
 | [],_,_,_,h=>by simp[K3]at h
 | c :: l, st, 0, b, h => by
  rw[K3,Lz,Oi]at h;refine⟨c,rfl,?_⟩;split at h
  ·
   rename_i hn;refine .inr ⟨h.symm,?_⟩;by_cases hc:c=48
   ·
    exact hc
   rw[nst,if_pos (.inr hc)]at hn;cases hn
  exact .inl h.symm
 | c::l,st,i+1,b,h=>by
  rw[K3,Ls_]at h;rw[Ls_];exact zout_at l _ i b h
theorem edS_at{V:List UInt8}{i:Nat}(hi:i<V.length):∃b v,(edS V)[i]?=some b∧V[i]?=some v∧(b=v∨(b=32∧v=48)):=by
 by_cases h:i<V.length-1
 ·
  have hz:i<(K3 (V.take (V.length-1)) 0).length:=by rw[R4,List.length_take];omega
  obtain⟨v,h1,h2⟩:=zout_at _ _ i _ (Lg hz);refine⟨_,v,by rw[edS,La_ hz,Lg hz],?_,h2⟩;rw[List.getElem?_take_of_lt h]at h1;exact h1
 have hz:(K3 (V.take (V.length-1)) 0).length=i:=by rw[R4,List.length_take];omega
 refine⟨V[i],V[i],?_,Lg hi,.inl rfl⟩;rw[edS,Lr_ (by omega),hz,Nat.sub_self,List.getElem?_drop];rw[show V.length-1+0=i by omega,Lg hi]
theorem dig_any{d:Nat}(hd:1≤d)(S:St)(p q:ByteArray){c:UInt8}(h:c=90∨c=57):Ae LP NN d 320 [.agg [.str p,.str q,.int .u8 0],.int .u8 (c.toNat:Nat)] S=some (.bool true,S,false):=by
 rcases h with rfl | rfl
 ·
  exact digZ_run hd S p q
 exact dig9_run hd S p q
theorem isDig_le{v:UInt8}(h:Dw v=true):48≤v.toNat∧v.toNat≤57:=by
 simp only[Dw,Bool.and_eq_true,decide_eq_true_eq]at h;constructor
 ·
  exact h.1
 exact h.2
theorem eo6_cl(d:Nat)(S:St) :Bp LP NN (d+10) 279 [.agg (shpE 6)] S=some (picD 6,S,false):=by kernel_rfl
theorem eo6_run{d:Nat}(hd:10≤d)(S:St) :Ae LP NN d 279 [.agg (shpE 6)] S=some (picD 6,S,false):=by
 obtain⟨d,rfl⟩:∃d',d=d'+10:=⟨d-10,by omega⟩;exact fast_ok (eo6_cl d S )
theorem edig_run{d:Nat}(hd:3≤d)(S:St){V:List UInt8}(hV:D6 V)(c:Option Nat):Ae LP NN d 278 [picD 6,.sl 1 (bR (edS V)) c] S=some (.str (mkS V),S,false):=by
 have hps:=pic_tab2 6 (by omega);have zz:=aI @Ag (aI @Ai (aI @Ad (aI hps @picD.eq_1)));refine rpz (hb:=?_);rintro d rfl;refine g31 (q:=Bq (fun n env S'=>∃(i:Nat) (x:D) (u7 u8 u9 u12 u13 u14 u15 u16:D),i≤6∧n=6-i∧env=[picD 6,.sl 1 (bR (edS V)) c,.X7 [.str (Dp true 6),.str ⟨#[]⟩,.int .u8 0] 0,.str ⟨#[]⟩,x,.bool true,.int .i64 (i:Nat),u7,u8,u9,.int .i64 6,.int .i64 (i:Nat),u12,u13,u14,u15,u16]∧AppS [] 0 5 1 (bR (V.take i)) S' x) (6) (by omega) (⟨0,.X4,_,_,_,_,_,_,_,_,by omega,by omega,rfl,AppS.nil [] 0 5 1⟩) ?_);rintro n env S' ⟨i,x,u7,u8,u9,u12,u13,u14,u15,u16,hi,kL,rfl,hA⟩;refine g6 (q:=Bz (ht:=fun xZ=>?_) (hf:=fun xZ=>?_))
 ·
  have xq:i<6:=by have:=of_decide_eq_true xZ;omega
  have hiV:i<V.length:=by have:=hV.len;omega
  have vK:=Bu i (by omega);have h0i:(0:Int)≤(i:Int):=by omega
  have kP:=pic_tab 6 (by omega) i xq;have hps:=pic_tab2 6 (by omega)
  obtain⟨ch,hch,kP,h86,uX⟩:∃ch:UInt8,(ch=90∨ch=57)∧(Dp true 6)[i]?=some ch∧(((ch.toNat:Nat):Int)==86)=false∧(((ch.toNat:Nat):Int)==0)=false:=by
   by_cases h5:i+1=6
   ·
    exact⟨57,.inr rfl,by rw[kP,if_pos h5],rfl,rfl⟩
   exact⟨90,.inl rfl,by rw[kP,if_neg h5],rfl,rfl⟩
  obtain⟨b,v,hb,hv,hbv⟩:=edS_at hiV;have yD:=fun S:St=>(SlD.of 1 (bR (edS V)) c).iaddrN S .i64 (bR_at hb);have hdv:=isDig_le (List.all_eq_true.1 hV.dig v (Lm hv));obtain⟨x',S1,yT,hA'⟩:=hA.app (Nat.zero_le _) 1 (new:=[[.int .u8 (v.toNat:Nat)]]) (c:=some 1) rfl (by rw[Ga,List.length_take];simp;omega)
  have hVt:bR (V.take (i+1))=bR (V.take i)++[[.int .u8 (v.toNat:Nat)]]:=by
   obtain⟨hh,hh2⟩:=List.getElem?_eq_some_iff.1 hv;rw[List.take_succ_eq_append_getElem hh,hh2];simp[bR]
  have zz:=aI vK (aI kP (aI yD (aI h0i (aI h86 (aI uX (aI @Int.toNat_natCast (aI xq zz)))))));rcases hbv with hbv | ⟨hbv,hv48⟩
  rotate_left
  ·
   subst hbv;subst hv48;have xU:decide (((32:Nat):Int)<48)=true:=rfl;have zz:=aI xU (aI (show (32:UInt8).toNat=32 from rfl) zz);refine g51 (q:=Aa (by simp only[zo,zz];exact dig_any (by omega) _ _ _ hch) (g12 (q:=Bb 0 (b:=false) (h:=g11 (q:=Bb 0 (b:=true) (h:=g16 (q:=Aa (by simp only[Al,aop,LOp.loud,lop,if_true,opd,zv];exact yT) (g9 (q:=?_)))))))));exact⟨6-(i+1),by omega,i+1,x',_,_,_,_,_,_,_,_,by omega,rfl,rfl,by rw[hVt];exact hA'⟩
  subst hbv;have xU:decide (((b.toNat:Nat):Int)<48)=false:=decide_eq_false (by omega);have hhi:decide (((b.toNat:Nat):Int)>57)=false:=decide_eq_false (by omega);have zz:=aI xU (aI hhi zz);refine g51 (q:=Aa (by simp only[zo,zz];exact dig_any (by omega) _ _ _ hch) (g12 (q:=Bb 0 (b:=false) (h:=g11 (q:=Bb 0 (b:=false) (h:=g16 (q:=Aa (by simp only[Al,aop,LOp.loud,lop,if_true,opd,zv];exact yT) (g9 (q:=?_)))))))));exact⟨6-(i+1),by omega,i+1,x',_,_,_,_,_,_,_,_,by omega,rfl,rfl,by rw[hVt];exact hA'⟩
 have hi6:i=6:=by have:=of_decide_eq_false xZ;omega
 subst hi6;have hVl:=hV.len;have rZ:=hA;rw[show V.take 6=V by rw[←hVl,List.take_length]]at rZ;rcases rZ with⟨h,-,-⟩ | ⟨vv,rfl,rfl⟩
 ·
  have:=congrArg List.length h;rw[Ga,hVl]at this;cases this
 have hT:(bR V).take (bR V).length=bR V:=List.take_length;have hS0:List.drop 0 (bR V)=bR V:=rfl;refine g8 (q:=Aa (by simp only[zl,zm,Ct,Ea,E8,hT,hS0,true_or,zm,zz]<;>exact rfl) (g4 (q:=?_)));exact fq (h:=rfl)
theorem bequ_run{d:Nat}(hd:1≤d)(S:St)(L:List UInt8)(a b:Option Nat):Ae LP NN d 280 [.sl 1 (bR L) a,.sl 1 (bR L) b] S=some (.bool true,S,false):=by
 have zz:=aI @E8 (aI @beq_self_eq_true.{0} @ba_self);refine rpz (hb:=?_);rintro d rfl;refine g8 (q:=Aa (by simp only[zl,zm,Ct,E8,zm,zz]<;>exact rfl) (g1 (q:=Aa (by simp only[zl,zm,Ct,E8,zm,zz]<;>exact rfl) (g5 (q:=?_)))));exact fq (h:=rfl)
theorem back_run{d:Nat}(hd:24≤d)(S:St){V:List UInt8}(hV:D6 V)(c:Option Nat):Ae LP NN d 223 [.agg [.int .u8 5,.int .u8 0,.str (Dp true 6),.int .i64 ((6:Nat):Int),.int .i64 0,.bool false,.bool false,.bool false,.bool false,.bool false,.int .i64 ((6:Nat):Int),.sl 1 (bR (edS V)) c]] S=some (.tup [.agg [.bool false,.str (mkS (strip V)),.int .i64 0],.int .i64 0],S,false):=by
 have hn:=hV.num;have hl:=hV.len;have ht:(Ou V==[])=true:=by rw[G9];exact hV.dig
 have wD:(bR (edS V)).length=6:=by rw[Ga,Qx,hl]
 have hed:=fun S:St=>edit_run (d:=d-1) (n:=6) (by omega) S (by omega) (by omega) hV.nrm hV.le;rw[hV.pad]at hed;simp only[shpE]at hed;have zz:=aI @Ag (aI @Ai (aI @Ad (aI @shpE.eq_1 (aI wD @Bool.false_and))));refine rpz (hb:=?_);rintro d rfl;refine g12 (q:=Aa (by simp only[zo,zz];exact ekind_run (n:=6) (by omega) _ (by omega) (by omega)) (g31 (q:=Ao (by simp only[zo,zz];exact eo6_run (by omega) _) (by simp only[Ac,zo,zq]<;>exact rfl) rfl (g2 (q:=Ao (by simp only[zo,zz];exact edig_run (by omega) _ hV c) (by simp only[Ac,zo,zq]<;>exact rfl) rfl (g11 (q:=Gl (Gq (Dt (g25 (q:=Aa (by simp only[zo,zz];exact Rx (by omega) _ false V (by omega) hn) (g13 (q:=dw_kz 0 (b:=true) (h:=g7 (q:=Ao (by simp only[zo,zz];exact hed _) (by simp only[Ac,zo,zq]<;>exact rfl) rfl (g5 (q:=Ao (by simp only[zo,zz];exact bequ_run (by omega) _ _ _ _) (by simp only[Ac,zo,zq]<;>exact rfl) rfl (g11 (q:=cw_ret (bk_r (sk_r (lu_r (bk_r (sk_r ?_))))))))))))))))))))))));exact fq (h:=rfl)
theorem tozon_run{d:Nat}(hd:5≤d)(S:St)(V:List UInt8):Ae LP NN d 329 [.agg sh9,.agg [.bool false,.str (mkS V)]] S=some (.sl 1 (bR V) none,S,false):=by
 have zz:=aI @Ag (aI @Ai (aI @Ad @sh9.eq_1));refine rpz (hb:=?_);rintro d rfl;refine g19 (q:=Aa (by simp only[zo,zz];exact usg9_run (by omega) _) (g19 (q:=?_)));exact fq (h:=rfl)
theorem uput_run{d:Nat}(hd:22≤d)(S:St){V:List UInt8}(hV:D6 V):Ae LP NN d 174 [.agg [.bool false,.str (mkS (strip V)),.int .i64 0],.agg sh9] S=some (.tup [.sl 1 (bR V) (some 6),.int .i64 0],S,false):=by
 have wD:(bR V).length=6:=by rw[Ga,hV.len]
 have hrd:=fun S:St=>rdig_run (d:=d-1) (by omega) S hV.nrm 6 (by omega) (by omega) hV.le;rw[hV.pad]at hrd;have zz:=aI @Ag (aI @Ai (aI @Ad (aI @sh9.eq_1 @Bool.false_and)));refine rpz (hb:=?_);rintro d rfl;refine g11 (q:=Aa (by simp only[zo,zz];exact ukd9_run (by omega) _) (g9 (q:=Bb 0 (b:=false) (h:=g3 (q:=Aa (by simp only[zo,zz];exact J6 (by omega) _ _ _ hV.nrm) (g25 (q:=Aa (by simp only[zo,zz];exact hrd _) (g20 (q:=Ao (by simp only[zo,zz];exact uof9_run (by omega) _) (by simp only[Ac,zo,zq]<;>exact rfl) rfl (g5 (q:=dw_kz 0 (b:=false) (h:=g5 (q:=Ao (by simp only[zo,zz];exact tozon_run (by omega) _ V) (by simp only[Ac,zo,zq]<;>exact rfl) rfl (Ao (by simp only[zo,zz];exact clip_run (by omega) _ _ _) (by simp only[Ac,zo,zq]<;>exact rfl) rfl (g5 (q:=fq (h:=?_)))))))))))))))));rw[wD];rfl
theorem mvput_run{d:Nat}(hd:24≤d)(S:St){V:List UInt8}(hV:D6 V):Ae LP NN d 152 [.agg [.bool false,.str (mkS (strip V)),.int .i64 0],.agg sh9] S=some (.tup [.sl 1 (bR V) (some 6),.int .i64 0],S,false):=by
 have xU:=fun S:St=>Wz (d:=d-1) (by omega) S hV.nrm 6 (by omega) (by omega);rw[hV.last]at xU;simp only[Bool.false_and]at xU;have zz:=aI @Ag (aI @Ai (aI @Ad (aI @sh9.eq_1 @Bool.false_and)));refine rpz (hb:=?_);rintro d rfl;refine g13 (q:=Aa (by simp only[zo,zz];exact Tm (by omega) _ hV.nrm) (g27 (q:=Aa (by simp only[zo,zz];exact xU _) (g22 (q:=Aa (by simp only[zo,zz];exact uput_run (by omega) _ hV) (g7 (q:=?_)))))));exact fq (h:=rfl)
theorem mnumE_run{d:Nat}(hd:26≤d)(S:St){V:List UInt8}(hV:D6 V)(c:Option Nat):Ae LP NN d 150 [.agg [.int .u8 5,.int .u8 0,.str (Dp true 6),.int .i64 ((6:Nat):Int),.int .i64 0,.bool false,.bool false,.bool false,.bool false,.bool false,.int .i64 ((6:Nat):Int),.sl 1 (bR (edS V)) c]] S=some (.tup [.agg [.bool false,.str (mkS (strip V)),.int .i64 0],.int .i64 0],S,false):=by
 have hn:=hV.num;have hl:=hV.len;have ht:(Ou V==[])=true:=by rw[G9];exact hV.dig
 have wD:(bR (edS V)).length=6:=by rw[Ga,Qx,hl]
 have zz:=aI @Ag (aI @Ai (aI @Ad @shpE.eq_1));refine rpz (hb:=?_);rintro d rfl;refine g33 (q:=Aa (by simp only[zo,zz];exact back_run (by omega) _ hV c) (g9 (q:=?_)));exact fq (h:=rfl)
theorem moveE9_run{d:Nat}(hd:28≤d)(S:St){V:List UInt8}(hV:D6 V)(c:Option Nat):Ae LP NN d 97 [.agg [.int .u8 5,.int .u8 0,.str (Dp true 6),.int .i64 ((6:Nat):Int),.int .i64 0,.bool false,.bool false,.bool false,.bool false,.bool false,.int .i64 ((6:Nat):Int),.sl 1 (bR (edS V)) c],.agg sh9] S=some (.tup [.sl 1 (bR V) (some 6),.int .i64 0],S,false):=by
 have hn:=hV.num;have hl:=hV.len;have ht:(Ou V==[])=true:=by rw[G9];exact hV.dig
 have wD:(bR (edS V)).length=6:=by rw[Ga,Qx,hl]
 have zz:=aI @Ag (aI @Ai (aI @Ad (aI @sh9.eq_1 (aI @shpE.eq_1 wD))));refine rpz (hb:=?_);rintro d rfl;refine g14 (q:=?_)
 first
  | refine Aa (by simp only[zo,zz];exact Xd (by omega) _) ?_
  | refine Aa (by simp only[zo,zz];exact Ky (n:=6) (by omega) _ (by omega) (by omega)) ?_
 refine g2 (q:=Bb 0 (b:=false) (h:=g3 (q:=?_)))
 first
  | refine Aa (by simp only[zo,zz];exact Xd (by omega) _) ?_
  | refine Aa (by simp only[zo,zz];exact Ky (n:=6) (by omega) _ (by omega) (by omega)) ?_
 refine g25 (q:=Aa (by simp only[zo,zz];exact alE9_run (by omega) _) (g21 (q:=Bb 0 (b:=true) (h:=g11 (q:=Aa (by simp only[zo,zz];exact mnumE_run (by omega) _ hV c) (g33 (q:=Aa (by simp only[zo,zz];exact mvput_run (by omega) _ hV) (g9 (q:=?_)))))))));exact fq (h:=rfl)
theorem spotV{d:Nat}(hd:18≤d){V:List UInt8}(hV:V.length=6){H:List Xh}{gm gd:Nat}{inn ou:D}(hM:H[gm]?=some (STo (.sl 1 (bR V) (some 6)) inn ou gd))(p q:Int)(lo:Nat):Ae LP NN d 147 [.ptr gm 0 0 0,.sl 5 [[.int .u8 1,.str ⟨#[78]⟩,.int .i64 p,.int .i64 q,.bool false]] (some 1)] ⟨H,lo⟩=some (.tup [.agg [.int .u8 4,.int .u8 0,.str ⟨#[57,57,57,57,57,57]⟩,.int .i64 6,.int .i64 0,.bool false,.bool false,.bool false,.bool false,.bool false,.int .i64 6,.sl 1 (bR V) (some 6)],.agg [.int .i64 0,.int .i64 6],.int .i64 0],⟨H,lo⟩,false):=by
 obtain⟨a,b,c,d',e,f,rfl⟩:=six hV;exact spot_run hd hM p q lo
theorem fieldV{d:Nat}(hd:20≤d){V:List UInt8}(hV:V.length=6){H:List Xh}{gm gd:Nat}{inn ou:D}(hM:H[gm]?=some (STo (.sl 1 (bR V) (some 6)) inn ou gd))(p q:Int)(lo:Nat):Ae LP NN d 96 [.ptr gm 0 0 0,.sl 5 [[.int .u8 1,.str ⟨#[78]⟩,.int .i64 p,.int .i64 q,.bool false]] (some 1)] ⟨H,lo⟩=some (.tup [.agg [.int .u8 4,.int .u8 0,.str ⟨#[57,57,57,57,57,57]⟩,.int .i64 6,.int .i64 0,.bool false,.bool false,.bool false,.bool false,.bool false,.int .i64 6,.sl 1 (bR V) (some 6)],.int .i64 0],⟨H,lo⟩,false):=by
 obtain⟨a,b,c,d',e,f,rfl⟩:=six hV;exact sfield_run hd hM p q lo
theorem mputV{d:Nat}(hd:10≤d){V W:List UInt8}(hV:V.length=6)(hW:W.length=6){H:List Xh}{gm gd:Nat}{inn ou:D}(hM:H[gm]?=some (STo (.sl 1 (bR V) (some 6)) inn ou gd))(c:Option Nat)(lo:Nat):Ae LP NN d 156 [.ptr gm 0 0 0,.agg [.int .i64 0,.int .i64 6],.sl 1 (bR W) c] ⟨H,lo⟩=some (.int .i64 0,⟨H.set gm (STo (.sl 1 (bR W) (some 6)) inn ou gd)++[⟨65,2,[[.int .i64 0,.int .i64 6]],0,0,false⟩],min lo gm⟩,true):=by
 obtain⟨a,b,c1,d',e,f,rfl⟩:=six hV;obtain⟨a',b',c1',d'',e',f',rfl⟩:=six hW;exact mput_run hd hM _ _ _ _ _ _ c lo
theorem put6V{d:Nat}(hd:6≤d)(S:St){V W:List UInt8}(hV:V.length=6)(hW:W.length=6)(c:Option Nat):Ae LP NN d 10 [.sl 1 (bR V) (some 6),.agg [.int .i64 0,.int .i64 6],.sl 1 (bR W) c] S=some (.tup [.sl 1 (bR W) (some 6),.int .i64 0],S,false):=by
 obtain⟨a,b,c1,d',e,f,rfl⟩:=six hV;obtain⟨a',b',c1',d'',e',f',rfl⟩:=six hW;exact put6_run hd S _ _ _ _ _ _ _ _ _ _ _ _ c
theorem get6V{d:Nat}(hd:6≤d)(S:St){V:List UInt8}(hV:V.length=6):Ae LP NN d 17 [.sl 1 (bR V) (some 6),.agg [.int .i64 0,.int .i64 6]] S=some (.tup [.sl 1 (bR V) (some 6),.int .i64 0],S,false):=by
 obtain⟨a,b,c1,d',e,f,rfl⟩:=six hV;exact get6_run hd S _ _ _ _ _ _
theorem smove_run{d:Nat}(hd:30≤d){V W:List UInt8}(hV:D6 V)(hW:D6 W)(c:Option Nat){H:List Xh}{gm gd:Nat}{inn ou:D}(hM:H[gm]?=some (STo (.sl 1 (bR V) (some 6)) inn ou gd))(p q:Int)(lo:Nat):Ae LP NN d 99 [.ptr gm 0 0 0,.agg [.int .u8 5,.int .u8 0,.str (Dp true 6),.int .i64 ((6:Nat):Int),.int .i64 0,.bool false,.bool false,.bool false,.bool false,.bool false,.int .i64 ((6:Nat):Int),.sl 1 (bR (edS W)) c],.sl 5 [[.int .u8 1,.str ⟨#[78]⟩,.int .i64 p,.int .i64 q,.bool false]] (some 1)] ⟨H,lo⟩=some (.int .i64 0,⟨H.set gm (STo (.sl 1 (bR W) (some 6)) inn ou gd)++([⟨168,12,[[.int .u8 5,.int .u8 0,.str (Dp true 6),.int .i64 ((6:Nat):Int),.int .i64 0,.bool false,.bool false,.bool false,.bool false,.bool false,.int .i64 ((6:Nat):Int),.sl 1 (bR (edS W)) c]],0,0,false⟩,⟨168,12,[[.int .u8 4,.int .u8 0,.str ⟨#[57,57,57,57,57,57]⟩,.int .i64 6,.int .i64 0,.bool false,.bool false,.bool false,.bool false,.bool false,.int .i64 6,.sl 1 (bR V) (some 6)]],0,0,false⟩,⟨65,2,[[.int .i64 0,.int .i64 6]],0,0,false⟩]++[⟨65,2,[[.int .i64 0,.int .i64 6]],0,0,false⟩]),min lo gm⟩,true):=by
 have xJ:=Aj hM;have ieq1:¬gm=H.length:=by omega
 have ieq2:¬H.length=gm:=by omega
 have ieq3:¬gm=H.length+1:=by omega
 have ieq4:¬H.length+1=gm:=by omega
 have ieq5:¬gm=H.length+2:=by omega
 have ieq6:¬H.length+2=gm:=by omega
 have uN:min H.length gm=gm:=by omega
 have yK:¬H.length≤gm:=by omega
 have zV:min lo (min H.length gm)=min lo gm:=by omega
 have hmv:=fun S:St=>moveE9_run (d:=d-1) (by omega) S hW c;simp only[sh9]at hmv;have zU:=fun lo=>mputV (d:=d-1) (by omega) hV.len hW.len (H:=H++[⟨168,12,[[.int .u8 5,.int .u8 0,.str (Dp true 6),.int .i64 ((6:Nat):Int),.int .i64 0,.bool false,.bool false,.bool false,.bool false,.bool false,.int .i64 ((6:Nat):Int),.sl 1 (bR (edS W)) c]],0,0,false⟩,⟨168,12,[[.int .u8 4,.int .u8 0,.str ⟨#[57,57,57,57,57,57]⟩,.int .i64 6,.int .i64 0,.bool false,.bool false,.bool false,.bool false,.bool false,.int .i64 6,.sl 1 (bR V) (some 6)]],0,0,false⟩,⟨65,2,[[.int .i64 0,.int .i64 6]],0,0,false⟩]) (gm:=gm) (by rw[Bj xJ];exact hM) (some 6) lo;simp only[Em xJ,STo,Lo_,List.cons_append,List.nil_append]at zU;have zz:=aI (fun l=>@Bj _ l _ xJ) (aI (fun l=>@Em _ l _ xJ) (aI hM (aI @STo.eq_1 (aI @Bd (aI @Bf (aI @Cb (aI @Ca (aI @shpE.eq_1 @sh9.eq_1))))))));refine raz (hb:=?_);rintro d rfl;refine g20 (q:=Aa (by simp only[zo,zz];exact spotV (by omega) hV.len (by rw[Bj xJ];exact hM) p q _) (g26 (q:=Aa (by simp only[zo,zz];exact hmv _) (g22 (q:=Aa (by simp only[zo,zz];exact zU _) (g4 (q:=?_)))))));refine⟨_,by simp only[F99,P99,mkP,Ce,En,I5,zg,zd,rowsOf,Ci,List.take,List.drop,zm,Bd,Bf]<;>exact rfl,?_⟩;simp[leave,LP,Xt,Xp,snap,D.Xr,D.Xq,D.free,D.Xw,Bj xJ,hM,STo,uN,yK,zV,Ah,Bl]
def nmZ:ByteArray:=⟨#[90]⟩
theorem find36_oA{d:Nat}(hd:3≤d){H:List Xh}{go:Nat}{xa:D}{r:Nat}(hO:H[go]?=some ⟨32,4,[[.str nmA,xa,.int .i64 ((1:Nat):Int),.int .i64 ((12:Nat):Int)]],1,0,true⟩)(hxa:∀m,snap m H xa=some xa)(hca:xa.Xv=true)(hR:H[r]?=some (nmO nmA))(lo:Nat) :
  Ae LP NN d 94 [.msl go 1 0 1 none,.fn 95 [.ptr r 0 0 0]] ⟨H,lo⟩=some (.int .i64 0,⟨H,lo⟩,false):=by
 have hxa0:=hxa;have zz:=aI hO (aI (show ((0:Nat)=1)=False from by decide) (show ((0:Nat)=2)=False from by decide));refine Ho (F:=F94) rfl (by simp only[LP,Ah,Bl,zs,zm,zv,and_false,or_false,or_self,false_or,ite_false,if_false,Bool.and_false,zz]<;>exact rfl) rfl (by simp only[LP,zf,zm,and_false,or_false,or_self,false_or,ite_false,if_false,Bool.and_false,zz];try rfl) (by simp only[F94,P94,mkP,zv]<;>exact rfl) (by omega) ?_;rintro d rfl;refine g13 (q:=Gl (Gq (Dt (g6 (q:=Dn (by simp only[opd,zv,and_false,or_false,or_self,false_or,ite_false,if_false,Bool.and_false,zz]<;>rfl) (g17 (q:=Aa (by simp only[zo,and_false,or_false,or_self,false_or,ite_false,if_false,Bool.and_false,zz];exact (find37 (by omega) hR (hxa0 _) hca _).trans (congrArg (fun b=>some (D.bool b,_,false)) (show (nmA.toList==nmA.toList)=true from by decide +kernel))) (g2 (q:=Dn (by simp only[opd,zv,and_false,or_false,or_self,false_or,ite_false,if_false,Bool.and_false,zz]<;>rfl) (g6 (q:=cw_ret (bk_r (sk_r (lu_r (bk_r (sk_r ?_))))))))))))))));refine fq (h:=?_);simp[leave,LP,Xt,Xp,snap,D.Xr,D.Xq,D.free,D.Xw,show IntKind.i64.wrap 1=1 from by decide]
theorem find_oA{d:Nat}(hd:5≤d){H:List Xh}{go:Nat}{xa:D}(hO:H[go]?=some ⟨32,4,[[.str nmA,xa,.int .i64 ((1:Nat):Int),.int .i64 ((12:Nat):Int)]],1,0,true⟩)(hxa:∀m l,snap m (H++l) xa=some xa)(hca:xa.Xv=true)(lo:Nat) :
  Ae LP NN d 40 [.msl go 1 0 1 none,.str nmA] ⟨H,lo⟩=some (.tup [.int .i64 0,.int .i64 0],⟨H,lo⟩,false):=by
 have zR:=Aj hO;have zz:=aI hO (aI (fun l=>@Bj _ l _ zR) (aI (show ((0:Nat)=1)=False from by decide) (show ((0:Nat)=2)=False from by decide)));refine Ho (F:=F40) rfl (by simp only[LP,Ah,Bl,zs,zm,zv,and_false,or_false,or_self,false_or,ite_false,if_false,Bool.and_false,zz]<;>exact rfl) rfl (by simp only[LP,zf,zm,and_false,or_false,or_self,false_or,ite_false,if_false,Bool.and_false,zz];try rfl) (by simp only[F40,P40,mkP,zv]<;>exact rfl) (by omega) ?_;rintro d rfl;refine g11 (q:=Aa (by simp only[zo,and_false,or_false,or_self,false_or,ite_false,if_false,Bool.and_false,zz];exact find36_oA (by omega) (by rw[Bj zR];exact hO) (fun m=>hxa m _) hca (Bf H _) _) (g10 (q:=Au (by simp only[opd,zv,and_false,or_false,or_self,false_or,ite_false,if_false,Bool.and_false,zz]<;>rfl) (g10 (q:=fq (h:=?_))))));simp[leave,LP,Xt,Xp,snap,D.Xr,D.Xq,D.free,D.Xw,Ah]
theorem find36_oZ{d:Nat}(hd:3≤d){H:List Xh}{go:Nat}{xa:D}{r:Nat}(hO:H[go]?=some ⟨32,4,[[.str nmA,xa,.int .i64 ((1:Nat):Int),.int .i64 ((12:Nat):Int)]],1,0,true⟩)(hxa:∀m,snap m H xa=some xa)(hca:xa.Xv=true)(hR:H[r]?=some (nmO nmZ))(lo:Nat) :
  Ae LP NN d 94 [.msl go 1 0 1 none,.fn 95 [.ptr r 0 0 0]] ⟨H,lo⟩=some (.int .i64 (-1),⟨H,lo⟩,false):=by
 have hxa0:=hxa;have zz:=aI hO (aI (show ((0:Nat)=1)=False from by decide) (show ((0:Nat)=2)=False from by decide));refine Ho (F:=F94) rfl (by simp only[LP,Ah,Bl,zs,zm,zv,and_false,or_false,or_self,false_or,ite_false,if_false,Bool.and_false,zz]<;>exact rfl) rfl (by simp only[LP,zf,zm,and_false,or_false,or_self,false_or,ite_false,if_false,Bool.and_false,zz];try rfl) (by simp only[F94,P94,mkP,zv]<;>exact rfl) (by omega) ?_;rintro d rfl;refine g13 (q:=Gl (Gq (Dt (g6 (q:=Dn (by simp only[opd,zv,and_false,or_false,or_self,false_or,ite_false,if_false,Bool.and_false,zz]<;>rfl) (g17 (q:=Aa (by simp only[zo,and_false,or_false,or_self,false_or,ite_false,if_false,Bool.and_false,zz];exact (find37 (by omega) hR (hxa0 _) hca _).trans (congrArg (fun b=>some (D.bool b,_,false)) (show (nmA.toList==nmZ.toList)=false from by decide +kernel))) (g2 (q:=Au (by simp only[opd,zv,and_false,or_false,or_self,false_or,ite_false,if_false,Bool.and_false,zz]<;>rfl) (g7 (q:=Wp (by simp only[ze]<;>exact rfl) (Dt (g6 (q:=Au (by simp only[opd,zv,and_false,or_false,or_self,false_or,ite_false,if_false,Bool.and_false,zz]<;>rfl) (Jk (sk_e (lu_e (bk_e (sk_n rfl (cw_sr (g4 (q:=fq (h:=?_)))))))))))))))))))))));simp[leave,LP,Xt,Xp,snap,D.Xr,D.Xq,D.free,D.Xw,show IntKind.i64.wrap 1=1 from by decide]
theorem find_oZ{d:Nat}(hd:5≤d){H:List Xh}{go:Nat}{xa:D}(hO:H[go]?=some ⟨32,4,[[.str nmA,xa,.int .i64 ((1:Nat):Int),.int .i64 ((12:Nat):Int)]],1,0,true⟩)(hxa:∀m l,snap m (H++l) xa=some xa)(hca:xa.Xv=true)(lo:Nat) :
  Ae LP NN d 40 [.msl go 1 0 1 none,.str nmZ] ⟨H,lo⟩=some (.tup [.int .i64 0,.int .i64 7],⟨H,lo⟩,false):=by
 have zR:=Aj hO;have zz:=aI hO (aI (fun l=>@Bj _ l _ zR) (aI (show ((0:Nat)=1)=False from by decide) (show ((0:Nat)=2)=False from by decide)));refine Ho (F:=F40) rfl (by simp only[LP,Ah,Bl,zs,zm,zv,and_false,or_false,or_self,false_or,ite_false,if_false,Bool.and_false,zz]<;>exact rfl) rfl (by simp only[LP,zf,zm,and_false,or_false,or_self,false_or,ite_false,if_false,Bool.and_false,zz];try rfl) (by simp only[F40,P40,mkP,zv]<;>exact rfl) (by omega) ?_;rintro d rfl;refine g11 (q:=Aa (by simp only[zo,and_false,or_false,or_self,false_or,ite_false,if_false,Bool.and_false,zz];exact find36_oZ (by omega) (by rw[Bj zR];exact hO) (fun m=>hxa m _) hca (Bf H _) _) (g10 (q:=Dn (by simp only[opd,zv,and_false,or_false,or_self,false_or,ite_false,if_false,Bool.and_false,zz]<;>rfl) (g8 (q:=fq (h:=?_))))));simp[leave,LP,Xt,Xp,snap,D.Xr,D.Xq,D.free,D.Xw,Ah]
theorem grow_run{d:Nat}(hd:1≤d)(H:List Xh)(n:Nat)(hn:0<n)(hn6:n≤1000000)(lo:Nat):Ae LP NN d 155 [.X4,.int .i64 (n:Nat)] ⟨H,lo⟩=some (.msl H.length 0 0 0 none,⟨H++[⟨9,1,List.replicate n [.str ⟨#[]⟩],0,2,true⟩],min lo H.length⟩,true):=by
 have hl:decide (((n:Nat):Int)<0)=false:=decide_eq_false (by omega);have w1:IntKind.i64.wrap (0-0)=0:=by rfl
 have w2:IntKind.i64.wrap (((n:Nat):Int)-0)=((n:Nat):Int):=by rw[IntKind.wrap_i64];omega
 have hp:decide (((n:Nat):Int)>0)=true:=decide_eq_true (by omega);have hmk:0<((n:Nat):Int)∧((n:Nat):Int).toNat*16≤140737488355328:=by omega
 have zu:D5 (⟨H++[⟨9,1,List.replicate n [.str ⟨#[]⟩],0,2,true⟩],H.length⟩:St) 1 (.msl H.length 0 0 n none) none (some (.int .i64 0)) none=some (.msl H.length 0 0 0 none):=by
  simp[D5,Hy,rowsOf,Ch,Er,Dj]
 refine Ho (F:=F155) rfl (by rfl) rfl (by rfl) (by simp only[F155,P155,mkP,zv]<;>exact rfl) (by omega) ?_;rintro d rfl;have zz:=aI hl (aI w1 (aI w2 (aI hp hmk)));refine g41 (q:=Aa (show _=some (D.msl H.length 0 0 n none,(⟨H++[⟨9,1,List.replicate n [.str ⟨#[]⟩],0,2,true⟩],H.length⟩:St),true) by simp only[opd,zv,Al,aop,LOp.loud,lop,if_true];rw[if_pos hmk];simp only[newAt,Int.toNat_natCast]) (g2 (q:=Aa (by simp only[opd,zv,Al,aop,LOp.loud,lop,if_true,Bt];rw[zu];exact rfl) (g10 (q:=?_)))));refine⟨_,by simp only[F155,P155,mkP,Ce,En,I5,List.getD_cons_zero,List.getD_cons_succ]<;>exact rfl,?_⟩;simp[leave,LP]
end Go.Proofs.YtlhdliikahebhaaGreatDoor

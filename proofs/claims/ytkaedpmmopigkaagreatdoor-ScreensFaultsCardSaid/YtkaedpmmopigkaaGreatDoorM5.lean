/- Proved here: parts of the proof, joined (K15, K16, K17, K18, K19, K20, K21, K22, K23, K24, K25, K26, K27, K28, K29, K30, K31, K32, K33, KF1, KF2, KF3, KF4, KF5, KF6): an abstract machine, its soundness, what functions of the program compute in it; no condition. -/
import Derived.Test.YtkaedpmmopigkaaGreatDoorM4
namespace Go.Proofs.YtkaedpmmopigkaaGreatDoor
set_option linter.unusedSimpArgs false
set_option linter.unusedVariables false
set_option maxRecDepth 100000
set_option maxHeartbeats 4000000
def SO (nm:ByteArray) (l c:Nat):Vi:=⟨36,4,[[.str nm,.V5,.int .i64 (l:Nat),.int .i64 (c:Nat)]],0,0,false⟩
theorem read_one{H:List Vi}{g m e:Nat}{row:List D}(h:H[m]?=some ⟨e,4,[row],0,0,false⟩):Ex ⟨H,g⟩ 4 (.msl m 0 0 1 none)=some [row]:=by simp[Ex,rowsOf,h]
theorem Ty{d:Nat}(hd:6≤d){H H1 HY:List Vi}{g a c n l0 c0:Nat}{ox ox' lx1:D}{nm:ByteArray}{rd wt:List Nat}{cr:Bool}(xG:g<H.length)
  (h1:∀d',d=d'+1→Bh LP NN d' 89 [.ptr g 0 0 0,.int .u8 1,.V5] ⟨H,H.length⟩=some (.agg (tkR 1 nm l0 c0),⟨H1,g⟩,true)) (qN:H1[g]?=some (PO lx1 a c ox)) (zu:SlD 5 [] lx1)
  (hwd:∀d',d=d'+1→∀S,Bh LP NN d' 92 [.str nm] S=some (.int .u8 0,S,false))
  (h3:∀d',d=d'+1→Bh LP NN d' 12 [ox,.str nm] ⟨H1++[tkO 1 nm l0 c0],g⟩=some (.tup [.int .i64 0,.int .i64 7],⟨H1++[tkO 1 nm l0 c0],g⟩,false))
  (vg:Ji false ox=some (.int .i64 (n:Nat))) (hx64:decide (((n:Nat):Int)≥64)=false)
  (vG:Di 36 4 56 0 ox (.msl (H1.length+1) 0 0 1 none) ⟨H1++[tkO 1 nm l0 c0,SO nm a c],g⟩=some (ox',⟨HY,g⟩,true)) (hxv:ox'.val=true) (kR:Vp ox'=false) (hxc:ox'.cells=[ox']) (xR:Fq ox (.msl (H1.length+1) 0 0 1 none) ox' true=⟨true,some rd,some wt,cr,none⟩) (hYg:HY[g]?=some (PO lx1 a c ox)) (lo:Nat) :
  Bh LP NN d 51 [.ptr g 0 0 0] ⟨H,lo⟩=some (.tup [],⟨HY.set g (PO lx1 a c ox'),min lo g⟩,true):=by
 have yT:=Be qN;have ieq1:¬g=H1.length:=by omega
 have ieq2:¬H1.length=g:=by omega
 have ieq3:¬g=H1.length+1:=by omega
 have ieq4:¬H1.length+1=g:=by omega
 have ieq:=aI ieq1 (aI ieq2 (aI ieq3 ieq4));have xu:(0:Nat)=0:=rfl;have xw:=xu;have hw0:=xu;have yL:min g H1.length=g:=by omega
 have xZ:min g (H1.length+1)=g:=by omega
 have zI:min g g=g:=by omega
 have wI:¬H.length≤g:=by omega
 have yX:=zu.len;simp only[PO,tkO,tkR,SO]at h1 qN h3 vG hYg;refine Eg (F:=F51) rfl (by simp only[LP,Av,zs]<;>exact rfl) rfl (by simp only[LP,zf,zm];try rfl) (by simp only[F51,zv]<;>exact rfl) (by omega) ?_;rintro d rfl;refine Ap (Af rfl (xo1 (h:=xo0 (h:=Aa (by simp only[zo];exact h1 d rfl) ?_))));apply Aa (by simp only[zl,zm,Nat.reduceAdd]<;>exact rfl);apply Aa (by simp only[zl,zm,Bj,overlay,Cg,zs,zc,zf,List.take,List.drop,yL,Nat.reduceAdd]<;>exact rfl);refine Ab (Bc ?_);refine Ak (Ap (Af rfl (xo1 (h:=xo0 (h:=xo0 (h:=Aa (by simp only[zl,zm,zd,Ay,List.take,List.drop,Cr yT,qN,Nat.reduceAdd]<;>exact rfl) ?_))))));apply Aa (by simp only[zo,yX]<;>exact rfl);refine xo2 (h:=?_);refine Ab (Bc ?_);refine D5 ?_;refine Bn (Cb rfl (Ak (Ap (xo0 (h:=xo17 (h:=Aa (by simp only[zo];exact hwd d rfl _) ?_))))));refine xo2 (h:=?_);refine Ab (Bc ?_);refine D5 ?_;refine Bn (Cb rfl (Ak (Ak (Hz ?_))));refine Ca rfl rfl (xo6 (h:=xo3 (h:=Bb (by simp only[zl,zm,zd,Ay,List.take,List.drop,Cr yT,qN,Nat.reduceAdd]<;>exact rfl) (by simp only[Ao,zo,zq]<;>exact rfl) (by first | rfl | (simp[show ob 7 3=[true,true,true] from rfl,Vp,Ac,Ai,Bl,Aj,Au,dj,Ah,Ae,Aq,Ba,Bv,xR,Cc,ieq];done) | (simp[show ob 7 3=[true,true,true] from rfl,Vp,Ac,Ai,Bl,Aj,Au,dj,Ah,Ae,Aq,Ba,Bv,xR,Cc,ieq,Br,Aw,Bg,Bu,Co,xu,xw];done)) ?_)));refine xo3 (h:=Bb (by simp only[zl,zm,zd,Ay,List.take,List.drop,Nat.reduceAdd]<;>exact rfl) (by simp only[Ao,zo,zq]<;>exact rfl) (by first | rfl | (simp[show ob 16 5=[true,false,false,false,false] from rfl,Vp,Ac,Ai,Bl,Aj,Au,dj,Ah,Ae,Aq,Ba,Bv,xR,Cc,ieq];done) | (simp[show ob 16 5=[true,false,false,false,false] from rfl,Vp,Ac,Ai,Bl,Aj,Au,dj,Ah,Ae,Aq,Ba,Bv,xR,Cc,ieq,Br,Aw,Bg,Bu,Co,xu,xw];done)) ?_);apply Bb (by simp only[zo];exact h3 d rfl) (by simp only[Ao,zo,zq]<;>exact rfl) (by first | rfl | (simp[show ob 63 6=[true,true,true,true,true,true] from rfl,Vp,Ac,Ai,Bl,Aj,Au,dj,Ah,Ae,Aq,Ba,Bv,xR,Cc,ieq];done) | (simp[show ob 63 6=[true,true,true,true,true,true] from rfl,Vp,Ac,Ai,Bl,Aj,Au,dj,Ah,Ae,Aq,Ba,Bv,xR,Cc,ieq,Br,Aw,Bg,Bu,Co,xu,xw];done));refine Fy rfl rfl (Am (by simp only[zo,Lz]<;>exact rfl) rfl rfl ?_);apply Am (by simp only[zo,Lz,Ls_]<;>exact rfl) rfl rfl;refine Fy rfl rfl (Fy rfl rfl (Cw (Bc ?_)));refine Ap (Af rfl (xo2 (h:=?_)));refine Ab (Bc ?_);refine D5 ?_;refine Bn (Cb rfl (Ak (Ap (Af rfl (xo1 (h:=xo0 (h:=Aa (by simp only[zl,zm,zd,Ay,List.take,List.drop,Cr yT,qN,Nat.reduceAdd]<;>exact rfl) ?_)))))));apply Aa (by simp only[zo,vg]<;>exact rfl);apply Aa (by simp only[zo,Bz,hx64]<;>exact rfl);refine Ab (Bc ?_);refine D5 ?_;refine Bn (Cb rfl (Hz ?_));refine Ca rfl rfl (Ca rfl rfl (xo6 (h:=xo3 (h:=Bb (by simp only[zl,zm,zd,Ay,List.take,List.drop,Cr yT,qN,Nat.reduceAdd]<;>exact rfl) (by simp only[Ao,zo,zq]<;>exact rfl) (by first | rfl | (simp[show ob 14 4=[true,true,true,false] from rfl,Vp,Ac,Ai,Bl,Aj,Au,dj,Ah,Ae,Aq,Ba,Bv,xR,Cc,ieq];done) | (simp[show ob 14 4=[true,true,true,false] from rfl,Vp,Ac,Ai,Bl,Aj,Au,dj,Ah,Ae,Aq,Ba,Bv,xR,Cc,ieq,Br,Aw,Bg,Bu,Co,xu,xw];done)) ?_))));refine xo3 (h:=Bb (by simp only[zl,zm,zd,Ay,List.take,List.drop,Nat.reduceAdd]<;>exact rfl) (by simp only[Ao,zo,zq]<;>exact rfl) (by first | rfl | (simp[show ob 32 6=[true,false,false,false,false,false] from rfl,Vp,Ac,Ai,Bl,Aj,Au,dj,Ah,Ae,Aq,Ba,Bv,xR,Cc,ieq];done) | (simp[show ob 32 6=[true,false,false,false,false,false] from rfl,Vp,Ac,Ai,Bl,Aj,Au,dj,Ah,Ae,Aq,Ba,Bv,xR,Cc,ieq,Br,Aw,Bg,Bu,Co,xu,xw];done)) ?_);refine Ca rfl rfl (xo6 (h:=xo3 (h:=xo3 (h:=Bb (by simp only[zl,zm,zd,Ay,List.take,List.drop,Cr yT,qN,Nat.reduceAdd]<;>exact rfl) (by simp only[Ao,zo,zq]<;>exact rfl) (by first | rfl | (simp[show ob 1920 11=[true,true,true,true,false,false,false,false,false,false,false] from rfl,Vp,Ac,Ai,Bl,Aj,Au,dj,Ah,Ae,Aq,Ba,Bv,xR,Cc,ieq];done) | (simp[show ob 1920 11=[true,true,true,true,false,false,false,false,false,false,false] from rfl,Vp,Ac,Ai,Bl,Aj,Au,dj,Ah,Ae,Aq,Ba,Bv,xR,Cc,ieq,Br,Aw,Bg,Bu,Co,xu,xw];done)) ?_))));apply Am (by simp only[zo,Ez,overlay,zc,List.take,List.drop,Nat.reduceAdd,Nat.reduceLeDiff,zm,Nat.reduceAdd]<;>exact rfl) rfl rfl;apply Bb (by simp only[zl,zm,Cf,List.replicate,Av,Cg,zs,zc,zf,Nat.reduceAdd]<;>exact rfl) (by simp only[Ao,zo,zq]<;>exact rfl) (by first | rfl | (simp[show ob 8160 13=[true,true,true,true,true,true,true,true,false,false,false,false,false] from rfl,Vp,Ac,Ai,Bl,Aj,Au,dj,Ah,Ae,Bv,ieq];done) | (simp[show ob 8160 13=[true,true,true,true,true,true,true,true,false,false,false,false,false] from rfl,Vp,Ac,Ai,Bl,Aj,Au,dj,Ah,Ae,Aq,Ba,Bv,xR,Cc,ieq,Br,Aw,Bg,Bu,Co,xu,xw];done));apply Bb (by simp only[Ce,aop,LOp.loud,lop,if_true,opd,zv];exact vG) (by simp only[Ao,zo,zq]<;>exact rfl) (by first | rfl | (simp[show ob 16382 14=[true,true,true,true,true,true,true,true,true,true,true,true,true,false] from rfl,Vp,Ac,Ai,Bl,Aj,Au,dj,Ah,Ae,Bv,xR];done) | (simp[show ob 16382 14=[true,true,true,true,true,true,true,true,true,true,true,true,true,false] from rfl,Vp,Ac,Ai,Bl,Aj,Au,dj,Ah,Ae,Aq,Ba,Bv,xR,Cc,ieq,Br,Aw,Bg,Bu,Co,xu,xw];done));refine xo6 (h:=xo3 (h:=Bb (by simp only[zl,zm,Bj,overlay,List.take,List.drop,zI,hYg,hxv,hxc,Nat.reduceAdd]<;>exact rfl) (by simp only[Ao,zo,zq,kR]<;>exact rfl) (by first | rfl | (simp[show ob 131071 17=[true,true,true,true,true,true,true,true,true,true,true,true,true,true,true,true,true] from rfl,Vp,Ac,Ai,Bl,Aj,Au,dj,Ah,Ae,Bv,xR];done) | (simp[show ob 131071 17=[true,true,true,true,true,true,true,true,true,true,true,true,true,true,true,true,true] from rfl,Vp,Ac,Ai,Bl,Aj,Au,dj,Ah,Ae,Bv,xR,Aw];done)) ?_));apply Cw;simp only[ze];refine⟨_,by simp only[F51,Bw,Cz,zm]<;>exact rfl,?_⟩;simp[leave,LP,Vt,wI,Av,PO]
theorem screen_run1{d:Nat}(hd:16≤d){H:List Vi}{g a c m:Nat}{lx:D}{nm:ByteArray}(hH:H[g]?=some (PO lx a c .V5))(hL:SlD 5 (Fa m [(1,nm)]) lx)(hwd:∀d',14≤d'→∀S,Bh LP NN d' 92 [.str nm] S=some (.int .u8 0,S,false)) :
  ∃H' lx' go,(∀lo,Bh LP NN d 51 [.ptr g 0 0 0] ⟨H,lo⟩=some (.tup [],⟨H',min lo g⟩,true))∧H'[g]?=some (PO lx' a c (.msl go 0 0 1 none))∧H'[go]?=some (GO [] nm .V5 a c 0)∧H.length≤go∧H.length≤H'.length∧∀k,k<H.length→k≠g→H'[k]?=H[k]?:=by
 have xG:=Be hH;have xW:min H.length g=g:=by omega
 have r1:=Eo (d:=d-1) (kd:=1) (by omega) hH (Gl hL) (texts:=[]) (.nil 1) (by simp) (Jz 1 _) H.length;rw[xW]at r1;have u:=Upd.of xG (PO (Cv 1 lx) a c .V5) [tkO 1 nm m 12,tkO 1 nm m 12];generalize hH1:(H.set g (PO (Cv 1 lx) a c .V5)++[tkO 1 nm m 12,tkO 1 nm m 12])=H1 at r1 u;have s1:SlD 5 [] (Cv 1 lx):=Hw hL;have xE:=u.len;have yT:=Be u.at_
 have vG:Di 36 4 56 0 .V5 (.msl (H1.length+1) 0 0 1 none) ⟨H1++[tkO 1 nm m 12,SO nm a c],g⟩=some (.msl (H1.length+2) 0 0 1 none,⟨(H1++[tkO 1 nm m 12,SO nm a c])++[GO [] nm .V5 a c 0],g⟩,true):=by
  have hr:(H1++[tkO 1 nm m 12,SO nm a c])[H1.length+1]?=some (SO nm a c):=Dq H1 _ 1;have wK:Ex ⟨H1++[tkO 1 nm m 12,SO nm a c],g⟩ 4 (.msl (H1.length+1) 0 0 1 none)=some [[.str nm,.V5,.int .i64 (a:Nat),.int .i64 (c:Nat)]]:=read_one hr;simp[Di,wK,Cs,newAt,GO]
 have hYg:((H1++[tkO 1 nm m 12,SO nm a c])++[GO [] nm .V5 a c 0])[g]?=some (PO (Cv 1 lx) a c .V5):=by rw[Cr (by rw[Ll_];omega),Cr yT];exact u.at_
 refine⟨((H1++[tkO 1 nm m 12,SO nm a c])++[GO [] nm .V5 a c 0]).set g (PO (Cv 1 lx) a c (.msl (H1.length+2) 0 0 1 none)),Cv 1 lx,H1.length+2,fun lo=>?_,Ec (Be hYg) _,?_,by omega,by simp;omega,fun k hk hn=>?_⟩
 ·
  exact Ty (n:=0) (by omega) xG (fun d' e=>by subst e;exact r1) u.at_ s1 (fun d' e S=>hwd d' (by omega) S) (fun d' e=>find_nils (by omega) _ nm) rfl rfl vG rfl rfl rfl (rd:=[H1.length+1]) (wt:=[H1.length+2]) (cr:=true) (by simp[Fq,Cc]) hYg lo
 ·
  rw[Ln_ (by omega)];simp
 rw[Ln_ (Ne.symm hn),Cr (by rw[Ll_];omega),Cr (by omega)];exact u.ne k hk hn
theorem screen_run2{d:Nat}(hd:16≤d){H:List Vi}{g go gs a c m v l0 c0:Nat}{lx x:D}{nm nm':ByteArray}{rows:List (List D)}(hgo:g<go)(hgs:gs≠g∨x=.V5)(hH:H[g]?=some (PO lx a c (.msl go v 0 1 none)))(hO:H[go]?=some (GO [] nm' x l0 c0 v))(hF:FL H gs x rows)(xB:(nm'.toList==nm.toList)=false)(hL:SlD 5 (Fa m [(1,nm)]) lx)(hwd:∀d',14≤d'→∀S,Bh LP NN d' 92 [.str nm] S=some (.int .u8 0,S,false)) :
  ∃H' lx',(∀lo,Bh LP NN d 51 [.ptr g 0 0 0] ⟨H,lo⟩=some (.tup [],⟨H',min lo g⟩,true))∧H'[g]?=some (PO lx' a c (.msl go (v+1) 0 2 none))∧H'[go]?=some (GO [[.str nm',x,.int .i64 (l0:Nat),.int .i64 (c0:Nat)]] nm .V5 a c (v+1))∧H.length≤H'.length∧∀k,k<H.length→k≠g→k≠go→H'[k]?=H[k]?:=by
 have xG:=Be hH;have zT:=Be hO;have xW:min H.length g=g:=by omega
 have r1:=Eo (d:=d-1) (kd:=1) (by omega) hH (Gl hL) (texts:=[]) (.nil 1) (by simp) (Jz 1 _) H.length;rw[xW]at r1;have u:=Upd.of xG (PO (Cv 1 lx) a c (.msl go v 0 1 none)) [tkO 1 nm m 12,tkO 1 nm m 12];generalize hH1:(H.set g (PO (Cv 1 lx) a c (.msl go v 0 1 none))++[tkO 1 nm m 12,tkO 1 nm m 12])=H1 at r1 u;have s1:SlD 5 [] (Cv 1 lx):=Hw hL;have xE:=u.len;have yT:=Be u.at_;have h1o:H1[go]?=some (GO [] nm' x l0 c0 v):=u.lt (by omega) hO
 have hF1:FL H1 gs x rows:=by
  rcases hF with h | ⟨vs,h1,h2⟩
  ·
   exact .inl h
  refine .inr ⟨vs,h1,u.lt ?_ h2⟩;rcases hgs with h | h
  ·
   exact h
  rw[h]at h1;cases h1
 have hF2:FL (H1++[tkO 1 nm m 12]) gs x rows:=by
  rcases hF1 with h | ⟨vs,h1,h2⟩
  ·
   exact .inl h
  exact .inr ⟨vs,h1,by rw[Cr (Be h2)];exact h2⟩
 have h2o:(H1++[tkO 1 nm m 12,SO nm a c])[go]?=some (GO [] nm' x l0 c0 v):=by rw[Cr (Be h1o)];exact h1o
 have vG:Di 36 4 56 0 (.msl go v 0 1 none) (.msl (H1.length+1) 0 0 1 none) ⟨H1++[tkO 1 nm m 12,SO nm a c],g⟩=some (.msl go (v+1) 0 2 none,⟨(H1++[tkO 1 nm m 12,SO nm a c]).set go (GO [[.str nm',x,.int .i64 (l0:Nat),.int .i64 (c0:Nat)]] nm .V5 a c (v+1)),g⟩,true):=by
  have hr:(H1++[tkO 1 nm m 12,SO nm a c])[H1.length+1]?=some (SO nm a c):=Dq H1 _ 1;have wK:Ex ⟨H1++[tkO 1 nm m 12,SO nm a c],g⟩ 4 (.msl (H1.length+1) 0 0 1 none)=some [[.str nm,.V5,.int .i64 (a:Nat),.int .i64 (c:Nat)]]:=read_one hr;have yL:min g go=g:=by omega
  simp only[GO]at h2o;simp[Di,wK,Cs,rowsOf,h2o,setAt,GO,yL]
 have hYg:((H1++[tkO 1 nm m 12,SO nm a c]).set go (GO [[.str nm',x,.int .i64 (l0:Nat),.int .i64 (c0:Nat)]] nm .V5 a c (v+1)))[g]?=some (PO (Cv 1 lx) a c (.msl go v 0 1 none)):=by rw[Ln_ (by omega),Cr yT];exact u.at_
 refine⟨((H1++[tkO 1 nm m 12,SO nm a c]).set go (GO [[.str nm',x,.int .i64 (l0:Nat),.int .i64 (c0:Nat)]] nm .V5 a c (v+1))).set g (PO (Cv 1 lx) a c (.msl go (v+1) 0 2 none)),Cv 1 lx,fun lo=>?_,Ec (Be hYg) _,?_,by simp;omega,fun k hk hn vI=>?_⟩
 ·
  exact Ty (n:=1) (by omega) xG (fun d' e=>by subst e;exact r1) u.at_ s1 (fun d' e S=>hwd d' (by omega) S) (fun d' e=>find_one (by omega) (by rw[Cr (Be h1o)];exact h1o) hF2 xB g) rfl rfl vG rfl rfl rfl (rd:=[go,H1.length+1]) (wt:=[go]) (cr:=false) (by simp[Fq,Cc]) hYg lo
 ·
  rw[Ln_ (by omega),Ec (Be h2o)]
 rw[Ln_ (Ne.symm hn),Ln_ (Ne.symm vI),Cr (by omega)];exact u.ne k hk hn
theorem entry_scr{d:Nat}(hd:3≤d){H H1 H2:List Vi}{g a0 c0 a c n:Nat}{ox lx0 lx:D}{rows:List (List D)}(hH:H[g]?=some (PO lx0 a0 c0 ox))(hL:SlD 5 rows lx)(hn:n=1)
  (h5:∀d',d=d'+1→Bh LP NN d' 50 [.ptr g 0 0 0] ⟨H.set g (PO lx a c ox)++[⟨29,2,[[.int .i64 (a:Nat),.int .i64 (c:Nat)]],0,0,false⟩],g⟩=some (.int .i64 (n:Nat),⟨H1,g⟩,true))
  (h6:∀d',d=d'+1→Bh LP NN d' 51 [.ptr g 0 0 0] ⟨H1,g⟩=some (.tup [],⟨H2,g⟩,true)) (lo:Nat) :
  Bh LP NN d 29 [.ptr g 0 0 0,lx,.agg [.int .i64 (a:Nat),.int .i64 (c:Nat)]] ⟨H,lo⟩=some (.tup [],⟨H2,min lo g⟩,true):=by
 have xG:=Be hH;have ieq1:¬g=H.length:=by omega
 have ieq2:¬H.length=g:=by omega
 have wI:¬H.length≤g:=by omega
 have yL:min H.length g=g:=by omega
 have xZ:min g g=g:=by omega
 have rG:∀l x,(H.set g x++l)[g]?=some x:=fun l x=>by rw[Cr (by simpa using xG)];exact Ec xG x
 have wV:∀l x y,(H.set g x++l).set g y=H.set g y++l:=fun l x y=>by rw[Fh (by simpa using xG),List.set_set]
 have yX:(((n:Nat):Int)==1)=true:=by rw[beq_iff_eq];omega
 have yS:decide (((n:Nat):Int)≥2)=false:=decide_eq_false (by omega);have uq:decide (((n:Nat):Int)≤49)=true:=decide_eq_true (by omega);simp only[PO]at hH h5;refine Eg (F:=F29) rfl (by simp only[LP,Av,Cg,zs,zm,hL.Vq]<;>exact rfl) rfl (by simp only[LP,zf,zm,hL.Vr,Bool.and_false];try rfl) (by simp only[F29,zv]<;>exact rfl) (by omega) ?_;rintro d rfl;refine Ap (Aa (by simp only[zl,zm,zc]<;>exact rfl) ?_);refine Ab (Bc ?_);refine Ak (Hz ?_);refine Ca rfl rfl (Ca rfl rfl (Ca rfl rfl (xo5 (h:=xo6 (h:=xo3 (h:=xo3 (h:=Bb (by simp only[zl,zm,Bj,overlay,List.take,List.drop,Cr xG,Fh xG,hH,hL.val,hL.cells,yL]<;>exact rfl) (by simp only[Ao,zo,zq,hL.Vp]<;>exact rfl) (by simp[show ob 117 7=[true,true,true,false,true,false,true] from rfl,Ai,Bl,Aj,Au,dj,Ah,Ae,ieq1]) ?_)))))));refine xo6 (h:=xo3 (h:=xo3 (h:=Dk (by simp only[zl,zm,Bj,overlay,Cg,zs,zc,zf,List.take,List.drop,rG,wV,xZ]<;>exact rfl) rfl ?_)));refine Cw (Bc ?_);refine Ap (Af rfl (xo1 (h:=xo0 (h:=Aa (by simp only[zo];exact h5 d rfl) ?_))));refine Ar rfl (Ab (Bc ?_));refine Bo (Ap (Af rfl (Aa (by simp only[zo,Bz,yX]<;>exact rfl) ?_)));refine Ar rfl (Ab (Bc ?_));refine Mx ?_;refine Al (Af rfl (Aa (by simp only[zo];exact h6 d rfl) ?_));refine Ab (Fu ?_);simp only[ze];refine⟨_,by simp only[F29,Bw,Cz]<;>exact rfl,?_⟩;simp[leave,LP,Vt,wI,Av]
theorem entry_fld{d:Nat}(hd:3≤d){H H1 H2:List Vi}{g a0 c0 a c n:Nat}{ox lx0 lx:D}{rows:List (List D)}(hH:H[g]?=some (PO lx0 a0 c0 ox))(hL:SlD 5 rows lx)(hn:2≤n∧n≤49)
  (h5:∀d',d=d'+1→Bh LP NN d' 50 [.ptr g 0 0 0] ⟨H.set g (PO lx a c ox)++[⟨29,2,[[.int .i64 (a:Nat),.int .i64 (c:Nat)]],0,0,false⟩],g⟩=some (.int .i64 (n:Nat),⟨H1,g⟩,true))
  (h6:∀d',d=d'+1→Bh LP NN d' 52 [.ptr g 0 0 0] ⟨H1,g⟩=some (.tup [],⟨H2,g⟩,true)) (lo:Nat) :
  Bh LP NN d 29 [.ptr g 0 0 0,lx,.agg [.int .i64 (a:Nat),.int .i64 (c:Nat)]] ⟨H,lo⟩=some (.tup [],⟨H2,min lo g⟩,true):=by
 have xG:=Be hH;have ieq1:¬g=H.length:=by omega
 have ieq2:¬H.length=g:=by omega
 have wI:¬H.length≤g:=by omega
 have yL:min H.length g=g:=by omega
 have xZ:min g g=g:=by omega
 have rG:∀l x,(H.set g x++l)[g]?=some x:=fun l x=>by rw[Cr (by simpa using xG)];exact Ec xG x
 have wV:∀l x y,(H.set g x++l).set g y=H.set g y++l:=fun l x y=>by rw[Fh (by simpa using xG),List.set_set]
 have yX:(((n:Nat):Int)==1)=false:=by rw[beq_eq_false_iff_ne];omega
 have yS:decide (((n:Nat):Int)≥2)=true:=decide_eq_true (by omega);have uq:decide (((n:Nat):Int)≤49)=true:=decide_eq_true (by omega);simp only[PO]at hH h5;refine Eg (F:=F29) rfl (by simp only[LP,Av,Cg,zs,zm,hL.Vq]<;>exact rfl) rfl (by simp only[LP,zf,zm,hL.Vr,Bool.and_false];try rfl) (by simp only[F29,zv]<;>exact rfl) (by omega) ?_;rintro d rfl;refine Ap (Aa (by simp only[zl,zm,zc]<;>exact rfl) ?_);refine Ab (Bc ?_);refine Ak (Hz ?_);refine Ca rfl rfl (Ca rfl rfl (Ca rfl rfl (xo5 (h:=xo6 (h:=xo3 (h:=xo3 (h:=Bb (by simp only[zl,zm,Bj,overlay,List.take,List.drop,Cr xG,Fh xG,hH,hL.val,hL.cells,yL]<;>exact rfl) (by simp only[Ao,zo,zq,hL.Vp]<;>exact rfl) (by simp[show ob 117 7=[true,true,true,false,true,false,true] from rfl,Ai,Bl,Aj,Au,dj,Ah,Ae,ieq1]) ?_)))))));refine xo6 (h:=xo3 (h:=xo3 (h:=Dk (by simp only[zl,zm,Bj,overlay,Cg,zs,zc,zf,List.take,List.drop,rG,wV,xZ]<;>exact rfl) rfl ?_)));refine Cw (Bc ?_);refine Ap (Af rfl (xo1 (h:=xo0 (h:=Aa (by simp only[zo];exact h5 d rfl) ?_))));refine Ar rfl (Ab (Bc ?_));refine Bo (Ap (Af rfl (Aa (by simp only[zo,Bz,yX]<;>exact rfl) ?_)));refine Ar rfl (Ab (Bc ?_));refine D5 ?_;refine Ap (Af rfl (Aa (by simp only[zo,Bz,yS]<;>exact rfl) ?_));refine Ar rfl (Gi 0 (b:=true) ?_);refine Bd rfl (Af rfl (Bd rfl (Aa (by simp only[zo,Bz,uq]<;>exact rfl) ?_)));refine xo1 (h:=Ar rfl (Ab ?_));refine Bc ?_;refine Mx ?_;refine Al (Af rfl (Aa (by simp only[zo];exact h6 d rfl) ?_));refine Ab (Fu ?_);simp only[ze];refine⟨_,by simp only[F29,Bw,Cz]<;>exact rfl,?_⟩;simp[leave,LP,Vt,wI,Av]
theorem per_run{d:Nat}(hd:2≤d)(S:St)(k l c:Nat)(s:ByteArray):Bh LP NN d 28 [.agg (tkR k s l c)] S=some (.bool ((k:Int)==6),S,false):=by
 refine rq (F:=F28) rfl (by simp only[LP,Av,Cg,zs,zm,tkR]<;>exact rfl) (by simp only[F28,zv]<;>exact rfl) ?_;rintro d rfl;refine Ap (Aa (by simp only[zl,zm,zc]<;>exact rfl) ?_);refine Ct (Ab (Bc ?_));refine Ap (xo0 (h:=xo4 (h:=xo2 (h:=Ar rfl (Ab ?_)))));refine Bc ?_;apply Cy;refine⟨_,by simp only[F28,Bw,Cz,Ei,zg]<;>exact rfl,?_⟩;simp only[Eu,leave,zs,zf,zk]
theorem posR_at{m:Nat}{l:List (Nat × ByteArray)}{i:Nat}(h:i<l.length):(Fa m l)[i]?=some (tkR l[i].1 l[i].2 (m+i) 12):=by simp[Fa,h]
theorem index27_run{d:Nat}(hd:4≤d)(S:St){x:D}{m:Nat}{l:List (Nat × ByteArray)}(hS:SlD 5 (Fa m l) x)(hl:l.length≤1000000) :
  Bh LP NN d 27 [x,.fn 28 []] S=some (.int .i64 (idxI (fun x:Nat × ByteArray=>((x.1:Int)==6)) l),S,false):=by
 refine run_pure (F:=F27) rfl (by simp only[LP,Av,zs,hS.Vq]<;>exact rfl) rfl (by simp only[LP,zf,zm,hS.Vr];try rfl) (by simp only[F27,zv]<;>exact rfl) (by omega) ?_;rintro d rfl;refine Ap (Ct (Ab (Bc ?_)));refine Ak (Ap (Af rfl (Aa (by simp only[zo,hS.len,Ga]<;>exact rfl) ?_)));refine Ct (Ab (Bc ?_));refine Bo (E8 (fun n env S'=>∃(i:Nat) (u3 u6 u7:D),i≤l.length∧n=l.length-i∧((l.take i).any fun x=>((x.1:Int)==6))=false∧S'=⟨[],0⟩∧env=[x,.fn 28 [],.int .i64 0,u3,.int .i64 l.length,.int .i64 i,u6,u7]) (l.length) (by omega) (⟨0,_,_,_,by omega,by omega,by simp,rfl,rfl⟩) ?_);rintro n env S' ⟨i,u3,u6,u7,hi,rfl,wN,rfl,rfl⟩;have h0:(0:Int)≤(i:Int):=by omega
 refine Ap (xo2 (h:=?_));refine Ab (Bc ?_);apply Ak;refine Dl (by simp only[opd,zv]<;>exact rfl) (fun zy=>?_) (fun zy=>?_)
 ·
  have xE:i<l.length:=by have:=of_decide_eq_true zy;omega
  have hw:=Ee i (by omega);have hx:=Lg xE;have yG:=fun (S:St)=>hS.iaddrN S .i64 (posR_at (m:=m) xE);refine Bn (Cb rfl (Ak (Bo (Ap (Af rfl (Ar rfl (Ab (Bc ?_))))))));refine Ap (Af rfl (Af rfl (Af rfl (Aa (by simp only[zl,zm,yG,tkR]<;>exact rfl) ?_))));refine xo4 (h:=Aa (by simp only[zo];exact per_run (by omega) _ _ _ _ _) ?_);refine Ab (Bc ?_);refine Dl (by simp only[opd,zv]<;>exact rfl) (fun wu=>?_) (fun wu=>?_)
  ·
   refine Ap (Af rfl (Ar rfl (Ab (Bc ?_))));refine Cy (Oc (Kg (lk_r (Oc (Kg ?_)))));refine⟨_,by simp only[F27,Bw,Cz,Ei,zg]<;>exact rfl,?_⟩;rw[Vf (p:=fun x:Nat × ByteArray=>((x.1:Int)==6)) xE wu wN];rfl
  refine Bn (Fu (Cb rfl (Al (Aa (by simp only[zo,Bz,hw]<;>exact rfl) ?_))));refine Ar rfl (Ab (Jh (by simp only[ze]<;>exact rfl) ?_));exact⟨l.length-(i+1),by omega,i+1,_,_,_,by omega,rfl,any_take_succ xE wN wu,rfl,rfl⟩
 have wC:l.length≤i:=by have:=of_decide_eq_false zy;omega
 refine Eh (J4 (K4 (Kc (Cb rfl (Ap (Ct (Ab (Bc ?_))))))));apply Cy;refine⟨_,by simp only[F27,Bw,Cz,Ei,zg]<;>exact rfl,?_⟩;rw[List.take_of_length_le wC]at wN;rw[Ml wN];rfl
theorem idxI_app{α:Type}{p:α→Bool}{e L:List α}{t:α}(he:e.any p=false)(ht:p t=true):idxI p (e++t::L)=(e.length:Nat):=by
 refine Vf (by simp) (by simp[ht]) (by simp[he])
def takeD (n:Nat):D→D
 | .sl s rows cap=>.sl s (rows.take n) cap
 | x=>x
theorem SlD.take{sz:Nat}{rows:List (List D)}{x:D}(h:SlD sz rows x)(n:Nat):SlD sz (rows.take n) (takeD n x):=by
 rcases h with⟨rfl,rfl⟩ | ⟨c,rfl⟩
 ·
  simp[takeD,SlD.nil]
 exact .of _ _ _
theorem SlD.slice_hi{sz:Nat}{rows:List (List D)}{x:D}(h:SlD sz rows x)(S:St)(k:IntKind){n:Nat}(hn:n≤rows.length):Eb S sz x none (some (.int k n)) none=some (takeD n x):=by
 rcases h with⟨rfl,rfl⟩ | ⟨c,rfl⟩
 ·
  simp only[List.length_nil,Nat.le_zero]at hn;subst hn;simp[Eb,Dr,Gn,Fb,takeD]
 cases c<;>simp[Eb,Dr,Gn,Fb,takeD,hn]
theorem posR_take(m n:Nat)(l:List (Nat × ByteArray)):(Fa m l).take n=Fa m (l.take n):=by
 refine List.ext_getElem? fun i=>?_;rw[List.getElem?_take];simp only[Fa,List.getElem?_mapIdx,List.getElem?_take];split<;>rfl
theorem posR_drop(m n:Nat)(l:List (Nat × ByteArray)):(Fa m l).drop n=Fa (m+n) (l.drop n):=by
 refine List.ext_getElem? fun i=>?_;rw[List.getElem?_drop];simp only[Fa,List.getElem?_mapIdx,List.getElem?_drop];cases l[n+i]?<;>simp[Nat.add_assoc]
def RW (l:List FM) (rows:List (List D)):Prop:=∃ps:List Nat,ps.length=l.length∧rows=List.zipWith J5 l ps
theorem RW.nil:RW [] []:=⟨[],rfl,rfl⟩
theorem RW.snoc{l:List FM}{rows:List (List D)}(h:RW l rows)(f:FM)(p:Nat):RW (l++[f]) (rows++[J5 f p]):=by
 obtain⟨ps,h1,rfl⟩:=h;exact⟨ps++[p],by simp[h1],by rw[List.zipWith_append (by omega)];rfl⟩
theorem RW.len{l:List FM}{rows:List (List D)}(h:RW l rows):rows.length=l.length:=by
 obtain⟨ps,h1,rfl⟩:=h;simp[h1]
theorem RW.at_{l:List FM}{rows:List (List D)}(h:RW l rows){i:Nat}(hi:i<l.length):∃p,rows[i]?=some (J5 l[i] p):=by
 obtain⟨ps,h1,rfl⟩:=h;exact⟨ps[i]'(by omega),by simp[h1,hi]⟩
structure P0 (B H:List Vi):Prop where
 o0:H[B.length]?=some ⟨26,1,[[.V5]],0,0,false⟩
 o1:H[B.length+1]?=some ⟨31,3,[[.int .i64 0,.int .i64 0,.int .i64 0]],0,0,false⟩
 fr:∀k,k<B.length→H[k]?=B[k]?
theorem P0.keep{B H H':List Vi}(h:P0 B H)(hk:∀k,k<B.length+2→H'[k]?=H[k]?):P0 B H':=⟨(hk _ (by omega)).trans h.o0,(hk _ (by omega)).trans h.o1,fun k hl=>(hk k (by omega)).trans (h.fr k hl)⟩
def nmA:ByteArray:=⟨#[65]⟩
def nmB:ByteArray:=⟨#[66]⟩
def PA (B H:List Vi) (l:List FM):Prop:=∃lx a c go gs x rows,H[B.length+2]?=some (PO lx a c (.msl go 0 0 1 none))∧H[go]?=some (GO [] nmA x 1 12 0)∧FL H gs x rows∧RW l rows∧B.length+2<go∧B.length+2<gs∧gs≠go
def PB (B H:List Vi) (la l:List FM):Prop:=∃lx a c go ga gs xa x lb ra rows,H[B.length+2]?=some (PO lx a c (.msl go 1 0 2 none))∧H[go]?=some (GO [[.str nmA,xa,.int .i64 ((1:Nat):Int),.int .i64 ((12:Nat):Int)]] nmB x lb 12 1)∧FL H ga xa ra∧FL H gs x rows∧RW la ra∧RW l rows∧B.length+2<go∧B.length+2<ga∧B.length+2<gs∧gs≠go∧ga≠go∧ga≠gs
inductive PI (B:List Vi) (a b:List FM):List (Nat × ByteArray)→List Vi→Prop
 | start {H:List Vi}:P0 B H→H[B.length+2]?=some (PO .V5 0 0 .V5)→PI B a b (Ej a b) H
 | first {H:List Vi} {i:Nat}:P0 B H→i≤a.length→PA B H (a.take i)→PI B a b (Dj (a.drop i)++Cq nmB++Dj b) H
 | second {H:List Vi} {i:Nat}:P0 B H→i≤b.length→PB B H a (b.take i)→PI B a b (Dj (b.drop i)) H
theorem tokL_any(f:FM):(Ie f).any (fun x:Nat × ByteArray=>((x.1:Int)==6))=false:=by
 unfold Ie;split<;>split<;>(try split)<;>rfl
theorem Qj(f:FM)(l:List FM):Dj (f::l)=Ie f++Ls::Dj l:=by simp[Dj]
theorem Qk{l:List FM}{i:Nat}(h:i<l.length):l.drop i=l[i]::l.drop (i+1):=List.drop_eq_getElem_cons h
theorem take_e{m:Nat}{e L:List (Nat × ByteArray)}{t:Nat × ByteArray}{x:D}(hx:SlD 5 (Fa m (e++t::L)) x):SlD 5 (Fa m e) (takeD e.length x):=by
 have h:=hx.take e.length;rwa [posR_take,List.take_left']at h;rfl
theorem Qd{d:Nat}(hd:7≤d){H:List Vi}{g m a0 c0 n:Nat}{lx0 lx ox:D}{T:List (Nat × ByteArray)}(hn:n<100)(hH:H[g]?=some (PO lx0 a0 c0 ox))(hL:SlD 5 (Fa m ((2,Bf n)::T)) lx) :
  ∃H1 lx1,Bh LP NN d 50 [.ptr g 0 0 0] ⟨H.set g (PO lx m 12 ox)++[⟨29,2,[[.int .i64 (m:Nat),.int .i64 ((12:Nat):Int)]],0,0,false⟩],g⟩=some (.int .i64 (n:Nat),⟨H1,g⟩,true)∧H1[g]?=some (PO lx1 m 12 ox)∧SlD 5 (Fa (m+1) T) lx1∧H.length≤H1.length∧∀k,k<H.length→k≠g→H1[k]?=H[k]?:=by
 have u1:=Upd.of (Be hH) (PO lx m 12 ox) [⟨29,2,[[.int .i64 (m:Nat),.int .i64 ((12:Nat):Int)]],0,0,false⟩];have r:=Qb hd hn u1.at_ (Gl hL) g;rw[Nat.min_self]at r;have u:=u1.trans (Upd.of (Be u1.at_) (PO (Cv 1 lx) m 12 ox) [tkO 2 (Bf n) m 12,tkO 2 (Bf n) m 12,tkO 2 (Bf n) m 12]);exact⟨_,_,r,u.at_,Hw hL,u.len,u.ne⟩
theorem FL.keep{H H':List Vi}{gs:Nat}{x:D}{rows:List (List D)}(h:FL H gs x rows)(hk:gs<H.length→H'[gs]?=H[gs]?):FL H' gs x rows:=by
 rcases h with h | ⟨vs,h1,h2⟩
 ·
  exact .inl h
 exact .inr ⟨vs,h1,(hk (Be h2)).trans h2⟩
theorem PI_step{d:Nat}(hd:20≤d){a b:List FM}(ha:a.length≤20)(hb:b.length≤20){L:List (Nat × ByteArray)}{B H:List Vi}(h:PI B a b L H)(hL:L≠[]){x:D}{m:Nat}(hm:L=Ej a b→m=1)(hx:SlD 5 (Fa m L) x) :
  ∃e L' H',L=e++Ls::L'∧e.any (fun x:Nat × ByteArray=>((x.1:Int)==6))=false∧Bh LP NN d 29 [.ptr (B.length+2) 0 0 0,takeD e.length x,.agg [.int .i64 (m:Nat),.int .i64 ((12:Nat):Int)]] ⟨H,B.length⟩=some (.tup [],⟨H',B.length⟩,true)∧PI B a b L' H'∧e≠[]:=by
 have xE:∀{H:List Vi},(∃o,H[B.length+2]?=some o)→B.length+2<H.length:=fun ⟨_,h⟩=>Be h;have xW:min B.length (B.length+2)=B.length:=by omega
 cases h with
 | start h0 h2 =>
  have:=hm rfl;subst this;have eL:Ej a b=[(2,Bf 1),(1,nmA)]++Ls::(Dj a++Cq nmB++Dj b):=by simp[Ej,Cq,nmA,nmB]
  rw[eL]at hx;have se:=take_e hx;obtain⟨H1,lx1,r1,g1,s1,l1,n1⟩:=Qd (d:=d-1) (by omega) (by omega) h2 se;obtain⟨H',lx',go,r2,g2,o2,hgo,l2,n2⟩:=screen_run1 (d:=d-1) (by omega) g1 s1 (fun d' hd' S=>wordA_run (by omega) S);have:=r2 (B.length+2);rw[Nat.min_self]at this;have hw:=xE ⟨_,g1⟩;have h2l:=xE ⟨_,h2⟩;refine⟨_,_,H',eL,rfl,by have:=entry_scr (d:=d) (by omega) h2 se rfl (fun d' e=>by subst e;exact r1) (fun d' e=>by subst e;exact this) B.length;rwa [xW]at this,?_,by simp⟩
  have:=PI.first (B:=B) (a:=a) (b:=b) (i:=0) (h0.keep fun k hk=>by rw[n2 k (by omega) (by omega),n1 k (by omega) (by omega)]) (Nat.zero_le _) ⟨lx',1,12,go,go+1,.V5,[],g2,o2,.inl ⟨rfl,rfl⟩,by rw[List.take_zero];exact .nil,by omega,by omega,by omega⟩
  rwa [List.drop_zero]at this
 | @first _ i h0 hi hA =>
  obtain⟨lx,a0,c0,go,gs,xf,rows,h2,ho,hF,hR,hgo,hgs,xB⟩:=hA;have h2l:=xE ⟨_,h2⟩;have zT:=Be ho;by_cases yG:i<a.length
  ·
   have eL:Dj (a.drop i)++Cq nmB++Dj b=Ie a[i]++Ls::(Dj (a.drop (i+1))++Cq nmB++Dj b):=by
    rw[Qk yG,Qj];simp
   rw[eL]at hx;have se:=take_e hx;have se':=se;rw[U7]at se';obtain⟨H1,lx1,r1,g1,s1,l1,n1⟩:=Qd (d:=d-1) (by omega) (by omega) h2 se';have yV:=hR.len;rw[List.length_take]at yV;obtain⟨H',lx',x',gs',p,r2,g2,o2,hF2,uJ,l2,n2⟩:=field_run (d:=d-1) (by omega) (rs:=[]) hgo hgs xB (by simp) (by omega) g1 ((n1 go zT (by omega)).trans ho) (hF.keep fun h=>n1 gs h (by omega)) s1;have:=r2 (B.length+2);rw[Nat.min_self]at this;refine⟨_,_,H',eL,tokL_any _,by have:=entry_fld (d:=d) (n:=5) (by omega) h2 se (by omega) (fun d' e=>by subst e;exact r1) (fun d' e=>by subst e;exact this) B.length;rwa [xW]at this,?_,by rw[U7];simp⟩
   refine PI.first (B:=B) (i:=i+1) (h0.keep fun k hk=>?_) yG ⟨lx',m,12,go,gs',x',rows++[J5 a[i] p],g2,o2,hF2,?_,hgo,?_,?_⟩
   ·
    rw[n2 k (by omega) (by omega) (by omega) (.inl (by omega)),n1 k (by omega) (by omega)]
   ·
    rw[List.take_succ_eq_append_getElem yG];exact hR.snoc _ _
   ·
    rcases uJ with e | e<;>omega
   rcases uJ with e | e<;>omega
  have hia':i=a.length:=by omega
  subst hia';have eL:Dj (a.drop a.length)++Cq nmB++Dj b=[(2,Bf 1),(1,nmB)]++Ls::Dj b:=by simp[Cq,Dj]
  rw[eL]at hx;have se:=take_e hx;obtain⟨H1,lx1,r1,g1,s1,l1,n1⟩:=Qd (d:=d-1) (by omega) (by omega) h2 se;obtain⟨H',lx',r2,g2,o2,l2,n2⟩:=screen_run2 (d:=d-1) (by omega) hgo (.inl (by omega)) g1 ((n1 go zT (by omega)).trans ho) (hF.keep fun h=>n1 gs h (by omega)) (by decide +kernel) s1 (fun d' hd' S=>wordB_run (by omega) S);have:=r2 (B.length+2);rw[Nat.min_self]at this;refine⟨_,_,H',eL,rfl,by have:=entry_scr (d:=d) (by omega) h2 se rfl (fun d' e=>by subst e;exact r1) (fun d' e=>by subst e;exact this) B.length;rwa [xW]at this,?_,by simp⟩;rw[List.take_length]at hR;have:=PI.second (B:=B) (a:=a) (b:=b) (i:=0) (h0.keep fun k hk=>by rw[n2 k (by omega) (by omega) (by omega),n1 k (by omega) (by omega)]) (Nat.zero_le _) ⟨lx',m,12,go,gs,go+gs+3,xf,.V5,m,rows,[],g2,o2,hF.keep fun h=>by rw[n2 gs (by omega) (by omega) xB,n1 gs h (by omega)],.inl ⟨rfl,rfl⟩,hR,by rw[List.take_zero];exact .nil,hgo,hgs,by omega,by omega,xB,by omega⟩;rwa [List.drop_zero]at this
 | @second _ i h0 hi hB =>
  obtain⟨lx,a0,c0,go,ga,gs,xa,xf,lb,ra,rows,h2,ho,hFa,hF,hRa,hR,hgo,hga,hgs,xB,hnea,wI⟩:=hB;have h2l:=xE ⟨_,h2⟩;have zT:=Be ho
  have rz:i<b.length:=by
   refine Nat.lt_of_not_le fun h=>hL ?_;rw[List.drop_eq_nil_of_le h];rfl
  have eL:Dj (b.drop i)=Ie b[i]++Ls::Dj (b.drop (i+1)):=by rw[Qk rz,Qj]
  rw[eL]at hx;have se:=take_e hx;have se':=se;rw[U7]at se';obtain⟨H1,lx1,r1,g1,s1,l1,n1⟩:=Qd (d:=d-1) (by omega) (by omega) h2 se';have yV:=hR.len;rw[List.length_take]at yV;obtain⟨H',lx',x',gs',p,r2,g2,o2,hF2,uJ,l2,n2⟩:=field_run (d:=d-1) (by omega) (rs:=[[.str nmA,xa,.int .i64 ((1:Nat):Int),.int .i64 ((12:Nat):Int)]]) hgo hgs xB (by simp) (by omega) g1 ((n1 go zT (by omega)).trans ho) (hF.keep fun h=>n1 gs h (by omega)) s1;have:=r2 (B.length+2);rw[Nat.min_self]at this;refine⟨_,_,H',eL,tokL_any _,by have:=entry_fld (d:=d) (n:=5) (by omega) h2 se (by omega) (fun d' e=>by subst e;exact r1) (fun d' e=>by subst e;exact this) B.length;rwa [xW]at this,?_,by rw[U7];simp⟩;have hRs:RW (b.take (i+1)) (rows++[J5 b[i] p]):=by rw[List.take_succ_eq_append_getElem rz];exact hR.snoc _ _
  have h0':P0 B H':=h0.keep fun k hk=>by rw[n2 k (by omega) (by omega) (by omega) (.inl (by omega)),n1 k (by omega) (by omega)]
  have rD:B.length+2<gs'∧gs'≠go:=by rcases uJ with e | e<;>omega
  rcases hFa with⟨e1,e2⟩ | ⟨vs,e1,e2⟩
  ·
   exact PI.second (B:=B) (i:=i+1) h0' rz ⟨lx',m,12,go,gs'+go+1,gs',xa,x',lb,ra,_,g2,o2,.inl ⟨e1,e2⟩,hF2,hRa,hRs,hgo,by omega,rD.1,rD.2,by omega,by omega⟩
  have hal:=Be e2;refine PI.second (B:=B) (i:=i+1) h0' rz ⟨lx',m,12,go,ga,gs',xa,x',lb,ra,_,g2,o2,.inr ⟨vs,e1,?_⟩,hF2,hRa,hRs,hgo,hga,rD.1,rD.2,hnea,?_⟩
  ·
   rw[n2 ga (by omega) (by omega) hnea (.inl wI),n1 ga hal (by omega)];exact e2
  rcases uJ with e | e<;>omega
def Ea:D→D
 | .msl g v lo n _=>.msl g v lo n (some n)
 | x=>x
theorem FL.clip_val{H:List Vi}{gs:Nat}{x:D}{rows:List (List D)}(h:FL H gs x rows):(Ea x).val=true∧(Ea x).cells=[Ea x]:=by
 rcases h with⟨rfl,rfl⟩ | ⟨vs,rfl,_⟩<;>exact⟨rfl,rfl⟩
theorem clip30_nil{d:Nat}(hd:1≤d)(H:List Vi)(lo:Nat):Bh LP NN d 30 [.V5] ⟨H,lo⟩=some (.V5,⟨H,lo⟩,false):=by
 refine Eg (F:=F30) rfl (by simp only[LP,Av,zs]<;>exact rfl) rfl (by simp only[LP,zf,zm];try rfl) (by simp only[F30,zv]<;>exact rfl) (by omega) ?_;rintro d rfl;refine Ap (Ct (Ab (Bc ?_)));refine Ap (Af rfl (Af rfl (Aa (by simp only[zo,Mj]<;>exact rfl) ?_)));refine Af rfl (Aa (by simp only[zo,Mj]<;>exact rfl) ?_);apply Aa (by simp only[zl,Cx,Eb,Dr,Gn,Fb]<;>exact rfl);refine Ar rfl (Ab (Bc ?_));apply Cy;refine⟨_,by simp only[F30,Bw,Cz,Ei,zg]<;>exact rfl,?_⟩;simp[leave,LP,Vt,Vq,snap,D.Vs,D.Vr,D.free,D.Vw]
theorem clip30_msl{d:Nat}(hd:1≤d){H:List Vi}{gs vs:Nat}{rows:List (List D)}(h2:H[gs]?=some ⟨48,16,rows,vs,0,true⟩)(lo:Nat):Bh LP NN d 30 [.msl gs vs 0 rows.length none] ⟨H,lo⟩=some (.msl gs vs 0 rows.length (some rows.length),⟨H,lo⟩,false):=by
 have hb:∀(n:Nat),(0:Int)≤(n:Int):=fun n=>by omega
 refine Eg (F:=F30) rfl (by simp only[LP,Av,zs,zm,h2,show ((0:Nat)=1)=False from by decide,show ((0:Nat)=2)=False from by decide,and_false,or_self]<;>exact rfl) rfl (by simp only[LP,zf,zm,Bool.and_false];try rfl) (by simp only[F30,zv]<;>exact rfl) (by omega) ?_;rintro d rfl;refine Ap (Ct (Ab (Bc ?_)));refine Ap (Af rfl (Af rfl (xo7 (h:=Af rfl ?_))));refine xo7 (h:=Aa (by simp only[zl,zm,Cx,Eb,Gm,Dr,Gn,Fb,h2,hb,Int.toNat_natCast,Nat.zero_le,Nat.le_refl,Nat.sub_zero]<;>exact rfl) ?_);refine Ar rfl (Ab (Bc ?_));apply Cy;refine⟨_,by simp only[F30,Bw,Cz,Ei,zg]<;>exact rfl,?_⟩;simp[leave,LP,Vt,Vq,snap,D.Vs,D.Vr,D.free,D.Vw,h2]
theorem clip30_run{d:Nat}(hd:1≤d){H:List Vi}{gs:Nat}{x:D}{rows:List (List D)}(h:FL H gs x rows)(lo:Nat):Bh LP NN d 30 [x] ⟨H,lo⟩=some (Ea x,⟨H,lo⟩,false):=by
 rcases h with⟨rfl,rfl⟩ | ⟨vs,rfl,h2⟩
 ·
  exact clip30_nil hd H lo
 exact clip30_msl hd h2 lo
theorem clip31_run{d:Nat}(hd:1≤d){H:List Vi}{go v:Nat}{rows:List (List D)}(h2:H[go]?=some ⟨36,4,rows,v,0,true⟩)(lo:Nat):Bh LP NN d 31 [.msl go v 0 2 none] ⟨H,lo⟩=some (.msl go v 0 2 (some 2),⟨H,lo⟩,false):=by
 refine Eg (F:=F31) rfl (by simp only[LP,Av,zs,zm,h2,show ((0:Nat)=1)=False from by decide,show ((0:Nat)=2)=False from by decide,and_false,or_self]<;>exact rfl) rfl (by simp only[LP,zf,zm,Bool.and_false];try rfl) (by simp only[F31,zv]<;>exact rfl) (by omega) ?_;rintro d rfl;refine Ap (Ct (Ab (Bc ?_)));refine Ap (Af rfl (Af rfl (xo7 (h:=Af rfl ?_))));refine xo7 (h:=Aa (by simp only[zl,zm,Cx,Eb,Gm,Dr,Gn,Fb,h2]<;>exact rfl) ?_);refine Ar rfl (Ab (Bc ?_));apply Cy;refine⟨_,by simp only[F31,Bw,Cz,Ei,zg]<;>exact rfl,?_⟩;simp[leave,LP,Vt,Vq,snap,D.Vs,D.Vr,D.free,D.Vw,h2]
structure PF (a b:List FM) (B H:List Vi) (go ga gs:Nat) (xa xb:D) (lb:Nat) (ra rb:List (List D)):Prop where
 len:B.length≤H.length
 fr:∀k,k<B.length→H[k]?=B[k]?
 ho:H[go]?=some ⟨36,4,[[.str nmA,Ea xa,.int .i64 ((1:Nat):Int),.int .i64 ((12:Nat):Int)],[.str nmB,Ea xb,.int .i64 ((lb:Nat):Int),.int .i64 ((12:Nat):Int)]],1,0,true⟩
 fa:FL H ga xa ra
 fb:FL H gs xb rb
 wa:RW a ra
 wb:RW b rb
 hgo:B.length≤go
 hga:B.length≤ga
 hgs:B.length≤gs
 ne:ga≠go∧gs≠go∧ga≠gs
theorem parse_all{d:Nat}(hd:22≤d)(B:List Vi)(lo:Nat)(a b:List FM)(kF:a.length≤20)(hlb:b.length≤20):∃r,(fun r=>∃H' go ga gs xa xb lb ra rb,r=(.tup [.msl go 1 0 2 (some 2),.agg [.int .i64 0,.int .i64 0,.int .i64 0]],⟨H',min lo B.length⟩,true)∧PF a b B H' go ga gs xa xb lb ra rb) r∧Bh LP NN d 10 [.sl 5 (Fa 1 (Ej a b)) none] ⟨B,lo⟩=some r:=by
 have yJ:(Ej a b).length≤700:=by
  have h1:=Dx a;have h2:=Dx b;simp only[Ej,Cq,Ll_,List.length_cons,List.length_nil];omega
 refine run_atD_ex (F:=F10) (P:=fun r=>∃H' go ga gs xa xb lb ra rb,r=(.tup [.msl go 1 0 2 (some 2),.agg [.int .i64 0,.int .i64 0,.int .i64 0]],⟨H',min lo B.length⟩,true)∧PF a b B H' go ga gs xa xb lb ra rb) rfl (by simp only[LP,Av,zs]<;>exact rfl) rfl (by simp only[LP,zf,zm];try rfl) (by simp only[F10,zv]<;>exact rfl) (by omega) ?_;rintro d rfl;refine Ap (xo9 (h:=xo9 (h:=?_)));refine Ab (Bc ?_);refine Ak (Ap (xo1 (h:=?_)));refine Ab (Bc ?_);apply cw_dfr (by simp only[opd,zv]<;>exact rfl) (by simp only[List.cons_append,List.nil_append]<;>exact rfl);refine Cb rfl (Ap (Aa (by simp only[zo,Ez,Nat.reduceAdd,zm]<;>exact rfl) ?_));apply Aa (by simp only[zl,zm,zc]<;>exact rfl);refine Ar rfl (Ab (Bc ?_));refine Ak (Bo (E8 (fun n env S'=>∃(L:List (Nat × ByteArray)) (H:List Vi) (m:Nat) (x0 u4 u5 u7 u8 u9 u10 u11:D),S'=⟨H,B.length⟩∧env=[x0,.ptr B.length 0 0 0,.ptr (B.length+1) 0 0 0,.ptr (B.length+2) 0 0 0,u4,u5,.fn 26 [.ptr B.length 0 0 0,.ptr (B.length+1) 0 0 0],u7,u8,u9,u10,u11,.fn 26 [.ptr B.length 0 0 0,.ptr (B.length+1) 0 0 0]]∧PI B a b L H∧SlD 5 (Fa m L) x0∧(L=Ej a b→m=1)∧L.length≤(Ej a b).length∧n=L.length) ((Ej a b).length) (by omega) (⟨Ej a b,_,1,_,_,_,_,_,_,_,_,rfl,rfl,.start ⟨Dq B _ 0,Dq B _ 1,fun k hk=>Cr hk⟩ (Dq B _ 2),.of _ _ _,fun _=>rfl,by omega,rfl⟩) ?_));rintro n env S' ⟨L,H,m,x0,u4,u5,u7,u8,u9,u10,u11,rfl,rfl,hPI,hx,hm1,zx,rfl⟩;have vg:=hx.len;rw[Ga]at vg;refine Ak (Ap (Af rfl (Aa (by simp only[zo,vg]<;>exact rfl) ?_)));refine xo2 (h:=?_);refine Ab (Bc ?_);refine Dl (by simp only[opd,zv]<;>exact rfl) (fun zy=>?_) (fun zy=>?_)
 ·
  have hL0:L≠[]:=by
   intro e;have:=of_decide_eq_true zy;rw[e]at this;simp at this
  obtain⟨e,L',H',eL,he,hr,hPI',xB⟩:=PI_step (d:=d) (by omega) kF hlb hPI hL0 hm1 hx;have hel:L.length=e.length+(L'.length+1):=by rw[eL];simp
  have hlt':L'.length<L.length:=by omega
  have hi:Bh LP NN d 27 [x0,.fn 28 []] ⟨H,B.length⟩=some (.int .i64 (e.length:Nat),⟨H,B.length⟩,false):=by
   rw[index27_run (d:=d) (by omega) _ hx (by omega),eL,idxI_app (t:=Ls) he rfl]
  have kD:decide (((e.length:Nat):Int)<0)=false:=decide_eq_false (by omega);have yJ:=fun S=>hx.slice_hi S .i64 (n:=e.length) (by rw[Ga];omega);have h00:0<L.length:=by omega
  have yG:=fun S=>hx.V3 S .i64 (i:=0) (by omega) (posR_at (m:=m) h00);have hw:=Ee e.length (by omega);have hsd:=fun S=>hx.slice_lo S .i64 (n:=e.length+1) (by rw[Ga];omega)
  have hx':SlD 5 (Fa (m+(e.length+1)) L') (Cv (e.length+1) x0):=by
   have h:=hx.drop (e.length+1);rw[posR_drop,eL,show (e++Ls::L').drop (e.length+1)=L' from by rw[List.drop_append];simp]at h;exact h
  simp only[Nat.add_zero]at yG;refine Bn (Cb rfl (Bo (Ap (Af rfl (Aa (by simp only[zo];exact hi) ?_)))));refine Ar rfl (Ab (Bc ?_));refine Ak (Ap (Af rfl (Aa (by simp only[zo,Bz,kD]<;>exact rfl) ?_)));refine Ab (Bc ?_);refine D5 ?_;refine Bn (Cb rfl (Ak (Hz ?_)));refine Ca rfl rfl (Ca rfl rfl (Ca rfl rfl (Bb (by simp only[opd,zv,Ce,aop,LOp.loud,lop,if_true,Cx,Option.map_some,yJ]<;>exact rfl) (by simp only[Ao,zo,hx.fps]<;>exact rfl) rfl ?_)));refine Ca rfl rfl (Bb (by simp only[zl,zm,yG,tkR]<;>exact rfl) (by simp only[Ao,zo,hx.fpi]<;>exact rfl) rfl ?_);apply Am (by simp only[zo,E5,zm]<;>exact rfl) rfl rfl;refine xo5 (h:=Bb (by simp only[zo];exact hr) (by simp only[Ao,zo,zq]<;>exact rfl) (by first | rfl | (generalize Vp (Ea xa)=t;cases t<;>rfl) | (generalize Vp (Ea xf)=t;cases t<;>rfl) | (simp[show ob 255 8=[true,true,true,true,true,true,true,true] from rfl,Vp,Ac,Ai,Bl,Aj,Au,dj,Ah,Ae,Aq,Ba,ieq1,ieq2];done)) ?_);refine Cw (Bc ?_);refine Al (Af rfl (Af rfl (Aa (by simp only[zo,Bz,hw]<;>exact rfl) ?_)));apply Aa (by simp only[opd,zv,Ce,aop,LOp.loud,lop,if_true,Cx,Option.map_some,hsd]<;>exact rfl);refine Ar rfl (Ab (Fu (Jh (by simp only[ze]<;>exact rfl) ?_)));exact⟨_,hlt',L',H',_,_,_,_,_,_,_,_,_,rfl,rfl,hPI',hx',fun e=>absurd (congrArg List.length e) (by omega),by omega,rfl⟩
 have hL0:L=[]:=by
  have:=of_decide_eq_false zy;exact List.length_eq_zero_iff.1 (by omega)
 obtain⟨h0,hB⟩:P0 B H∧PB B H a b:=by
  cases hPI with
  | start=>simp[Ej,Cq]at hL0
  | first=>simp[Cq]at hL0
  | @second _ i h0 hi hB =>
   have hbi:b.length≤i:=by
    refine Nat.le_of_not_lt fun h=>?_;rw[Qk h,Qj]at hL0;simp at hL0
   rw[List.take_of_length_le hbi]at hB;exact⟨h0,hB⟩
 obtain⟨lx,a0,c0,go,ga,gs,xa,xf,lb,ra,rows,h2,ho,hFa,hF,hRa,hR,hgo,hga,hgs,hneo,hnea,wI⟩:=hB;have h2l:=Be h2;have zT:=Be ho;obtain⟨o0,o1,ofr⟩:=h0;have yC:=clip30_run (d:=d) (by omega) hFa B.length;have hF1:∀x,FL (H.set go x) gs xf rows:=fun x=>hF.keep fun h=>by rw[Ln_ (by omega)]
 have wz:=fun x=>clip30_run (d:=d) (by omega) (hF1 x) B.length;obtain⟨v1,v2⟩:=hFa.clip_val;obtain⟨v3,v4⟩:=hF.clip_val;have ieq1:¬go=B.length+2:=by omega
 have ieq2:¬B.length+2=go:=by omega
 have n2:(go=B.length+2)=False:=eq_false (by omega);have n0:(go=B.length)=False:=eq_false (by omega);have n1:(go=B.length+1)=False:=eq_false (by omega);have n3:(B.length=B.length+1)=False:=eq_false (by omega);have l0:(go<H.length)=True:=eq_true zT;have l1:(B.length<H.length)=True:=eq_true (by omega);have l2:(B.length+1<H.length)=True:=eq_true (by omega);have m1:min B.length go=B.length:=by omega
 simp only[PO,GO,List.cons_append,List.nil_append]at h2 ho;refine Eh (J4 (K4 (Kc (Cb rfl (Ak (Ap (Af rfl (xo1 (h:=xo0 (h:=Aa (by simp only[zl,zm,zd,Ay,List.take,List.drop,h2]<;>exact rfl) ?_))))))))));refine xo7 (h:=?_);refine Ct (Ab (Bc ?_));refine Bo (Te (Ql (Ap (xo2 (h:=?_)))));refine Ab (Bc ?_);refine Ak (Mx ?_);refine Bn (Cb rfl (Ak (Bo (Ap (Af rfl (Ar rfl (Ab (Bc ?_))))))));refine Hz ?_;refine Ca rfl rfl (xo6 (h:=xo3 (h:=Dk (by simp only[zl,zm,zd,Ay,List.take,List.drop,h2]<;>exact rfl) rfl ?_)));refine Ca rfl rfl (Ca rfl rfl (xo6 (h:=xo3 (h:=Dk (by simp only[zl,zm,zd,Ay,List.take,List.drop,h2]<;>exact rfl) rfl ?_))));refine Ca rfl rfl (Dk (by simp only[zl,zm,Ch,Int.toNat_zero,Int.le_refl,ho,Int.toNat_zero]<;>exact rfl) rfl ?_);refine xo3 (h:=Dk (by simp only[zl,zm,zd,Ay,List.take,List.drop,ho]<;>exact rfl) rfl ?_)
 first
  | refine Bb (by simp only[zo];exact yC) (by simp only[Ao,zo,zq]<;>exact rfl) (by first | rfl | (generalize Vp (Ea xa)=t;cases t<;>rfl) | (generalize Vp (Ea xf)=t;cases t<;>rfl) | (simp[show ob 8160 13=[true,true,true,true,true,true,true,true,false,false,false,false,false] from rfl,Vp,Ac,Ai,Bl,Aj,Au,dj,Ah,Ae,Aq,Ba,ieq1,ieq2];done)) ?_
  | refine Bb (by simp only[zo,vg,h2,ho,n0,n1,n2,n3,l0,l1,l2,m1,v1,v2,v3,v4,List.getElem?_set,List.length_set,List.set_set,o0,o1,Int.toNat_zero,show IntKind.i64.wrap (0+1)=1 from rfl,List.set_cons_succ,List.set_cons_zero,show ((0:Int)≤1)=True from by decide,show ((1:Int).toNat)=1 from rfl];exact wz _) (by simp only[Ao,zo,zq,hx.fps,hx.fpi]<;>exact rfl) (by first | rfl | (generalize Vp (Ea xa)=t;cases t<;>rfl) | (generalize Vp (Ea xf)=t;cases t<;>rfl) | (simp[show ob 8160 13=[true,true,true,true,true,true,true,true,false,false,false,false,false] from rfl,Vp,Ac,Ai,Bl,Aj,Au,dj,Ah,Ae,Aq,Ba,ieq1,ieq2];done)) ?_
 refine Dk (by simp only[zl,zm,Ch,Int.toNat_zero,Int.le_refl,ho,Int.toNat_zero]<;>exact rfl) rfl ?_;refine xo3 (h:=Bb (by simp only[zl,zm,Bj,overlay,List.take,List.drop,ho,m1,v1,v2]<;>exact rfl) (by simp only[Ao,zo,zq]<;>exact rfl) (by first | rfl | (generalize Vp (Ea xa)=t;cases t<;>rfl) | (generalize Vp (Ea xf)=t;cases t<;>rfl) | (simp[show ob 65535 16=[true,true,true,true,true,true,true,true,true,true,true,true,true,true,true,true] from rfl,Vp,Ac,Ai,Bl,Aj,Au,dj,Ah,Ae,Aq,Ba,ieq1,ieq2];done)) ?_);refine Cw (Fu (Bc ?_));refine Al (Aa (by simp only[zo,Bz,show IntKind.i64.wrap (0+1)=1 from rfl]<;>exact rfl) ?_);refine Ar rfl (Ab (lu_n (by simp only[ze]<;>exact rfl) ?_));refine Ql (Ap (xo2 (h:=?_)));refine Ab (Bc ?_);refine Ak (Mx ?_);refine Bn (Cb rfl (Ak (Bo (Ap (Af rfl (Ar rfl (Ab (Bc ?_))))))));refine Hz ?_;refine Ca rfl rfl (xo6 (h:=xo3 (h:=?_)));refine Dk (by simp only[zl,zm,zd,Ay,List.take,List.drop,h2,n2,l0,List.getElem?_set]<;>exact rfl) rfl ?_;refine Ca rfl rfl (Ca rfl rfl (xo6 (h:=xo3 (h:=?_))));refine Dk (by simp only[zl,zm,zd,Ay,List.take,List.drop,h2,n2,l0,List.getElem?_set]<;>exact rfl) rfl ?_;refine Ca rfl rfl (Dk (by simp only[zl,zm,Ch,ho,l0,List.getElem?_set,show ((0:Int)≤1)=True from by decide,show ((1:Int).toNat)=1 from rfl]<;>exact rfl) rfl ?_);refine xo3 (h:=?_);refine Dk (by simp only[zl,zm,zd,Ay,List.take,List.drop,ho,l0,List.getElem?_set]<;>exact rfl) rfl ?_
 first
  | refine Bb (by simp only[zo];exact yC) (by simp only[Ao,zo,zq,hx.fps,hx.fpi]<;>exact rfl) (by first | rfl | (generalize Vp (Ea xa)=t;cases t<;>rfl) | (generalize Vp (Ea xf)=t;cases t<;>rfl) | (simp[show ob 8160 13=[true,true,true,true,true,true,true,true,false,false,false,false,false] from rfl,Vp,Ac,Ai,Bl,Aj,Au,dj,Ah,Ae,Aq,Ba,ieq1,ieq2];done)) ?_
  | refine Bb (by simp only[zo];exact wz _) (by simp only[Ao,zo,zq]<;>exact rfl) (by first | rfl | (generalize Vp (Ea xa)=t;cases t<;>rfl) | (generalize Vp (Ea xf)=t;cases t<;>rfl) | (simp[show ob 8160 13=[true,true,true,true,true,true,true,true,false,false,false,false,false] from rfl,Vp,Ac,Ai,Bl,Aj,Au,dj,Ah,Ae,Aq,Ba,ieq1,ieq2];done)) ?_
 refine Dk (by simp only[zl,zm,Ch,ho,l0,List.getElem?_set,show ((0:Int)≤1)=True from by decide,show ((1:Int).toNat)=1 from rfl]<;>exact rfl) rfl ?_;refine xo3 (h:=?_);refine Bb (by simp only[zl,zm,Bj,overlay,List.take,List.drop,ho,l0,m1,v3,v4,List.getElem?_set,List.set_set]<;>exact rfl) (by simp only[Ao,zo,zq]<;>exact rfl) (by first | rfl | (generalize Vp (Ea xa)=t;cases t<;>rfl) | (generalize Vp (Ea xf)=t;cases t<;>rfl) | (simp[show ob 65535 16=[true,true,true,true,true,true,true,true,true,true,true,true,true,true,true,true] from rfl,Vp,Ac,Ai,Bl,Aj,Au,dj,Ah,Ae,Aq,Ba,ieq1,ieq2];done)) ?_;refine Cw (Fu (Bc ?_));refine Al (xo2 (h:=Ar rfl (Ab ?_)));apply lu_n (by simp only[ze]<;>exact rfl);refine Ql (Ap (xo2 (h:=?_)));refine Ab (Bc ?_);refine Ak (D5 ?_);refine Eh (J4 (lu_e (Kc (Cb rfl (Ap (Af rfl (xo1 (h:=xo0 (h:=?_)))))))));refine Aa (by simp only[zl,zm,zd,Ay,List.take,List.drop,h2,n2,l0,List.getElem?_set]<;>exact rfl) ?_;apply Aa (by simp only[zo];exact clip31_run (by omega) (Ec zT _) _);apply Aa (by simp only[zo,Ez,zm]<;>exact rfl);refine Aa (by simp only[zl,zm,Bj,overlay,zs,zc,zf,List.take,List.drop,ho,n0,l0,List.getElem?_set,o0]<;>exact rfl) ?_;refine Aa (by simp only[zl,zm,Bj,overlay,Cg,zs,zc,zf,List.take,List.drop,n1,n3,l0,l1,List.getElem?_set,o1]<;>exact rfl) ?_;refine Ab (Bc ?_);apply Cy
 have hz2:∀k,k≠go→k≠B.length→k≠B.length+1→∀x y z,(((H.set go x).set B.length y).set (B.length+1) z)[k]?=H[k]?:=fun k h1 h2 h3 x y z=>by
  rw[Ln_ (Ne.symm h3),Ln_ (Ne.symm h2),Ln_ (Ne.symm h1)]
 have hB2:B.length+2<H.length:=h2l;refine⟨(.tup [.msl go 1 0 2 (some 2),.agg [.int .i64 0,.int .i64 0,.int .i64 0]],⟨((H.set go ⟨36,4,[[.str nmA,Ea xa,.int .i64 ((1:Nat):Int),.int .i64 ((12:Nat):Int)],[.str nmB,Ea xf,.int .i64 ((lb:Nat):Int),.int .i64 ((12:Nat):Int)]],1,0,true⟩).set B.length ⟨26,1,[[.msl go 1 0 2 (some 2)]],0,0,false⟩).set (B.length+1) ⟨31,3,[[.int .i64 0,.int .i64 0,.int .i64 0]],0,0,false⟩,min lo B.length⟩,true),⟨((H.set go ⟨36,4,[[.str nmA,Ea xa,.int .i64 ((1:Nat):Int),.int .i64 ((12:Nat):Int)],[.str nmB,Ea xf,.int .i64 ((lb:Nat):Int),.int .i64 ((12:Nat):Int)]],1,0,true⟩).set B.length ⟨26,1,[[.msl go 1 0 2 (some 2)]],0,0,false⟩).set (B.length+1) ⟨31,3,[[.int .i64 0,.int .i64 0,.int .i64 0]],0,0,false⟩,go,ga,gs,xa,xf,lb,ra,rows,rfl,⟨?_,?_,?_,?_,?_,hRa,hR,by omega,by omega,by omega,hnea,hneo,wI⟩⟩,⟨⟨((H.set go ⟨36,4,[[.str nmA,Ea xa,.int .i64 ((1:Nat):Int),.int .i64 ((12:Nat):Int)],[.str nmB,Ea xf,.int .i64 ((lb:Nat):Int),.int .i64 ((12:Nat):Int)]],1,0,true⟩).set B.length ⟨26,1,[[.msl go 1 0 2 (some 2)]],0,0,false⟩).set (B.length+1) ⟨31,3,[[.int .i64 0,.int .i64 0,.int .i64 0]],0,0,false⟩,B.length⟩,exDefs_one (F:=FD26) rfl rfl rfl rfl (by simp only[FD26,zv]<;>exact rfl) (by refine⟨_,_,_,rfl,?_⟩;exact rfl),.tup [.msl go 1 0 2 (some 2),.agg [.int .i64 0,.int .i64 0,.int .i64 0]],?_,?_⟩⟩
 ·
  rw[List.length_set,List.length_set,List.length_set];omega
 ·
  intro k hk;rw[hz2 k (by omega) (by omega) (by omega)];exact ofr k hk
 ·
  rw[Ln_ (by omega),Ln_ (by omega),Ec zT]
 ·
  exact hFa.keep fun h=>hz2 ga hnea (by omega) (by omega) _ _ _
 ·
  exact hF.keep fun h=>hz2 gs hneo (by omega) (by omega) _ _ _
 ·
  simp only[F10,Bw,Cz,Ei,List.getD_cons_zero,List.getD_cons_succ,Kr,rowsOf,Ay,List.getElem?_set,List.length_set,n3,show (B.length+1=B.length)=False from eq_false (by omega),l1,l2,if_true,if_false,Lz,List.take,List.drop,Bool.false_eq_true];rfl
 have x9:B.length≤B.length:=Nat.le_refl _;have xg:¬H.length=B.length:=by omega
 have hgo2:¬B.length+1=go:=by omega
 have hgo3:¬B.length=go:=by omega
 simp[leave,LP,Vt,Av,Vq,snap,Cg,D.Vs,D.Vr,D.free,D.Vw,hgo2,hgo3,zT,xg]
structure SrcF (H:List Vi) (x:D) (rows:List (List D)) (gs v:Nat):Prop where
 len:Ji false x=some (.int .i64 (rows.length:Nat))
 cell:x.Vv=true
 snap:∀m l,snap m (H++l) x=some x
 fpi:∀n i r wr,F3 (.V3 n) [x,i] r wr=Ah (Cc x)
 ia:∀l lo i,i<rows.length→Gd ⟨H++l,lo⟩ 16 x (.int .i64 (i:Nat))=some (.ptr gs v i 0)
 ld:∀l lo i r,rows[i]?=some r→16≤r.length→Jn 16 true ⟨H++l,lo⟩ (.ptr gs v i 0)=some (.agg (r.take 16))
theorem FL.src{H:List Vi}{gs:Nat}{x:D}{rows:List (List D)}(h:FL H gs x rows):∃v,SrcF H (Ea x) rows gs v:=by
 rcases h with⟨rfl,rfl⟩ | ⟨vs,rfl,ho⟩
 ·
  exact⟨0,rfl,rfl,fun _ _=>rfl,fun _ _ _ _=>rfl,fun _ _ i h=>absurd h (by simp),fun _ _ i r h=>by simp at h⟩
 refine⟨vs,rfl,rfl,fun m l=>?_,fun _ _ _ _=>rfl,fun l lo i h=>?_,fun l lo i r h h16=>?_⟩
 ·
  simp only[Ea];rw[Kv,Cr (Be ho),ho];simp
 ·
  simp[Ea,Gd,rowsOf,Cr (Be ho),ho,h]
 simp[Jn,rowsOf,Cr (Be ho),ho,h,Ay,h16]
theorem SrcF.zero{H:List Vi}{x:D}{rows:List (List D)}{gs v:Nat}(h:SrcF H x rows gs v):∀m,Go.Proofs.YtkaedpmmopigkaaGreatDoor.snap m H x=some x:=fun m=>by have:=h.snap m [];rwa [List.append_nil]at this
theorem Sk(f:FM)(p:Nat):∃tx op nu r1 r2,J5 f p=[.int .i64 (f.line:Nat),.int .i64 (f.column:Nat),.int .u8 (f.kind:Nat),tx,.int .u8 (if nu then (if f.size=1 then 4 else 5) else 2),.int .u8 0,.str (Lp nu f.size),.int .i64 (if nu then (f.size:Nat) else 0),.int .i64 0,.bool false,.bool false,.bool false,.bool false,.bool false,.int .i64 (f.size:Nat),op]∧SlD 1 r1 tx∧SlD 5 r2 op ∧
  (f.kind=1→nu=false∧tx=.sl 1 (Cu f.text) none∧op=.V5∧r1=Cu f.text)∧(f.kind≠1→nu=f.nu∧tx=.V5∧op=.sl 5 [tkR 1 ⟨#[78]⟩ p 12] (some 1)):=by
 by_cases h:f.kind=1
 ·
  refine⟨.sl 1 (Cu f.text) none,.V5,false,Cu f.text,[],?_,.of _ _ _,.nil 5,fun _=>⟨rfl,rfl,rfl,rfl⟩,fun h'=>absurd h h'⟩;unfold J5 row2;rw[if_pos h,if_pos h,h];rfl
 refine⟨.V5,.sl 5 [tkR 1 ⟨#[78]⟩ p 12] (some 1),f.nu,[],_,?_,.nil 1,.of _ _ _,fun h'=>absurd h' h,fun _=>⟨rfl,rfl,rfl⟩⟩;unfold J5;rw[if_neg h];rfl
theorem Rk(f:FM)(p:Nat):(J5 f p).length=16:=by
 unfold J5 row2 Em;split<;>rfl
theorem Sj(f:FM)(p:Nat):(J5 f p).take 16=J5 f p:=List.take_of_length_le (by rw[Rk];exact Nat.le_refl _)
theorem pcheck_form{d:Nat}(hd:16≤d)(S:St)(nu:Bool)(f:FM):Bh LP NN d 38 [.agg [.int .u8 (if nu then (if f.size=1 then 4 else 5) else 2),.int .u8 0,.str (Lp nu f.size),.int .i64 (if nu then (f.size:Nat) else 0),.int .i64 0,.bool false,.bool false,.bool false,.bool false,.bool false,.int .i64 (f.size:Nat)]] S=some (.int .i64 0,S,false):=pcheck_run (by omega) S hd nu f.size f.size_le.1 f.size_le.2
theorem check_run{d:Nat}(hd:18≤d){H:List Vi}{x:D}{rows:List (List D)}{gs v:Nat}{l0:List FM}(hS:SrcF H x rows gs v)(hR:RW l0 rows)(xg:l0.length≤256)(nm:ByteArray)(p0 c0:Nat)(lo:Nat) :
  Bh LP NN d 13 [.agg [.str nm,x,.int .i64 (p0:Nat),.int .i64 (c0:Nat)]] ⟨H,lo⟩=some (.int .i64 0,⟨H,lo⟩,false):=by
 have yV:=hR.len;have wB:decide (((rows.length:Nat):Int)>256)=false:=decide_eq_false (by omega);refine Eg (F:=F13) rfl (by simp only[LP,Av,Cg,zs,zm,hS.zero]<;>exact rfl) rfl (by simp only[LP,zf,zm];try rfl) (by simp only[F13,zv]<;>exact rfl) (by omega) ?_;rintro d rfl;refine Ap (Aa (by simp only[zl,zm,zc,hS.cell]<;>exact rfl) ?_);refine Ct (Ab (Bc ?_));refine Ak (Ap (xo0 (h:=xo4 (h:=Aa (by simp only[zo,hS.len]<;>exact rfl) ?_))));apply Aa (by simp only[zo,Bz,wB]<;>exact rfl);refine Ab (Bc ?_);refine D5 ?_;refine Bn (Cb rfl (Ak (Ap (xo0 (h:=xo4 (h:=Aa (by simp only[zo,hS.len]<;>exact rfl) ?_))))));refine Ct (Ab (Bc ?_));refine Bo (E8 (fun n env S'=>∃(i:Nat) (l:List Vi) (u3 u9 u10 u11 u8:D),i≤rows.length∧n=rows.length-i∧S'=⟨H++⟨36,4,[[.str nm,x,.int .i64 (p0:Nat),.int .i64 (c0:Nat)]],0,0,false⟩::l,H.length⟩∧env=[.agg [.str nm,x,.int .i64 (p0:Nat),.int .i64 (c0:Nat)],.ptr H.length 0 0 0,.int .i64 0,u3,.bool false,x,.int .i64 rows.length,.int .i64 i,u8,u9,u10,u11]) (rows.length) (by omega) (⟨0,[],_,_,_,_,_,by omega,by omega,rfl,rfl⟩) ?_);rintro n env S' ⟨i,l,u3,u9,u10,u11,u8,hi,rfl,rfl,rfl⟩;refine Ap (xo2 (h:=?_));refine Ab (Bc ?_);apply Ak;refine Dl (by simp only[opd,zv]<;>exact rfl) (fun zy=>?_) (fun zy=>?_)
 ·
  have xE:i<rows.length:=by have:=of_decide_eq_true zy;omega
  have hltl:i<l0.length:=by omega
  have hw:=Ee i (by omega);have yG:=fun l lo=>hS.ia l lo i xE;obtain⟨p,y9⟩:=hR.at_ hltl;have ru:=fun (l:List Vi) lo=>hS.ld l lo i _ y9 (by rw[Rk];exact Nat.le_refl _);rw[Sj]at ru;have yQ:=fun (S:St)=>Sy l0[i] p (d:=d) (by omega) S;obtain⟨tx,op,nu,r1,r2,hrf,htx,yZ,xS,zM⟩:=Sk l0[i] p;have hpc:=fun (S:St)=>pcheck_form (d:=d) (by omega) S nu l0[i];rw[hrf]at ru yQ;have xK:=l0[i].size_le;have uI:=l0[i].kind_le;have yB:∀k:Nat,(H++⟨36,4,[[.str nm,x,.int .i64 (p0:Nat),.int .i64 (c0:Nat)]],0,0,false⟩::l).length=H.length+l.length+1:=fun k=>by simp;omega
  have zP:∀(o:Vi) (m:List Vi),(H++⟨36,4,[[.str nm,x,.int .i64 (p0:Nat),.int .i64 (c0:Nat)]],0,0,false⟩::(l++o::m))[H.length+(l.length+1)]?=some o:=fun o m=>by rw[Dq,Ls_,Dm];rfl
  have xX:∀(o y:Vi) (m:List Vi),(H++⟨36,4,[[.str nm,x,.int .i64 (p0:Nat),.int .i64 (c0:Nat)]],0,0,false⟩::(l++o::m)).set (H.length+(l.length+1)) y=H++⟨36,4,[[.str nm,x,.int .i64 (p0:Nat),.int .i64 (c0:Nat)]],0,0,false⟩::(l++y::m):=fun o y m=>by rw[D8,List.set_cons_succ,Dt];rfl
  have k1:decide (((l0[i].kind:Nat):Int)<1)=false:=decide_eq_false (by omega);have k2:decide (((l0[i].kind:Nat):Int)>4)=false:=decide_eq_false (by omega);by_cases hk:l0[i].kind=1
  ·
   obtain⟨rfl,rfl,rfl,rfl⟩:=xS hk;have e1:(((l0[i].kind:Nat):Int)==1)=true:=by rw[beq_iff_eq];omega
   have e2:(((Cu l0[i].text).length:Int) != ((l0[i].size:Nat):Int))=false:=by rw[Ny,Sc,bne_self_eq_false]
   refine Bn (Cb rfl (Ak (Bo (Ap (Aa (by simp only[zl,zm,yG]<;>exact rfl) ?_)))));apply Aa (by simp only[zl,zm,ru]<;>exact rfl);refine xo9 (h:=Aa (by simp only[zl,zm,Bj,overlay,Cg,zs,zc,zf,List.take,List.drop,zP,xX,htx.Vv,yZ.Vv]<;>exact rfl) ?_);refine Ab (Bc ?_);refine Bo (Ap (xo0 (h:=Aa (by simp only[zl,zm,zd,Ay,List.take,List.drop,zP]<;>exact rfl) ?_)));apply Aa (by simp only[zo,Bz,k1]<;>exact rfl);refine Ar rfl (Gi 0 (b:=false) ?_);refine Bd rfl (xo0 (h:=?_));refine Bd rfl (Aa (by simp only[zl,zm,zd,Ay,List.take,List.drop,zP]<;>exact rfl) ?_);refine Bd rfl (Aa (by simp only[zo,Bz,k2]<;>exact rfl) ?_);refine xo1 (h:=Ar rfl (Gi 0 (b:=false) ?_));refine Bd rfl (xo0 (h:=?_));refine Bd rfl (Aa (by simp only[zl,zm,zd,Ay,List.take,List.drop,zP]<;>exact rfl) ?_);refine Bd rfl (Aa (by simp only[zo];exact hpc _) ?_);refine Bd rfl (Aa (by simp only[zo,Bz,bne_self_eq_false]<;>exact rfl) ?_);refine xo1 (h:=Ar rfl (Ab ?_));refine Bc ?_;refine D5 ?_;refine Ap (xo0 (h:=Aa (by simp only[zl,zm,zd,Ay,List.take,List.drop,zP]<;>exact rfl) ?_));apply Aa (by simp only[zo,Bz,e1]<;>exact rfl);refine Ar rfl (Gi 0 (b:=true) ?_);refine Bd rfl (xo0 (h:=?_));refine Bd rfl (xo0 (h:=?_));refine Bd rfl (Aa (by simp only[zl,zm,zd,Ay,List.take,List.drop,zP]<;>exact rfl) ?_);refine Bd rfl (Aa (by simp only[zo,Bz,bne_self_eq_false]<;>exact rfl) ?_);refine Bd rfl (Ar rfl (Gi 0 (b:=false) ?_));refine Bd rfl (xo0 (h:=?_));refine Bd rfl (Aa (by simp only[zl,zm,zd,Ay,List.take,List.drop,zP]<;>exact rfl) ?_);refine Bd rfl (Aa (by simp only[zo,htx.len]<;>exact rfl) ?_);refine Bd rfl (xo0 (h:=?_));refine Bd rfl (xo0 (h:=?_));refine Bd rfl (Aa (by simp only[zl,zm,zd,Ay,List.take,List.drop,zP]<;>exact rfl) ?_);refine Bd rfl (Aa (by simp only[zo,Bz,e2]<;>exact rfl) ?_);refine Bd rfl (xo1 (h:=xo1 (h:=Ar rfl (Ab ?_))));refine Bc ?_;refine D5 ?_;refine Ap (Aa (by simp only[zl,zm,zd,Ay,List.take,List.drop,zP]<;>exact rfl) ?_);apply Aa (by simp only[zo];exact yQ _);refine U4 (h:=Ar rfl (Ab ?_));refine Bc ?_;refine D5 ?_;refine Bn (Fu (Fu (Cb rfl (Al (Aa (by simp only[zo,Bz,hw]<;>exact rfl) ?_)))));refine Ar rfl (Ab (Jh (by simp only[ze]<;>exact rfl) ?_));exact⟨rows.length-(i+1),by omega,i+1,_,_,_,_,_,_,by omega,rfl,rfl,rfl⟩
  have e1:(((l0[i].kind:Nat):Int)==1)=false:=by rw[beq_eq_false_iff_ne];omega
  refine Bn (Cb rfl (Ak (Bo (Ap (Aa (by simp only[zl,zm,yG]<;>exact rfl) ?_)))));apply Aa (by simp only[zl,zm,ru]<;>exact rfl);refine xo9 (h:=Aa (by simp only[zl,zm,Bj,overlay,Cg,zs,zc,zf,List.take,List.drop,zP,xX,htx.Vv,yZ.Vv]<;>exact rfl) ?_);refine Ab (Bc ?_);refine Bo (Ap (xo0 (h:=Aa (by simp only[zl,zm,zd,Ay,List.take,List.drop,zP]<;>exact rfl) ?_)));apply Aa (by simp only[zo,Bz,k1]<;>exact rfl);refine Ar rfl (Gi 0 (b:=false) ?_);refine Bd rfl (xo0 (h:=?_));refine Bd rfl (Aa (by simp only[zl,zm,zd,Ay,List.take,List.drop,zP]<;>exact rfl) ?_);refine Bd rfl (Aa (by simp only[zo,Bz,k2]<;>exact rfl) ?_);refine xo1 (h:=Ar rfl (Gi 0 (b:=false) ?_));refine Bd rfl (xo0 (h:=?_));refine Bd rfl (Aa (by simp only[zl,zm,zd,Ay,List.take,List.drop,zP]<;>exact rfl) ?_);refine Bd rfl (Aa (by simp only[zo];exact hpc _) ?_);refine Bd rfl (xo2 (h:=xo1 (h:=Ar rfl (Ab ?_))));refine Bc ?_;refine D5 ?_;refine Ap (xo0 (h:=Aa (by simp only[zl,zm,zd,Ay,List.take,List.drop,zP]<;>exact rfl) ?_));apply Aa (by simp only[zo,Bz,e1]<;>exact rfl);refine Ar rfl (Gi 0 (b:=false) ?_);refine Cn rfl rfl (Cn rfl rfl (Cn rfl rfl (Cn rfl rfl (Cn rfl rfl (El rfl (El rfl (El rfl (El rfl (El rfl (El rfl (El rfl (Cn rfl rfl (xo1 (h:=Ar rfl (Ab ?_)))))))))))))));refine Bc ?_;apply Hy (by simp only[opd,zv]);refine Ap (Aa (by simp only[zl,zm,zd,Ay,List.take,List.drop,zP]<;>exact rfl) ?_);apply Aa (by simp only[zo];exact yQ _);refine U4 (h:=Ar rfl (Ab ?_));refine Bc ?_;refine D5 ?_;refine Bn (Fu (Fu (Cb rfl (Al (Aa (by simp only[zo,Bz,hw]<;>exact rfl) ?_)))));refine Ar rfl (Ab (Jh (by simp only[ze]<;>exact rfl) ?_));exact⟨rows.length-(i+1),by omega,i+1,_,_,_,_,_,_,by omega,rfl,rfl,rfl⟩
 refine Eh (J4 (K4 (Kc (Cb rfl (Ap (Ct (Ab (Bc ?_))))))));apply Cy;refine⟨_,by simp only[F13,Bw,Cz,Ei,zg]<;>exact rfl,?_⟩;simp[leave,LP,Vt,Vq,snap,D.Vs,D.Vr,D.free,D.Vw]
theorem fmRows_nil:SlD 6 (G8 []) .V5:=.nil 6
theorem of_walk{d:Nat}(hd:24≤d){B H':List Vi}{lx xa xb:D}{l:List FM}{go lb:Nat}(uG:SlD 6 (G8 l) lx)(rW:l.length≤20)
  (xD:Bh LP NN (d-1) 10 [.sl 5 (Fa 1 (Ej l [])) none] ⟨B++[⟨36,4,[[.str ⟨#[]⟩,.V5,.int .i64 0,.int .i64 0]],0,0,false⟩],B.length⟩=some (.tup [.msl go 1 0 2 (some 2),.agg [.int .i64 0,.int .i64 0,.int .i64 0]],⟨H',min B.length (B++[(⟨36,4,[[.str ⟨#[]⟩,.V5,.int .i64 0,.int .i64 0]],0,0,false⟩:Vi)]).length⟩,true))
  (hz:H'[B.length]?=some ⟨36,4,[[.str ⟨#[]⟩,.V5,.int .i64 0,.int .i64 0]],0,0,false⟩) (ho:H'[go]?=some ⟨36,4,[[.str nmA,Ea xa,.int .i64 ((1:Nat):Int),.int .i64 ((12:Nat):Int)],[.str nmB,Ea xb,.int .i64 ((lb:Nat):Int),.int .i64 ((12:Nat):Int)]],1,0,true⟩) (hc:(Ea xa).Vv=true) (hX:∀x m l,snap m (H'.set B.length x++l) (Ea xa)=some (Ea xa)) (lo:Nat) :
  Bh LP NN d 18 [lx] ⟨B,lo⟩=some (.tup [.agg [.str nmA,Ea xa,.int .i64 ((1:Nat):Int),.int .i64 ((12:Nat):Int)],.bool true],if (Ea xa).free then ⟨B,lo⟩ else ⟨H'.set B.length ⟨36,4,[[.str nmA,Ea xa,.int .i64 ((1:Nat):Int),.int .i64 ((12:Nat):Int)]],0,0,false⟩++[⟨31,3,[[.int .i64 0,.int .i64 0,.int .i64 0]],0,0,false⟩],min lo B.length⟩,!(Ea xa).free):=by
 have qP:=Be hz;have zT:=Be ho;have hnil0:=fmRows_nil;have xK:∀l x,(H'.set B.length x++l)[B.length]?=some x:=fun l x=>by rw[Cr (by simpa using qP)];exact Ec qP x
 have xK:=xK;have wC:¬H'.length+1=B.length:=by omega
 have hm1:min B.length (B.length+1)=B.length:=by omega
 have wI:¬H'.length=B.length:=by omega
 rw[Ll_,List.length_cons,List.length_nil,hm1]at xD;refine Eg (F:=F18) rfl (by simp only[LP,Av,uG.Vq]<;>exact rfl) rfl (by simp only[LP,zm,uG.Vr];try rfl) (by simp only[F18,zv]<;>exact rfl) (by omega) ?_;rintro d rfl;refine Ap (xo9 (h:=?_));refine Ct (Ab (Bc ?_));refine Ap (Af rfl (Aa (by simp only[zo];exact section_run (by omega) _ uG hnil0 rW (by simp)) ?_));apply Aa (by simp only[zo];exact xD);refine Ar rfl (xo15 (h:=xo14 (h:=xo9 (h:=Ar rfl (Aa (by simp only[zl,zm,Bj,overlay,Cg,zs,zc,zf,List.take,List.drop]<;>exact rfl) ?_)))));refine Ab (Bc ?_);refine Ak (Ap (xo0 (h:=xo4 (h:=xo2 (h:=Ar rfl (Gi 0 (b:=false) ?_))))));refine Bd rfl (Af rfl (Bd rfl (xo7 (h:=?_))));refine Bd rfl (xo2 (h:=xo1 (h:=?_)));refine Ab (Bc ?_);refine D5 ?_;refine Bn (Cb rfl (Ap (Af rfl (Aa (by simp only[zl,zm,Ch,Int.toNat_zero,Int.le_refl,Cr zT,ho]<;>exact rfl) ?_))));apply Aa (by simp only[zl,zm,zd,Ay,List.take,List.drop,Cr zT,ho]<;>exact rfl);apply Aa (by simp only[zl,zm,Bj,overlay,Cg,zs,zc,zf,List.take,List.drop,Cr qP,Fh qP,hz,hc]<;>exact rfl);refine Ct (Ab (Bc ?_));apply Cy;refine⟨_,by simp only[F18,Bw,Cz,Ei,zg,zd,rowsOf,Ay,List.take,List.drop,zm,xK]<;>exact rfl,?_⟩;have hmm:min (min B.length H'.length) B.length=B.length:=by omega
 have zx:(B.length≤B.length)=True:=eq_true (Nat.le_refl _);cases hf:(Ea xa).free
 ·
  simp[leave,LP,P6,Av,Lx,Cg,Rc,Oo,M8,hX,Qh,Qg,Pg,Ph,Nq,hf,hmm,wC]
 simp[leave,LP,P6,Av,Lx,Cg,Rc,Oo,M8,hX,Qh,Qg,Pg,Ph,Nq,hf,hmm]
theorem FL.clip_free{H:List Vi}{gs:Nat}{x:D}{rows:List (List D)}(h:FL H gs x rows)(hf:(Ea x).free=true):x=.V5∧rows=[]:=by
 rcases h with h | ⟨vs,rfl,_⟩
 ·
  exact h
 cases hf
theorem of_run{d:Nat}(hd:24≤d)(B:List Vi)(lo:Nat)(xI:lo≤B.length){lx:D}{l:List FM}(uG:SlD 6 (G8 l) lx)(rW:l.length≤20) :
  ∃H' x0 gs rows wr,Bh LP NN d 18 [lx] ⟨B,lo⟩=some (.tup [.agg [.str nmA,Ea x0,.int .i64 ((1:Nat):Int),.int .i64 ((12:Nat):Int)],.bool true],⟨H',lo⟩,wr)∧B.length≤H'.length∧(∀k,k<B.length→H'[k]?=B[k]?)∧FL H' gs x0 rows∧RW l rows∧B.length≤gs:=by
 obtain⟨_,⟨H',go,ga,gs,xa,xb,lb,ra,rb,rfl,hP⟩,xD⟩:=parse_all (d:=d-1) (by omega) (B++[⟨36,4,[[.str ⟨#[]⟩,.V5,.int .i64 0,.int .i64 0]],0,0,false⟩]) B.length l [] rW (by simp);have hz:=(hP.fr B.length (by simp)).trans (Dq B [⟨36,4,[[.str ⟨#[]⟩,.V5,.int .i64 0,.int .i64 0]],0,0,false⟩] 0);have xg:=hP.len;rw[Ll_,List.length_cons,List.length_nil]at xg;have hga:=hP.hga;rw[Ll_,List.length_cons,List.length_nil]at hga
 have hX:∀x m l,snap m (H'.set B.length x++l) (Ea xa)=some (Ea xa):=by
  intro x m l;obtain⟨v,hS⟩:=(hP.fa.keep (H':=H'.set B.length x) fun h=>by rw[Ln_ (by omega)]).src;exact hS.snap m l
 obtain⟨v0,hS0⟩:=hP.fa.src;have r:=of_walk hd uG rW xD hz hP.ho hS0.cell hX lo;have hm:min lo B.length=lo:=by omega
 rw[hm]at r
 cases hf:(Ea xa).free with
 | true =>
  obtain⟨e1,e2⟩:=hP.fa.clip_free hf;rw[hf,if_pos rfl]at r;exact⟨B,xa,B.length,ra,_,r,Nat.le_refl _,fun _ _=>rfl,.inl ⟨e1,e2⟩,hP.wa,Nat.le_refl _⟩
 | false =>
  rw[hf,if_neg (by simp)]at r;refine⟨_,xa,ga,ra,_,r,by rw[Ll_,List.length_set];omega,fun k hk=>?_,?_,hP.wa,by omega⟩
  ·
   rw[Oa (by omega) (by omega),hP.fr k (by rw[Ll_];omega),Cr hk]
  exact hP.fa.keep fun h=>Oa h (by omega)
def spR (j:Nat):List (List D):=List.replicate j [.int .u8 32]++List.replicate (80-j) [.junk]
theorem spR_len{j:Nat}(h:j≤80):(spR j).length=80:=by simp[spR];omega
theorem spR_step{j:Nat}(h1:1≤j)(h:j<80):List.take j (spR j)++(List.take (min (min j 80) (80-j)) (List.take j (spR j))++List.drop (j+min (min j 80) (80-j)) (spR j))=spR (j+min j (80-j)):=by
 have e:min (min j 80) (80-j)=min j (80-j):=by omega
 rw[e]
 have t:List.take j (spR j)=List.replicate j [.int .u8 32]:=by
  unfold spR;rw[List.take_left' (by simp)]
 rw[t,List.take_replicate]
 have d:List.drop (j+min j (80-j)) (spR j)=List.replicate (80-(j+min j (80-j))) [.junk]:=by
  unfold spR;rw[List.drop_append,List.drop_eq_nil_of_le (by simp),List.nil_append,List.length_replicate,List.drop_replicate];congr 1;omega
 rw[d,←Lo_,List.replicate_append_replicate];unfold spR;congr 2;omega
section
variable (d:Nat) (S:St)
theorem mul_cl:Dp LP NN (d+4) 78 [.int .u64 1,.int .u64 80] S=some (.tup [.int .u64 0,.int .u64 80],S,false):=by kernel_rfl
end
theorem mul_run{d:Nat}(hd:4≤d)(S:St):Bh LP NN d 78 [.int .u64 1,.int .u64 80] S=some (.tup [.int .u64 0,.int .u64 80],S,false):=by
 obtain⟨d,rfl⟩:∃d',d=d'+4:=⟨d-4,by omega⟩;exact fast_ok (mul_cl d S)
theorem repeat_run{d:Nat}(hd:6≤d){H:List Vi}{gb:Nat}(hg:H[gb]?=some ⟨5,1,[[.int .u8 32]],0,2,false⟩)(lo:Nat) :
  Bh LP NN d 45 [.msl gb 0 0 1 none,.int .i64 80] ⟨H,lo⟩=some (.msl H.length 0 0 80 (some 80),⟨H++[⟨5,1,spR 80,0,2,true⟩],min lo H.length⟩,true):=by
 have xG:=Be hg;have hw80:IntKind.i64.wrap 80=80:=by decide
 have h80n:(80:Int).toNat=80:=rfl;refine Eg (F:=F45) rfl (by simp only[LP,Av,zs,zm]<;>exact rfl) rfl (by simp only[LP,zf,zm];try rfl) (by simp only[F45,zv]<;>exact rfl) (by omega) ?_;rintro d rfl;refine Ap (Ct (Ab (Bc ?_)));refine Ak (Ap (Af rfl (xo2 (h:=?_))));refine Ab (Bc ?_);refine D5 ?_;refine Bn (Cb rfl (Ak (Ap (Af rfl (Aa (by simp only[zo,Bz,Int.reduceLT]<;>exact rfl) ?_)))));refine Ab (Bc ?_);refine D5 ?_;refine Bn (Cb rfl (Ap (Af rfl (xo7 (h:=xo1 (h:=Af rfl ?_))))));refine xo1 (h:=Aa (by simp only[zo];exact mul_run (by omega) _) ?_);refine Ar rfl (xo15 (h:=xo14 (h:=Ar rfl (Ar rfl ?_))));refine Ab (Bc ?_);refine Ak (Ap (Af rfl (xo2 (h:=Ar rfl (Gi 0 (b:=false) ?_)))));refine Bd rfl (Af rfl (Bd rfl (xo2 (h:=xo1 (h:=?_)))));refine Ab (Bc ?_);refine D5 ?_;refine Bn (Cb rfl (Ap (Af rfl (Aa (by simp only[zo,hw80]<;>exact rfl) ?_))));refine Ar rfl (Ab (Bc ?_));refine Ak (Ap (Af rfl (xo7 (h:=xo2 (h:=?_)))));refine Ab (Bc ?_);refine D5 ?_;refine Bn (Cb rfl (Ap (Af rfl (Ar rfl (Ab (Bc ?_))))));refine Ak (Ap (Af rfl (xo2 (h:=?_))));refine Ab (Bc ?_);refine D5 ?_;refine Bn (Cb rfl (Ap (Af rfl (Aa (by simp only[zl,h80n]<;>exact rfl) ?_))));refine Af rfl (Af rfl (Aa (by simp only[zl,zm,Cx,Eb,Gm,Dr,Gn,Fb,h80n]<;>exact rfl) ?_));refine Ar rfl (Ab (Bc ?_));refine Ap (Af rfl (Af rfl (Aa (by simp only[opd,zv,Ce,aop,LOp.loud,lop,rowsOf,Oz,Ef,H5,kW,setAt,if_true,zm,hg,Cr xG,Dm,Dt]<;>exact rfl) ?_)));refine Ar rfl (Ab (Bc ?_));refine Ak (Bo (E8 (fun n env S'=>∃(j:Nat) (u9 u15 u16:D),1≤j∧j≤80∧n=80-j∧S'=⟨H++[⟨5,1,spR j,0,2,true⟩],H.length⟩∧env=[.msl gb 0 0 1 none,.int .i64 80,.V5,.int .u64 0,.int .u64 80,.int .i64 80,.int .i64 80,.msl H.length 0 0 80 (some 80),.int .i64 j,u9,.bool false,.bool false,.bool false,.bool false,.bool false,u15,u16]) (79) (by omega) (⟨1,_,_,_,by omega,by omega,by omega,by simp[spR],rfl⟩) ?_));rintro n env S' ⟨j,u9,u15,u16,hj1,hj,rfl,rfl,rfl⟩;refine Ak (Ap (Af rfl (Af rfl (xo2 (h:=?_)))));refine Ab (Bc ?_);refine Dl (by simp only[opd,zv]<;>exact rfl) (fun zy=>?_) (fun zy=>?_)
 ·
  have xE:j<80:=by have:=of_decide_eq_true zy;omega
  have hstep:=spR_step hj1 xE;have hmn:((80:Int)<(j:Int))=False:=eq_false (by omega);have hw:IntKind.i64.wrap ((j:Int)+((min (min j 80) (80-j):Nat):Int))=((j+min j (80-j):Nat):Int):=by rw[IntKind.wrap_i64];omega
  have h0:(0:Int)≤(j:Int):=by omega
  have uX:j≤80:=hj;have hl:=spR_len hj;refine Bn (Cb rfl (Bo (Ap (Af rfl (Af rfl (Aa (by simp only[zo,Ry,minD,hmn]<;>exact rfl) ?_))))));refine Ar rfl (Ab (Bc ?_));refine Hz ?_;refine Ca rfl rfl (Ca rfl rfl (Ca rfl rfl (Dk (by simp only[zl,zm,Cx,Eb,Gm,Dr,Gn,Fb,h0,uX,Fb,Int.toNat_natCast]<;>exact rfl) rfl ?_)));refine Ca rfl rfl (Ca rfl rfl (Dk (by simp only[zl,zm,Cx,Eb,Gm,Dr,Gn,Fb,h0,uX,Fb,Int.toNat_natCast]<;>exact rfl) rfl ?_));apply Bb (by simp only[opd,zv,Ce,aop,LOp.loud,lop,rowsOf,Oz,Ef,H5,kW,setAt,if_true,zm,Dm,Dt,Oz,H5,kW,Nat.sub_zero]<;>exact rfl) (by simp only[Ao,zo]<;>exact rfl) rfl;apply Am (by simp only[zo,Bz,hw,hl,List.length_take,Nat.sub_zero]<;>exact rfl) rfl rfl;refine Fy rfl rfl (Cw (Fu (Jh (by simp only[ze]<;>exact rfl) ?_)));exact⟨80-(j+min j (80-j)),by omega,j+min j (80-j),_,_,_,by omega,by omega,rfl,by rw[←hstep];simp only[List.set_cons_zero,Lo_,Nat.min_self],rfl⟩
 have hj':j=80:=by have:=of_decide_eq_false zy;omega
 subst hj';refine Eh (J4 (K4 (Kc (Cb rfl (Ap (Af rfl (Ar rfl (Ab (Bc ?_)))))))));apply Cy;refine⟨_,by simp only[F45,Bw,Cz,Ei,zg]<;>exact rfl,?_⟩;simp[leave,LP]
theorem clone8_0{d:Nat}(hd:1≤d){H:List Vi}{g v n:Nat}{L:List UInt8}{gr:Bool}{cap:Option Nat}(hg:H[g]?=some ⟨5,1,bR L,v,2,gr⟩)(hn:n≤L.length)(hL:L.length≤1000)(h0:n=0)(lo:Nat) :
  Bh LP NN d 83 [.msl g v 0 n cap] ⟨H,lo⟩=some (.sl 1 [] (some 0),⟨H,lo⟩,false):=by
 have xG:=Be hg;have wC:¬H.length≤g:=by omega
 subst h0;have hem:((bR L).take 0).isEmpty=true:=rfl;refine Eg (F:=F83) rfl (by simp only[LP,Av,zs,zm,hg,wC,show ((2:Nat)=1)=False from by decide,and_false,or_self]<;>exact rfl) rfl (by simp only[LP,zf,zm,Bool.and_false];try rfl) (by simp only[F83,zv]<;>exact rfl) (by omega) ?_;rintro d rfl;refine Ap (Ct (Ab (Bc ?_)));refine Ak (Ap (Af rfl (Aa (by simp only[zo,Pq]<;>exact rfl) ?_)));refine Ab (Bc ?_);refine D5 ?_;refine Bn (Cb rfl (Ap (Aa (by simp only[zl,Cf,List.replicate,Av]<;>exact rfl) ?_)));refine Af rfl (Aa (by simp only[zl,zm,Di,Cs,Jk,hg]<;>exact rfl) ?_);refine Ar rfl (Ab (Bc ?_));apply Cy;refine⟨_,by simp only[F83,Bw,Cz,Ei,zg]<;>exact rfl,?_⟩;simp[leave,LP,Vt,Vq,snap,D.Vs,D.Vr,D.free,D.Vw]
theorem clone8_1{d:Nat}(hd:1≤d){H:List Vi}{g v n:Nat}{L:List UInt8}{gr:Bool}{cap:Option Nat}(hg:H[g]?=some ⟨5,1,bR L,v,2,gr⟩)(hn:n≤L.length)(hL:L.length≤1000)(h0:0<n)(lo:Nat) :
  Bh LP NN d 83 [.msl g v 0 n cap] ⟨H,lo⟩=some (.sl 1 (bR (L.take n)) none,⟨H,lo⟩,false):=by
 have xG:=Be hg;have wC:¬H.length≤g:=by omega
 have htk:(bR L).take n=bR (L.take n):=by simp[bR,List.map_take]
 have hem:(bR (L.take n)).isEmpty=false:=by
  rw[List.isEmpty_eq_false_iff];intro e;have:=congrArg List.length e;rw[bR_len,List.length_take,List.length_nil]at this;omega
 have hbb:((bR (L.take n)).length*1≤140737488355328)=True:=eq_true (by rw[bR_len,List.length_take];omega);refine Eg (F:=F83) rfl (by simp only[LP,Av,zs,zm,hg,wC,show ((2:Nat)=1)=False from by decide,and_false,or_self]<;>exact rfl) rfl (by simp only[LP,zf,zm,Bool.and_false];try rfl) (by simp only[F83,zv]<;>exact rfl) (by omega) ?_;rintro d rfl;refine Ap (Ct (Ab (Bc ?_)));refine Ak (Ap (Af rfl (Aa (by simp only[zo,Pq]<;>exact rfl) ?_)));refine Ab (Bc ?_);refine D5 ?_;refine Bn (Cb rfl (Ap (Aa (by simp only[zl,zm,Cf,List.replicate,Av,show ((1:Nat)=0)=False from by decide]<;>exact rfl) ?_)));refine Af rfl (Aa (by simp only[zl,zm,Di,Cs,Jk,hg,hem,hbb,htk,or_true,show ((1:Nat)=0)=False from by decide]<;>exact rfl) ?_);refine Ar rfl (Ab (Bc ?_));apply Cy;refine⟨_,by simp only[F83,Bw,Cz,Ei,zg]<;>exact rfl,?_⟩;simp[leave,LP,Vt,Vq,snap,D.Vs,D.Vr,D.free,D.Vw]
theorem clip8_run{d:Nat}(hd:1≤d)(S:St){x:D}{rows:List (List D)}(hS:SlD 1 rows x):Bh LP NN d 82 [x] S=some (clipD x,S,false):=by
 have yJ:=hS.slice_clip;refine run_pure (F:=F82) rfl (by simp only[LP,Av,hS.Vq]<;>exact rfl) rfl (by simp only[LP,zm,hS.Vr];try rfl) (by simp only[F82,zv]<;>exact rfl) (by omega) ?_;rintro d rfl;refine Ap (Ct (Ab (Bc ?_)));refine Ap (Af rfl (Af rfl (Aa (by simp only[zo,hS.len]<;>exact rfl) ?_)));refine Af rfl (Aa (by simp only[zo,hS.len]<;>exact rfl) ?_);apply Aa (by simp only[opd,zv,Ce,aop,LOp.loud,lop,if_true,Cx,Option.map_some,yJ]<;>exact rfl);refine Ar rfl (Ab (Bc ?_));apply Cy;refine⟨_,by simp only[F82,Bw,Cz,Ei,zg]<;>exact rfl,?_⟩;simp only[Eu,leave,hS.clip.Vt,hS.clip.Vs,List.length_nil,Nat.le_refl,if_true,Bool.false_eq_true,if_false]
def Tg (L:List UInt8) (n:Nat):D:=if n=0 then .sl 1 [] (some 0) else .sl 1 (bR (L.take n)) none
theorem cloneY_S(L:List UInt8)(n:Nat):SlD 1 (bR (L.take n)) (Tg L n):=by
 unfold Tg;split
 ·
  subst_vars;exact .of _ _ _
 exact .of _ _ _
theorem Uy(L:List UInt8){n:Nat}(h:n≤L.length):clipD (Tg L n)=.sl 1 (bR (L.take n)) (some n):=by
 unfold Tg;split
 ·
  subst_vars;rfl
 simp[clipD,bR_len,Nat.min_eq_left h]
theorem clone8_at{d:Nat}(hd:1≤d){H:List Vi}{g v n:Nat}{L:List UInt8}{gr:Bool}{cap:Option Nat}(hg:H[g]?=some ⟨5,1,bR L,v,2,gr⟩)(hn:n≤L.length)(hL:L.length≤1000)(lo:Nat):Bh LP NN d 83 [.msl g v 0 n cap] ⟨H,lo⟩=some (Tg L n,⟨H,lo⟩,false):=by
 unfold Tg;split
 ·
  exact clone8_0 hd hg hn hL (by assumption) lo
 exact clone8_1 hd hg hn hL (by omega) lo
def tn:List UInt8→Nat
 | []=>0
 | a::l=>if tn l=0 then (if a=32 then 0 else 1) else tn l+1
theorem tn_snoc:∀(l:List UInt8) (c:UInt8),tn (l++[c])=if c=32 then tn l else l.length+1
 | [],c=>by simp[tn]
 | a :: l, c => by
  simp only[List.cons_append,tn,tn_snoc l c];by_cases h:c=32
  ·
   simp[h]
  simp[h]
theorem tn_take:∀(l:List UInt8) (n:Nat),n≤l.length→(∀i c,n≤i→l[i]?=some c→c=32)→tn l=tn (l.take n):=by
 intro l n hn h
 induction hk:l.length-n generalizing n with
 | zero =>
  have:n=l.length:=by omega
  rw[this,List.take_length]
 | succ k ih =>
  have h1:=ih (n+1) (by omega) (fun i c hi hc=>h i c (by omega) hc) (by omega);rw[h1];have xE:n<l.length:=by omega
  rw[List.take_succ_eq_append_getElem xE,tn_snoc,if_pos (h n _ (Nat.le_refl _) (Lg xE))]
theorem tn_at{l:List UInt8}{n:Nat}(hn:n≤l.length)(h:∀i c,n≤i→l[i]?=some c→c=32)(h2:n=0∨∃c,l[n-1]?=some c∧c≠32):tn l=n:=by
 rw[tn_take l n hn h];rcases h2 with rfl | ⟨c,hc,xB⟩
 ·
  simp[tn]
 have xE:=(List.getElem?_eq_some_iff.1 hc).1
 obtain⟨m,rfl⟩:∃m,n=m+1:=⟨n-1,by
  rcases Nat.eq_zero_or_pos n with h0 | h0
  ·
   subst h0;exact absurd (h 0 c (Nat.le_refl _) hc) xB
  omega⟩
 rw[List.take_succ_eq_append_getElem (by omega),tn_snoc,if_neg]
 ·
  simp;omega
 rw[Nat.add_sub_cancel,Lg (by omega)]at hc;cases hc;exact xB
theorem u8_32(b:UInt8):(((b.toNat:Nat):Int)==32)=decide (b=32):=by
 by_cases h:b=32
 ·
  subst h;rfl
 rw[decide_eq_false h,beq_eq_false_iff_ne];intro e;apply h;have e1:b.toNat=32:=by omega
 exact UInt8.toNat_inj.1 e1
theorem trim_run{d:Nat}(hd:3≤d){H:List Vi}{g v:Nat}{L:List UInt8}{gr:Bool}{cap:Option Nat}(hg:H[g]?=some ⟨5,1,bR L,v,2,gr⟩)(hL:L.length≤1000)(lo:Nat) :
  Bh LP NN d 47 [.msl g v 0 L.length cap] ⟨H,lo⟩=some (.sl 1 (bR (L.take (tn L))) (some (tn L)),⟨H,lo⟩,false):=by
 have xG:=Be hg;have wC:¬H.length≤g:=by omega
 have hbo:=bR_len L;refine Eg (F:=F47) rfl (by simp only[LP,Av,zs,zm,hg,wC,show ((2:Nat)=1)=False from by decide,and_false,or_self]<;>exact rfl) rfl (by simp only[LP,zf,zm,Bool.and_false];try rfl) (by simp only[F47,zv]<;>exact rfl) (by omega) ?_;rintro d rfl;refine Ap (Ct (Ab (Bc ?_)));refine Ap (Af rfl (xo7 (h:=Ar rfl (Ab ?_))));refine Bc ?_;refine Ak (Bo ?_);refine E8 (fun n env S'=>∃(k:Nat) (u3:D),k≤L.length∧n=k+0∧S'=⟨H,H.length⟩∧env=[.msl g v 0 L.length cap,.V5,.int .i64 k,u3]∧(∀i c,k≤i→L[i]?=some c→c=32)) (L.length) (by omega) (⟨L.length,_,by omega,rfl,rfl,rfl,fun i c h1 h2=>absurd (List.getElem?_eq_some_iff.1 h2).1 (by omega)⟩) ?_;rintro n env S' ⟨k,u3,hk,hnk,rfl,rfl,xA⟩;refine Ak (Ap (Af rfl (xo2 (h:=Ar rfl ?_))));refine O5 0 (by simp only[zv]<;>exact rfl) (by simp only[zn]<;>exact rfl) (by simp only[zn]<;>exact rfl) (fun hgA=>?_) (fun hgA=>?_)
 ·
  have xE:0<k:=by have:=of_decide_eq_true hgA;omega
  have hw:IntKind.i64.wrap ((k:Int)-1)=((k-1:Nat):Int):=by rw[IntKind.wrap_i64];omega
  have rY:k-1<L.length:=by omega
  have hbk:=Lg rY;have hbr:=bR_at hbk;have h0:(0:Int)≤((k-1:Nat):Int):=by omega
  have h1:((k-1:Nat):Int)<((L.length:Nat):Int):=by omega
  refine Bd rfl (Af rfl (Bd rfl (Af rfl (Bd rfl (Aa (by simp only[zo,Bz,hw]<;>exact rfl) ?_)))));refine Bd rfl (Aa (by simp only[zl,zm,Ch,Int.toNat_natCast,hg,h0,h1]<;>exact rfl) ?_);refine Bd rfl (Aa (by simp only[zl,zm,zd,Ay,List.take,List.drop,hg,hbr]<;>exact rfl) ?_);refine Bd rfl (xo2 (h:=xo1 (h:=?_)));refine Ab (Bc ?_);refine Dl (by simp only[opd,zv]<;>exact rfl) (fun wu=>?_) (fun wu=>?_)
  ·
   refine Bn (Cb rfl (Bo (Al (Af rfl (Aa (by simp only[zo,Bz,hw]<;>exact rfl) ?_)))));refine Ar rfl (Ab (Fu (Jh (by simp only[ze]<;>exact rfl) ?_)));refine⟨k-1,by omega,k-1,_,by omega,rfl,rfl,rfl,fun i c h1 h2=>?_⟩;rcases Nat.eq_or_lt_of_le h1 with e | e
   ·
    rw[←e,hbk]at h2;cases h2;have h:=wu;rw[u8_32]at h;exact of_decide_eq_true h
   exact xA i c (by omega) h2
  have kC:tn L=k:=tn_at hk xA (.inr ⟨_,hbk,by intro e;rw[e]at wu;simp at wu⟩);have yB:=fun lo cap=>clone8_at (d:=d) (by omega) (cap:=cap) hg hk hL lo;have hcy:=clip8_run (d:=d) (by omega) ⟨H,H.length⟩ (cloneY_S L k);rw[Uy L hk]at hcy;have zC:(k≤L.length)=True:=eq_true hk;have rZ:((0:Int)≤(k:Int))=True:=eq_true (by omega);refine Eh (J4 (K4 (Kc (Cb rfl (Ap (Af rfl (Af rfl (Aa (by simp only[zl,zm,Cx,Eb,Gm,Dr,Gn,Fb,hg,zC,rZ,Nat.sub_zero,Int.toNat_natCast,Nat.zero_le]<;>exact rfl) ?_))))))));apply Aa (by simp only[zo];exact yB _ _);apply Aa (by simp only[zo];exact hcy);refine Ar rfl (Ab (Bc ?_));apply Cy;refine⟨_,by simp only[F47,Bw,Cz,Ei,zg]<;>exact rfl,?_⟩;simp[leave,LP,Vt,Vq,snap,D.Vs,D.Vr,D.free,D.Vw,kC]
 have kC:tn L=k:=tn_at hk xA (.inl (by have:=of_decide_eq_false hgA;omega));have yB:=fun lo cap=>clone8_at (d:=d) (by omega) (cap:=cap) hg hk hL lo;have hcy:=clip8_run (d:=d) (by omega) ⟨H,H.length⟩ (cloneY_S L k);rw[Uy L hk]at hcy;have zC:(k≤L.length)=True:=eq_true hk;have rZ:((0:Int)≤(k:Int))=True:=eq_true (by omega);refine Cn rfl rfl (Cn rfl rfl (Cn rfl rfl (Cn rfl rfl (Cn rfl rfl (Cn rfl rfl (xo1 (h:=?_)))))));refine Ab (Bc ?_);apply Hy (by simp only[opd,zv]);refine Eh (J4 (K4 (Kc (Cb rfl (Ap (Af rfl (Af rfl (Aa (by simp only[zl,zm,Cx,Eb,Gm,Dr,Gn,Fb,hg,zC,rZ,Nat.sub_zero,Int.toNat_natCast,Nat.zero_le]<;>exact rfl) ?_))))))));apply Aa (by simp only[zo];exact yB _ _);apply Aa (by simp only[zo];exact hcy);refine Ar rfl (Ab (Bc ?_));apply Cy;refine⟨_,by simp only[F47,Bw,Cz,Ei,zg]<;>exact rfl,?_⟩;simp[leave,LP,Vt,Vq,snap,D.Vs,D.Vr,D.free,D.Vw,kC]
theorem prn_tab(d:Nat)(S:St):(List.range 256).map (fun k=>Dp LP NN (d+5) 46 [.str ⟨#[UInt8.ofNat k]⟩] S)=(List.range 256).map (fun k=>some (.bool (decide (32≤k)&&decide (k≤126)),S,false)):=by kernel_rfl
theorem prn_run{d:Nat}(hd:5≤d)(S:St)(b:UInt8):Bh LP NN d 46 [.str ⟨#[b]⟩] S=some (.bool (decide (32≤b.toNat)&&decide (b.toNat≤126)),S,false):=by
 obtain⟨d,rfl⟩:∃d',d=d'+5:=⟨d-5,by omega⟩;have:=fast_ok (Ku (prn_tab d S) b.toNat b.toNat_lt);rwa [UInt8.ofNat_toNat]at this
def prn (b:UInt8):UInt8:=if decide (32≤b.toNat)&&decide (b.toNat≤126) then b else 46
abbrev Ko:=Nat→Nat→UInt8
def Gp (G:Ko) (r:Nat):List UInt8:=(List.range 80).map (G r)
theorem Qc(G:Ko)(r:Nat):(Gp G r).length=80:=by simp[Gp]
def Gt (G:Ko) (f:FM) (bs:List UInt8) (k:Nat):Ko:=fun r c=>if r+1=f.line∧f.column≤c+1∧c+1<f.column+k then prn (bs.getD (c+1-f.column) 0) else G r c
def G0:Ko:=fun _ _=>32
def Fz (P:List (FM × List UInt8)):Ko:=P.foldl (fun G p=>Gt G p.1 p.2 p.1.size) G0
theorem paintK_0(G:Ko)(f:FM)(bs:List UInt8):Gt G f bs 0=G:=by
 funext r c
 unfold Gt;rw[if_neg];intro h;omega
theorem Ul{P:List (FM × List UInt8)}{i:Nat}(h:i<P.length):Fz (P.take (i+1))=Gt (Fz (P.take i)) P[i].1 P[i].2 P[i].1.size:=by
 unfold Fz;rw[List.take_succ_eq_append_getElem h,List.foldl_append];rfl
theorem Ua(G:Ko)(f:FM)(bs:List UInt8){k:Nat}(hk:k<f.size):∀r,Gp (Gt G f bs (k+1)) r=if r=f.line-1 then (Gp (Gt G f bs k) r).set (f.column-1+k) (prn (bs.getD k 0)) else Gp (Gt G f bs k) r:=by
 intro r;have hl:=f.line_le;have hc:=f.column_le;split
 ·
  rename_i hr;refine List.ext_getElem? fun c=>?_;rw[List.getElem?_set];simp only[Gp,List.length_map,List.length_range,Lp_];by_cases hc80:c<80
  ·
   rw[List.getElem?_range hc80];simp only[Option.map_some];by_cases he:f.column-1+k=c
   ·
    rw[if_pos he,if_pos (by omega)];unfold Gt;rw[if_pos (by omega),show c+1-f.column=k from by omega]
   rw[if_neg he];unfold Gt;congr 1;by_cases hx:r+1=f.line∧f.column≤c+1∧c+1<f.column+k
   ·
    rw[if_pos hx,if_pos (by omega)]
   rw[if_neg hx,if_neg (by omega)]
  have hn:(List.range 80)[c]?=none:=by simp;omega
  rw[hn];have:¬f.column-1+k=c:=by omega
  rw[if_neg this];rfl
 rename_i hr;unfold Gp;refine List.map_congr_left fun c hc=>?_;unfold Gt;rw[if_neg (by omega),if_neg (by omega)]
def lnO (L:List UInt8):Vi:=⟨5,1,bR L,0,2,true⟩
def b32O:Vi:=⟨5,1,[[.int .u8 32]],0,2,false⟩
def LNi (G:Ko) (i:Nat):List Vi:=(List.range i).flatMap fun r=>[b32O,lnO (Gp G r)]
theorem Lj(G:Ko)(i:Nat):(LNi G i).length=2*i:=by
 induction i with
 | zero=>rfl
 | succ i ih=>unfold LNi at ih ⊢;rw[List.range_succ,List.flatMap_append,Ll_,ih];simp;omega
theorem Sa(G:Ko)(i:Nat):LNi G (i+1)=LNi G i++[b32O,lnO (Gp G i)]:=by
 unfold LNi;rw[List.range_succ,List.flatMap_append];simp
theorem LNi_at(G:Ko):∀{i r:Nat},r<i→(LNi G i)[2*r+1]?=some (lnO (Gp G r))
 | i + 1, r, h => by
  rw[Sa];by_cases hr:r<i
  ·
   rw[La_ (by rw[Lj];omega)];exact LNi_at G hr
  have:r=i:=by omega
  subst this;rw[Lr_ (by rw[Lj];omega),Lj];simp[show 2*r+1-2*r=1 from by omega]
theorem LNi_set(G G':Ko):∀{i r:Nat} {L:List UInt8},r<i→(∀j,Gp G' j=if j=r then L else Gp G j)→(LNi G i).set (2*r+1) (lnO L)=LNi G' i
 | i + 1, r, L, h, hG => by
  rw[Sa,Sa];by_cases hr:r<i
  ·
   rw[List.set_append_left _ _ (by rw[Lj];omega),LNi_set G G' hr hG,hG i,if_neg (by omega)]
  have:r=i:=by omega
  subst this;rw[List.set_append_right _ _ (by rw[Lj];omega),Lj,show 2*r+1-2*r=1 from by omega,hG r,if_pos rfl]
  have yY:LNi G r=LNi G' r:=by
   unfold LNi;rw[List.flatMap_def,List.flatMap_def];congr 1;refine List.map_congr_left fun j hj=>?_;have:=List.mem_range.1 hj;rw[hG j,if_neg (by omega)]
  rw[yY];rfl
def Q0 (n0 i:Nat):List (List D):=(List.range 24).map fun r=>if r<i then [.msl (n0+(3+2*r)) 0 0 80 (some 80)] else [.V5]
def GLi (n0 i:Nat):Vi:=⟨42,1,Q0 n0 i,0,0,false⟩
theorem Jw{n0 i r:Nat}(h:r<24):(Q0 n0 i)[r]?=some (if r<i then [.msl (n0+(3+2*r)) 0 0 80 (some 80)] else [.V5]):=by simp[Q0,h]
theorem Np(n0 i:Nat):(Q0 n0 i).length=24:=by simp[Q0]
theorem glRows_set{n0 i:Nat}(h:i<24):(Q0 n0 i).set i [.msl (n0+(3+2*i)) 0 0 80 (some 80)]=Q0 n0 (i+1):=by
 refine List.ext_getElem? fun j=>?_;rw[List.getElem?_set];by_cases hj:i=j
 ·
  subst hj;rw[if_pos rfl,if_pos (by rw[Np];exact h),Jw h,if_pos (by omega)]
 rw[if_neg hj];by_cases h24:j<24
 ·
  rw[Jw h24,Jw h24];by_cases hi:j<i
  ·
   rw[if_pos hi,if_pos (by omega)]
  rw[if_neg hi,if_neg (by omega)]
 rw[List.getElem?_eq_none (by rw[Np];omega),List.getElem?_eq_none (by rw[Np];omega)]
def HB (sb:Vi) (n0:Nat) (G:Ko):List Vi:=sb::GLi n0 24::LNi G 24
theorem Py(sb:Vi)(n0:Nat)(G:Ko):(HB sb n0 G).length=50:=by simp[HB,Lj]
section
variable (H:List Vi) (sb:Vi) (G:Ko) (t:List Vi)
theorem HB_sb:(H++(HB sb H.length G++t))[H.length]?=some sb:=by rw[Dm];rfl
theorem HB_gl:(H++(HB sb H.length G++t))[H.length+1]?=some (GLi H.length 24):=by rw[Dq];rfl
theorem HB_ln{r:Nat}(h:r<24):(H++(HB sb H.length G++t))[H.length+(3+2*r)]?=some (lnO (Gp G r)):=by
 rw[Dq,La_ (by rw[Py];omega),show 3+2*r=(2*r+1)+1+1 from by omega];exact LNi_at G h
theorem HB_set{G':Ko}{r:Nat}{L:List UInt8}(h:r<24)(hG:∀j,Gp G' j=if j=r then L else Gp G j):(H++(HB sb H.length G++t)).set (H.length+(3+2*r)) (lnO L)=H++(HB sb H.length G'++t):=by
 rw[D8,List.set_append_left _ _ (by rw[Py];omega),show 3+2*r=(2*r+1)+1+1 from by omega];unfold HB;rw[List.set_cons_succ,List.set_cons_succ,LNi_set G G' h hG]
theorem HB_new(o:Vi)(m:List Vi):(H++(HB sb H.length G++(t++o::m)))[H.length+(50+t.length)]?=some o:=by
 rw[Dq,←Lo_,Lr_ (by simp[Py]),Ll_,Py];simp
theorem HB_newS(o y:Vi)(m:List Vi):(H++(HB sb H.length G++(t++o::m))).set (H.length+(50+t.length)) y=H++(HB sb H.length G++(t++y::m)):=by
 rw[D8,←Lo_,List.set_append_right _ _ (by simp[Py]),Ll_,Py];simp
end
theorem bR_set(L:List UInt8)(c:Nat)(b:UInt8):(bR L).set c [.int .u8 b.toNat]=bR (L.set c b):=by simp[bR,List.map_set]
theorem spR_blank(r:Nat):spR 80=bR (Gp G0 r):=by
 have:Gp G0 r=List.replicate 80 32:=by
  show (List.range 80).map (fun _=>(32:UInt8))=_;rw[List.map_const',List.length_range]
 rw[this];simp[spR,bR]
structure SrcV (H:List Vi) (x:D) (vals:List D) (gv vv:Nat):Prop where
 len:Ji false x=some (.int .i64 (vals.length:Nat))
 cell:x.Vv=true
 Vq:∀m l,Vq m (H++l) x=some x
 ia:∀l lo i,i<vals.length→Gd ⟨H++l,lo⟩ 1 x (.int .i64 (i:Nat))=some (.ptr gv vv i 0)
 ld:∀l lo i v,vals[i]?=some v→Jn 1 false ⟨H++l,lo⟩ (.ptr gv vv i 0)=some v
structure RdB (H:List Vi) (w:D) (bs:List UInt8):Prop where
 len:Ji false w=some (.int .i64 (bs.length:Nat))
 cell:w.Vv=true
 rd:∀(k:Nat) (b:UInt8),bs[k]?=some b→∃A,∀l lo,Gd ⟨H++l,lo⟩ 1 w (.int .i64 (k:Nat))=some A∧Jn 1 false ⟨H++l,lo⟩ A=some (.int .u8 (b.toNat:Nat))
theorem SlD.rdb{w:D}{bs:List UInt8}(h:SlD 1 (bR bs) w)(H:List Vi):RdB H w bs:=by
 refine⟨by rw[h.len,bR_len],h.Vv,fun k b hb=>⟨.V7 [.int .u8 (b.toNat:Nat)] 0,fun l lo=>⟨h.iaddrN _ .i64 (bR_at hb),rfl⟩⟩⟩
def Fits (H:List Vi) (f:FM) (bs:List UInt8) (v:D):Prop:=bs.length=f.size∧if f.kind=1 then bs=f.text.data.toList else RdB H v bs
def trS (G:Ko) (r:Nat):ByteArray:=⟨((Gp G r).take (tn (Gp G r))).toArray⟩
def Jl (G:Ko) (i:Nat):List (List D):=(List.range 24).map fun r=>if r<i then [.str (trS G r)] else [.str ⟨#[]⟩]
theorem Nh{G:Ko}{i r:Nat}(h:r<24):(Jl G i)[r]?=some (if r<i then [.str (trS G r)] else [.str ⟨#[]⟩]):=by simp[Jl,h]
theorem J7(G:Ko)(i:Nat):(Jl G i).length=24:=by simp[Jl]
theorem outRows_set{G:Ko}{i:Nat}(h:i<24):(Jl G i).set i [.str (trS G i)]=Jl G (i+1):=by
 refine List.ext_getElem? fun j=>?_;rw[List.getElem?_set];by_cases hj:i=j
 ·
  subst hj;rw[if_pos rfl,if_pos (by rw[J7];exact h),Nh h,if_pos (by omega)]
 rw[if_neg hj];by_cases h24:j<24
 ·
  rw[Nh h24,Nh h24];by_cases hi:j<i
  ·
   rw[if_pos hi,if_pos (by omega)]
  rw[if_neg hi,if_neg (by omega)]
 rw[List.getElem?_eq_none (by rw[J7];omega),List.getElem?_eq_none (by rw[J7];omega)]
theorem SrcF.mono{H:List Vi}{x:D}{rows:List (List D)}{gs v:Nat}(h:SrcF H x rows gs v)(l:List Vi):SrcF (H++l) x rows gs v :=
 ⟨h.len,h.cell,fun m l'=>by rw[Lo_];exact h.snap m _,h.fpi,fun l' lo i hi=>by rw[Lo_];exact h.ia _ lo i hi,fun l' lo i r hr h16=>by rw[Lo_];exact h.ld _ lo i r hr h16⟩
abbrev sbO (nm:ByteArray) (x:D) (p0 c0:Nat):Vi:=⟨36,4,[[.str nm,x,.int .i64 (p0:Nat),.int .i64 (c0:Nat)]],0,0,false⟩
theorem show_run{d:Nat}(hd:24≤d){H:List Vi}{x xv:D}{rows:List (List D)}{vals:List D}{gs v gv vv:Nat}{P:List (FM × List UInt8)}(hS:SrcF H x rows gs v)(hR:RW (P.map (·.1)) rows)(hv:SrcV H xv vals gv vv)(xg:P.length≤256)(qc:vals.length=P.length)(yQ:∀(i:Nat) (p:FM × List UInt8) (w:D),P[i]?=some p→vals[i]?=some w→Fits H p.1 p.2 w)(nm:ByteArray)(p0 c0:Nat)(lo:Nat) :
  Bh LP NN d 20 [.agg [.str nm,x,.int .i64 (p0:Nat),.int .i64 (c0:Nat)],xv] ⟨H,lo⟩=some (.tup [.sl 1 (Jl (Fz P) 24) (some 24),.int .i64 0],⟨H,lo⟩,false):=by
 have hvz:∀m,Go.Proofs.YtkaedpmmopigkaaGreatDoor.Vq m H xv=some xv:=fun m=>by have:=hv.Vq m [];rwa [List.append_nil]at this
 have yV:=hR.len;rw[List.length_map]at yV;have hE:(((vals.length:Nat):Int) != ((rows.length:Nat):Int))=false:=by rw[qc,yV,bne_self_eq_false]
 have hchk:∀d',d=d'+1→∀l lo,Bh LP NN d' 13 [.agg [.str nm,x,.int .i64 (p0:Nat),.int .i64 (c0:Nat)]] ⟨H++l,lo⟩=some (.int .i64 0,⟨H++l,lo⟩,false):=fun d' e l lo=>check_run (l0:=P.map (·.1)) (by omega) (hS.mono l) hR (by rw[List.length_map];omega) nm p0 c0 lo;refine Eg (F:=F20) rfl (by simp only[LP,Av,Cg,zs,zm,hS.zero,hvz]<;>exact rfl) rfl (by simp only[LP,zf,zm];try rfl) (by simp only[F20,zv]<;>exact rfl) (by omega) ?_;rintro d rfl;refine Ap (Aa (by simp only[zl,zm,zc,hS.cell]<;>exact rfl) ?_);refine Ct (Ct (Ab (Bc ?_)));refine Ak (Ap (xo4 (h:=Aa (by simp only[zo];exact hchk d rfl _ _) ?_)));refine Ar rfl (Ab (Bc ?_));refine Ap (Af rfl (xo2 (h:=?_)));refine Ab (Bc ?_);refine D5 ?_;refine Bn (Cb rfl (Ak (Ap (Af rfl (Aa (by simp only[zo,hv.len]<;>exact rfl) ?_)))));refine xo0 (h:=xo4 (h:=Aa (by simp only[zo,hS.len]<;>exact rfl) ?_));apply Aa (by simp only[zo,Bz,hE]<;>exact rfl);refine Ab (Bc ?_);refine D5 ?_;refine Bn (Cb rfl (Ap (Aa (by simp only[zl,zm,Int.reduceToNat]<;>exact rfl) ?_)));refine Ar rfl (Ab (Bc ?_));refine Ak (Ap (Af rfl (xo7 (h:=?_))));refine Ct (Ab (Bc ?_));refine Bo (E8 (fun n env S'=>∃(i:Nat) (u7 u20:D),i≤24∧n=24-i∧S'=⟨H++(sbO nm x p0 c0::GLi H.length i::LNi G0 i),H.length⟩∧env=[.agg [.str nm,x,.int .i64 (p0:Nat),.int .i64 (c0:Nat)],xv,.ptr H.length 0 0 0,.V5,.int .i64 0,.int .i64 0,.msl (H.length+1) 0 0 24 none,u7,.undef,.undef,.undef,.undef,.undef,.undef,.undef,.undef,.bool false,.bool false,.int .i64 24,.int .i64 (i:Nat),u20,.undef,.undef,.undef,.undef,.undef,.undef,.undef,.undef,.undef,.undef,.undef,.undef,.undef,.undef,.undef]) (24) (by omega) (⟨0,_,_,by omega,by omega,rfl,rfl⟩) ?_);rintro n env S' ⟨i,u7,u20,hi,hnk,rfl,rfl⟩;refine Ap (xo2 (h:=?_));refine Ab (Bc ?_);apply Ak;refine Dl (by simp only[opd,zv]<;>exact rfl) (fun zy=>?_) (fun zy=>?_)
 ·
  have xE:i<24:=by have:=of_decide_eq_true zy;omega
  have hw:=Ee i (by omega);have hga:=(Jw (n0:=H.length) (i:=i) xE).trans (by rw[if_neg (by omega)]);have hgs:=glRows_set (n0:=H.length) xE;have xG:=Np H.length i;have h0:(0:Int)≤(i:Int):=by omega
  have h24:(i:Int)<((24:Nat):Int):=by omega
  have rW:=Lj G0 i
  have hb32:(H++(sbO nm x p0 c0::GLi H.length i::(LNi G0 i++[⟨5,1,[[.int .u8 32]],0,2,false⟩])))[H.length+(2*i+1+1)]?=some ⟨5,1,[[.int .u8 32]],0,2,false⟩:=by
   rw[Dq,Ls_,Ls_,Lr_ (by rw[rW];omega),rW];simp
  have hrep:=fun lo=>repeat_run (d:=d) (by omega) hb32 lo
  have xg:(H++(sbO nm x p0 c0::GLi H.length i::(LNi G0 i++[⟨5,1,[[.int .u8 32]],0,2,false⟩]))).length=H.length+(3+2*i):=by
   simp[rW];omega
  have xW:min H.length (H.length+(3+2*i))=H.length:=by omega
  have hLN:LNi G0 (i+1)=LNi G0 i++[⟨5,1,[[.int .u8 32]],0,2,false⟩,⟨5,1,spR 80,0,2,true⟩]:=by rw[Sa,spR_blank i];rfl
  rw[xg]at hrep;refine Bn (Cb rfl (Ak (Bo (Ap (Af rfl (Ar rfl (Ab (Bc ?_))))))));refine Al (Af rfl (Af rfl (Aa (by simp only[zl,zm,Cf,List.replicate,Av,zs,zc,zf,rW,GLi]<;>exact rfl) ?_)));apply Aa (by simp only[zo];exact (hrep _));apply Aa (by simp only[zl,zm,Ch,Int.toNat_natCast,h0,h24,GLi,xW]<;>exact rfl);apply Aa (by simp only[zl,zm,Bj,overlay,zs,zc,zf,List.take,List.drop,hga,hgs,rW]<;>exact rfl);refine Ab (Fu (Bc ?_));refine Al (Aa (by simp only[zo,Bz,hw]<;>exact rfl) ?_);refine Ar rfl (Ab (Jh (by simp only[ze]<;>exact rfl) ?_));exact⟨24-(i+1),by omega,i+1,_,_,by omega,rfl,by rw[hLN];rfl,rfl⟩
 have hi':i=24:=by have:=of_decide_eq_false zy;omega
 subst hi';refine Eh (J4 (K4 (Kc (Cb rfl (Ak (Ap (xo0 (h:=xo4 (h:=Aa (by simp only[zo,hS.len]<;>exact rfl) ?_)))))))));refine Ct (Ab (Bc ?_));refine Bo (E8 (fun n env S'=>∃(i:Nat) (t:List Vi) (u7 u8 u9 u10 u11 u12 u19 u20 u24 u25 u26 u27 u28 u29 u30 u31:D),i≤P.length∧n=P.length-i∧S'=⟨H++(HB (sbO nm x p0 c0) H.length (Fz (P.take i))++t),H.length⟩∧env=[.agg [.str nm,x,.int .i64 (p0:Nat),.int .i64 (c0:Nat)],xv,.ptr H.length 0 0 0,.V5,.int .i64 0,.int .i64 0,.msl (H.length+1) 0 0 24 none,u7,u8,u9,u10,u11,u12,.undef,.undef,.undef,.bool false,.bool false,.int .i64 24,u19,u20,x,.int .i64 rows.length,.int .i64 (i:Nat),u24,u25,u26,u27,u28,u29,u30,u31,.undef,.undef,.undef,.undef]) (P.length) (by omega) (⟨0,[],_,_,_,_,_,_,_,_,_,_,_,_,_,_,_,_,by omega,by omega,by rw[List.append_nil,List.take_zero];rfl,rfl⟩) ?_);rintro n env S' ⟨i,t,u7,u8,u9,u10,u11,u12,u19,u20,u24,u25,u26,u27,u28,u29,u30,u31,hi,hnk,rfl,rfl⟩;refine Ap (xo2 (h:=?_));refine Ab (Bc ?_);apply Ak;refine Dl (by simp only[opd,zv]<;>exact rfl) (fun zW=>?_) (fun zW=>?_)
 ·
  have xE:i<P.length:=by have:=of_decide_eq_true zW;omega
  have hw:=Ee i (by omega);obtain⟨f,bs,hPe⟩:∃f bs,P[i]=(f,bs):=⟨_,_,rfl⟩;have hPi:P[i]?=some (f,bs):=by rw[Lg xE,hPe]
  obtain⟨w,hwi⟩:∃w,vals[i]?=some w:=⟨_,Lg (by omega)⟩;obtain⟨hbl,hbf⟩:=yQ i _ w hPi hwi;simp only at hbl hbf;have hltr:i<rows.length:=by omega
  have yG:=fun l lo=>hS.ia l lo i hltr;have hiv:=fun l lo=>hv.ia l lo i (by omega);have hlv:=fun l lo=>hv.ld l lo i w hwi;obtain⟨p,y9⟩:=hR.at_ (i:=i) (by rw[List.length_map];exact xE);have hfe:(P.map (·.1))[i]'(by rw[List.length_map];exact xE)=f:=by rw[List.getElem_map,hPe]
  rw[hfe]at y9;have ru:=fun (l:List Vi) lo=>hS.ld l lo i _ y9 (by rw[Rk];exact Nat.le_refl _);rw[Sj]at ru;obtain⟨tx,op,nu,r1,r2,hrf,htx,yZ,xS,zM⟩:=Sk f p;rw[hrf]at ru;obtain⟨G,hG⟩:∃G,G=Fz (P.take i):=⟨_,rfl⟩;rw[←hG];have xK:=f.size_le;have uI:=f.kind_le;have vW:=fun G o m=>HB_new H (sbO nm x p0 c0) G t o m;have hns:=fun G o y m=>HB_newS H (sbO nm x p0 c0) G t o y m;have kM:=fun G=>Py (sbO nm x p0 c0) H.length G;have hsbo:=fun G t=>HB_sb H (sbO nm x p0 c0) G t;by_cases hk1':f.kind=1
  ·
   obtain⟨rfl,rfl,rfl,rfl⟩:=xS hk1';rw[if_pos hk1']at hbf;have e1:(((f.kind:Nat):Int)==1)=true:=by rw[beq_iff_eq];omega
   have hb:RdB H (.sl 1 (Cu f.text) none) bs:=by rw[hbf];exact SlD.rdb (.of _ _ _) H
   have kK:(Cu f.text).length=f.size:=by rw[Ny,Sc]
   refine Bn (Cb rfl (Ak (Bo (Ap (Af rfl (Aa (by simp only[zl,zm,yG]<;>exact rfl) ?_))))));apply Aa (by simp only[zl,zm,ru]<;>exact rfl);apply Aa (by simp only[zl,zm,kM]<;>exact rfl);refine Ar rfl (Aa (by simp only[zl,zm,Bj,overlay,Cg,zs,zc,zf,List.take,List.drop,vW,hns,kM,htx.Vv,yZ.Vv]<;>exact rfl) ?_);refine Ab (Bc ?_);refine Ap (Af rfl (Af rfl (Aa (by simp only[zl,zm,hiv]<;>exact rfl) ?_)));apply Aa (by simp only[zl,zm,hlv]<;>exact rfl);refine Ar rfl (Ab (Bc ?_));refine Ak (Ap (xo0 (h:=Aa (by simp only[zl,zm,zd,Ay,List.take,List.drop,vW]<;>exact rfl) ?_)));apply Aa (by simp only[zo,Bz,e1]<;>exact rfl);refine Ab (Bc ?_);refine Mx ?_;refine Al (xo0 (h:=Aa (by simp only[zl,zm,zd,Ay,List.take,List.drop,vW]<;>exact rfl) ?_));refine Ar rfl (Ab (Bc ?_));refine Ak (Ap (Af rfl (Aa (by simp only[zo,Kn,kK]<;>exact rfl) ?_)));refine xo0 (h:=xo0 (h:=Aa (by simp only[zl,zm,zd,Ay,List.take,List.drop,vW]<;>exact rfl) ?_));apply Aa (by simp only[zo,Bz,bne_self_eq_false]<;>exact rfl);refine Ab (Bc ?_);refine D5 ?_;refine Bn (Cb rfl (Ap (Af rfl (Aa (by simp only[zo,Kn,kK]<;>exact rfl) ?_))));refine Ct (Ab (Bc ?_));refine Bo (E8 (fun n env S'=>∃(k:Nat) (t2:List Vi) (v11 v12 v30 v31:D),k≤f.size∧n=f.size-k∧S'=⟨H++(HB (sbO nm x p0 c0) H.length (Gt G f bs k)++(t++FO [.int .i64 (f.line:Nat),.int .i64 (f.column:Nat),.int .u8 (f.kind:Nat),.sl 1 (Cu f.text) none,.int .u8 (if false then (if f.size=1 then 4 else 5) else 2),.int .u8 0,.str (Lp false f.size),.int .i64 (if false then (f.size:Nat) else 0),.int .i64 0,.bool false,.bool false,.bool false,.bool false,.bool false,.int .i64 (f.size:Nat),.V5]::t2)),H.length⟩∧env=[.agg [.str nm,x,.int .i64 (p0:Nat),.int .i64 (c0:Nat)],xv,.ptr H.length 0 0 0,.V5,.int .i64 0,.int .i64 0,.msl (H.length+1) 0 0 24 none,u7,.int .i64 (i:Nat),.ptr (H.length+(50+t.length)) 0 0 0,(.sl 1 (Cu f.text) none),v11,v12,.undef,.undef,.undef,.bool false,.bool false,.int .i64 24,u19,u20,x,.int .i64 rows.length,.int .i64 (i:Nat),.bool (decide (((i:Nat):Int)<((rows.length:Nat):Int))),.bool true,.bool false,(.sl 1 (Cu f.text) none),.int .i64 (f.size:Nat),.int .i64 (k:Nat),v30,v31,.undef,.undef,.undef,.undef]) (f.size) (by omega) (⟨0,[],_,_,_,_,by omega,by omega,by rw[paintK_0];rfl,rfl⟩) ?_);rintro n env S' ⟨k,t2,v11,v12,v30,v31,hk,hnk2,rfl,rfl⟩;refine Ap (Aa (by simp only[zo,Bz,FO]<;>exact rfl) ?_);refine Ab (Bc ?_);apply Ak;refine Dl (by simp only[opd,zv]<;>exact rfl) (fun uQ=>?_) (fun uQ=>?_)
   ·
    have rY:k<f.size:=by have:=of_decide_eq_true uQ;omega
    have hwk:=Ee k (by omega);have hbk:bs[k]?=some (bs[k]'(by omega)):=Lg _;obtain⟨c,hc⟩:∃c,c=bs[k]'(by omega):=⟨_,rfl⟩;rw[←hc]at hbk;obtain⟨A,hA⟩:=hb.rd k c hbk;have hiab:=fun l lo=>(hA l lo).1;have hlab:=fun l lo=>(hA l lo).2;have hln:=f.line_le;have hcn:=f.column_le;have hwl:IntKind.i64.wrap (((f.line:Nat):Int)-1)=((f.line-1:Nat):Int):=by rw[IntKind.wrap_i64];omega
    have hwc:IntKind.i64.wrap (((f.column:Nat):Int)-1)=((f.column-1:Nat):Int):=by rw[IntKind.wrap_i64];omega
    have ku:IntKind.i64.wrap (((f.column-1:Nat):Int)+((k:Nat):Int))=((f.column-1+k:Nat):Int):=by rw[IntKind.wrap_i64];omega
    have vT:f.line-1<24:=by omega
    have hc80:f.column-1+k<80:=by omega
    have xG:=fun G t=>HB_gl H (sbO nm x p0 c0) G t;have rE:=(Jw (n0:=H.length) (i:=24) vT).trans (by rw[if_pos vT]);have vE:=fun G t=>HB_ln H (sbO nm x p0 c0) G t vT
    have hnw2:∀(G:Ko) (fo o:Vi),(H++(HB (sbO nm x p0 c0) H.length G++(t++fo::(t2++[o]))))[H.length+(50+(t.length+(t2.length+1)))]?=some o:=fun G fo o=>by
     have:=HB_new H (sbO nm x p0 c0) G (t++fo::t2) o [];simpa using this
    have hbo:bytesOf [[D.int .u8 (c.toNat:Nat)]]=some [c]:=by simp[bytesOf]
    have hp:=fun S=>prn_run (d:=d) (by omega) S c;have yR:UInt8.ofNat (((c.toNat:Nat):Int)).toNat=c:=by simp
    have hp2:∀S,Bh LP NN d 46 [.str ⟨#[UInt8.ofNat (((c.toNat:Nat):Int)).toNat]⟩] S=some (.bool (decide (32≤c.toNat)&&decide (c.toNat≤126)),S,false):=fun S=>by rw[yR];exact hp S
    have wL:=bR_at (Lg (l:=Gp (Gt G f bs k) (f.line-1)) (i:=f.column-1+k) (by rw[Qc];exact hc80))
    have xX:∀(v:UInt8) m,v=prn c→(H++(HB (sbO nm x p0 c0) H.length (Gt G f bs k)++m)).set (H.length+(3+2*(f.line-1))) ⟨5,1,(bR (Gp (Gt G f bs k) (f.line-1))).set (f.column-1+k) [.int .u8 (v.toNat:Nat)],0,2,true⟩=H++(HB (sbO nm x p0 c0) H.length (Gt G f bs (k+1))++m):=fun v m e=>by
     subst e;rw[bR_set];refine HB_set H _ (Gt G f bs k) m vT fun j=>?_;rw[Ua G f bs rY j];have:bs.getD k 0=c:=by rw[List.getD_eq_getElem?_getD,hbk];rfl
     rw[this];split
     ·
      rename_i e;rw[e]
     rfl
    have z1:(0:Int)≤((f.line-1:Nat):Int):=by omega
    have z2:((f.line-1:Nat):Int)<((24:Nat):Int):=by omega
    have z3:(0:Int)≤((f.column-1+k:Nat):Int):=by omega
    have z4:((f.column-1+k:Nat):Int)<((80:Nat):Int):=by omega
    refine Bn (Cb rfl (Ak (Bo (Ap (Af rfl (Aa (by simp only[zl,zm,hiab]<;>exact rfl) ?_))))));apply Aa (by simp only[zl,zm,hlab]<;>exact rfl);refine Ar rfl (Ar rfl (Ab (Bc ?_)));refine Ak (Ap (Af rfl (Aa (by simp only[zl,zm,Cf,List.replicate,Av,zs,zc,zf,kM]<;>exact rfl) ?_)));apply Aa (by simp only[zl,zm,Jk,hnw2]<;>exact rfl)
    first
     | refine Aa (by simp only[zo];exact hp _) ?_
     | refine Aa (by simp only[zo];exact hp2 _) ?_
    refine U4 (h:=?_);refine Ab (Bc ?_);refine Dl (by simp only[opd,zv]<;>exact rfl) (fun wT=>?_) (fun wT=>?_)
    ·
     have hv46:(46:UInt8)=prn c:=by
      have h:=wT;unfold prn;rw[if_neg (by intro h2;rw[h2]at h;cases h)]
     have wR:=fun m=>xX 46 m hv46;simp only[show ((((46:UInt8).toNat:Nat):Int))=46 from rfl]at wR;have vP:=fun m=>List.append_cancel_left ((D8 H _ _ _).symm.trans (wR m));refine Al (Ct (Ab (Bc ?_)));refine Hz ?_;refine Ca rfl rfl (xo3 (h:=Dk (by simp only[zl,zm,zd,Ay,List.take,List.drop,vW]<;>exact rfl) rfl ?_));apply Am (by simp only[zo,Bz,hwl]<;>exact rfl) rfl rfl;refine Dk (by simp only[zl,zm,Ch,Int.toNat_natCast,xG,z1,z2,GLi]<;>exact rfl) rfl ?_;refine Dk (by simp only[zl,zm,zd,Ay,List.take,List.drop,xG,rE,GLi]<;>exact rfl) rfl ?_;refine xo3 (h:=Dk (by simp only[zl,zm,zd,Ay,List.take,List.drop,vW]<;>exact rfl) rfl ?_);apply Am (by simp only[zo,Bz,hwc]<;>exact rfl) rfl rfl;refine Ca rfl rfl (Am (by simp only[zo,Bz,ku]<;>exact rfl) rfl rfl ?_);refine Ca rfl rfl (Dk (by simp only[zl,zm,Ch,Int.toNat_natCast,vE,z3,z4,lnO]<;>exact rfl) rfl ?_);refine Dk (by simp only[zl,zm,Bj,overlay,zs,List.take,kM,vE,wL,lnO]<;>exact rfl) rfl ?_;refine Cw (Fu (Bc ?_));refine Al (Aa (by simp only[zo,Bz,hwk]<;>exact rfl) ?_);refine Ar rfl (Ab (Jh (by simp only[ze]<;>exact rfl) ?_));exact⟨f.size-(k+1),by omega,k+1,_,_,_,_,_,by omega,rfl,by rw[←vP];rfl,rfl⟩
    have hvc:c=prn c:=by
     have h:=wT;unfold prn;rw[if_pos (by simpa using h)]
    have wR:=fun m=>xX c m hvc;have vP:=fun m=>List.append_cancel_left ((D8 H _ _ _).symm.trans (wR m));refine Bn (Cb rfl (Hz ?_));refine Ca rfl rfl (xo3 (h:=Dk (by simp only[zl,zm,zd,Ay,List.take,List.drop,vW]<;>exact rfl) rfl ?_));apply Am (by simp only[zo,Bz,hwl]<;>exact rfl) rfl rfl;refine Dk (by simp only[zl,zm,Ch,Int.toNat_natCast,xG,z1,z2,GLi]<;>exact rfl) rfl ?_;refine Dk (by simp only[zl,zm,zd,Ay,List.take,List.drop,xG,rE,GLi]<;>exact rfl) rfl ?_;refine xo3 (h:=Dk (by simp only[zl,zm,zd,Ay,List.take,List.drop,vW]<;>exact rfl) rfl ?_);apply Am (by simp only[zo,Bz,hwc]<;>exact rfl) rfl rfl;refine Ca rfl rfl (Am (by simp only[zo,Bz,ku]<;>exact rfl) rfl rfl ?_);refine Ca rfl rfl (Dk (by simp only[zl,zm,Ch,Int.toNat_natCast,vE,z3,z4,lnO]<;>exact rfl) rfl ?_);refine Dk (by simp only[zl,zm,Bj,overlay,zs,List.take,kM,vE,wL,lnO]<;>exact rfl) rfl ?_;refine Cw (Fu (Bc ?_));refine Al (Aa (by simp only[zo,Bz,hwk]<;>exact rfl) ?_);refine Ar rfl (Ab (Jh (by simp only[ze]<;>exact rfl) ?_));exact⟨f.size-(k+1),by omega,k+1,_,_,_,_,_,by omega,rfl,by rw[←vP];rfl,rfl⟩
   have hk':k=f.size:=by have:=of_decide_eq_false uQ;omega
   subst hk';refine Eh (J4 (K4 (Kc (Fu (Cb rfl (Al (Aa (by simp only[zo,Bz,hw]<;>exact rfl) ?_)))))));refine Ar rfl (Ab (Jh (by simp only[ze]<;>exact rfl) ?_));exact⟨P.length-(i+1),by omega,i+1,_,_,_,_,_,_,_,_,_,_,_,_,_,_,_,_,_,by omega,rfl,by rw[Ul xE,hPe,←hG],rfl⟩
  rw[if_neg hk1']at hbf;have e1:(((f.kind:Nat):Int)==1)=false:=by rw[beq_eq_false_iff_ne];omega
  have hb:=hbf;have kK:=hb.len;rw[hbl]at kK;refine Bn (Cb rfl (Ak (Bo (Ap (Af rfl (Aa (by simp only[zl,zm,yG]<;>exact rfl) ?_))))));apply Aa (by simp only[zl,zm,ru]<;>exact rfl);apply Aa (by simp only[zl,zm,kM]<;>exact rfl);refine Ar rfl (Aa (by simp only[zl,zm,Bj,overlay,Cg,zs,zc,zf,List.take,List.drop,vW,hns,kM,htx.Vv,yZ.Vv]<;>exact rfl) ?_);refine Ab (Bc ?_);refine Ap (Af rfl (Af rfl (Aa (by simp only[zl,zm,hiv]<;>exact rfl) ?_)));apply Aa (by simp only[zl,zm,hlv]<;>exact rfl);refine Ar rfl (Ab (Bc ?_));refine Ak (Ap (xo0 (h:=Aa (by simp only[zl,zm,zd,Ay,List.take,List.drop,vW]<;>exact rfl) ?_)));apply Aa (by simp only[zo,Bz,e1]<;>exact rfl);refine Ab (Bc ?_);refine D5 ?_;refine Bn (Cb rfl (Ak (Ap (Af rfl (Aa (by simp only[zo,kK]<;>exact rfl) ?_)))));refine xo0 (h:=xo0 (h:=Aa (by simp only[zl,zm,zd,Ay,List.take,List.drop,vW]<;>exact rfl) ?_));apply Aa (by simp only[zo,Bz,bne_self_eq_false]<;>exact rfl);refine Ab (Bc ?_);refine D5 ?_;refine Bn (Cb rfl (Ap (Af rfl (Aa (by simp only[zo,kK]<;>exact rfl) ?_))));refine Ct (Ab (Bc ?_));refine Bo (E8 (fun n env S'=>∃(k:Nat) (t2:List Vi) (v11 v12 v30 v31:D),k≤f.size∧n=f.size-k∧S'=⟨H++(HB (sbO nm x p0 c0) H.length (Gt G f bs k)++(t++FO [.int .i64 (f.line:Nat),.int .i64 (f.column:Nat),.int .u8 (f.kind:Nat),tx,.int .u8 (if nu then (if f.size=1 then 4 else 5) else 2),.int .u8 0,.str (Lp nu f.size),.int .i64 (if nu then (f.size:Nat) else 0),.int .i64 0,.bool false,.bool false,.bool false,.bool false,.bool false,.int .i64 (f.size:Nat),op]::t2)),H.length⟩∧env=[.agg [.str nm,x,.int .i64 (p0:Nat),.int .i64 (c0:Nat)],xv,.ptr H.length 0 0 0,.V5,.int .i64 0,.int .i64 0,.msl (H.length+1) 0 0 24 none,u7,.int .i64 (i:Nat),.ptr (H.length+(50+t.length)) 0 0 0,w,v11,v12,.undef,.undef,.undef,.bool false,.bool false,.int .i64 24,u19,u20,x,.int .i64 rows.length,.int .i64 (i:Nat),.bool (decide (((i:Nat):Int)<((rows.length:Nat):Int))),.bool false,.bool false,w,.int .i64 (f.size:Nat),.int .i64 (k:Nat),v30,v31,.undef,.undef,.undef,.undef]) (f.size) (by omega) (⟨0,[],_,_,_,_,by omega,by omega,by rw[paintK_0];rfl,rfl⟩) ?_);rintro n env S' ⟨k,t2,v11,v12,v30,v31,hk,hnk2,rfl,rfl⟩;refine Ap (Aa (by simp only[zo,Bz,FO]<;>exact rfl) ?_);refine Ab (Bc ?_);apply Ak;refine Dl (by simp only[opd,zv]<;>exact rfl) (fun uP=>?_) (fun uP=>?_)
  ·
   have rY:k<f.size:=by have:=of_decide_eq_true uP;omega
   have hwk:=Ee k (by omega);have hbk:bs[k]?=some (bs[k]'(by omega)):=Lg _;obtain⟨c,hc⟩:∃c,c=bs[k]'(by omega):=⟨_,rfl⟩;rw[←hc]at hbk;obtain⟨A,hA⟩:=hb.rd k c hbk;have hiab:=fun l lo=>(hA l lo).1;have hlab:=fun l lo=>(hA l lo).2;have hln:=f.line_le;have hcn:=f.column_le;have hwl:IntKind.i64.wrap (((f.line:Nat):Int)-1)=((f.line-1:Nat):Int):=by rw[IntKind.wrap_i64];omega
   have hwc:IntKind.i64.wrap (((f.column:Nat):Int)-1)=((f.column-1:Nat):Int):=by rw[IntKind.wrap_i64];omega
   have ku:IntKind.i64.wrap (((f.column-1:Nat):Int)+((k:Nat):Int))=((f.column-1+k:Nat):Int):=by rw[IntKind.wrap_i64];omega
   have vT:f.line-1<24:=by omega
   have hc80:f.column-1+k<80:=by omega
   have xG:=fun G t=>HB_gl H (sbO nm x p0 c0) G t;have rE:=(Jw (n0:=H.length) (i:=24) vT).trans (by rw[if_pos vT]);have vE:=fun G t=>HB_ln H (sbO nm x p0 c0) G t vT
   have hnw2:∀(G:Ko) (fo o:Vi),(H++(HB (sbO nm x p0 c0) H.length G++(t++fo::(t2++[o]))))[H.length+(50+(t.length+(t2.length+1)))]?=some o:=fun G fo o=>by
    have:=HB_new H (sbO nm x p0 c0) G (t++fo::t2) o [];simpa using this
   have hbo:bytesOf [[D.int .u8 (c.toNat:Nat)]]=some [c]:=by simp[bytesOf]
   have hp:=fun S=>prn_run (d:=d) (by omega) S c;have yR:UInt8.ofNat (((c.toNat:Nat):Int)).toNat=c:=by simp
   have hp2:∀S,Bh LP NN d 46 [.str ⟨#[UInt8.ofNat (((c.toNat:Nat):Int)).toNat]⟩] S=some (.bool (decide (32≤c.toNat)&&decide (c.toNat≤126)),S,false):=fun S=>by rw[yR];exact hp S
   have wL:=bR_at (Lg (l:=Gp (Gt G f bs k) (f.line-1)) (i:=f.column-1+k) (by rw[Qc];exact hc80))
   have xX:∀(v:UInt8) m,v=prn c→(H++(HB (sbO nm x p0 c0) H.length (Gt G f bs k)++m)).set (H.length+(3+2*(f.line-1))) ⟨5,1,(bR (Gp (Gt G f bs k) (f.line-1))).set (f.column-1+k) [.int .u8 (v.toNat:Nat)],0,2,true⟩=H++(HB (sbO nm x p0 c0) H.length (Gt G f bs (k+1))++m):=fun v m e=>by
    subst e;rw[bR_set];refine HB_set H _ (Gt G f bs k) m vT fun j=>?_;rw[Ua G f bs rY j];have:bs.getD k 0=c:=by rw[List.getD_eq_getElem?_getD,hbk];rfl
    rw[this];split
    ·
     rename_i e;rw[e]
    rfl
   have z1:(0:Int)≤((f.line-1:Nat):Int):=by omega
   have z2:((f.line-1:Nat):Int)<((24:Nat):Int):=by omega
   have z3:(0:Int)≤((f.column-1+k:Nat):Int):=by omega
   have z4:((f.column-1+k:Nat):Int)<((80:Nat):Int):=by omega
   refine Bn (Cb rfl (Ak (Bo (Ap (Af rfl (Aa (by simp only[zl,zm,hiab]<;>exact rfl) ?_))))));apply Aa (by simp only[zl,zm,hlab]<;>exact rfl);refine Ar rfl (Ar rfl (Ab (Bc ?_)));refine Ak (Ap (Af rfl (Aa (by simp only[zl,zm,Cf,List.replicate,Av,zs,zc,zf,kM]<;>exact rfl) ?_)));apply Aa (by simp only[zl,zm,Jk,hnw2]<;>exact rfl)
   first
    | refine Aa (by simp only[zo];exact hp _) ?_
    | refine Aa (by simp only[zo];exact hp2 _) ?_
   refine U4 (h:=?_);refine Ab (Bc ?_);refine Dl (by simp only[opd,zv]<;>exact rfl) (fun wS=>?_) (fun wS=>?_)
   ·
    have hv46:(46:UInt8)=prn c:=by
     have h:=wS;unfold prn;rw[if_neg (by intro h2;rw[h2]at h;cases h)]
    have wR:=fun m=>xX 46 m hv46;simp only[show ((((46:UInt8).toNat:Nat):Int))=46 from rfl]at wR;have vP:=fun m=>List.append_cancel_left ((D8 H _ _ _).symm.trans (wR m));refine Al (Ct (Ab (Bc ?_)));refine Hz ?_;refine Ca rfl rfl (xo3 (h:=Dk (by simp only[zl,zm,zd,Ay,List.take,List.drop,vW]<;>exact rfl) rfl ?_));apply Am (by simp only[zo,Bz,hwl]<;>exact rfl) rfl rfl;refine Dk (by simp only[zl,zm,Ch,Int.toNat_natCast,xG,z1,z2,GLi]<;>exact rfl) rfl ?_;refine Dk (by simp only[zl,zm,zd,Ay,List.take,List.drop,xG,rE,GLi]<;>exact rfl) rfl ?_;refine xo3 (h:=Dk (by simp only[zl,zm,zd,Ay,List.take,List.drop,vW]<;>exact rfl) rfl ?_);apply Am (by simp only[zo,Bz,hwc]<;>exact rfl) rfl rfl;refine Ca rfl rfl (Am (by simp only[zo,Bz,ku]<;>exact rfl) rfl rfl ?_);refine Ca rfl rfl (Dk (by simp only[zl,zm,Ch,Int.toNat_natCast,vE,z3,z4,lnO]<;>exact rfl) rfl ?_);refine Dk (by simp only[zl,zm,Bj,overlay,zs,List.take,kM,vE,wL,lnO]<;>exact rfl) rfl ?_;refine Cw (Fu (Bc ?_));refine Al (Aa (by simp only[zo,Bz,hwk]<;>exact rfl) ?_);refine Ar rfl (Ab (Jh (by simp only[ze]<;>exact rfl) ?_));exact⟨f.size-(k+1),by omega,k+1,_,_,_,_,_,by omega,rfl,by rw[←vP];rfl,rfl⟩
   have hvc:c=prn c:=by
    have h:=wS;unfold prn;rw[if_pos (by simpa using h)]
   have wR:=fun m=>xX c m hvc;have vP:=fun m=>List.append_cancel_left ((D8 H _ _ _).symm.trans (wR m));refine Bn (Cb rfl (Hz ?_));refine Ca rfl rfl (xo3 (h:=Dk (by simp only[zl,zm,zd,Ay,List.take,List.drop,vW]<;>exact rfl) rfl ?_));apply Am (by simp only[zo,Bz,hwl]<;>exact rfl) rfl rfl;refine Dk (by simp only[zl,zm,Ch,Int.toNat_natCast,xG,z1,z2,GLi]<;>exact rfl) rfl ?_;refine Dk (by simp only[zl,zm,zd,Ay,List.take,List.drop,xG,rE,GLi]<;>exact rfl) rfl ?_;refine xo3 (h:=Dk (by simp only[zl,zm,zd,Ay,List.take,List.drop,vW]<;>exact rfl) rfl ?_);apply Am (by simp only[zo,Bz,hwc]<;>exact rfl) rfl rfl;refine Ca rfl rfl (Am (by simp only[zo,Bz,ku]<;>exact rfl) rfl rfl ?_);refine Ca rfl rfl (Dk (by simp only[zl,zm,Ch,Int.toNat_natCast,vE,z3,z4,lnO]<;>exact rfl) rfl ?_);refine Dk (by simp only[zl,zm,Bj,overlay,zs,List.take,kM,vE,wL,lnO]<;>exact rfl) rfl ?_;refine Cw (Fu (Bc ?_));refine Al (Aa (by simp only[zo,Bz,hwk]<;>exact rfl) ?_);refine Ar rfl (Ab (Jh (by simp only[ze]<;>exact rfl) ?_));exact⟨f.size-(k+1),by omega,k+1,_,_,_,_,_,by omega,rfl,by rw[←vP];rfl,rfl⟩
  have hk':k=f.size:=by have:=of_decide_eq_false uP;omega
  subst hk';refine Eh (J4 (K4 (Kc (Fu (Cb rfl (Al (Aa (by simp only[zo,Bz,hw]<;>exact rfl) ?_)))))));refine Ar rfl (Ab (Jh (by simp only[ze]<;>exact rfl) ?_));exact⟨P.length-(i+1),by omega,i+1,_,_,_,_,_,_,_,_,_,_,_,_,_,_,_,_,_,by omega,rfl,by rw[Ul xE,hPe,←hG],rfl⟩
 have hi':i=P.length:=by have:=of_decide_eq_false zW;omega
 subst hi';have vW:=fun G o m=>HB_new H (sbO nm x p0 c0) G t o m;have hns:=fun G o y m=>HB_newS H (sbO nm x p0 c0) G t o y m;have kM:=fun G=>Py (sbO nm x p0 c0) H.length G;have hsbo:=fun G t=>HB_sb H (sbO nm x p0 c0) G t;refine Eh (J4 (K4 (Kc (Cb rfl (Ap (Aa (by simp only[zl,zm,Int.reduceToNat,kM]<;>exact rfl) ?_))))));refine Ar rfl (Ab (Bc ?_));refine Ak (Ap (Af rfl (xo7 (h:=?_))));refine Ct (Ab (Bc ?_));refine Bo (E8 (fun n env S'=>∃(i:Nat) (w14 w15 w24 w35:D),i≤24∧n=24-i∧S'=⟨H++(HB (sbO nm x p0 c0) H.length (Fz P)++(t++[⟨9,1,Jl (Fz P) i,0,2,false⟩])),H.length⟩∧env=[.agg [.str nm,x,.int .i64 (p0:Nat),.int .i64 (c0:Nat)],xv,.ptr H.length 0 0 0,.V5,.int .i64 0,.int .i64 0,.msl (H.length+1) 0 0 24 none,u7,u8,u9,u10,u11,u12,.msl (H.length+(50+t.length)) 0 0 24 none,w14,w15,.bool false,.bool false,.int .i64 24,u19,u20,x,.int .i64 rows.length,.int .i64 (P.length:Nat),w24,u25,u26,u27,u28,u29,u30,u31,.msl (H.length+1) 0 0 24 none,.int .i64 24,.int .i64 (i:Nat),w35]) (24) (by omega) (⟨0,_,_,_,_,by omega,by omega,by rw[List.take_length];rfl,rfl⟩) ?_);rintro n env S' ⟨i,w14,w15,w24,w35,zN,hnk3,rfl,rfl⟩;refine Ap (xo2 (h:=?_));refine Ab (Bc ?_);apply Ak;refine Dl (by simp only[opd,zv]<;>exact rfl) (fun q9=>?_) (fun q9=>?_)
 ·
  have xE:i<24:=by have:=of_decide_eq_true q9;omega
  have hw:=Ee i (by omega);have h0:(0:Int)≤(i:Int):=by omega
  have h24:(i:Int)<((24:Nat):Int):=by omega
  have xG:=fun G t=>HB_gl H (sbO nm x p0 c0) G t;have rE:=(Jw (n0:=H.length) (i:=24) xE).trans (by rw[if_pos xE]);have vE:=fun G t=>HB_ln H (sbO nm x p0 c0) G t xE
  have hTr:∀m lo,Bh LP NN d 47 [.msl (H.length+(3+2*i)) 0 0 80 (some 80)] ⟨H++(HB (sbO nm x p0 c0) H.length (Fz P)++m),lo⟩=some (.sl 1 (bR ((Gp (Fz P) i).take (tn (Gp (Fz P) i)))) (some (tn (Gp (Fz P) i))),⟨H++(HB (sbO nm x p0 c0) H.length (Fz P)++m),lo⟩,false):=fun m lo=>by
   have:=trim_run (d:=d) (cap:=some 80) (by omega) (vE (Fz P) m) (by rw[Qc];omega) lo;rwa [Qc]at this
  have hbb:=bytesOf_bR ((Gp (Fz P) i).take (tn (Gp (Fz P) i)));have hoa:=(Nh (G:=Fz P) (i:=i) xE).trans (by rw[if_neg (by omega)]);have hos:=outRows_set (G:=Fz P) xE;rw[show trS (Fz P) i=⟨((Gp (Fz P) i).take (tn (Gp (Fz P) i))).toArray⟩ from rfl]at hos;refine Bn (Cb rfl (Ak (Bo (Ap (Af rfl (Aa (by simp only[zl,zm,Ch,Int.toNat_natCast,h0,h24,xG,GLi]<;>exact rfl) ?_))))));apply Aa (by simp only[zl,zm,zd,Ay,List.take,List.drop,xG,rE,GLi]<;>exact rfl);refine Ar rfl (Ar rfl (Ab (Bc ?_)));refine Al (Af rfl (Af rfl (Af rfl (Aa (by simp only[zo];exact hTr _ _) ?_))));apply Aa (by simp only[zl,zm,Jc,hbb]<;>exact rfl);apply Aa (by simp only[zl,zm,Ch,Int.toNat_natCast,vW,h0,h24]<;>exact rfl);apply Aa (by simp only[zl,zm,Bj,overlay,zs,List.take,vW,hns,kM,hoa]<;>exact rfl);refine Ab (Fu (Bc ?_));refine Al (Aa (by simp only[zo,Bz,hw]<;>exact rfl) ?_);refine Ar rfl (Ab (Jh (by simp only[ze]<;>exact rfl) ?_));exact⟨24-(i+1),by omega,i+1,_,_,_,_,by omega,rfl,by rw[←hos];rfl,rfl⟩
 have hi':i=24:=by have:=of_decide_eq_false q9;omega
 subst hi';have hto:(Jl (Fz P) 24).take 24=Jl (Fz P) 24:=List.take_of_length_le (by rw[J7];exact Nat.le_refl _);have zT:=J7 (Fz P) 24;have wC:H.length≤H.length+(50+t.length):=by omega
 refine Eh (J4 (K4 (Kc (Cb rfl (Ap (Af rfl (Ar rfl (Ct (Ab (Bc ?_))))))))));apply Cy;refine⟨_,by simp only[F20,Bw,Cz,Ei,zg]<;>exact rfl,?_⟩;simp[leave,LP,Vt,Vq,snap,D.Vs,D.Vr,D.free,D.Vw,Av,vW,hto,zT,wC]
def OL (l:List Vi) (n0 q:Nat) (x:D) (rows:List (List D)):Prop:=(x=.V5∧rows=[])∨∃vs,x=.msl (n0+q) vs 0 rows.length none∧l[q]?=some ⟨74,2,rows,vs,0,true⟩
theorem OL.app{H l:List Vi}{q n0 lo:Nat}{x:D}{rows:List (List D)}{row:List D}(hn:H.length=n0)(xI:lo≤n0)(h:OL l n0 q x rows)(hq:0<q)(hl:rows.length<1000)(yK:0<l.length) :
  ∃x' l' q',Di 74 2 32 0 x (.msl (n0+l.length) 0 0 1 none) ⟨H++(l++[⟨74,2,[row],0,0,false⟩]),lo⟩=some (x',⟨H++l',lo⟩,true)∧OL l' n0 q' x' (rows++[row])∧0<q'∧l.length+1≤l'.length∧l'[0]?=l[0]?∧x'.Vv=true∧∀(k:Nat) (o:Vi),l[k]?=some o→o.elem≠74→l'[k]?=some o:=by
 subst hn;have hr:(H++(l++[(⟨74,2,[row],0,0,false⟩:Vi)]))[H.length+l.length]?=some ⟨74,2,[row],0,0,false⟩:=by rw[Dq,Dm];rfl
 have wK:Ex ⟨H++(l++[⟨74,2,[row],0,0,false⟩]),lo⟩ 2 (.msl (H.length+l.length) 0 0 1 none)=some [row]:=by simp[Ex,rowsOf]
 rcases h with⟨rfl,rfl⟩ | ⟨vs,rfl,ho⟩
 ·
  refine⟨.msl (H.length+(l.length+1)) 0 0 1 none,l++[⟨74,2,[row],0,0,false⟩,⟨74,2,[row],0,0,true⟩],l.length+1,?_,.inr ⟨0,rfl,by simp⟩,by omega,by simp,by rw[La_ yK],rfl,fun k o h _=>by rw[Cr (Be h)];exact h⟩;simp[Di,wK,Cs,newAt]
 have qB:=Be ho;have hz:(H++(l++[(⟨74,2,[row],0,0,false⟩:Vi)]))[H.length+q]?=some ⟨74,2,rows,vs,0,true⟩:=by rw[Dq,Cr qB];exact ho
 refine⟨.msl (H.length+q) (vs+1) 0 (rows.length+1) none,l.set q ⟨74,2,rows++[row],vs+1,0,true⟩++[⟨74,2,[row],0,0,false⟩],q,?_,.inr ⟨vs+1,by simp,by rw[Cr (by simpa using qB)];exact Ec qB _⟩,hq,by simp,?_,rfl,fun k o h he=>?_⟩
 ·
  have hb:(rows.length+1)*32≤140737488355328:=by omega
  have xW:min lo (H.length+q)=lo:=by omega
  simp[Di,wK,Cs,rowsOf,hz,setAt,hb,xW,Fh qB]
 ·
  rw[La_ (by simpa using yK),Ln_ (by omega)]
 rw[Cr (by simpa using Be h),Ln_ ?_]
 ·
  exact h
 intro e;subst e;rw[ho]at h;cases h;exact he rfl
theorem OL.len{l:List Vi}{n0 q:Nat}{x:D}{rows:List (List D)}(h:OL l n0 q x rows):Ji false x=some (.int .i64 (rows.length:Nat)):=by
 rcases h with⟨rfl,rfl⟩ | ⟨vs,rfl,_⟩<;>rfl
theorem OL.more{l:List Vi}{n0 q:Nat}{x:D}{rows:List (List D)}(h:OL l n0 q x rows)(m:List Vi):OL (l++m) n0 q x rows:=by
 rcases h with h | ⟨vs,h1,h2⟩
 ·
  exact .inl h
 exact .inr ⟨vs,h1,by rw[Cr (Be h2)];exact h2⟩
def Iz (T:Nat→D × Bool) (m j:Nat):Option (Nat × D):=if j<m then (if (T j).2 then some (j+1,(T j).1) else Iz T m (j+1)) else none
termination_by m-j
def Od (T:Nat→Nat→D × Bool) (m:Nat):List FM→Nat→Nat→List (Nat × D)→Option (Nat × List (Nat × D))
 | [],_,used,out=>some (used,out)
 | f::l,i,used,out=>if f.kind<3 then Od T m l (i+1) used out else match Iz (T i) m used with
  | none=>none
  | some (j,b)=>Od T m l (i+1) j (out++[(i,b)])
def Ke (l:List (Nat × D)):List (List D):=l.map fun p=>[.int .i64 (p.1:Nat),p.2]
theorem Tm(l:List (Nat × D))(i:Nat)(b:D):Ke (l++[(i,b)])=Ke l++[[.int .i64 (i:Nat),b]]:=by simp[Ke]
theorem tyRows_len(l:List (Nat × D)):(Ke l).length=l.length:=by simp[Ke]
theorem clip49_msl{d:Nat}(hd:1≤d){H:List Vi}{gs vs:Nat}{rows:List (List D)}(h2:H[gs]?=some ⟨74,2,rows,vs,0,true⟩)(lo:Nat):Bh LP NN d 49 [.msl gs vs 0 rows.length none] ⟨H,lo⟩=some (.msl gs vs 0 rows.length (some rows.length),⟨H,lo⟩,false):=by
 have hb:∀(n:Nat),(0:Int)≤(n:Int):=fun n=>by omega
 refine Eg (F:=F49) rfl (by simp only[LP,Av,zs,zm,h2,show ((0:Nat)=1)=False from by decide,show ((0:Nat)=2)=False from by decide,and_false,or_self]<;>exact rfl) rfl (by simp only[LP,zf,zm,Bool.and_false];try rfl) (by simp only[F49,zv]<;>exact rfl) (by omega) ?_;rintro d rfl;refine Ap (Ct (Ab (Bc ?_)));refine Ap (Af rfl (Af rfl (xo7 (h:=Af rfl ?_))));refine xo7 (h:=Aa (by simp only[zl,zm,Cx,Eb,Gm,Dr,Gn,Fb,h2,hb,Int.toNat_natCast,Nat.zero_le,Nat.le_refl,Nat.sub_zero]<;>exact rfl) ?_);refine Ar rfl (Ab (Bc ?_));apply Cy;refine⟨_,by simp only[F49,Bw,Cz,Ei,zg]<;>exact rfl,?_⟩;simp[leave,LP,Vt,Vq,snap,D.Vs,D.Vr,D.free,D.Vw,h2]
theorem clip49_nil{d:Nat}(hd:1≤d)(H:List Vi)(lo:Nat):Bh LP NN d 49 [.V5] ⟨H,lo⟩=some (.V5,⟨H,lo⟩,false):=by
 refine Eg (F:=F49) rfl (by simp only[LP,Av,zs]<;>exact rfl) rfl (by simp only[LP,zf,zm];try rfl) (by simp only[F49,zv]<;>exact rfl) (by omega) ?_;rintro d rfl;refine Ap (Ct (Ab (Bc ?_)));refine Ap (Af rfl (Af rfl (Aa (by simp only[zo,Mj]<;>exact rfl) ?_)));refine Af rfl (Aa (by simp only[zo,Mj]<;>exact rfl) ?_);apply Aa (by simp only[zl,Cx,Eb,Dr,Gn,Fb]<;>exact rfl);refine Ar rfl (Ab (Bc ?_));apply Cy;refine⟨_,by simp only[F49,Bw,Cz,Ei,zg]<;>exact rfl,?_⟩;simp[leave,LP,Vt,Vq,snap,D.Vs,D.Vr,D.free,D.Vw]
theorem clip49_run{d:Nat}(hd:1≤d){H l:List Vi}{q:Nat}{x:D}{rows:List (List D)}(h:OL l H.length q x rows)(lo:Nat):Bh LP NN d 49 [x] ⟨H++l,lo⟩=some (Ea x,⟨H++l,lo⟩,false):=by
 rcases h with⟨rfl,rfl⟩ | ⟨vs,rfl,h2⟩
 ·
  exact clip49_nil hd _ lo
 exact clip49_msl hd (by rw[Dq];exact h2) lo
def TL (H:List Vi) (go:Nat) (y:D) (rows:List (List D)):Prop:=(y=.V5∧rows=[])∨∃vs,y=.msl go vs 0 rows.length (some rows.length)∧H[go]?=some ⟨74,2,rows,vs,0,true⟩
def AccR (H:List Vi) (lo:Nat):Option (Nat × List (Nat × D))→D × St × Bool→Prop
 | none,x=>x=(.tup [.V5,.int .i64 0,.int .i64 7],⟨H,lo⟩,false)
 | some (u,out),x=>∃y H' go wr,x=(.tup [y,.int .i64 (u:Nat),.int .i64 0],⟨H',lo⟩,wr)∧TL H' go y (Ke out)∧H.length≤H'.length∧(∀k,k<H.length→H'[k]?=H[k]?)∧u≤1000000
theorem accept_run{d:Nat}(hd:24≤d){H:List Vi}{x xl:D}{rows:List (List D)}{gs v:Nat}{l0:List FM}{ls:List ByteArray}{T:Nat→Nat→D × Bool}(hS:SrcF H x rows gs v)(hR:RW l0 rows)(uG:SlD 1 (Fv ls) xl)(xg:l0.length≤256)(hls:ls.length≤1000)
  (hT:∀i j p (hi:i<l0.length) (hj:j<ls.length),3≤l0[i].kind→(∀d',d=d'+1→∀S,Bh LP NN d' 48 [.agg (J5 l0[i] p),.str ls[j]] S=some (.tup [(T i j).1,.bool (T i j).2],S,false))∧∃ys,SlD 1 ys (T i j).1) (nm:ByteArray) (p0 c0:Nat) (lo:Nat) (xI:lo≤H.length) :
  ∃r,AccR H lo (Od T ls.length l0 0 0 []) r∧Bh LP NN d 23 [.agg [.str nm,x,.int .i64 (p0:Nat),.int .i64 (c0:Nat)],xl] ⟨H,lo⟩=some r:=by
 have yV:=hR.len;have hchk:∀d',d=d'+1→∀l lo,Bh LP NN d' 13 [.agg [.str nm,x,.int .i64 (p0:Nat),.int .i64 (c0:Nat)]] ⟨H++l,lo⟩=some (.int .i64 0,⟨H++l,lo⟩,false):=fun d' e l lo=>check_run (l0:=l0) (by omega) (hS.mono l) hR (by omega) nm p0 c0 lo;refine run_at_ex (F:=F23) (P:=fun r=>AccR H lo (Od T ls.length l0 0 0 []) r) rfl (by simp only[LP,Av,Cg,zs,zm,hS.zero,uG.Vq]<;>exact rfl) rfl (by simp only[LP,zf,zm];try rfl) (by simp only[F23,zv]<;>exact rfl) (by omega) ?_;rintro d rfl;refine Ap (Aa (by simp only[zl,zm,zc,hS.cell]<;>exact rfl) ?_);refine Ct (Ct (Ct (Ab (Bc ?_))));refine Ak (Ap (xo4 (h:=Aa (by simp only[zo];exact hchk d rfl _ _) ?_)));refine Ar rfl (Ab (Bc ?_));refine Ap (Af rfl (Go.Proofs.YtkaedpmmopigkaaGreatDoor.xo2 (h:=?_)));refine Ab (Bc ?_);refine D5 ?_;refine Bn (Cb rfl (Ap (Ct (Ab (Bc ?_)))));refine Ap (Ct (Ab (Bc ?_)));refine Ak (Ap (xo0 (h:=xo4 (h:=Aa (by simp only[zo,hS.len]<;>exact rfl) ?_))));refine Ct (Ab (Bc ?_));refine Bo (E8 (fun n env S'=>∃(i used q:Nat) (out:List (Nat × D)) (l:List Vi) (xo u9 u10 u11 u12 u13 u18 u19 u20 u21 u22:D),i≤l0.length∧n=l0.length-i∧S'=⟨H++l,H.length⟩∧env=[.agg [.str nm,x,.int .i64 (p0:Nat),.int .i64 (c0:Nat)],xl,.ptr H.length 0 0 0,.V5,.int .i64 0,.int .i64 0,.int .i64 0,xo,.int .i64 (used:Nat),u9,u10,u11,u12,u13,.bool false,x,.int .i64 rows.length,.int .i64 (i:Nat),u18,u19,u20,u21,u22]∧OL l H.length q xo (Ke out)∧0<q∧l[0]?=some (sbO nm x p0 c0)∧used≤ls.length∧out.length≤i∧Od T ls.length l0 0 0 []=Od T ls.length (l0.drop i) i used out) (l0.length) (by omega) (⟨0,0,1,[],[sbO nm x p0 c0],.V5,_,_,_,_,_,_,_,_,_,_,by omega,by omega,rfl,rfl,.inl ⟨rfl,rfl⟩,by omega,rfl,by omega,by simp,by rw[List.drop_zero]⟩) ?_);rintro n env S' ⟨i,used,q,out,l,xo,u9,u10,u11,u12,u13,u18,u19,u20,u21,u22,hi,hnk,rfl,rfl,hO,hq,hsb,hu,hou,wO⟩;refine Ap (Go.Proofs.YtkaedpmmopigkaaGreatDoor.xo2 (h:=?_));refine Ab (Bc ?_);apply Ak;refine Dl (by simp only[opd,zv]<;>exact rfl) (fun zy=>?_) (fun zy=>?_)
 ·
  have xE:i<rows.length:=by have:=of_decide_eq_true zy;omega
  have hlt0:i<l0.length:=by omega
  have hw:=Ee i (by omega);have vF:=List.drop_eq_getElem_cons hlt0;obtain⟨f,kZ⟩:∃f,f=l0[i]:=⟨_,rfl⟩;rw[←kZ]at vF;have yG:=fun l lo=>hS.ia l lo i xE;obtain⟨p,y9⟩:=hR.at_ hlt0;rw[←kZ]at y9;have ru:=fun (l:List Vi) lo=>hS.ld l lo i _ y9 (by rw[Rk];exact Nat.le_refl _);rw[Sj]at ru;have hTy:=fun j hj hk=>hT i j p hlt0 hj (by rw[←kZ];exact hk);rw[←kZ]at hTy;obtain⟨tx,op,nu,r1,r2,hrf,htx,yZ,xS,zM⟩:=Sk f p;rw[hrf]at ru hTy;have uI:=f.kind_le;have hsb1:=Be hsb;have vD:∀o:Vi,(l++[o])[l.length]?=some o:=fun o=>by simp
  have hlls:∀o y:Vi,(l++[o]).set l.length y=l++[y]:=fun o y=>by simp
  rcases (by omega:f.kind<3∨f.kind=3∨f.kind=4) with zC | zC | zC
  ·
   have e3:(((f.kind:Nat):Int) != 3)=true:=by rw[bne_iff_ne];omega
   have e4:(((f.kind:Nat):Int) != 4)=true:=by rw[bne_iff_ne];omega
   refine Bn (Cb rfl (Ak (Bo (Ap (Af rfl (Aa (by simp only[zl,zm,yG]<;>exact rfl) ?_))))));apply Aa (by simp only[zl,zm,ru]<;>exact rfl);refine xo9 (h:=Ar rfl (Aa (by simp only[zl,zm,Bj,overlay,Cg,zs,zc,zf,List.take,List.drop,vD,hlls,htx.Vv,yZ.Vv]<;>exact rfl) ?_));refine Ab (Bc ?_);refine Ak (Ap (xo0 (h:=Aa (by simp only[zl,zm,zd,Ay,List.take,List.drop,vD]<;>exact rfl) ?_)));apply Aa (by simp only[zo,Bz,e3]<;>exact rfl);refine Ar rfl (Gi 0 (b:=true) ?_);refine Bd rfl (xo0 (h:=?_));refine Bd rfl (Aa (by simp only[zl,zm,zd,Ay,List.take,List.drop,vD]<;>exact rfl) ?_);refine Bd rfl (Aa (by simp only[zo,Bz,e4]<;>exact rfl) ?_);refine xo1 (h:=?_);refine Ab (Bc ?_);refine Mx ?_;refine Eh (J4 (Kc (Cb rfl (Al (Aa (by simp only[zo,Bz,hw]<;>exact rfl) ?_)))));refine Ar rfl (Ab (Jh (by simp only[ze]<;>exact rfl) ?_));exact⟨l0.length-(i+1),by omega,i+1,used,q,out,_,xo,_,_,_,_,_,_,_,_,_,_,by omega,rfl,rfl,rfl,hO.more _,hq,by rw[Cr (Be hsb)];exact hsb,hu,by omega,by rw[wO,vF,Od,if_pos (by omega)]⟩
  ·
   have e3:(((f.kind:Nat):Int) != 3)=false:=by rw[zC];rfl
   have xY:3≤f.kind:=by omega
   refine Bn (Cb rfl (Ak (Bo (Ap (Af rfl (Aa (by simp only[zl,zm,yG]<;>exact rfl) ?_))))));apply Aa (by simp only[zl,zm,ru]<;>exact rfl);refine xo9 (h:=Ar rfl (Aa (by simp only[zl,zm,Bj,overlay,Cg,zs,zc,zf,List.take,List.drop,vD,hlls,htx.Vv,yZ.Vv]<;>exact rfl) ?_));refine Ab (Bc ?_);refine Ak (Ap (xo0 (h:=Aa (by simp only[zl,zm,zd,Ay,List.take,List.drop,vD]<;>exact rfl) ?_)));apply Aa (by simp only[zo,Bz,e3]<;>exact rfl);refine Ar rfl (Gi 0 (b:=false) ?_);refine Cn rfl rfl (Cn rfl rfl (Cn rfl rfl (xo1 (h:=?_))));refine Ab (Bc ?_);apply Hy (by simp only[opd,zv]);refine Bn (Cb rfl (Ap (Ct (Ab (Bc ?_)))));refine Bo (E8 (fun n env S'=>∃(j q2:Nat) (done:Bool) (out2:List (Nat × D)) (l2:List Vi) (xo2 v12 v13 v20 v21 v22:D),S'=⟨H++l2,H.length⟩∧env=[.agg [.str nm,x,.int .i64 (p0:Nat),.int .i64 (c0:Nat)],xl,.ptr H.length 0 0 0,.V5,.int .i64 0,.int .i64 0,.int .i64 0,xo2,.int .i64 (j:Nat),.int .i64 (i:Nat),.ptr (H.length+l.length) 0 0 0,.bool done,v12,v13,.bool false,x,.int .i64 rows.length,.int .i64 (i:Nat),.bool (decide (((i:Nat):Int)<((rows.length:Nat):Int))),.bool false,v20,v21,v22]∧OL l2 H.length q2 xo2 (Ke out2)∧0<q2∧l2[0]?=some (sbO nm x p0 c0)∧l2[l.length]?=some (FO [.int .i64 (f.line:Nat),.int .i64 (f.column:Nat),.int .u8 (f.kind:Nat),tx,.int .u8 (if nu then (if f.size=1 then 4 else 5) else 2),.int .u8 0,.str (Lp nu f.size),.int .i64 (if nu then (f.size:Nat) else 0),.int .i64 0,.bool false,.bool false,.bool false,.bool false,.bool false,.int .i64 (f.size:Nat),op])∧j≤ls.length∧n=2*(ls.length-j)+(if done then 0 else 1)∧((done=false∧Iz (T i) ls.length used=Iz (T i) ls.length j∧out2=out)∨(done=true∧∃b,Iz (T i) ls.length used=some (j,b)∧out2=out++[(i,b)]))) (2*(ls.length-used)+1) (by omega) (⟨used,q,false,out,_,xo,_,_,_,_,_,rfl,rfl,hO.more _,hq,by rw[Cr hsb1];exact hsb,vD _,hu,rfl,.inl ⟨rfl,rfl,rfl⟩⟩) ?_);rintro n env S' ⟨j,q2,done,out2,l2,xo2,v12,v13,v20,v21,v22,rfl,rfl,qy,hq2,vR,hfo,hj,hnB,hdone⟩;rcases hdone with⟨rfl,hf,rfl⟩ | ⟨rfl,b0,hf,rfl⟩
   ·
    refine Ak (Ap (Af rfl (U4 (h:=?_))));refine Ab (Bc ?_);refine Mx ?_;refine Bn (Cb rfl (Bo (Ak (Ap (Af rfl (Af rfl (Aa (by simp only[zo,uG.len,La]<;>exact rfl) ?_)))))));refine Go.Proofs.YtkaedpmmopigkaaGreatDoor.xo2 (h:=?_);refine Ab (Bc ?_);refine Dl (by simp only[opd,zv]<;>exact rfl) (fun q8=>?_) (fun q8=>?_)
    ·
     have hjm:ls.length≤j:=by have:=of_decide_eq_true q8;omega
     have yE:Od T ls.length l0 0 0 []=none:=by
      rw[wO,vF,Od,if_neg (by omega),hf,Iz,if_neg (by omega)]
     refine Ap (Ct (Ct (Ct (Ab (Bc ?_)))));refine Cy (Kg (Oc (lk_r (Oc (Oc (Kg (lk_r (Oc (Kg ?_)))))))));refine⟨_,by rw[yE];exact rfl,?_⟩;refine⟨_,by simp only[F23,Bw,Cz,Ei,zg]<;>exact rfl,?_⟩;simp[leave,LP,Vt,Vq,snap,D.Vs,D.Vr,D.free,D.Vw,Av]
    have yO:j<ls.length:=by have:=of_decide_eq_false q8;omega
    have hwj:=Ee j (by omega);have zi:=fun (S:St)=>uG.iaddrN S .i64 (Qt yO);obtain⟨hty,ys,hyc⟩:=hTy j yO (by omega);have zZ:Ff [[D.int .i64 0,D.V5]] 2 [0] [D.agg [D.int .i64 (i:Nat),(T i j).1]]=some [[D.int .i64 (i:Nat),(T i j).1]]:=by simp[Ff,D.val,D.cells,hyc.Vv,K5]
    refine Bn (Cb rfl (Ak (Hz ?_)));refine Dk (by simp only[zl,zm,zd,Ay,List.take,List.drop,FO,hfo]<;>exact rfl) rfl ?_;refine Ca rfl rfl (Ca rfl rfl (Bb (by simp only[zl,zm,zi]<;>exact rfl) (by simp only[Ao,zo,uG.fpi]<;>exact rfl) rfl ?_));refine xo5 (h:=Dk (by simp only[zo];exact (hty d rfl _)) rfl ?_);refine Fy rfl rfl (Am (by simp only[zo,Lz]<;>exact rfl) rfl rfl ?_);apply Am (by simp only[zo,Lz,Ls_]<;>exact rfl) rfl rfl;refine Fy rfl rfl (Fy rfl rfl (Cw (Bc ?_)));refine Ap (Af rfl (Aa (by simp only[zo,Bz,hwj]<;>exact rfl) ?_));refine Ar rfl (Ab (Bc ?_));refine Ap (Af rfl (Ab (Bc ?_)));refine Dl (by simp only[opd,zv]<;>exact rfl) (fun uO=>?_) (fun uO=>?_)
    ·
     have yM:(T i j).2=true:=uO;obtain⟨x3,l3,q3,vG,hO3,hq3,uq,h30,hx3,hkp⟩:=OL.app (H:=H) (lo:=H.length) (row:=[.int .i64 (i:Nat),(T i j).1]) rfl (Nat.le_refl _) qy hq2 (by rw[tyRows_len];omega) (by have:=Be vR;omega);rw[←Tm]at hO3;have hfo3:=hkp _ _ hfo (by simp[FO]);refine Ap (Af rfl (Af rfl (Af rfl (Aa (by simp only[zo,Ez,overlay,zc,List.take,List.drop,Nat.reduceAdd,Nat.reduceLeDiff,zm,hyc.val,hyc.cells]<;>exact rfl) ?_))));apply Aa (by simp only[zl,zm,List.replicate,Av,Cg,zs,zZ]<;>exact rfl);apply Aa (by simp only[Ce,aop,LOp.loud,lop,if_true,opd,zv];exact vG);refine Ar rfl (Ab (Bc ?_));refine Al (Ct (Ab (Fu (Jh (by simp only[ze]<;>exact rfl) ?_))));exact⟨2*(ls.length-(j+1))+0,by simp at hnB;omega,j+1,q3,true,_,l3,x3,_,_,_,_,_,rfl,rfl,hO3,hq3,by rw[h30];exact vR,hfo3,by omega,rfl,.inr ⟨rfl,_,by rw[hf,Iz,if_pos yO,if_pos yM],rfl⟩⟩
    have yM:(T i j).2=false:=uO;refine Bn (Fu (Jh rfl ?_));exact⟨2*(ls.length-(j+1))+1,by simp at hnB;omega,j+1,q2,false,_,l2,xo2,_,_,_,_,_,rfl,rfl,qy,hq2,vR,hfo,by omega,rfl,.inl ⟨rfl,by rw[hf,Iz,if_pos yO,if_neg (by rw[yM];simp)],rfl⟩⟩
   refine Ak (Ap (Af rfl (U4 (h:=?_))));refine Ab (Bc ?_);refine D5 ?_;refine Eh (J4 (K4 (Kc (Fu (Cb rfl (Al (Aa (by simp only[zo,Bz,hw]<;>exact rfl) ?_)))))));refine Ar rfl (Ab (Jh (by simp only[ze]<;>exact rfl) ?_));exact⟨l0.length-(i+1),by omega,i+1,j,q2,_,_,xo2,_,_,_,_,_,_,_,_,_,_,by omega,rfl,rfl,rfl,qy,hq2,vR,hj,by rw[Ll_,List.length_cons,List.length_nil];omega,by rw[wO,vF,Od,if_neg (by omega),hf]⟩
  have e3:(((f.kind:Nat):Int) != 3)=true:=by rw[zC];rfl
  have e4:(((f.kind:Nat):Int) != 4)=false:=by rw[zC];rfl
  have xY:3≤f.kind:=by omega
  refine Bn (Cb rfl (Ak (Bo (Ap (Af rfl (Aa (by simp only[zl,zm,yG]<;>exact rfl) ?_))))));apply Aa (by simp only[zl,zm,ru]<;>exact rfl);refine xo9 (h:=Ar rfl (Aa (by simp only[zl,zm,Bj,overlay,Cg,zs,zc,zf,List.take,List.drop,vD,hlls,htx.Vv,yZ.Vv]<;>exact rfl) ?_));refine Ab (Bc ?_);refine Ak (Ap (xo0 (h:=Aa (by simp only[zl,zm,zd,Ay,List.take,List.drop,vD]<;>exact rfl) ?_)));apply Aa (by simp only[zo,Bz,e3]<;>exact rfl);refine Ar rfl (Gi 0 (b:=true) ?_);refine Bd rfl (xo0 (h:=?_));refine Bd rfl (Aa (by simp only[zl,zm,zd,Ay,List.take,List.drop,vD]<;>exact rfl) ?_);refine Bd rfl (Aa (by simp only[zo,Bz,e4]<;>exact rfl) ?_);refine xo1 (h:=?_);refine Ab (Bc ?_);refine D5 ?_;refine Bn (Cb rfl (Ap (Ct (Ab (Bc ?_)))));refine Bo (E8 (fun n env S'=>∃(j q2:Nat) (done:Bool) (out2:List (Nat × D)) (l2:List Vi) (xo2 v12 v13 v20 v21 v22:D),S'=⟨H++l2,H.length⟩∧env=[.agg [.str nm,x,.int .i64 (p0:Nat),.int .i64 (c0:Nat)],xl,.ptr H.length 0 0 0,.V5,.int .i64 0,.int .i64 0,.int .i64 0,xo2,.int .i64 (j:Nat),.int .i64 (i:Nat),.ptr (H.length+l.length) 0 0 0,.bool done,v12,v13,.bool false,x,.int .i64 rows.length,.int .i64 (i:Nat),.bool (decide (((i:Nat):Int)<((rows.length:Nat):Int))),.bool false,v20,v21,v22]∧OL l2 H.length q2 xo2 (Ke out2)∧0<q2∧l2[0]?=some (sbO nm x p0 c0)∧l2[l.length]?=some (FO [.int .i64 (f.line:Nat),.int .i64 (f.column:Nat),.int .u8 (f.kind:Nat),tx,.int .u8 (if nu then (if f.size=1 then 4 else 5) else 2),.int .u8 0,.str (Lp nu f.size),.int .i64 (if nu then (f.size:Nat) else 0),.int .i64 0,.bool false,.bool false,.bool false,.bool false,.bool false,.int .i64 (f.size:Nat),op])∧j≤ls.length∧n=2*(ls.length-j)+(if done then 0 else 1)∧((done=false∧Iz (T i) ls.length used=Iz (T i) ls.length j∧out2=out)∨(done=true∧∃b,Iz (T i) ls.length used=some (j,b)∧out2=out++[(i,b)]))) (2*(ls.length-used)+1) (by omega) (⟨used,q,false,out,_,xo,_,_,_,_,_,rfl,rfl,hO.more _,hq,by rw[Cr hsb1];exact hsb,vD _,hu,rfl,.inl ⟨rfl,rfl,rfl⟩⟩) ?_);rintro n env S' ⟨j,q2,done,out2,l2,xo2,v12,v13,v20,v21,v22,rfl,rfl,qy,hq2,vR,hfo,hj,hnB,hdone⟩;rcases hdone with⟨rfl,hf,rfl⟩ | ⟨rfl,b0,hf,rfl⟩
  ·
   refine Ak (Ap (Af rfl (U4 (h:=?_))));refine Ab (Bc ?_);refine Mx ?_;refine Bn (Cb rfl (Bo (Ak (Ap (Af rfl (Af rfl (Aa (by simp only[zo,uG.len,La]<;>exact rfl) ?_)))))));refine Go.Proofs.YtkaedpmmopigkaaGreatDoor.xo2 (h:=?_);refine Ab (Bc ?_);refine Dl (by simp only[opd,zv]<;>exact rfl) (fun vZ=>?_) (fun vZ=>?_)
   ·
    have hjm:ls.length≤j:=by have:=of_decide_eq_true vZ;omega
    have yE:Od T ls.length l0 0 0 []=none:=by
     rw[wO,vF,Od,if_neg (by omega),hf,Iz,if_neg (by omega)]
    refine Ap (Ct (Ct (Ct (Ab (Bc ?_)))));refine Cy (Kg (Oc (lk_r (Oc (Oc (Kg (lk_r (Oc (Kg ?_)))))))));refine⟨_,by rw[yE];exact rfl,?_⟩;refine⟨_,by simp only[F23,Bw,Cz,Ei,zg]<;>exact rfl,?_⟩;simp[leave,LP,Vt,Vq,snap,D.Vs,D.Vr,D.free,D.Vw,Av]
   have yO:j<ls.length:=by have:=of_decide_eq_false vZ;omega
   have hwj:=Ee j (by omega);have zi:=fun (S:St)=>uG.iaddrN S .i64 (Qt yO);obtain⟨hty,ys,hyc⟩:=hTy j yO (by omega);have zZ:Ff [[D.int .i64 0,D.V5]] 2 [0] [D.agg [D.int .i64 (i:Nat),(T i j).1]]=some [[D.int .i64 (i:Nat),(T i j).1]]:=by simp[Ff,D.val,D.cells,hyc.Vv,K5]
   refine Bn (Cb rfl (Ak (Hz ?_)));refine Dk (by simp only[zl,zm,zd,Ay,List.take,List.drop,FO,hfo]<;>exact rfl) rfl ?_;refine Ca rfl rfl (Ca rfl rfl (Bb (by simp only[zl,zm,zi]<;>exact rfl) (by simp only[Ao,zo,uG.fpi]<;>exact rfl) rfl ?_));refine xo5 (h:=Dk (by simp only[zo];exact (hty d rfl _)) rfl ?_);refine Fy rfl rfl (Am (by simp only[zo,Lz]<;>exact rfl) rfl rfl ?_);apply Am (by simp only[zo,Lz,Ls_]<;>exact rfl) rfl rfl;refine Fy rfl rfl (Fy rfl rfl (Cw (Bc ?_)));refine Ap (Af rfl (Aa (by simp only[zo,Bz,hwj]<;>exact rfl) ?_));refine Ar rfl (Ab (Bc ?_));refine Ap (Af rfl (Ab (Bc ?_)));refine Dl (by simp only[opd,zv]<;>exact rfl) (fun uN=>?_) (fun uN=>?_)
   ·
    have yM:(T i j).2=true:=uN;obtain⟨x3,l3,q3,vG,hO3,hq3,uq,h30,hx3,hkp⟩:=OL.app (H:=H) (lo:=H.length) (row:=[.int .i64 (i:Nat),(T i j).1]) rfl (Nat.le_refl _) qy hq2 (by rw[tyRows_len];omega) (by have:=Be vR;omega);rw[←Tm]at hO3;have hfo3:=hkp _ _ hfo (by simp[FO]);refine Ap (Af rfl (Af rfl (Af rfl (Aa (by simp only[zo,Ez,overlay,zc,List.take,List.drop,Nat.reduceAdd,Nat.reduceLeDiff,zm,hyc.val,hyc.cells]<;>exact rfl) ?_))));apply Aa (by simp only[zl,zm,List.replicate,Av,Cg,zs,zZ]<;>exact rfl);apply Aa (by simp only[Ce,aop,LOp.loud,lop,if_true,opd,zv];exact vG);refine Ar rfl (Ab (Bc ?_));refine Al (Ct (Ab (Fu (Jh (by simp only[ze]<;>exact rfl) ?_))));exact⟨2*(ls.length-(j+1))+0,by simp at hnB;omega,j+1,q3,true,_,l3,x3,_,_,_,_,_,rfl,rfl,hO3,hq3,by rw[h30];exact vR,hfo3,by omega,rfl,.inr ⟨rfl,_,by rw[hf,Iz,if_pos yO,if_pos yM],rfl⟩⟩
   have yM:(T i j).2=false:=uN;refine Bn (Fu (Jh rfl ?_));exact⟨2*(ls.length-(j+1))+1,by simp at hnB;omega,j+1,q2,false,_,l2,xo2,_,_,_,_,_,rfl,rfl,qy,hq2,vR,hfo,by omega,rfl,.inl ⟨rfl,by rw[hf,Iz,if_pos yO,if_neg (by rw[yM];simp)],rfl⟩⟩
  refine Ak (Ap (Af rfl (U4 (h:=?_))));refine Ab (Bc ?_);refine D5 ?_;refine Eh (J4 (K4 (Kc (Fu (Cb rfl (Al (Aa (by simp only[zo,Bz,hw]<;>exact rfl) ?_)))))));refine Ar rfl (Ab (Jh (by simp only[ze]<;>exact rfl) ?_));exact⟨l0.length-(i+1),by omega,i+1,j,q2,_,_,xo2,_,_,_,_,_,_,_,_,_,_,by omega,rfl,rfl,rfl,qy,hq2,vR,hj,by rw[Ll_,List.length_cons,List.length_nil];omega,by rw[wO,vF,Od,if_neg (by omega),hf]⟩
 have hi':i=l0.length:=by have:=of_decide_eq_false zy;omega
 subst hi';refine Eh (J4 (K4 (Kc (Cb rfl (Ap (Af rfl (Aa (by simp only[zo];exact (clip49_run (by omega) hO _)) ?_)))))));refine Af rfl (Ar rfl (Ar rfl (Ct (Ab (Bc ?_)))));apply Cy;rw[List.drop_length]at wO;rw[Od]at wO;rcases hO with⟨rfl,hto⟩ | ⟨vs,rfl,ho⟩
 ·
  refine⟨(.tup [.V5,.int .i64 (used:Nat),.int .i64 0],⟨H,lo⟩,false),by rw[wO];exact⟨_,_,0,_,rfl,.inl ⟨rfl,hto⟩,Nat.le_refl _,fun _ _=>rfl,by omega⟩,?_⟩;refine⟨_,by simp only[F23,Bw,Cz,Ei,zg]<;>exact rfl,?_⟩;simp[leave,LP,Vt,Vq,snap,D.Vs,D.Vr,D.free,D.Vw,Av,Ea]
 have hHl:min lo H.length=lo:=by omega
 have xB:¬l=[]:=by intro e;rw[e]at hsb;cases hsb
 have ho':(H++l)[H.length+q]?=some ⟨74,2,Ke out,vs,0,true⟩:=by rw[Dq];exact ho
 refine⟨(.tup [.msl (H.length+q) vs 0 (Ke out).length (some (Ke out).length),.int .i64 (used:Nat),.int .i64 0],⟨H++l,lo⟩,true),by rw[wO];exact⟨_,_,H.length+q,_,rfl,.inr ⟨vs,rfl,ho'⟩,by rw[Ll_];omega,fun k hk=>Cr hk,by omega⟩,?_⟩;refine⟨_,by simp only[F23,Bw,Cz,Ei,zg]<;>exact rfl,?_⟩;simp[leave,LP,Vt,Vq,snap,D.Vs,D.Vr,D.free,D.Vw,Av,Ea,ho',hHl,xB]
def fm1:FM:=⟨1,2,0,1,false,false,by decide⟩
def fm2:FM:=⟨1,3,3,2,true,false,by decide⟩
section
variable (d:Nat) (S:St) (p:Nat)
theorem typed_x:Dp LP NN (d+20) 48 [.agg [.int .i64 2,.int .i64 4,.int .u8 4,.V5,.int .u8 5,.int .u8 0,.str ⟨#[90,90,57]⟩,.int .i64 3,.int .i64 0,.bool false,.bool false,.bool false,.bool false,.bool false,.int .i64 3,.sl 5 [[.int .u8 1,.str ⟨#[78]⟩,.int .i64 (p:Nat),.int .i64 12,.bool false]] (some 1)],.str ⟨#[120]⟩] S=some (.tup [.V5,.bool false],S,false):=by kernel_rfl
theorem typed_7:Dp LP NN (d+20) 48 [.agg [.int .i64 2,.int .i64 4,.int .u8 4,.V5,.int .u8 5,.int .u8 0,.str ⟨#[90,90,57]⟩,.int .i64 3,.int .i64 0,.bool false,.bool false,.bool false,.bool false,.bool false,.int .i64 3,.sl 5 [[.int .u8 1,.str ⟨#[78]⟩,.int .i64 (p:Nat),.int .i64 12,.bool false]] (some 1)],.str ⟨#[55]⟩] S=some (.tup [.sl 1 [[.int .u8 32],[.int .u8 32],[.int .u8 55]] (some 3),.bool true],S,false):=by kernel_rfl
end
def P0v:List (FM × List UInt8):=[(fm1,[65,66]),(fm2,[32,49,50])]
theorem out_cl:Jl (Fz P0v) 24=[.str ⟨#[]⟩]::[.str ⟨#[32,32,65,32,49,50]⟩]::List.replicate 22 [.str ⟨#[]⟩]:=by kernel_rfl
def T2:Nat→Nat→D × Bool:=fun _ j=>if j=0 then (.V5,false) else ((.sl 1 [[.int .u8 32],[.int .u8 32],[.int .u8 55]] (some 3)),true)
theorem acc_cl:Od T2 2 [fm1,fm2] 0 0 []=some (2,[(1,(.sl 1 [[.int .u8 32],[.int .u8 32],[.int .u8 55]] (some 3)))]):=by
 have h1:fm1.kind=1:=rfl;have h2:fm2.kind=4:=rfl;rw[Od,if_pos (by rw[h1];omega),Od,if_neg (by rw[h2];omega),Iz,if_pos (by omega),if_neg (by simp[T2]),Iz,if_pos (by omega),if_pos (by simp[T2])];simp[Od,T2]
theorem SrcV.of{H:List Vi}{gv n vv:Nat}{vals:List D}{gr:Bool}(hg:H[gv]?=some ⟨42,1,vals.map fun v=>[v],vv,0,gr⟩)(hn:n=vals.length):SrcV H (.msl gv vv 0 n none) vals gv vv:=by
 subst hn;refine⟨rfl,rfl,fun m l=>?_,fun l lo i hi=>?_,fun l lo i v hv=>?_⟩
 ·
  rw[P5,Kv,Cr (Be hg),hg];simp
 ·
  simp[Gd,rowsOf,Cr (Be hg),hg,hi]
 simp[Jn,rowsOf,Cr (Be hg),hg,hv,Ay]
theorem lives_T(d:Nat)(hd:20≤d):∀i j p (hi:i<[fm1,fm2].length) (hj:j<([⟨#[120]⟩,⟨#[55]⟩]:List ByteArray).length),3≤([fm1,fm2][i]).kind→(∀d',d=d'→∀S,Bh LP NN d' 48 [.agg (J5 [fm1,fm2][i] p),.str ([⟨#[120]⟩,⟨#[55]⟩]:List ByteArray)[j]] S=some (.tup [(T2 i j).1,.bool (T2 i j).2],S,false))∧∃ys,SlD 1 ys (T2 i j).1:=by
 intro i j p hi hj hk
 match i,hi,hk with
 | 0,_,hk=>exact absurd hk (show ¬3≤fm1.kind from by decide)
 | 1,_,_ =>
  match j,hj with
  | 0,_=>exact⟨fun d' e S=>by subst e;obtain⟨d,rfl⟩:∃d',d=d'+20:=⟨d-20,by omega⟩;exact fast_ok (typed_x d S p),[],.nil 1⟩
  | 1,_=>exact⟨fun d' e S=>by subst e;obtain⟨d,rfl⟩:∃d',d=d'+20:=⟨d-20,by omega⟩;exact fast_ok (typed_7 d S p),_,.of _ _ _⟩
  | j+2,h=>exact absurd h (by simp)
 | i+2,h,_=>exact absurd h (by simp)
theorem Ep{d:Nat}(hd:26≤d)(S:St):Bh LP NN d 8 [] S=some (.bool true,S,false):=by
 obtain⟨H',x0,gs,rows,wr,hof,-,-,hFL,hRW,-⟩:=of_run (d:=d-1) (by omega) [] 0 (by simp) (lx:=.sl 6 [[.int .u8 1,.int .u8 2,.int .u8 0,.int .u8 1,.bool false,.bool false],[.int .u8 1,.int .u8 3,.int .u8 3,.int .u8 2,.bool true,.bool false]] (some 2)) (l:=[fm1,fm2]) (SlD.of 6 (G8 [fm1,fm2]) (some 2)) (by decide);obtain⟨v,hS⟩:=hFL.src;have yV:rows.length=2:=hRW.len;have hS2:=hS.mono [⟨36,4,[[.str nmA,Ea x0,.int .i64 ((1:Nat):Int),.int .i64 ((12:Nat):Int)]],0,0,false⟩,⟨5,1,[[.int .u8 32],[.int .u8 49],[.int .u8 50]],1,2,false⟩,⟨42,1,[[.V5],[.sl 1 [[.int .u8 32],[.int .u8 49],[.int .u8 50]] (some 3)]],0,0,false⟩];have vg:=hS.len;rw[yV]at vg;have yB:=hS.cell;have hv:SrcV (H'++[⟨36,4,[[.str nmA,Ea x0,.int .i64 ((1:Nat):Int),.int .i64 ((12:Nat):Int)]],0,0,false⟩,⟨5,1,[[.int .u8 32],[.int .u8 49],[.int .u8 50]],1,2,false⟩,⟨42,1,[[.V5],[.sl 1 [[.int .u8 32],[.int .u8 49],[.int .u8 50]] (some 3)]],0,0,false⟩]) (.msl (H'.length+2) 0 0 2 none) [.V5,.sl 1 [[.int .u8 32],[.int .u8 49],[.int .u8 50]] (some 3)] (H'.length+2) 0:=.of (gr:=false) (by rw[Dq];rfl) rfl
 have hshow:=fun lo=>show_run (d:=d-1) (by omega) (P:=P0v) hS2 hRW hv (by decide) rfl (fun i p w hp hw=>by
  match i with
  | 0=>cases hp;cases hw;exact⟨rfl,rfl⟩
  | 1=>cases hp;cases hw;exact⟨rfl,by rw[if_neg (by decide)];exact SlD.rdb (SlD.of 1 (bR [32,49,50]) (some 3)) _⟩
  | i+2=>simp[P0v]at hp) nmA 1 12 lo
 rw[out_cl]at hshow
 have wO:=accept_run (d:=d-1) (by omega) (T:=T2) (ls:=[⟨#[120]⟩,⟨#[55]⟩]) (xl:=.sl 1 [[.str ⟨#[120]⟩],[.str ⟨#[55]⟩]] (some 2)) (lo:=0) hS2 hRW (SlD.of 1 _ _) (by decide) (by simp) (fun i j p hi hj hk=>by
  obtain⟨h1,h2⟩:=lives_T (d-1-1) (by omega) i j p hi hj hk
  exact⟨fun d' e S=>h1 d' (by omega) S,h2⟩) nmA 1 12 (by omega)
 rw[show ([⟨#[120]⟩,⟨#[55]⟩]:List ByteArray).length=2 from rfl,acc_cl]at wO;obtain⟨_,⟨y,H3,go,wr2,rfl,hTL,-,-,-⟩,wO⟩:=wO;rcases hTL with⟨-,rF⟩ | ⟨vs,rfl,h3⟩
 ·
  cases rF
 have h3':H3[go]?=some ⟨74,2,[[.int .i64 1,(.sl 1 [[.int .u8 32],[.int .u8 32],[.int .u8 55]] (some 3))]],vs,0,true⟩:=h3
 have zT:∀i:Nat,2≤i→i<24→(([.str ⟨#[]⟩]::[.str ⟨#[32,32,65,32,49,50]⟩]::List.replicate 22 [.str ⟨#[]⟩]:List (List D)))[i]?=some [.str ⟨#[]⟩]:=fun i h1 h2=>by
  obtain⟨j,rfl⟩:∃j,i=j+2:=⟨i-2,by omega⟩;rw[Ls_,Ls_,List.getElem?_replicate,if_pos (by omega)]
 have h3p:=h3';have h24l:((⟨#[UInt8.ofNat 32,UInt8.ofNat 32,UInt8.ofNat 55]⟩:ByteArray).toList==(⟨#[32,32,55]⟩:ByteArray).toList)=true:=by decide +kernel
 refine run_pure (F:=F8) rfl (by simp only[LP,Av]<;>exact rfl) rfl (by simp only[LP,zm];try rfl) (by simp only[F8,zv]<;>exact rfl) (by omega) ?_;rintro d rfl;refine Ap (Ct (Ab (Bc ?_)));refine Ap (xo18 (h:=xo18 (h:=xo16 (h:=Ar rfl (Ab ?_)))));refine Bc ?_;refine Ap (Af rfl (Aa (by simp only[zo];exact hof) ?_));refine Ar rfl (xo15 (h:=xo14 (h:=xo9 (h:=Aa (by simp only[zl,zm,Bj,overlay,Cg,zs,zc,zf,List.take,List.drop,yB]<;>exact rfl) ?_))));refine Ar rfl (Ab (Bc ?_));refine Ak (Ap (Af rfl (Aa (by simp only[zo,unD,Bool.not_true]<;>exact rfl) ?_)));refine Ar rfl (Gi 0 (b:=false) ?_);refine Bd rfl (xo0 (h:=?_));refine Bd rfl (xo4 (h:=?_));refine Bd rfl (Aa (by simp only[zo,vg]<;>exact rfl) ?_);refine Bd rfl (xo2 (h:=xo1 (h:=?_)));refine Ab (Bc ?_);refine D5 ?_;refine Bn (Cb rfl (Ap (xo4 (h:=xo8 (h:=Aa (by simp only[zl,zm,Sd]<;>exact rfl) ?_)))));refine xo8 (h:=Aa (by simp only[zo];exact (hshow _)) ?_);refine Ar rfl (xo15 (h:=xo14 (h:=Ar rfl (Ar rfl ?_))));refine Ab (Bc ?_);refine Ap (xo4 (h:=xo8 (h:=Aa (by simp only[zo];exact wO) ?_)));refine Ar rfl (xo15 (h:=xo14 (h:=xo14 (h:=Ar rfl (Ar rfl ?_)))));refine Ar rfl (Ab (Bc ?_));refine Ak (Ap (Af rfl (xo2 (h:=Ar rfl (Gi 0 (b:=false) ?_)))));refine Bd rfl (Af rfl (Bd rfl (xo2 (h:=xo1 (h:=Ar rfl (Gi 0 (b:=false) ?_))))));refine Bd rfl (Af rfl (Bd rfl (Aa (by simp only[zo,Kn]<;>exact rfl) ?_)));refine Bd rfl (xo2 (h:=xo1 (h:=Ar rfl (Gi 0 (b:=false) ?_))));refine Bd rfl (Af rfl (Bd rfl (xo7 (h:=?_))));refine Bd rfl (xo2 (h:=xo1 (h:=?_)));refine Ab (Bc ?_);refine D5 ?_;refine Bn (Cb rfl (Ak (Ap (Ct (Ab (Bc ?_))))));refine Bo (E8 (fun n env S'=>∃(i:Nat) (u12 u13:D),2≤i∧i≤24∧n=24-i∧S'=⟨H3,0⟩∧env=[.bool false,.sl 6 [[.int .u8 1,.int .u8 2,.int .u8 0,.int .u8 1,.bool false,.bool false],[.int .u8 1,.int .u8 3,.int .u8 3,.int .u8 2,.bool true,.bool false]] (some 2),.ptr H'.length 0 0 0,.bool true,.sl 1 ([.str ⟨#[]⟩]::[.str ⟨#[32,32,65,32,49,50]⟩]::List.replicate 22 [.str ⟨#[]⟩]) (some 24),.int .i64 0,.msl go vs 0 1 (some 1),.int .i64 2,.int .i64 0,.int .i64 (i:Nat),.bool false,.bool false,u12,u13]) (22) (by omega) (⟨2,_,_,by omega,by omega,by omega,rfl,rfl⟩) ?_);rintro n env S' ⟨i,u12,u13,zN,hi,hnk,rfl,rfl⟩;refine Ak (Ap (Af rfl (xo2 (h:=?_))));refine Ab (Bc ?_);refine Dl (by simp only[opd,zv]<;>exact rfl) (fun zy=>?_) (fun zy=>?_)
 ·
  have xE:i<24:=by have:=of_decide_eq_true zy;omega
  have hw:=Ee i (by omega);have hii:=zT i zN xE;have h0:(0:Int)≤(i:Int):=by omega
  refine Bn (Cb rfl (Ak (Bo (Ap (Af rfl (Af rfl (Aa (by simp only[zl,zm,Mm,Int.toNat_natCast,hii,h0]<;>exact rfl) ?_)))))));refine xo4 (h:=Aa (by simp only[zo,Bz,beq_self_eq_true,Bool.not_true]<;>exact rfl) ?_);refine Ab (Bc ?_);refine D5 ?_;refine Bn (Fu (Cb rfl (Al (Af rfl (Aa (by simp only[zo,Bz,hw]<;>exact rfl) ?_)))));refine Ar rfl (Ab (Jh (by simp only[ze]<;>exact rfl) ?_));exact⟨24-(i+1),by omega,i+1,_,_,by omega,by omega,rfl,rfl,rfl⟩
 have xE:i=24:=by have:=of_decide_eq_false zy;omega
 subst xE;refine Eh (J4 (K4 (Kc (Cb rfl (Ap (Af rfl (Aa (by simp only[zl,zm,Mm,Int.toNat_zero,Int.le_refl]<;>exact rfl) ?_)))))));refine xo4 (h:=Aa (by simp only[zo,Bz,beq_self_eq_true]<;>exact rfl) ?_);refine Ar rfl (Gi 0 (b:=true) ?_);refine Bd rfl (Af rfl (Bd rfl (Aa (by simp only[zl,zm,Mm]<;>exact rfl) ?_)));refine Bd rfl (xo4 (h:=?_));refine Bd rfl (Aa (by simp only[zo,Bz,beq_self_eq_true]<;>exact rfl) ?_);refine xo1 (h:=Ar rfl (Gi 0 (b:=true) ?_));refine Bd rfl (Af rfl (Bd rfl (Aa (by simp only[zl,zm,Ch,Int.toNat_zero,Int.le_refl,h3p]<;>exact rfl) ?_)));refine Bd rfl (xo0 (h:=?_));refine Bd rfl (Aa (by simp only[zl,zm,zd,Ay,List.take,List.drop,h3p]<;>exact rfl) ?_);refine Bd rfl (Aa (by simp only[zo,Bz,beq_self_eq_true]<;>exact rfl) ?_);refine xo1 (h:=Ar rfl (Gi 0 (b:=true) ?_));refine Bd rfl (Af rfl (Bd rfl (Aa (by simp only[zl,zm,Ch,Int.toNat_zero,Int.le_refl,h3p]<;>exact rfl) ?_)));refine Bd rfl (xo0 (h:=?_));refine Bd rfl (Aa (by simp only[zl,zm,zd,Ay,List.take,List.drop,h3p]<;>exact rfl) ?_);refine Bd rfl (Aa (by simp only[zl,zm,Jc]<;>exact rfl) ?_);refine Bd rfl (Aa (by simp only[zo,Bz,Int.reduceToNat,h24l]<;>exact rfl) ?_);refine xo1 (h:=Ar rfl (Gi 0 (b:=true) ?_));refine Bd rfl (Af rfl (Bd rfl (Aa (by simp only[zo,Bz,Int.reduceToNat,beq_self_eq_true]<;>exact rfl) ?_)));refine xo1 (h:=Ar rfl (Ab ?_));refine Bc ?_;apply Cy;refine⟨_,by simp only[F8,Bw,Cz,Ei,zg]<;>exact rfl,?_⟩;simp only[Eu,leave,zs,zf,zk]
def FT (e:Int) (l c:Nat):D:=.ifc 31 (.agg [.int .i64 e,.int .i64 (l:Nat),.int .i64 (c:Nat)])
noncomputable def f53os:List Oper:=match Tryz.f53.body with
 | some (.seq _ (.region _ ops _))=>ops.toList.dropLast
 | _=>[]
noncomputable def f53o:Oper:=match Tryz.f53.body with
 | some (.seq _ (.region _ ops _))=>ops.toList.getLastD default
 | _=>default
theorem I1{lo:Nat}(r:D)(e:Int)(l c:Nat)(S:St)(hr:Vq S.heap.length S.heap r=some r)(xI:lo≤S.heap.length):Df Tryz.prog GT lo (FT e l c) 53 [r,.int .i64 e,.agg [.int .i64 (l:Nat),.int .i64 (c:Nat)]] S:=by
 refine raise_fn (call:=Bh LP NN 0) (fn:=Tryz.f53) (kd:=KD [] []) (slots:=[1,2,5]) (lc0:=.region [⟨.box 29 2,[.env 1],none,[],none⟩] [(2,0)]) (os:=f53os) (o:=f53o) (t:=9)
  (los:=[⟨.mv,[.env 0],none,[],none⟩,⟨.load 2 true,[.env 2],none,[],none⟩,⟨.build [.int .i64 0,.int .i64 0,.int .i64 0] [(0,1),(1,2)],[.loc 1,.loc 0],none,[],none⟩,⟨.mkif 31,[.loc 0],none,[],none⟩])
  (args':=[r,.int .i64 e,.agg [.int .i64 (l:Nat),.int .i64 (c:Nat)]]) (env0:=[.int .i64 e,.agg [.int .i64 (l:Nat),.int .i64 (c:Nat)],.undef]) (env1:=[.int .i64 e,.agg [.int .i64 (l:Nat),.int .i64 (c:Nat)],.ptr S.heap.length 0 0 0]) (S1:=⟨S.heap++[⟨29,2,[[.int .i64 (l:Nat),.int .i64 (c:Nat)]],0,0,false⟩],S.heap.length⟩) (SP:=⟨S.heap++[⟨29,2,[[.int .i64 (l:Nat),.int .i64 (c:Nat)]],0,0,false⟩],S.heap.length⟩)
  (vals:=[FT e l c,.agg [.int .i64 e,.int .i64 (l:Nat),.int .i64 (c:Nat)],.agg [.int .i64 (l:Nat),.int .i64 (c:Nat)],.int .i64 e])
  mixed (Na mixed Hg NN 0) (Jb LP NN 0) Tryz.func53 rfl (by decide +kernel) (by decide +kernel) (Nat.le_of_ble_eq_true (by kernel_rfl)) (fun g row h=>h) (by kernel_rfl) (by kernel_rfl) (by kernel_rfl) (by kernel_rfl) (by kernel_rfl) (by decide +kernel) (by simp only[Av,hr,Si,Lx,Cg,Oo,Option.map_some]) rfl
  (by simp only[Cj,He,onG,Ce,aop,LOp.loud,lop,List.map_cons,List.map_nil,opd,if_true,List.getD_cons_zero,List.getD_cons_succ,val_agg,Ti,List.all_cons,List.all_nil,K5,Bool.and_self,List.length_cons,List.length_nil,beq_self_eq_true,newAt,exports,zn]<;>exact rfl) rfl
  (by simp[He,onG,Ce,aop,LOp.loud,lop,pop,opd,Kr,rowsOf,Ay,Ez,overlay,D.val,D.cells,D.Vv,D.Vr,D.free,D.Vw,FT]) (by kernel_rfl) xI
abbrev TK:=Nat × ByteArray × Nat × Nat
def tq (l:List TK):List (List D):=l.map fun t=>tkR t.1 t.2.1 t.2.2.1 t.2.2.2
theorem G9(l m:List TK):tq (l++m)=tq l++tq m:=List.map_append
theorem Fj(l:List TK):(tq l).length=l.length:=List.length_map _
theorem tq_at{l:List TK}{i:Nat}(h:i<l.length):(tq l)[i]?=some (tkR l[i].1 l[i].2.1 l[i].2.2.1 l[i].2.2.2):=by simp[tq,h]
theorem take_pan{dd:Nat}(hd:20≤dd){H:List Vi}{g a c kd lo:Nat}{lx ox tx:D}(hH:H[g]?=some (PO lx a c ox))(hX:Vq H.length H tx=some tx)(his:∀l,Bh LP NN dd 142 [.ptr g 0 0 0,.int .u8 (kd:Nat),tx] ⟨H++[Gq],l⟩=some (.bool false,⟨H++[Gq],l⟩,false))(xI:lo≤g)(lw:Nat) :
  Df Tryz.prog GT lo (FT 4 a c) 89 [.ptr g 0 0 0,.int .u8 (kd:Nat),tx] ⟨H,lw⟩:=by
 have hl:=Be hH;have hHz:∀l,(H++l)[g]?=some (PO lx a c ox):=fun l=>by rw[Cr hl];exact hH
 apply Fx (F:=F89) (g:=53) (dd:=dd) mixed Hg rfl (by simp only[Av,zs,hX]<;>exact rfl) rfl (by simp only[F89,zv]<;>exact rfl);refine Bq (Bi (Aa (by simp only[zl,zm]<;>exact rfl) ?_));refine Ab (De (by simp only[ze]<;>exact rfl) ?_);refine Bq (Bq (Bi (Af rfl (Af rfl (Af rfl (Aa (by simp only[zo];exact his _) ?_))))));apply Aa (by simp only[zo,unD]<;>exact rfl);refine Ab (De (by simp only[ze]<;>exact rfl) ?_);apply Io (by simp only[opd,zv]<;>rfl);apply Ll 5 (by simp only[List.take_succ_cons,List.take_zero]<;>exact rfl) rfl;refine Af rfl (Af rfl (Aa (by simp only[zo]<;>exact rfl) ?_));apply Aa (by simp only[zo,Ad,zm]<;>exact rfl);apply Aa (by simp only[zl,zm,zd,Ay,List.take,List.drop,hH,PO,Cr hl]<;>exact rfl);apply Ab;simp only[KPan];refine⟨?_,Nat.le_of_eq rfl,fun xs yP=>?_⟩
 ·
  omega
 simp only[opd,zv]at yP;subst yP;exact I1 _ _ _ _ _ (by simp only[Gw]) (by simp only[Ll_];omega)
theorem number_panT{H:List Vi}{g lo:Nat}{d:D}(hg:∀l,Df Tryz.prog GT lo d 89 [.ptr g 0 0 0,.int .u8 2,.V5] ⟨H,l⟩)(xI:lo≤H.length)(lw:Nat) :
  Df Tryz.prog GT lo d 50 [.ptr g 0 0 0] ⟨H,lw⟩:=by
 apply Fx (F:=F50) (g:=89) (dd:=20) mixed Hg rfl (by simp only[Av,zs]<;>exact rfl) rfl (by simp only[F50,zv]<;>exact rfl);refine Bq (Bi (Ct (Ab (De (by simp only[ze]<;>exact rfl) ?_))));refine Bq (Ll 1 (by simp only[List.take_succ_cons,List.take_zero]<;>exact rfl) rfl ?_);refine Af rfl (Ab ?_);simp only[KPan];refine⟨?_,Nat.le_of_eq rfl,fun xs yP=>?_⟩
 ·
  omega
 simp only[opd,zv]at yP;subst yP;exact hg _
theorem number_panD{dd:Nat}(hd:20≤dd){H:List Vi}{g a c lo:Nat}{lx ox:D}{rest:List (List D)}{l0 c0:Nat}{s:ByteArray}(hH:H[g]?=some (PO lx a c ox))(hL:SlD 5 (tkR 2 s l0 c0::rest) lx)(hdig:∀S,Bh LP NN dd 90 [.str s] S=some (.bool false,S,false))(xI:lo≤g)(lw:Nat) :
  Df Tryz.prog GT lo (FT 4 a c) 50 [.ptr g 0 0 0] ⟨H,lw⟩:=by
 have hl:=Be hH;have zP:=fun (x:Vi)=>Ec hl x;have kF:∀(l:List Vi),H.length≤(H++l).length:=fun l=>by simp
 have yJ:=fun (S:St)=>hL.slice_1 S (by simp);have yG:=fun (S:St)=>hL.V3 S .i64 (i:=0) (r:=tkR 2 s l0 c0) (by omega) rfl;have hD:=hL.drop 1;have xW:min H.length g=g:=by omega
 have wI:¬H.length≤g:=by omega
 have vJ:min g H.length=g:=by omega
 have hmk:∀k:Nat,min g (H.length+k)=g:=fun k=>by omega
 have rG:∀l x,(H.set g x++l)[g]?=some x:=fun l x=>by rw[Cr (by simpa using hl)];exact Ec hl x
 apply Fx (F:=F50) (g:=53) (dd:=dd) mixed Hg rfl (by simp only[Av,zs]<;>exact rfl) rfl (by simp only[F50,zv]<;>exact rfl);refine Bq (Bi (Ct (Ab (De (by simp only[ze]<;>exact rfl) ?_))));refine Bq (Bi (Af rfl (Aa (by simp only[zo];exact Eo (by omega) hH hL (texts:=[]) (.nil 1) (by simp) (Jz 2 _) _) ?_)));apply Aa (by simp only[zl,zm,Nat.reduceAdd,PO,tkR,tkO]<;>exact rfl);apply Aa (by simp only[zl,zm,Bj,overlay,Cg,zs,zc,zf,List.take,List.drop,at_S,set_S,Nat.reduceAdd,tkR]<;>exact rfl);refine Ab (De (by simp only[ze]<;>exact rfl) ?_);refine Bq (Bq (Bi (Aa (by simp only[zo,Ad,zm]<;>exact rfl) ?_)));apply Aa (by simp only[zl,zm,zd,Ay,List.take,List.drop,at_S,Nat.reduceAdd]<;>exact rfl);apply Aa (by simp only[zo];exact hdig _);apply Aa (by simp only[zo,unD]<;>exact rfl);refine Ab (De (by simp only[ze]<;>exact rfl) ?_);apply Io (by simp only[opd,zv]<;>rfl);apply Ll 5 (by simp only[List.take_succ_cons,List.take_zero]<;>exact rfl) rfl;refine Af rfl (Af rfl (Aa (by simp only[zo]<;>exact rfl) ?_));apply Aa (by simp only[zo,Ad,zm]<;>exact rfl);apply Aa (by simp only[zl,zm,zd,Ay,List.take,List.drop,Nat.reduceAdd,rG]<;>exact rfl);apply Ab;simp only[KPan];refine⟨?_,Nat.le_of_eq rfl,fun xs yP=>?_⟩
 ·
  omega
 simp only[opd,zv]at yP;subst yP;exact I1 _ _ _ _ _ (by simp only[Gw]) (by simp only[Ll_,List.length_set];omega)
theorem place_panT{H:List Vi}{g lo:Nat}{d tx:D}(hX:Vq H.length H tx=some tx)(hg:∀l,Df Tryz.prog GT lo d 89 [.ptr g 0 0 0,.int .u8 1,tx] ⟨H,l⟩)(xI:lo≤H.length)(lw:Nat) :
  Df Tryz.prog GT lo d 94 [.ptr g 0 0 0,tx] ⟨H,lw⟩:=by
 apply Fx (F:=F94) (g:=89) (dd:=20) mixed Hg rfl (by simp only[Av,zs,hX]<;>exact rfl) rfl (by simp only[F94,zv]<;>exact rfl);refine Bq (Bi (Ct (Ab (De (by simp only[ze]<;>exact rfl) ?_))));refine Bq (Ll 2 (by simp only[List.take_succ_cons,List.take_zero]<;>exact rfl) rfl ?_);refine Af rfl (Af rfl (Ab ?_));simp only[KPan];refine⟨?_,Nat.le_of_eq rfl,fun xs yP=>?_⟩
 ·
  omega
 simp only[opd,zv]at yP;subst yP;exact hg _
theorem place_panN{dd:Nat}(hd:20≤dd){H H1 H2 H3:List Vi}{g lo:Nat}{d tx x1:D}{b1 b2 w2 w3:Bool}(hX:Vq H.length H tx=some tx)(xG:g<H.length)
  (h1:∀lo,Bh LP NN dd 89 [.ptr g 0 0 0,.int .u8 1,tx] ⟨H,lo⟩=some (x1,⟨H1,min lo g⟩,true)) (h2:Bh LP NN dd 93 [.ptr g 0 0 0,.sl 1 [[.str Pf]] (some 1)] ⟨H1,g⟩=some (.bool b1,⟨H2,g⟩,w2))
  (h3:Bh LP NN dd 93 [.ptr g 0 0 0,.sl 1 [[.str kIS]] (some 1)] ⟨H2,g⟩=some (.bool b2,⟨H3,g⟩,w3)) (hg:∀l,Df Tryz.prog GT lo d 50 [.ptr g 0 0 0] ⟨H3,l⟩) (xI:lo≤g) (lw:Nat) :
  Df Tryz.prog GT lo d 94 [.ptr g 0 0 0,tx] ⟨H,lw⟩:=by
 have xW:min H.length g=g:=by omega
 have hh1:=h1 H.length;rw[xW]at hh1;simp only[Pf,kIS]at h2 h3;apply Fx (F:=F94) (g:=50) (dd:=dd) mixed Hg rfl (by simp only[Av,zs,hX]<;>exact rfl) rfl (by simp only[F94,zv]<;>exact rfl);refine Bq (Bi (Ct (Ab (De (by simp only[ze]<;>exact rfl) ?_))));refine Bq (Bi (Af rfl (Af rfl (Aa (by simp only[zo];exact hh1) ?_))));refine Ab (De (by simp only[ze]<;>exact rfl) ?_);refine Bq (Bi (Af rfl (Aa (by simp only[zl,zm,Cf,List.replicate,Av,zs,zc,zf]<;>exact rfl) ?_)))
 first
  | refine Aa (by simp only[zo];exact h2) ?_
  | refine Aa (by simp only[zo,xW,Pf,kIS];exact h3) ?_
 refine Ab (De (by simp only[ze]<;>exact rfl) ?_);refine Bq (Bi (Af rfl (Aa (by simp only[zl,zm,Cf,List.replicate,Av,zs,zc,zf]<;>exact rfl) ?_)))
 first
  | refine Aa (by simp only[zo];exact h2) ?_
  | refine Aa (by simp only[zo];exact h3) ?_
 refine Ab (De (by simp only[ze]<;>exact rfl) ?_);refine Bq (Ll 1 (by simp only[List.take_succ_cons,List.take_zero]<;>exact rfl) rfl ?_);refine Af rfl (Ab ?_);simp only[KPan];refine⟨?_,Nat.le_of_eq rfl,fun xs yP=>?_⟩
 ·
  omega
 simp only[opd,zv]at yP;subst yP;exact hg _
theorem value_pan{dd:Nat}(hd:20≤dd){H H1 H2 H3:List Vi}{g gf lo l0 c0:Nat}{d x1:D}{b2 w2:Bool}{s:ByteArray}(hgf:gf<H.length)(uw:g<gf)
  (h1:Bh LP NN dd 93 [.ptr g 0 0 0,.sl 1 [[.str Fe]] (some 1)] ⟨H++[Gq],H.length⟩=some (.bool false,⟨H++[Gq],H.length⟩,false))
  (qO:Bh LP NN dd 89 [.ptr g 0 0 0,.int .u8 1,.sl 1 [[.str Dc],[.str Gz]] (some 2)] ⟨H++[Gq],H.length⟩=some (x1,⟨H1,g⟩,true))
  (h2:Bh LP NN dd 93 [.ptr g 0 0 0,.sl 1 [[.str kIS]] (some 1)] ⟨H1,g⟩=some (.bool b2,⟨H2,g⟩,w2))
  (h3:Bh LP NN dd 89 [.ptr g 0 0 0,.int .u8 4,.V5] ⟨H2,g⟩=some (.agg (tkR 4 s l0 c0),⟨H3,g⟩,true))
  (hg:∀l,Df Tryz.prog GT lo d 89 [.ptr g 0 0 0,.int .u8 1,.sl 1 [[.str Lh],[.str kTO],[.str Jo]] (some 3)] ⟨H3++[tkO 4 s l0 c0,Jq],l⟩) (xI:lo≤g) (uq:g<H3.length) (lw:Nat) :
  Df Tryz.prog GT lo d 95 [.ptr g 0 0 0,.ptr gf 0 0 0] ⟨H,lw⟩:=by
 have za:min g H3.length=g:=by omega
 have yu:min g (H3.length+1)=g:=by omega
 simp only[Fe,kIS,Dc,Gz,Lh,kTO,Jo]at h1 qO h2 hg;simp only[Gq,tkO,tkR,Jq,kwMap]at h1 qO h3 hg;apply Fx (F:=F95) (g:=89) (dd:=dd) mixed Hg rfl (by simp only[Av,zs]<;>exact rfl) rfl (by simp only[F95,zv]<;>exact rfl);refine Bq (Bi (Aa (by simp only[zl,zm]<;>exact rfl) ?_));refine Ab (De (by simp only[ze]<;>exact rfl) ?_);refine Bq (Bq (Bi (Af rfl (Aa (by simp only[zo]<;>exact rfl) ?_))));apply Aa (by simp only[zo,Ad,zm]<;>exact rfl);apply Aa (by simp only[zl,zm,Cf,List.replicate,Av,zs,zc,zf]<;>exact rfl)
 first
  | refine Aa (by simp only[zo];exact h1) ?_
  | refine Aa (by simp only[zo,za,yu,Dq,Dm,D8,Dt,tkO,tkR];exact h2) ?_
 refine Ab (De (by simp only[ze]<;>exact rfl) ?_);apply F7 (by simp only[opd,zv]<;>rfl);refine I5 (De rfl (Bq (Bi (Af rfl (Aa (by simp only[zo]<;>exact rfl) ?_)))));apply Aa (by simp only[zo,Ad,zm]<;>exact rfl);apply Aa (by simp only[zl,zm,Cf,List.replicate,Av,zs,zc,zf]<;>exact rfl)
 first
  | refine Aa (by simp only[zo];exact qO) ?_
  | refine Aa (by simp only[zo,za,yu,Dq,Dm,D8,Dt,tkO,tkR];exact h3) ?_
 refine Ab (De (by simp only[ze]<;>exact rfl) ?_);refine Bq (Bi (Af rfl (Aa (by simp only[zo]<;>exact rfl) ?_)));apply Aa (by simp only[zo,Ad,zm]<;>exact rfl);apply Aa (by simp only[zl,zm,Cf,List.replicate,Av,zs,zc,zf]<;>exact rfl)
 first
  | refine Aa (by simp only[zo];exact h1) ?_
  | refine Aa (by simp only[zo];exact h2) ?_
 refine Ab (De (by simp only[ze]<;>exact rfl) ?_);refine Bq (Bi (Af rfl (Aa (by simp only[zo]<;>exact rfl) ?_)));apply Aa (by simp only[zo,Ad,zm]<;>exact rfl)
 first
  | refine Aa (by simp only[zo];exact qO) ?_
  | refine Aa (by simp only[zo];exact h3) ?_
 apply Aa (by simp only[zl,zm]<;>exact rfl);apply Aa (by simp only[zl,zm,Bj,overlay,Cg,zs,zc,zf,List.take,List.drop,za]<;>exact rfl);refine Ab (De (by simp only[ze]<;>exact rfl) ?_);refine Bq (Bi (Aa (by simp only[zl,zm]<;>exact rfl) ?_));apply Aa (by simp only[zl,zm,Ir,isKey,Jg,zs,zc,zf,yu]<;>exact rfl);apply Aa (by simp only[zl,zm,Ir,isKey,Jg,F6,zs,zc,zf,yu]<;>exact rfl);apply Aa (by simp only[zl,zm,Ir,isKey,Jg,F6,zs,zc,zf,yu]<;>exact rfl);refine Ar rfl (Ar rfl (Ab (De (by simp only[ze]<;>exact rfl) ?_)));refine Bq (Ll 6 (by simp only[List.take_succ_cons,List.take_zero]<;>exact rfl) rfl ?_);refine Af rfl (Af rfl (Af rfl (Aa (by simp only[zo]<;>exact rfl) ?_)));apply Aa (by simp only[zo,Ad,zm]<;>exact rfl);apply Aa (by simp only[zl,zm,Cf,List.replicate,Av,zs,zc,zf]<;>exact rfl);apply Ab;simp only[KPan];refine⟨?_,Nat.le_of_eq rfl,fun xs yP=>?_⟩
 ·
  omega
 simp only[opd,zv]at yP;subst yP;exact hg _
theorem field_panA{dd:Nat}(hd:20≤dd){H H1:List Vi}{g lo lo1:Nat}{d:D}{b1 w1:Bool}(xG:g<H.length)(zJ:min lo1 g=g)
  (h1:Bh LP NN dd 93 [.ptr g 0 0 0,.sl 1 [[.str Ed]] (some 1)] ⟨H,H.length⟩=some (.bool b1,⟨H1,lo1⟩,w1))
  (ha:∀l,Df Tryz.prog GT lo d 94 [.ptr g 0 0 0,.sl 1 [[.str Cm]] (some 1)] ⟨H1++[FO row0],l⟩) (hb:∀l,Df Tryz.prog GT lo d 94 [.ptr g 0 0 0,.sl 1 [[.str Az],[.str Ey]] (some 2)] ⟨H1++[FO row0],l⟩) (xI:lo≤g) (lw:Nat):Df Tryz.prog GT lo d 52 [.ptr g 0 0 0] ⟨H,lw⟩:=by
 simp only[Ed]at h1;have xq:=xG;apply Fx (F:=F52) (g:=94) (dd:=dd) mixed Hg rfl (by simp only[Av,zs]<;>exact rfl) rfl (by simp only[F52,zv]<;>exact rfl);refine Bq (Bi (Af rfl (Aa (by simp only[zo]<;>exact rfl) ?_)));apply Aa (by simp only[zo,Ad,zm]<;>exact rfl);apply Aa (by simp only[zl,zm,Cf,List.replicate,Av,zs,zc,zf]<;>exact rfl);apply Aa (by simp only[zo];exact h1);refine Ab (De (by simp only[ze]<;>exact rfl) ?_);refine Bq (H6 (fun xs=>xs=[.ptr g 0 0 0,.sl 1 [[.str Cm]] (some 1)]∨xs=[.ptr g 0 0 0,.sl 1 [[.str Az],[.str Ey]] (some 2)]) (by simp only[Ci,zw]<;>exact rfl) (by simp only[zw,D9]<;>exact rfl) (⟨by simp only;omega,Nat.le_of_eq rfl,fun xs yP=>Or.elim yP (fun h=>by subst h;exact ha _) (fun h=>by subst h;exact hb _)⟩) ?_);refine Ca rfl rfl (Am (by simp only[zo,Cm,Az,Ey]<;>exact rfl) rfl rfl ?_);apply Am (by simp only[zo,Ad,zm,Cm,Az,Ey]<;>exact rfl) rfl rfl;apply Bb (by simp only[zl,zm,Cf,List.replicate,Av,zs,zc,zf,Cm,Az,Ey]<;>exact rfl) (by simp only[Ao,zo,zq]<;>exact rfl) (by first | rfl | (simp[show ob 0 3=[false,false,false] from rfl,Vp,Ac,Ai,Bl,Aj,Au,dj,Ah,Ae,Aq,Ba,Bv,Cc,G6,Vp,Ac,xq];done) | (simp[show ob 0 3=[false,false,false] from rfl,Vp,Ac,Ai,Bl,Aj,Au,dj,Ah,Ae,Aq,Ba,Bv,Cc,G6,Vp,Ac,Br,Aw,Bg,Bu,Co,FO,row0,Da];done))
 first
  | refine Bb (by simp only[zo,Cm,Az,Ey];exact (Fg (.inl rfl))) (by simp only[Ao,zo,zq]<;>exact rfl) (by first | rfl | (simp[show ob 15 4=[true,true,true,true] from rfl,Vp,Ac,Ai,Bl,Aj,Au,dj,Ah,Ae,Aq,Ba,Bv,Cc,G6,Vp,Ac,xq];done) | (simp[show ob 15 4=[true,true,true,true] from rfl,Vp,Ac,Ai,Bl,Aj,Au,dj,Ah,Ae,Aq,Ba,Bv,Cc,G6,Vp,Ac,Br,Aw,Bg,Bu,Co,FO,row0,Da];done)) ?_
  | refine Bb (by simp only[zo,FO,row0,Da,G6,Cm,Az,Ey,Dq,Dm,D8,Dt];exact (Fg (.inr rfl))) (by simp only[Ao,zo,zq]<;>exact rfl) (by first | rfl | (simp[show ob 15 4=[true,true,true,true] from rfl,Vp,Ac,Ai,Bl,Aj,Au,dj,Ah,Ae,Aq,Ba,Bv,Cc,G6,Vp,Ac,xq];done) | (simp[show ob 15 4=[true,true,true,true] from rfl,Vp,Ac,Ai,Bl,Aj,Au,dj,Ah,Ae,Aq,Ba,Bv,Cc,G6,Vp,Ac,Br,Aw,Bg,Bu,Co,FO,row0,Da];done)) ?_
 refine Ca rfl rfl (Am (by simp only[zo,G6,Cm,Az,Ey]<;>exact rfl) rfl rfl ?_);apply Am (by simp only[zo,Ad,zm,G6,Cm,Az,Ey]<;>exact rfl) rfl rfl;apply Bb (by simp only[zl,zm,Cf,List.replicate,Av,zs,zc,zf,G6,Cm,Az,Ey]<;>exact rfl) (by simp only[Ao,zo,zq]<;>exact rfl) (by first | rfl | (simp[show ob 0 8=[false,false,false,false,false,false,false,false] from rfl,Vp,Ac,Ai,Bl,Aj,Au,dj,Ah,Ae,Aq,Ba,Bv,Cc,G6,Vp,Ac,xq];done) | (simp[show ob 0 8=[false,false,false,false,false,false,false,false] from rfl,Vp,Ac,Ai,Bl,Aj,Au,dj,Ah,Ae,Aq,Ba,Bv,Cc,G6,Vp,Ac,Br,Aw,Bg,Bu,Co,FO,row0,Da];done))
 first
  | refine Bb (by simp only[zo,G6,Cm,Az,Ey];exact (Fg (.inl rfl))) (by simp only[Ao,zo,zq]<;>exact rfl) (by first | rfl | (simp[show ob 511 9=[true,true,true,true,true,true,true,true,true] from rfl,Vp,Ac,Ai,Bl,Aj,Au,dj,Ah,Ae,Aq,Ba,Bv,Cc,G6,Vp,Ac,xq];done) | (simp[show ob 511 9=[true,true,true,true,true,true,true,true,true] from rfl,Vp,Ac,Ai,Bl,Aj,Au,dj,Ah,Ae,Aq,Ba,Bv,Cc,G6,Vp,Ac,Br,Aw,Bg,Bu,Co,FO,row0,Da];done)) ?_
  | refine Bb (by simp only[zo,G6,Cm,Az,Ey];exact (Fg (.inr rfl))) (by simp only[Ao,zo,zq]<;>exact rfl) (by first | rfl | (simp[show ob 511 9=[true,true,true,true,true,true,true,true,true] from rfl,Vp,Ac,Ai,Bl,Aj,Au,dj,Ah,Ae,Aq,Ba,Bv,Cc,G6,Vp,Ac,xq];done) | (simp[show ob 511 9=[true,true,true,true,true,true,true,true,true] from rfl,Vp,Ac,Ai,Bl,Aj,Au,dj,Ah,Ae,Aq,Ba,Bv,Cc,G6,Vp,Ac,Br,Aw,Bg,Bu,Co,FO,row0,Da];done)) ?_
 apply Am (by simp only[zo,Ez,overlay,zc,List.take,List.drop,Nat.reduceAdd,Nat.reduceLeDiff,zm,G6,Cm,Az,Ey]<;>exact rfl) rfl rfl;apply Bb (by simp only[zo]<;>exact rfl) rfl rfl;apply Bb (by simp only[zl,zm,Bj,overlay,Cg,zs,zc,zf,List.take,List.drop,G6,Cm,Az,Ey]<;>exact rfl) (by simp only[Ao,zo,zq]<;>exact rfl) (by first | rfl | (simp[show ob 4095 12=[true,true,true,true,true,true,true,true,true,true,true,true] from rfl,Vp,Ac,Ai,Bl,Aj,Au,dj,Ah,Ae,Aq,Ba,Bv,Cc,G6,Vp,Ac,xq];done) | (simp[show ob 4095 12=[true,true,true,true,true,true,true,true,true,true,true,true] from rfl,Vp,Ac,Ai,Bl,Aj,Au,dj,Ah,Ae,Aq,Ba,Bv,Cc,G6,Vp,Ac,Br,Aw,Bg,Bu,Co,FO,row0,Da];done));apply Cw;exact⟨3,by decide,rfl⟩
theorem field_panB{dd:Nat}(hd:20≤dd){H H1 H2:List Vi}{g lo lo1 ln:Nat}{d:D}{b1 w1:Bool}(xG:g<H.length)(zJ:min lo1 g=g)
  (h1:Bh LP NN dd 93 [.ptr g 0 0 0,.sl 1 [[.str Ed]] (some 1)] ⟨H,H.length⟩=some (.bool b1,⟨H1,lo1⟩,w1))
  (h2:∀lo,Bh LP NN dd 94 [.ptr g 0 0 0,.sl 1 [[.str Cm]] (some 1)] ⟨H1++[FO row0],lo⟩=some (.int .i64 (ln:Nat),⟨H2,min lo g⟩,true))
  (xu:H2[H1.length]?=some (FO row0)) (hb:∀l,Df Tryz.prog GT lo d 94 [.ptr g 0 0 0,.sl 1 [[.str Az],[.str Ey]] (some 2)] ⟨H2,l⟩) (xI:lo≤g) (lw:Nat):Df Tryz.prog GT lo d 52 [.ptr g 0 0 0] ⟨H,lw⟩:=by
 have uS:=Be xu;have xq:=xG;have yL:min lo1 g=g:=zJ;simp only[Ed]at h1;simp only[Cm]at h2;simp only[FO,row0,Da,List.cons_append,List.nil_append]at h2 xu;apply Fx (F:=F52) (g:=94) (dd:=dd) mixed Hg rfl (by simp only[Av,zs]<;>exact rfl) rfl (by simp only[F52,zv]<;>exact rfl);refine Bq (Bi (Af rfl (Aa (by simp only[zo]<;>exact rfl) ?_)));apply Aa (by simp only[zo,Ad,zm]<;>exact rfl);apply Aa (by simp only[zl,zm,Cf,List.replicate,Av,zs,zc,zf]<;>exact rfl);apply Aa (by simp only[zo];exact h1);refine Ab (De (by simp only[ze]<;>exact rfl) ?_);refine Bq (xw_drawnP (⟨H2,min lo1 g⟩) (fun xs=>xs=[.ptr g 0 0 0,.sl 1 [[.str Az],[.str Ey]] (some 2)]) (by simp only[Ci,zw]<;>exact rfl) (by simp only[zw,D9]<;>exact rfl) (⟨by simp only;omega,Nat.le_of_eq rfl,fun xs yP=>by subst yP;exact hb _⟩) ?_);refine Ca rfl rfl (Am (by simp only[zo,Az,Ey,yL]<;>exact rfl) rfl rfl ?_);apply Am (by simp only[zo,Ad,zm,Az,Ey,yL]<;>exact rfl) rfl rfl;apply Bb (by simp only[zl,zm,Cf,List.replicate,Av,zs,zc,zf,Az,Ey,yL]<;>exact rfl) (by simp only[Ao,zo,zq]<;>exact rfl) (by first | rfl | (simp[show ob 0 3=[false,false,false] from rfl,Vp,Ac,Ai,Bl,Aj,Au,dj,Ah,Ae,Aq,Ba,Bv,Cc,G6,xu,Vp,Ac,xq];done) | (simp[show ob 0 3=[false,false,false] from rfl,Vp,Ac,Ai,Bl,Aj,Au,dj,Ah,Ae,Aq,Ba,Bv,Cc,G6,xu,Vp,Ac,Br,Aw,Bg,Bu,Co,FO,row0,Da];done))
 first
  | refine Bb (by simp only[zo,Az,Ey,yL];exact (callX_miss (by simp[])).trans (h2 _)) (by simp only[Ao,zo,zq]<;>exact rfl) (by first | rfl | (simp[show ob 15 4=[true,true,true,true] from rfl,Vp,Ac,Ai,Bl,Aj,Au,dj,Ah,Ae,Bv,Vp,Ac];done) | (simp[show ob 15 4=[true,true,true,true] from rfl,Vp,Ac,Ai,Bl,Aj,Au,dj,Ah,Ae,Bv,xu,Vp,Ac,Br,Aw,Bg,Bu,Co];done)) ?_
  | refine Bb (by simp only[zo,FO,row0,Da,G6,Cm,Az,Ey,Dq,Dm,D8,Dt,xu,uS,yL];exact (Fg rfl)) (by simp only[Ao,zo,zq]<;>exact rfl) (by first | rfl | (simp[show ob 15 4=[true,true,true,true] from rfl,Vp,Ac,Ai,Bl,Aj,Au,dj,Ah,Ae,Aq,Ba,Bv,Cc,G6,xu,Vp,Ac,xq];done) | (simp[show ob 15 4=[true,true,true,true] from rfl,Vp,Ac,Ai,Bl,Aj,Au,dj,Ah,Ae,Aq,Ba,Bv,Cc,G6,xu,Vp,Ac,Br,Aw,Bg,Bu,Co,FO,row0,Da];done)) ?_
 refine Ca rfl rfl (Am (by simp only[zo,Az,Ey,yL]<;>exact rfl) rfl rfl ?_);apply Am (by simp only[zo,Ad,zm,Az,Ey,yL]<;>exact rfl) rfl rfl;apply Bb (by simp only[zl,zm,Cf,List.replicate,Av,zs,zc,zf,Az,Ey,yL]<;>exact rfl) (by simp only[Ao,zo,zq]<;>exact rfl) (by first | rfl | (simp[show ob 0 8=[false,false,false,false,false,false,false,false] from rfl,Vp,Ac,Ai,Bl,Aj,Au,dj,Ah,Ae,Aq,Ba,Bv,Cc,G6,xu,Vp,Ac,xq];done) | (simp[show ob 0 8=[false,false,false,false,false,false,false,false] from rfl,Vp,Ac,Ai,Bl,Aj,Au,dj,Ah,Ae,Aq,Ba,Bv,Cc,G6,xu,Vp,Ac,Br,Aw,Bg,Bu,Co,FO,row0,Da];done))
 first
  | refine Bb (by simp only[zo,Az,Ey,yL];exact (callX_miss (by simp[Cm,Az,Ey])).trans (h2 _)) (by simp only[Ao,zo,zq]<;>exact rfl) (by first | rfl | (simp[show ob 511 9=[true,true,true,true,true,true,true,true,true] from rfl,Vp,Ac,Ai,Bl,Aj,Au,dj,Ah,Ae,Aq,Ba,Bv,Cc,G6,xu,Vp,Ac,xq];done) | (simp[show ob 511 9=[true,true,true,true,true,true,true,true,true] from rfl,Vp,Ac,Ai,Bl,Aj,Au,dj,Ah,Ae,Aq,Ba,Bv,Cc,G6,xu,Vp,Ac,Br,Aw,Bg,Bu,Co,FO,row0,Da];done)) ?_
  | refine Bb (by simp only[zo,Az,Ey,yL];exact (Fg rfl)) (by simp only[Ao,zo,zq]<;>exact rfl) (by first | rfl | (simp[show ob 511 9=[true,true,true,true,true,true,true,true,true] from rfl,Vp,Ac,Ai,Bl,Aj,Au,dj,Ah,Ae,Aq,Ba,Bv,Cc,G6,xu,Vp,Ac,xq];done) | (simp[show ob 511 9=[true,true,true,true,true,true,true,true,true] from rfl,Vp,Ac,Ai,Bl,Aj,Au,dj,Ah,Ae,Aq,Ba,Bv,Cc,G6,xu,Vp,Ac,Br,Aw,Bg,Bu,Co,FO,row0,Da];done)) ?_
 apply Am (by simp only[zo,Ez,overlay,zc,List.take,List.drop,Nat.reduceAdd,Nat.reduceLeDiff,zm,G6,Az,Ey,yL]<;>exact rfl) rfl rfl;apply Bb (by simp only[zo]<;>exact rfl) rfl rfl;apply Bb (by simp only[zl,zm,Bj,overlay,Cg,zs,zc,zf,List.take,List.drop,G6,Az,Ey,xu,yL]<;>exact rfl) (by simp only[Ao,zo,zq]<;>exact rfl) (by first | rfl | (simp[show ob 4095 12=[true,true,true,true,true,true,true,true,true,true,true,true] from rfl,Vp,Ac,Ai,Bl,Aj,Au,dj,Ah,Ae,Aq,Ba,Bv,Cc,G6,xu,Vp,Ac,xq];done) | (simp[show ob 4095 12=[true,true,true,true,true,true,true,true,true,true,true,true] from rfl,Vp,Ac,Ai,Bl,Aj,Au,dj,Ah,Ae,Aq,Ba,Bv,Cc,G6,xu,Vp,Ac,Br,Aw,Bg,Bu,Co,FO,row0,Da];done));apply Cw;exact⟨3,by decide,rfl⟩
theorem field_panC{dd:Nat}(hd:20≤dd){H H1 H2 H3:List Vi}{g lo lo1 ln cn:Nat}{d:D}{b1 w1:Bool}(xG:g<H.length)(zJ:min lo1 g=g)
  (h1:Bh LP NN dd 93 [.ptr g 0 0 0,.sl 1 [[.str Ed]] (some 1)] ⟨H,H.length⟩=some (.bool b1,⟨H1,lo1⟩,w1))
  (h2:∀lo,Bh LP NN dd 94 [.ptr g 0 0 0,.sl 1 [[.str Cm]] (some 1)] ⟨H1++[FO row0],lo⟩=some (.int .i64 (ln:Nat),⟨H2,min lo g⟩,true))
  (h3:∀lo,Bh LP NN dd 94 [.ptr g 0 0 0,.sl 1 [[.str Az],[.str Ey]] (some 2)] ⟨H2,lo⟩=some (.int .i64 (cn:Nat),⟨H3,min lo g⟩,true)) (xu:H2[H1.length]?=some (FO row0)) (xw:H3[H1.length]?=some (FO row0))
  (hv:∀l,Df Tryz.prog GT lo d 95 [.ptr g 0 0 0,.ptr H1.length 0 0 0] ⟨H3.set H1.length (FO ([.int .i64 (ln:Nat),.int .i64 (cn:Nat),.int .u8 0,.V5]++Da++[.V5])),l⟩) (xI:lo≤g) (hgh:g≤H1.length) (lw:Nat):Df Tryz.prog GT lo d 52 [.ptr g 0 0 0] ⟨H,lw⟩:=by
 have uS:=Be xu;have qb:=Be xw;have xq:=xG;have yL:min lo1 g=g:=zJ;have xZ:min g g=g:=by omega
 simp only[Ed]at h1;simp only[Cm]at h2;simp only[Az,Ey]at h3;simp only[FO,row0,Da,List.cons_append,List.nil_append]at h2 xu xw;simp only[FO,Da,List.cons_append,List.nil_append]at hv;apply Fx (F:=F52) (g:=95) (dd:=dd) mixed Hg rfl (by simp only[Av,zs]<;>exact rfl) rfl (by simp only[F52,zv]<;>exact rfl);refine Bq (Bi (Af rfl (Aa (by simp only[zo]<;>exact rfl) ?_)));apply Aa (by simp only[zo,Ad,zm]<;>exact rfl);apply Aa (by simp only[zl,zm,Cf,List.replicate,Av,zs,zc,zf]<;>exact rfl);apply Aa (by simp only[zo];exact h1);refine Ab (De (by simp only[ze]<;>exact rfl) ?_);refine Bq (Hr (by simp only[Ci,zw]<;>exact rfl) (by simp only[zw,D9]<;>exact rfl) ?_);refine Ca rfl rfl (Am (by simp only[zo]<;>exact rfl) rfl rfl ?_);apply Am (by simp only[zo,Ad,zm]<;>exact rfl) rfl rfl;apply Bb (by simp only[zl,zm,Cf,List.replicate,Av,zs,zc,zf]<;>exact rfl) (by simp only[Ao,zo,zq]<;>exact rfl) (by first | rfl | (simp[show ob 0 3=[false,false,false] from rfl,Vp,Ac,Ai,Bl,Aj,Au,dj,Ah,Ae,Aq,Ba,Bv,Cc,xu,xw,Vp,Ac,xq];done) | (simp[show ob 0 3=[false,false,false] from rfl,Vp,Ac,Ai,Bl,Aj,Au,dj,Ah,Ae,Aq,Ba,Bv,Cc,xu,xw,Vp,Ac,Br,Aw,Bg,Bu,Co,FO,row0,Da];done))
 first
  | refine Bb (by simp only[zo];exact (h2 _)) (by simp only[Ao,zo,zq]<;>exact rfl) (by first | rfl | (simp[show ob 15 4=[true,true,true,true] from rfl,Vp,Ac,Ai,Bl,Aj,Au,dj,Ah,Ae,Bv,Vp,Ac];done) | (simp[show ob 15 4=[true,true,true,true] from rfl,Vp,Ac,Ai,Bl,Aj,Au,dj,Ah,Ae,Bv,xu,Vp,Ac,Br,Aw,Bg,Bu,Co];done)) ?_
  | refine Bb (by simp only[zo,FO,row0,Da,Cm,Az,Ey,Dq,Dm,D8,Dt,xu,xw,uS,qb,yL,xZ];exact (h3 _)) (by simp only[Ao,zo,zq]<;>exact rfl) (by first | rfl | (simp[show ob 15 4=[true,true,true,true] from rfl,Vp,Ac,Ai,Bl,Aj,Au,dj,Ah,Ae,Aq,Ba,Bv,Cc,xu,xw,Vp,Ac,xq];done) | (simp[show ob 15 4=[true,true,true,true] from rfl,Vp,Ac,Ai,Bl,Aj,Au,dj,Ah,Ae,Aq,Ba,Bv,Cc,xu,xw,Vp,Ac,Br,Aw,Bg,Bu,Co,FO,row0,Da];done)) ?_
 refine Ca rfl rfl (Am (by simp only[zo,yL]<;>exact rfl) rfl rfl ?_);apply Am (by simp only[zo,Ad,zm]<;>exact rfl) rfl rfl;apply Bb (by simp only[zl,zm,Cf,List.replicate,Av,zs,zc,zf]<;>exact rfl) (by simp only[Ao,zo,zq]<;>exact rfl) (by first | rfl | (simp[show ob 0 8=[false,false,false,false,false,false,false,false] from rfl,Vp,Ac,Ai,Bl,Aj,Au,dj,Ah,Ae,Aq,Ba,Bv,Cc,xu,xw,Vp,Ac,xq];done) | (simp[show ob 0 8=[false,false,false,false,false,false,false,false] from rfl,Vp,Ac,Ai,Bl,Aj,Au,dj,Ah,Ae,Aq,Ba,Bv,Cc,xu,xw,Vp,Ac,Br,Aw,Bg,Bu,Co,FO,row0,Da];done))
 first
  | refine Bb (by simp only[zo];exact (h2 _)) (by simp only[Ao,zo,zq]<;>exact rfl) (by first | rfl | (simp[show ob 511 9=[true,true,true,true,true,true,true,true,true] from rfl,Vp,Ac,Ai,Bl,Aj,Au,dj,Ah,Ae,Aq,Ba,Bv,Cc,xu,xw,Vp,Ac,xq];done) | (simp[show ob 511 9=[true,true,true,true,true,true,true,true,true] from rfl,Vp,Ac,Ai,Bl,Aj,Au,dj,Ah,Ae,Aq,Ba,Bv,Cc,xu,xw,Vp,Ac,Br,Aw,Bg,Bu,Co,FO,row0,Da];done)) ?_
  | refine Bb (by simp only[zo];exact (h3 _)) (by simp only[Ao,zo,zq]<;>exact rfl) (by first | rfl | (simp[show ob 511 9=[true,true,true,true,true,true,true,true,true] from rfl,Vp,Ac,Ai,Bl,Aj,Au,dj,Ah,Ae,Bv,Vp,Ac];done) | (simp[show ob 511 9=[true,true,true,true,true,true,true,true,true] from rfl,Vp,Ac,Ai,Bl,Aj,Au,dj,Ah,Ae,Bv,xw,Vp,Ac,Br,Aw,Bg,Bu,Co];done)) ?_
 apply Am (by simp only[zo,Ez,overlay,zc,List.take,List.drop,Nat.reduceAdd,Nat.reduceLeDiff,zm,xZ]<;>exact rfl) rfl rfl;apply Bb (by simp only[zo]<;>exact rfl) rfl rfl;apply Bb (by simp only[zl,zm,Bj,overlay,Cg,zs,zc,zf,List.take,List.drop,xw]<;>exact rfl) (by simp only[Ao,zo,zq]<;>exact rfl) (by first | rfl | (simp[show ob 4095 12=[true,true,true,true,true,true,true,true,true,true,true,true] from rfl,Vp,Ac,Ai,Bl,Aj,Au,dj,Ah,Ae,Aq,Ba,Bv,Cc,xu,xw,Vp,Ac,xq];done) | (simp[show ob 4095 12=[true,true,true,true,true,true,true,true,true,true,true,true] from rfl,Vp,Ac,Ai,Bl,Aj,Au,dj,Ah,Ae,Aq,Ba,Bv,Cc,xu,xw,Vp,Ac,Br,Aw,Bg,Bu,Co,FO,row0,Da];done));refine Cw (De (by simp only[ze]<;>exact rfl) ?_);refine Bq (Ll 1 (by simp only[List.take_succ_cons,List.take_zero]<;>exact rfl) rfl ?_);refine Af rfl (Ab ?_);simp only[KPan];refine⟨?_,Nat.le_of_eq rfl,fun xs yP=>?_⟩
 ·
  omega
 simp only[opd,zv]at yP;subst yP;exact hv _
theorem field_pan10{dd:Nat}(hd:20≤dd){H H1 H2 H3 H4:List Vi}{g lo lo1 ln cn k a c tk tl tc:Nat}{ts:ByteArray}{lx4 ox opx:D}{b1 w1:Bool}(hk:2≤k)(xG:g<H.length)(zJ:min lo1 g=g)
  (h1:Bh LP NN dd 93 [.ptr g 0 0 0,.sl 1 [[.str Ed]] (some 1)] ⟨H,H.length⟩=some (.bool b1,⟨H1,lo1⟩,w1))
  (h2:∀lo,Bh LP NN dd 94 [.ptr g 0 0 0,.sl 1 [[.str Cm]] (some 1)] ⟨H1++[FO row0],lo⟩=some (.int .i64 (ln:Nat),⟨H2,min lo g⟩,true))
  (h3:∀lo,Bh LP NN dd 94 [.ptr g 0 0 0,.sl 1 [[.str Az],[.str Ey]] (some 2)] ⟨H2,lo⟩=some (.int .i64 (cn:Nat),⟨H3,min lo g⟩,true)) (xu:H2[H1.length]?=some (FO row0)) (xw:H3[H1.length]?=some (FO row0))
  (h4:∀lo,Bh LP NN dd 95 [.ptr g 0 0 0,.ptr H1.length 0 0 0] ⟨H3.set H1.length (FO ([.int .i64 (ln:Nat),.int .i64 (cn:Nat),.int .u8 0,.V5]++Da++[.V5])),lo⟩=some (.agg (tkR tk ts tl tc),⟨H4,min lo g⟩,true))
  (y8:H4[g]?=some (PO lx4 a c ox)) (zu:SlD 5 [] lx4) (y5:H4[H1.length]?=some (FO ([.int .i64 (ln:Nat),.int .i64 (cn:Nat),.int .u8 (k:Nat),.V5]++Da++[opx]))) (ho:Ji false opx=some (.int .i64 0)) (xI:lo≤g) (hgh:g<H1.length) (lw:Nat):Df Tryz.prog GT lo (FT 4 a c) 52 [.ptr g 0 0 0] ⟨H,lw⟩:=by
 have uS:=Be xu;have qb:=Be xw;have xq:=xG;have yL:min lo1 g=g:=zJ;have xZ:min g g=g:=by omega
 simp only[Ed]at h1;simp only[Cm]at h2;simp only[Az,Ey]at h3;simp only[FO,row0,Da,List.cons_append,List.nil_append]at h2 xu xw;have wD:=Be y8;have yU:=Be y5;have wM:=zu.len;have zI:min g H1.length=g:=by omega
 have xS:(((k:Nat):Int) != 1)=true:=by rw[bne_iff_ne];omega
 simp only[FO,Da,List.cons_append,List.nil_append,PO,tkR]at h4 y8 y5;apply Fx (F:=F52) (g:=53) (dd:=dd) mixed Hg rfl (by simp only[Av,zs]<;>exact rfl) rfl (by simp only[F52,zv]<;>exact rfl);refine Bq (Bi (Af rfl (Aa (by simp only[zo]<;>exact rfl) ?_)));apply Aa (by simp only[zo,Ad,zm]<;>exact rfl);apply Aa (by simp only[zl,zm,Cf,List.replicate,Av,zs,zc,zf]<;>exact rfl);apply Aa (by simp only[zo];exact h1);refine Ab (De (by simp only[ze]<;>exact rfl) ?_);refine Bq (Hr (by simp only[Ci,zw]<;>exact rfl) (by simp only[zw,D9]<;>exact rfl) ?_);refine Ca rfl rfl (Am (by simp only[zo]<;>exact rfl) rfl rfl ?_);apply Am (by simp only[zo,Ad,zm]<;>exact rfl) rfl rfl;apply Bb (by simp only[zl,zm,Cf,List.replicate,Av,zs,zc,zf]<;>exact rfl) (by simp only[Ao,zo,zq]<;>exact rfl) (by first | rfl | (simp[show ob 0 3=[false,false,false] from rfl,Vp,Ac,Ai,Bl,Aj,Au,dj,Ah,Ae,Aq,Ba,Bv,Cc,xu,xw,Vp,Ac,xq];done) | (simp[show ob 0 3=[false,false,false] from rfl,Vp,Ac,Ai,Bl,Aj,Au,dj,Ah,Ae,Aq,Ba,Bv,Cc,xu,xw,Vp,Ac,Br,Aw,Bg,Bu,Co,FO,row0,Da];done))
 first
  | refine Bb (by simp only[zo];exact (h2 _)) (by simp only[Ao,zo,zq]<;>exact rfl) (by first | rfl | (simp[show ob 15 4=[true,true,true,true] from rfl,Vp,Ac,Ai,Bl,Aj,Au,dj,Ah,Ae,Bv,Vp,Ac];done) | (simp[show ob 15 4=[true,true,true,true] from rfl,Vp,Ac,Ai,Bl,Aj,Au,dj,Ah,Ae,Bv,xu,Vp,Ac,Br,Aw,Bg,Bu,Co];done)) ?_
  | refine Bb (by simp only[zo,FO,row0,Da,Cm,Az,Ey,Dq,Dm,D8,Dt,xu,xw,uS,qb,yL,xZ,zI,Cr wD,Cr yU,Fh yU,y8,y5,wM,xS,PO,tkR,ho];exact (h3 _)) (by simp only[Ao,zo,zq]<;>exact rfl) (by first | rfl | (simp[show ob 15 4=[true,true,true,true] from rfl,Vp,Ac,Ai,Bl,Aj,Au,dj,Ah,Ae,Aq,Ba,Bv,Cc,xu,xw,Vp,Ac,xq];done) | (simp[show ob 15 4=[true,true,true,true] from rfl,Vp,Ac,Ai,Bl,Aj,Au,dj,Ah,Ae,Aq,Ba,Bv,Cc,xu,xw,Vp,Ac,Br,Aw,Bg,Bu,Co,FO,row0,Da];done)) ?_
 refine Ca rfl rfl (Am (by simp only[zo,yL]<;>exact rfl) rfl rfl ?_);apply Am (by simp only[zo,Ad,zm]<;>exact rfl) rfl rfl;apply Bb (by simp only[zl,zm,Cf,List.replicate,Av,zs,zc,zf]<;>exact rfl) (by simp only[Ao,zo,zq]<;>exact rfl) (by first | rfl | (simp[show ob 0 8=[false,false,false,false,false,false,false,false] from rfl,Vp,Ac,Ai,Bl,Aj,Au,dj,Ah,Ae,Aq,Ba,Bv,Cc,xu,xw,Vp,Ac,xq];done) | (simp[show ob 0 8=[false,false,false,false,false,false,false,false] from rfl,Vp,Ac,Ai,Bl,Aj,Au,dj,Ah,Ae,Aq,Ba,Bv,Cc,xu,xw,Vp,Ac,Br,Aw,Bg,Bu,Co,FO,row0,Da];done))
 first
  | refine Bb (by simp only[zo];exact (h2 _)) (by simp only[Ao,zo,zq]<;>exact rfl) (by first | rfl | (simp[show ob 511 9=[true,true,true,true,true,true,true,true,true] from rfl,Vp,Ac,Ai,Bl,Aj,Au,dj,Ah,Ae,Aq,Ba,Bv,Cc,xu,xw,Vp,Ac,xq];done) | (simp[show ob 511 9=[true,true,true,true,true,true,true,true,true] from rfl,Vp,Ac,Ai,Bl,Aj,Au,dj,Ah,Ae,Aq,Ba,Bv,Cc,xu,xw,Vp,Ac,Br,Aw,Bg,Bu,Co,FO,row0,Da];done)) ?_
  | refine Bb (by simp only[zo];exact (h3 _)) (by simp only[Ao,zo,zq]<;>exact rfl) (by first | rfl | (simp[show ob 511 9=[true,true,true,true,true,true,true,true,true] from rfl,Vp,Ac,Ai,Bl,Aj,Au,dj,Ah,Ae,Bv,Vp,Ac];done) | (simp[show ob 511 9=[true,true,true,true,true,true,true,true,true] from rfl,Vp,Ac,Ai,Bl,Aj,Au,dj,Ah,Ae,Bv,xw,Vp,Ac,Br,Aw,Bg,Bu,Co];done)) ?_
 apply Am (by simp only[zo,Ez,overlay,zc,List.take,List.drop,Nat.reduceAdd,Nat.reduceLeDiff,zm,xZ]<;>exact rfl) rfl rfl;apply Bb (by simp only[zo]<;>exact rfl) rfl rfl;apply Bb (by simp only[zl,zm,Bj,overlay,Cg,zs,zc,zf,List.take,List.drop,xw,zI]<;>exact rfl) (by simp only[Ao,zo,zq]<;>exact rfl) (by first | rfl | (simp[show ob 4095 12=[true,true,true,true,true,true,true,true,true,true,true,true] from rfl,Vp,Ac,Ai,Bl,Aj,Au,dj,Ah,Ae,Aq,Ba,Bv,Cc,xu,xw,Vp,Ac,xq];done) | (simp[show ob 4095 12=[true,true,true,true,true,true,true,true,true,true,true,true] from rfl,Vp,Ac,Ai,Bl,Aj,Au,dj,Ah,Ae,Aq,Ba,Bv,Cc,xu,xw,Vp,Ac,Br,Aw,Bg,Bu,Co,FO,row0,Da];done));refine Cw (De (by simp only[ze]<;>exact rfl) ?_);refine Bq (Bi (Af rfl (Aa (by simp only[zo];exact (h4 _)) ?_)));apply Aa (by simp only[zl,zm,xZ]<;>exact rfl);apply Aa (by simp only[zl,zm,Bj,overlay,Cg,zs,zc,zf,List.take,List.drop]<;>exact rfl);refine Ab (De (by simp only[ze]<;>exact rfl) ?_);refine Bq (Bq (Bi (Af rfl (Aa (by simp only[zo]<;>exact rfl) ?_))));apply Aa (by simp only[zo,Ad,zm]<;>exact rfl);apply Aa (by simp only[zo,Ad,zm]<;>exact rfl);apply Aa (by simp only[zl,zm,zd,Ay,List.take,List.drop,Cr wD,y8]<;>exact rfl);apply Aa (by simp only[zo,wM]<;>exact rfl);apply Aa (by simp only[zo,Bz]<;>exact rfl);refine Ar rfl (Gc 0 (b:=false) (by simp only[zv]<;>rfl) (by simp only[zn]<;>exact rfl) ?_);refine Bd rfl (Aa (by simp only[zo,Ad,zm]<;>exact rfl) ?_);refine Bd rfl (Aa (by simp only[zl,zm,zd,Ay,List.take,List.drop,Cr yU,y5]<;>exact rfl) ?_);refine Bd rfl (Aa (by simp only[zo,Bz,xS]<;>exact rfl) ?_);refine Bd rfl (Ar rfl (Gc 0 (b:=true) (by simp only[zv]<;>rfl) (by simp only[zn]<;>exact rfl) ?_));refine Bd rfl (Aa (by simp only[zo,Ad,zm]<;>exact rfl) ?_);refine Bd rfl (Aa (by simp only[zl,zm,zd,Ay,List.take,List.drop,Cr yU,y5]<;>exact rfl) ?_);refine Bd rfl (Aa (by simp only[zo,ho]<;>exact rfl) ?_);refine Bd rfl (Aa (by simp only[zo,Bz]<;>exact rfl) ?_);refine Bd rfl (Aa (by simp only[zo]<;>exact rfl) ?_);apply Aa (by simp only[zo]<;>exact rfl);refine Ab (De (by simp only[ze]<;>exact rfl) ?_);apply Io (by simp only[opd,zv]<;>rfl);apply H6 (fun xs=>xs=[.ptr g 0 0 0,.int .i64 4,.agg [.int .i64 (a:Nat),.int .i64 (c:Nat)]]) (by simp only[Ci,zw,Nat.reduceAdd]<;>exact rfl) (by simp only[zw]<;>exact rfl) (⟨by simp only;omega,Nat.le_of_eq rfl,fun xs yP=>by subst yP;exact I1 _ _ _ _ _ (by simp only[Gw]) (by simp only[Ll_];omega)⟩);refine Ca rfl rfl (Am (by simp only[zo]<;>exact rfl) rfl rfl ?_);apply Am (by simp only[zo,Ad,zm]<;>exact rfl) rfl rfl;refine Ca rfl rfl (Am (by simp only[zo]<;>exact rfl) rfl rfl ?_);apply Am (by simp only[zo,Ad,zm]<;>exact rfl) rfl rfl;apply Am (by simp only[zo,Ad,zm]<;>exact rfl) rfl rfl;apply Bb (by simp only[zl,zm,zd,Ay,List.take,List.drop,Cr wD,y8]<;>exact rfl) (by simp only[Ao,zo,zq]<;>exact rfl) (by first | rfl | (simp[show ob 120 7=[true,true,true,true,false,false,false] from rfl,Vp,Ac,Ai,Bl,Aj,Au,dj,Ah,Ae,Aq,Ba,Bv,Cc,xu,xw,Vp,Ac,xq];done) | (simp[show ob 120 7=[true,true,true,true,false,false,false] from rfl,Vp,Ac,Ai,Bl,Aj,Au,dj,Ah,Ae,Aq,Ba,Bv,Cc,xu,xw,Vp,Ac,Br,Aw,Bg,Bu,Co,FO,row0,Da];done));apply Bb (by simp only[zo];exact (Fg rfl)) (by simp only[Ao,zo,zq]<;>exact rfl) (by first | rfl | (simp[show ob 255 8=[true,true,true,true,true,true,true,true] from rfl,Vp,Ac,Ai,Bl,Aj,Au,dj,Ah,Ae,Aq,Ba,Bv,Cc,xu,xw,Vp,Ac,xq];done) | (simp[show ob 255 8=[true,true,true,true,true,true,true,true] from rfl,Vp,Ac,Ai,Bl,Aj,Au,dj,Ah,Ae,Aq,Ba,Bv,Cc,xu,xw,Vp,Ac,Br,Aw,Bg,Bu,Co,FO,row0,Da];done));apply Cw;exact⟨0,by decide,rfl⟩
theorem field_pan14{dd:Nat}(hd:20≤dd){H H1 H2 H3 H4:List Vi}{g lo lo1 ln cn k a c tk tl tc:Nat}{ts:ByteArray}{lx4 ox opx:D}{b1 w1:Bool}(hk:2≤k)(xG:g<H.length)(zJ:min lo1 g=g)
  (h1:Bh LP NN dd 93 [.ptr g 0 0 0,.sl 1 [[.str Ed]] (some 1)] ⟨H,H.length⟩=some (.bool b1,⟨H1,lo1⟩,w1))
  (h2:∀lo,Bh LP NN dd 94 [.ptr g 0 0 0,.sl 1 [[.str Cm]] (some 1)] ⟨H1++[FO row0],lo⟩=some (.int .i64 (ln:Nat),⟨H2,min lo g⟩,true))
  (h3:∀lo,Bh LP NN dd 94 [.ptr g 0 0 0,.sl 1 [[.str Az],[.str Ey]] (some 2)] ⟨H2,lo⟩=some (.int .i64 (cn:Nat),⟨H3,min lo g⟩,true)) (xu:H2[H1.length]?=some (FO row0)) (xw:H3[H1.length]?=some (FO row0))
  (h4:∀lo,Bh LP NN dd 95 [.ptr g 0 0 0,.ptr H1.length 0 0 0] ⟨H3.set H1.length (FO ([.int .i64 (ln:Nat),.int .i64 (cn:Nat),.int .u8 0,.V5]++Da++[.V5])),lo⟩=some (.agg (tkR tk ts tl tc),⟨H4,min lo g⟩,true))
  (y8:H4[g]?=some (PO lx4 a c ox)) (zu:SlD 5 [] lx4) (y5:H4[H1.length]?=some (FO ([.int .i64 (ln:Nat),.int .i64 (cn:Nat),.int .u8 (k:Nat),.V5]++Da++[opx]))) (ho:Ji false opx=some (.int .i64 1)) (rQ:Ji false ox=some (.int .i64 0)) (xI:lo≤g) (hgh:g<H1.length) (lw:Nat):Df Tryz.prog GT lo (FT 4 a c) 52 [.ptr g 0 0 0] ⟨H,lw⟩:=by
 have uS:=Be xu;have qb:=Be xw;have xq:=xG;have yL:min lo1 g=g:=zJ;have xZ:min g g=g:=by omega
 simp only[Ed]at h1;simp only[Cm]at h2;simp only[Az,Ey]at h3;simp only[FO,row0,Da,List.cons_append,List.nil_append]at h2 xu xw;have wD:=Be y8;have yU:=Be y5;have wM:=zu.len;have zI:min g H1.length=g:=by omega
 have xS:(((k:Nat):Int) != 1)=true:=by rw[bne_iff_ne];omega
 simp only[FO,Da,List.cons_append,List.nil_append,PO,tkR]at h4 y8 y5;apply Fx (F:=F52) (g:=53) (dd:=dd) mixed Hg rfl (by simp only[Av,zs]<;>exact rfl) rfl (by simp only[F52,zv]<;>exact rfl);refine Bq (Bi (Af rfl (Aa (by simp only[zo]<;>exact rfl) ?_)));apply Aa (by simp only[zo,Ad,zm]<;>exact rfl);apply Aa (by simp only[zl,zm,Cf,List.replicate,Av,zs,zc,zf]<;>exact rfl);apply Aa (by simp only[zo];exact h1);refine Ab (De (by simp only[ze]<;>exact rfl) ?_);refine Bq (Hr (by simp only[Ci,zw]<;>exact rfl) (by simp only[zw,D9]<;>exact rfl) ?_);refine Ca rfl rfl (Am (by simp only[zo]<;>exact rfl) rfl rfl ?_);apply Am (by simp only[zo,Ad,zm]<;>exact rfl) rfl rfl;apply Bb (by simp only[zl,zm,Cf,List.replicate,Av,zs,zc,zf]<;>exact rfl) (by simp only[Ao,zo,zq]<;>exact rfl) (by first | rfl | (simp[show ob 0 3=[false,false,false] from rfl,Vp,Ac,Ai,Bl,Aj,Au,dj,Ah,Ae,Aq,Ba,Bv,Cc,xu,xw,Vp,Ac,xq];done) | (simp[show ob 0 3=[false,false,false] from rfl,Vp,Ac,Ai,Bl,Aj,Au,dj,Ah,Ae,Aq,Ba,Bv,Cc,xu,xw,Vp,Ac,Br,Aw,Bg,Bu,Co,FO,row0,Da];done))
 first
  | refine Bb (by simp only[zo];exact (h2 _)) (by simp only[Ao,zo,zq]<;>exact rfl) (by first | rfl | (simp[show ob 15 4=[true,true,true,true] from rfl,Vp,Ac,Ai,Bl,Aj,Au,dj,Ah,Ae,Bv,Vp,Ac];done) | (simp[show ob 15 4=[true,true,true,true] from rfl,Vp,Ac,Ai,Bl,Aj,Au,dj,Ah,Ae,Bv,xu,Vp,Ac,Br,Aw,Bg,Bu,Co];done)) ?_
  | refine Bb (by simp only[zo,FO,row0,Da,Cm,Az,Ey,Dq,Dm,D8,Dt,xu,xw,uS,qb,yL,xZ,zI,Cr wD,Cr yU,Fh yU,y8,y5,wM,xS,PO,tkR,ho,rQ];exact (h3 _)) (by simp only[Ao,zo,zq]<;>exact rfl) (by first | rfl | (simp[show ob 15 4=[true,true,true,true] from rfl,Vp,Ac,Ai,Bl,Aj,Au,dj,Ah,Ae,Aq,Ba,Bv,Cc,xu,xw,Vp,Ac,xq];done) | (simp[show ob 15 4=[true,true,true,true] from rfl,Vp,Ac,Ai,Bl,Aj,Au,dj,Ah,Ae,Aq,Ba,Bv,Cc,xu,xw,Vp,Ac,Br,Aw,Bg,Bu,Co,FO,row0,Da];done)) ?_
 refine Ca rfl rfl (Am (by simp only[zo,yL]<;>exact rfl) rfl rfl ?_);apply Am (by simp only[zo,Ad,zm]<;>exact rfl) rfl rfl;apply Bb (by simp only[zl,zm,Cf,List.replicate,Av,zs,zc,zf]<;>exact rfl) (by simp only[Ao,zo,zq]<;>exact rfl) (by first | rfl | (simp[show ob 0 8=[false,false,false,false,false,false,false,false] from rfl,Vp,Ac,Ai,Bl,Aj,Au,dj,Ah,Ae,Aq,Ba,Bv,Cc,xu,xw,Vp,Ac,xq];done) | (simp[show ob 0 8=[false,false,false,false,false,false,false,false] from rfl,Vp,Ac,Ai,Bl,Aj,Au,dj,Ah,Ae,Aq,Ba,Bv,Cc,xu,xw,Vp,Ac,Br,Aw,Bg,Bu,Co,FO,row0,Da];done))
 first
  | refine Bb (by simp only[zo];exact (h2 _)) (by simp only[Ao,zo,zq]<;>exact rfl) (by first | rfl | (simp[show ob 511 9=[true,true,true,true,true,true,true,true,true] from rfl,Vp,Ac,Ai,Bl,Aj,Au,dj,Ah,Ae,Aq,Ba,Bv,Cc,xu,xw,Vp,Ac,xq];done) | (simp[show ob 511 9=[true,true,true,true,true,true,true,true,true] from rfl,Vp,Ac,Ai,Bl,Aj,Au,dj,Ah,Ae,Aq,Ba,Bv,Cc,xu,xw,Vp,Ac,Br,Aw,Bg,Bu,Co,FO,row0,Da];done)) ?_
  | refine Bb (by simp only[zo];exact (h3 _)) (by simp only[Ao,zo,zq]<;>exact rfl) (by first | rfl | (simp[show ob 511 9=[true,true,true,true,true,true,true,true,true] from rfl,Vp,Ac,Ai,Bl,Aj,Au,dj,Ah,Ae,Bv,Vp,Ac];done) | (simp[show ob 511 9=[true,true,true,true,true,true,true,true,true] from rfl,Vp,Ac,Ai,Bl,Aj,Au,dj,Ah,Ae,Bv,xw,Vp,Ac,Br,Aw,Bg,Bu,Co];done)) ?_
 apply Am (by simp only[zo,Ez,overlay,zc,List.take,List.drop,Nat.reduceAdd,Nat.reduceLeDiff,zm,xZ]<;>exact rfl) rfl rfl;apply Bb (by simp only[zo]<;>exact rfl) rfl rfl;apply Bb (by simp only[zl,zm,Bj,overlay,Cg,zs,zc,zf,List.take,List.drop,xw,zI]<;>exact rfl) (by simp only[Ao,zo,zq]<;>exact rfl) (by first | rfl | (simp[show ob 4095 12=[true,true,true,true,true,true,true,true,true,true,true,true] from rfl,Vp,Ac,Ai,Bl,Aj,Au,dj,Ah,Ae,Aq,Ba,Bv,Cc,xu,xw,Vp,Ac,xq];done) | (simp[show ob 4095 12=[true,true,true,true,true,true,true,true,true,true,true,true] from rfl,Vp,Ac,Ai,Bl,Aj,Au,dj,Ah,Ae,Aq,Ba,Bv,Cc,xu,xw,Vp,Ac,Br,Aw,Bg,Bu,Co,FO,row0,Da];done));refine Cw (De (by simp only[ze]<;>exact rfl) ?_);refine Bq (Bi (Af rfl (Aa (by simp only[zo];exact (h4 _)) ?_)));apply Aa (by simp only[zl,zm,xZ]<;>exact rfl);apply Aa (by simp only[zl,zm,Bj,overlay,Cg,zs,zc,zf,List.take,List.drop]<;>exact rfl);refine Ab (De (by simp only[ze]<;>exact rfl) ?_);refine Bq (Bq (Bi (Af rfl (Aa (by simp only[zo]<;>exact rfl) ?_))));apply Aa (by simp only[zo,Ad,zm]<;>exact rfl);apply Aa (by simp only[zo,Ad,zm]<;>exact rfl);apply Aa (by simp only[zl,zm,zd,Ay,List.take,List.drop,Cr wD,y8]<;>exact rfl);apply Aa (by simp only[zo,wM]<;>exact rfl);apply Aa (by simp only[zo,Bz]<;>exact rfl);refine Ar rfl (Gc 0 (b:=false) (by simp only[zv]<;>rfl) (by simp only[zn]<;>exact rfl) ?_);refine Bd rfl (Aa (by simp only[zo,Ad,zm]<;>exact rfl) ?_);refine Bd rfl (Aa (by simp only[zl,zm,zd,Ay,List.take,List.drop,Cr yU,y5]<;>exact rfl) ?_);refine Bd rfl (Aa (by simp only[zo,Bz,xS]<;>exact rfl) ?_);refine Bd rfl (Ar rfl (Gc 0 (b:=true) (by simp only[zv]<;>rfl) (by simp only[zn]<;>exact rfl) ?_));refine Bd rfl (Aa (by simp only[zo,Ad,zm]<;>exact rfl) ?_);refine Bd rfl (Aa (by simp only[zl,zm,zd,Ay,List.take,List.drop,Cr yU,y5]<;>exact rfl) ?_);refine Bd rfl (Aa (by simp only[zo,ho]<;>exact rfl) ?_);refine Bd rfl (Aa (by simp only[zo,Bz]<;>exact rfl) ?_);refine Bd rfl (Aa (by simp only[zo]<;>exact rfl) ?_);apply Aa (by simp only[zo]<;>exact rfl);refine Ab (De (by simp only[ze]<;>exact rfl) ?_);apply F7 (by simp only[opd,zv]<;>rfl);refine I5 (De rfl (Bq (Bq (Bi (Af rfl (Aa (by simp only[zo]<;>exact rfl) ?_))))));apply Aa (by simp only[zo,Ad,zm]<;>exact rfl);apply Aa (by simp only[zl,zm,zd,Ay,List.take,List.drop,Cr wD,y8]<;>exact rfl);apply Aa (by simp only[zo,rQ]<;>exact rfl);apply Aa (by simp only[zo,Bz]<;>exact rfl);refine Ab (De (by simp only[ze]<;>exact rfl) ?_);apply Io (by simp only[opd,zv]<;>rfl);apply H6 (fun xs=>xs=[.ptr g 0 0 0,.int .i64 4,.agg [.int .i64 (a:Nat),.int .i64 (c:Nat)]]) (by simp only[Ci,zw,Nat.reduceAdd]<;>exact rfl) (by simp only[zw]<;>exact rfl) (⟨by simp only;omega,Nat.le_of_eq rfl,fun xs yP=>by subst yP;exact I1 _ _ _ _ _ (by simp only[Gw]) (by simp only[Ll_];omega)⟩);refine Ca rfl rfl (Am (by simp only[zo]<;>exact rfl) rfl rfl ?_);apply Am (by simp only[zo,Ad,zm]<;>exact rfl) rfl rfl;refine Ca rfl rfl (Am (by simp only[zo]<;>exact rfl) rfl rfl ?_);apply Am (by simp only[zo,Ad,zm]<;>exact rfl) rfl rfl;apply Am (by simp only[zo,Ad,zm]<;>exact rfl) rfl rfl;apply Bb (by simp only[zl,zm,zd,Ay,List.take,List.drop,Cr wD,y8]<;>exact rfl) (by simp only[Ao,zo,zq]<;>exact rfl) (by first | rfl | (simp[show ob 120 7=[true,true,true,true,false,false,false] from rfl,Vp,Ac,Ai,Bl,Aj,Au,dj,Ah,Ae,Aq,Ba,Bv,Cc,xu,xw,Vp,Ac,xq];done) | (simp[show ob 120 7=[true,true,true,true,false,false,false] from rfl,Vp,Ac,Ai,Bl,Aj,Au,dj,Ah,Ae,Aq,Ba,Bv,Cc,xu,xw,Vp,Ac,Br,Aw,Bg,Bu,Co,FO,row0,Da];done));apply Bb (by simp only[zo];exact (Fg rfl)) (by simp only[Ao,zo,zq]<;>exact rfl) (by first | rfl | (simp[show ob 255 8=[true,true,true,true,true,true,true,true] from rfl,Vp,Ac,Ai,Bl,Aj,Au,dj,Ah,Ae,Aq,Ba,Bv,Cc,xu,xw,Vp,Ac,xq];done) | (simp[show ob 255 8=[true,true,true,true,true,true,true,true] from rfl,Vp,Ac,Ai,Bl,Aj,Au,dj,Ah,Ae,Aq,Ba,Bv,Cc,xu,xw,Vp,Ac,Br,Aw,Bg,Bu,Co,FO,row0,Da];done));apply Cw;exact⟨0,by decide,rfl⟩
theorem field_pan8{dd:Nat}(hd:20≤dd){H H1 H2 H3 H4:List Vi}{g lo lo1 ln cn k a c tk tl tc:Nat}{ts:ByteArray}{lx4 ox opx:D}{b1 w1:Bool}(hk:2≤k)(xG:g<H.length)(zJ:min lo1 g=g)
  (h1:Bh LP NN dd 93 [.ptr g 0 0 0,.sl 1 [[.str Ed]] (some 1)] ⟨H,H.length⟩=some (.bool b1,⟨H1,lo1⟩,w1))
  (h2:∀lo,Bh LP NN dd 94 [.ptr g 0 0 0,.sl 1 [[.str Cm]] (some 1)] ⟨H1++[FO row0],lo⟩=some (.int .i64 (ln:Nat),⟨H2,min lo g⟩,true))
  (h3:∀lo,Bh LP NN dd 94 [.ptr g 0 0 0,.sl 1 [[.str Az],[.str Ey]] (some 2)] ⟨H2,lo⟩=some (.int .i64 (cn:Nat),⟨H3,min lo g⟩,true)) (xu:H2[H1.length]?=some (FO row0)) (xw:H3[H1.length]?=some (FO row0))
  (h4:∀lo,Bh LP NN dd 95 [.ptr g 0 0 0,.ptr H1.length 0 0 0] ⟨H3.set H1.length (FO ([.int .i64 (ln:Nat),.int .i64 (cn:Nat),.int .u8 0,.V5]++Da++[.V5])),lo⟩=some (.agg (tkR tk ts tl tc),⟨H4,min lo g⟩,true))
  (y8:H4[g]?=some (PO lx4 a c ox)) (zu:SlD 5 [] lx4) (y5:H4[H1.length]?=some (FO ([.int .i64 (ln:Nat),.int .i64 (cn:Nat),.int .u8 (k:Nat),.V5]++Da++[opx]))) {e:Nat} {shp:List D} (ho:Ji false opx=some (.int .i64 1)) (rQ:Ji false ox=some (.int .i64 2)) (hshp:shp=Da) (vU:∀S,Bh LP NN dd 17 [.str ts] S=some (.tup [.agg shp,.int .i64 (e:Nat)],S,false)) (he:e≠0) (xI:lo≤g) (hgh:g<H1.length) (lw:Nat):Df Tryz.prog GT lo (FT (e:Nat) tl tc) 52 [.ptr g 0 0 0] ⟨H,lw⟩:=by
 have uS:=Be xu;have qb:=Be xw;have xq:=xG;have yL:min lo1 g=g:=zJ;have xZ:min g g=g:=by omega
 simp only[Ed]at h1;simp only[Cm]at h2;simp only[Az,Ey]at h3;simp only[FO,row0,Da,List.cons_append,List.nil_append]at h2 xu xw;have wD:=Be y8;have yU:=Be y5;have wM:=zu.len;have zI:min g H1.length=g:=by omega
 have xS:(((k:Nat):Int) != 1)=true:=by rw[bne_iff_ne];omega
 simp only[FO,Da,List.cons_append,List.nil_append,PO,tkR]at h4 y8 y5;subst hshp;have xB:((((e:Nat):Int)) != 0)=true:=by rw[bne_iff_ne];omega
 have hS4:∀l,(H4++l)[H4.length]?=l[0]?:=fun l=>Dm H4 l;have hS5:∀l x,(H4++l).set H4.length x=H4++l.set 0 x:=fun l x=>Dt H4 l x;simp only[Da]at vU;apply Fx (F:=F52) (g:=53) (dd:=dd) mixed Hg rfl (by simp only[Av,zs]<;>exact rfl) rfl (by simp only[F52,zv]<;>exact rfl);refine Bq (Bi (Af rfl (Aa (by simp only[zo]<;>exact rfl) ?_)));apply Aa (by simp only[zo,Ad,zm]<;>exact rfl);apply Aa (by simp only[zl,zm,Cf,List.replicate,Av,zs,zc,zf]<;>exact rfl);apply Aa (by simp only[zo];exact h1);refine Ab (De (by simp only[ze]<;>exact rfl) ?_);refine Bq (Hr (by simp only[Ci,zw]<;>exact rfl) (by simp only[zw,D9]<;>exact rfl) ?_);refine Ca rfl rfl (Am (by simp only[zo]<;>exact rfl) rfl rfl ?_);apply Am (by simp only[zo,Ad,zm]<;>exact rfl) rfl rfl;apply Bb (by simp only[zl,zm,Cf,List.replicate,Av,zs,zc,zf]<;>exact rfl) (by simp only[Ao,zo,zq]<;>exact rfl) (by first | rfl | (simp[show ob 0 3=[false,false,false] from rfl,Vp,Ac,Ai,Bl,Aj,Au,dj,Ah,Ae,Aq,Ba,Bv,Cc,xu,xw,Vp,Ac,xq];done) | (simp[show ob 0 3=[false,false,false] from rfl,Vp,Ac,Ai,Bl,Aj,Au,dj,Ah,Ae,Aq,Ba,Bv,Cc,xu,xw,Vp,Ac,Br,Aw,Bg,Bu,Co,FO,row0,Da];done))
 first
  | refine Bb (by simp only[zo];exact (h2 _)) (by simp only[Ao,zo,zq]<;>exact rfl) (by first | rfl | (simp[show ob 15 4=[true,true,true,true] from rfl,Vp,Ac,Ai,Bl,Aj,Au,dj,Ah,Ae,Bv,Vp,Ac];done) | (simp[show ob 15 4=[true,true,true,true] from rfl,Vp,Ac,Ai,Bl,Aj,Au,dj,Ah,Ae,Bv,xu,Vp,Ac,Br,Aw,Bg,Bu,Co];done)) ?_
  | refine Bb (by simp only[zo,FO,row0,Da,Cm,Az,Ey,Dq,Dm,D8,Dt,xu,xw,uS,qb,yL,xZ,zI,Cr wD,Cr yU,Fh yU,y8,y5,wM,xS,PO,tkR,ho,rQ,xB,hS4,hS5];exact (h3 _)) (by simp only[Ao,zo,zq]<;>exact rfl) (by first | rfl | (simp[show ob 15 4=[true,true,true,true] from rfl,Vp,Ac,Ai,Bl,Aj,Au,dj,Ah,Ae,Aq,Ba,Bv,Cc,xu,xw,Vp,Ac,xq];done) | (simp[show ob 15 4=[true,true,true,true] from rfl,Vp,Ac,Ai,Bl,Aj,Au,dj,Ah,Ae,Aq,Ba,Bv,Cc,xu,xw,Vp,Ac,Br,Aw,Bg,Bu,Co,FO,row0,Da];done)) ?_
 refine Ca rfl rfl (Am (by simp only[zo,yL]<;>exact rfl) rfl rfl ?_);apply Am (by simp only[zo,Ad,zm]<;>exact rfl) rfl rfl;apply Bb (by simp only[zl,zm,Cf,List.replicate,Av,zs,zc,zf]<;>exact rfl) (by simp only[Ao,zo,zq]<;>exact rfl) (by first | rfl | (simp[show ob 0 8=[false,false,false,false,false,false,false,false] from rfl,Vp,Ac,Ai,Bl,Aj,Au,dj,Ah,Ae,Aq,Ba,Bv,Cc,xu,xw,Vp,Ac,xq];done) | (simp[show ob 0 8=[false,false,false,false,false,false,false,false] from rfl,Vp,Ac,Ai,Bl,Aj,Au,dj,Ah,Ae,Aq,Ba,Bv,Cc,xu,xw,Vp,Ac,Br,Aw,Bg,Bu,Co,FO,row0,Da];done))
 first
  | refine Bb (by simp only[zo];exact (h2 _)) (by simp only[Ao,zo,zq]<;>exact rfl) (by first | rfl | (simp[show ob 511 9=[true,true,true,true,true,true,true,true,true] from rfl,Vp,Ac,Ai,Bl,Aj,Au,dj,Ah,Ae,Aq,Ba,Bv,Cc,xu,xw,Vp,Ac,xq];done) | (simp[show ob 511 9=[true,true,true,true,true,true,true,true,true] from rfl,Vp,Ac,Ai,Bl,Aj,Au,dj,Ah,Ae,Aq,Ba,Bv,Cc,xu,xw,Vp,Ac,Br,Aw,Bg,Bu,Co,FO,row0,Da];done)) ?_
  | refine Bb (by simp only[zo];exact (h3 _)) (by simp only[Ao,zo,zq]<;>exact rfl) (by first | rfl | (simp[show ob 511 9=[true,true,true,true,true,true,true,true,true] from rfl,Vp,Ac,Ai,Bl,Aj,Au,dj,Ah,Ae,Bv,Vp,Ac];done) | (simp[show ob 511 9=[true,true,true,true,true,true,true,true,true] from rfl,Vp,Ac,Ai,Bl,Aj,Au,dj,Ah,Ae,Bv,xw,Vp,Ac,Br,Aw,Bg,Bu,Co];done)) ?_
 apply Am (by simp only[zo,Ez,overlay,zc,List.take,List.drop,Nat.reduceAdd,Nat.reduceLeDiff,zm,xZ]<;>exact rfl) rfl rfl;apply Bb (by simp only[zo]<;>exact rfl) rfl rfl;apply Bb (by simp only[zl,zm,Bj,overlay,Cg,zs,zc,zf,List.take,List.drop,xw,zI]<;>exact rfl) (by simp only[Ao,zo,zq]<;>exact rfl) (by first | rfl | (simp[show ob 4095 12=[true,true,true,true,true,true,true,true,true,true,true,true] from rfl,Vp,Ac,Ai,Bl,Aj,Au,dj,Ah,Ae,Aq,Ba,Bv,Cc,xu,xw,Vp,Ac,xq];done) | (simp[show ob 4095 12=[true,true,true,true,true,true,true,true,true,true,true,true] from rfl,Vp,Ac,Ai,Bl,Aj,Au,dj,Ah,Ae,Aq,Ba,Bv,Cc,xu,xw,Vp,Ac,Br,Aw,Bg,Bu,Co,FO,row0,Da];done));refine Cw (De (by simp only[ze]<;>exact rfl) ?_);refine Bq (Bi (Af rfl (Aa (by simp only[zo];exact (h4 _)) ?_)));apply Aa (by simp only[zl,zm,xZ]<;>exact rfl);apply Aa (by simp only[zl,zm,Bj,overlay,Cg,zs,zc,zf,List.take,List.drop,hS4,hS5]<;>exact rfl);refine Ab (De (by simp only[ze]<;>exact rfl) ?_);refine Bq (Bq (Bi (Af rfl (Aa (by simp only[zo]<;>exact rfl) ?_))));apply Aa (by simp only[zo,Ad,zm]<;>exact rfl);apply Aa (by simp only[zo,Ad,zm]<;>exact rfl);apply Aa (by simp only[zl,zm,zd,Ay,List.take,List.drop,Cr wD,y8]<;>exact rfl);apply Aa (by simp only[zo,wM]<;>exact rfl);apply Aa (by simp only[zo,Bz]<;>exact rfl);refine Ar rfl (Gc 0 (b:=false) (by simp only[zv]<;>rfl) (by simp only[zn]<;>exact rfl) ?_);refine Bd rfl (Aa (by simp only[zo,Ad,zm]<;>exact rfl) ?_);refine Bd rfl (Aa (by simp only[zl,zm,zd,Ay,List.take,List.drop,Cr yU,y5]<;>exact rfl) ?_);refine Bd rfl (Aa (by simp only[zo,Bz,xS]<;>exact rfl) ?_);refine Bd rfl (Ar rfl (Gc 0 (b:=true) (by simp only[zv]<;>rfl) (by simp only[zn]<;>exact rfl) ?_));refine Bd rfl (Aa (by simp only[zo,Ad,zm]<;>exact rfl) ?_);refine Bd rfl (Aa (by simp only[zl,zm,zd,Ay,List.take,List.drop,Cr yU,y5]<;>exact rfl) ?_);refine Bd rfl (Aa (by simp only[zo,ho]<;>exact rfl) ?_);refine Bd rfl (Aa (by simp only[zo,Bz]<;>exact rfl) ?_);refine Bd rfl (Aa (by simp only[zo]<;>exact rfl) ?_);apply Aa (by simp only[zo]<;>exact rfl);refine Ab (De (by simp only[ze]<;>exact rfl) ?_);apply F7 (by simp only[opd,zv]<;>rfl);refine I5 (De rfl (Bq (Bq (Bi (Af rfl (Aa (by simp only[zo]<;>exact rfl) ?_))))));apply Aa (by simp only[zo,Ad,zm]<;>exact rfl);apply Aa (by simp only[zl,zm,zd,Ay,List.take,List.drop,Cr wD,y8]<;>exact rfl);apply Aa (by simp only[zo,rQ]<;>exact rfl);apply Aa (by simp only[zo,Bz]<;>exact rfl);refine Ab (De (by simp only[ze]<;>exact rfl) ?_);apply F7 (by simp only[opd,zv]<;>rfl);refine I5 (De rfl (Bq (Bq (Bi (Aa (by simp only[zo,Ad,zm]<;>exact rfl) ?_)))));apply Aa (by simp only[zl,zm,zd,Ay,List.take,List.drop,Cr yU,y5]<;>exact rfl);apply Aa (by simp only[zo,Bz,xS]<;>exact rfl);refine Ab (De (by simp only[ze]<;>exact rfl) ?_);apply Io (by simp only[opd,zv]<;>rfl);refine Bq (Bi (Aa (by simp only[zo,Ad,zm]<;>exact rfl) ?_));apply Aa (by simp only[zl,zm,zd,Ay,List.take,List.drop,hS4]<;>exact rfl);apply Aa (by simp only[zo];exact vU _);apply Ar rfl;apply Aa (by simp only[zo,Lz]<;>exact rfl);apply Aa (by simp only[zo,Lz,Ls_]<;>exact rfl);apply Aa (by simp only[zl,zm]<;>exact rfl);apply Aa (by simp only[zl,zm,Bj,overlay,Cg,zs,zc,zf,List.take,List.drop]<;>exact rfl);refine Ar rfl (Ab (De (by simp only[ze]<;>exact rfl) ?_));refine Bq (Bq (Bi (Af rfl (Aa (by simp only[zo,Bz,xB]<;>exact rfl) ?_))));refine Ab (De (by simp only[ze]<;>exact rfl) ?_);apply Io (by simp only[opd,zv]<;>rfl);apply H6 (fun xs=>xs=[.ptr g 0 0 0,.int .i64 (e:Nat),.agg [.int .i64 (tl:Nat),.int .i64 (tc:Nat)]]) (by simp only[Ci,zw,Nat.reduceAdd]<;>exact rfl) (by simp only[zw]<;>exact rfl) (⟨by simp only;omega,Nat.le_of_eq rfl,fun xs yP=>by subst yP;exact I1 _ _ _ _ _ (by simp only[Gw]) (by simp only[Ll_];omega)⟩);refine Ca rfl rfl (Am (by simp only[zo]<;>exact rfl) rfl rfl ?_);apply Am (by simp only[zo,Ad,zm]<;>exact rfl) rfl rfl;refine Ca rfl rfl (Am (by simp only[zo,Ad,zm]<;>exact rfl) rfl rfl ?_);apply Bb (by simp only[zl,zm,zd,Ay,List.take,List.drop,hS4]<;>exact rfl) (by simp only[Ao,zo,zq]<;>exact rfl) (by first | rfl | (simp[show ob 16 5=[true,false,false,false,false] from rfl,Vp,Ac,Ai,Bl,Aj,Au,dj,Ah,Ae,Aq,Ba,Bv,Cc,xu,xw,Vp,Ac,xq];done) | (simp[show ob 16 5=[true,false,false,false,false] from rfl,Vp,Ac,Ai,Bl,Aj,Au,dj,Ah,Ae,Aq,Ba,Bv,Cc,xu,xw,Vp,Ac,Br,Aw,Bg,Bu,Co,FO,row0,Da];done));apply Bb (by simp only[zo];exact (Fg rfl)) (by simp only[Ao,zo,zq]<;>exact rfl) (by first | rfl | (simp[show ob 63 6=[true,true,true,true,true,true] from rfl,Vp,Ac,Ai,Bl,Aj,Au,dj,Ah,Ae,Aq,Ba,Bv,Cc,xu,xw,Vp,Ac,xq];done) | (simp[show ob 63 6=[true,true,true,true,true,true] from rfl,Vp,Ac,Ai,Bl,Aj,Au,dj,Ah,Ae,Aq,Ba,Bv,Cc,xu,xw,Vp,Ac,Br,Aw,Bg,Bu,Co,FO,row0,Da];done));apply Cw;exact⟨0,by decide,rfl⟩
theorem field_panF{dd:Nat}(hd:20≤dd){H H1 H2 H3 H4:List Vi}{g lo lo1 ln cn k a c tk tl tc:Nat}{ts:ByteArray}{lx4 ox opx:D}{b1 w1:Bool}(hk:2≤k)(xG:g<H.length)(zJ:min lo1 g=g)
  (h1:Bh LP NN dd 93 [.ptr g 0 0 0,.sl 1 [[.str Ed]] (some 1)] ⟨H,H.length⟩=some (.bool b1,⟨H1,lo1⟩,w1))
  (h2:∀lo,Bh LP NN dd 94 [.ptr g 0 0 0,.sl 1 [[.str Cm]] (some 1)] ⟨H1++[FO row0],lo⟩=some (.int .i64 (ln:Nat),⟨H2,min lo g⟩,true))
  (h3:∀lo,Bh LP NN dd 94 [.ptr g 0 0 0,.sl 1 [[.str Az],[.str Ey]] (some 2)] ⟨H2,lo⟩=some (.int .i64 (cn:Nat),⟨H3,min lo g⟩,true)) (xu:H2[H1.length]?=some (FO row0)) (xw:H3[H1.length]?=some (FO row0))
  (h4:∀lo,Bh LP NN dd 95 [.ptr g 0 0 0,.ptr H1.length 0 0 0] ⟨H3.set H1.length (FO ([.int .i64 (ln:Nat),.int .i64 (cn:Nat),.int .u8 0,.V5]++Da++[.V5])),lo⟩=some (.agg (tkR tk ts tl tc),⟨H4,min lo g⟩,true))
  (y8:H4[g]?=some (PO lx4 a c ox)) (zu:SlD 5 [] lx4) (y5:H4[H1.length]?=some (FO ([.int .i64 (ln:Nat),.int .i64 (cn:Nat),.int .u8 (k:Nat),.V5]++Da++[opx]))) {go v l0 c0:Nat} {nm:ByteArray} {x:D} {rs:List (List D)} {shp:List D} (ho:Ji false opx=some (.int .i64 1)) (rT:opx.Vv=true) (rQ:ox=.msl go v 0 (rs.length+1) none) (vS:rs.length<100) (uT:H4[go]?=some (GO rs nm x l0 c0 v)) (hgo:g<go) (xB:go≠H1.length) (hshp:∃z0 z1 z2 z3 z4 z5 z6 z7 z8 z9 z10,shp=[.int .u8 z0,.int .u8 z1,.str z2,.int .i64 z3,.int .i64 z4,.bool z5,.bool z6,.bool z7,.bool z8,.bool z9,.int .i64 z10]) (vU:∀S,Bh LP NN dd 17 [.str ts] S=some (.tup [.agg shp,.int .i64 0],S,false)) (wZ:∀S,Bh LP NN dd 39 [.agg ([.int .i64 (ln:Nat),.int .i64 (cn:Nat),.int .u8 (k:Nat),.V5]++shp++[opx])] S=some (.bool false,S,false)) (xI:lo≤g) (hgh:g<H1.length) (lw:Nat):Df Tryz.prog GT lo (FT 13 a c) 52 [.ptr g 0 0 0] ⟨H,lw⟩:=by
 have uS:=Be xu;have qb:=Be xw;have xq:=xG;have yL:min lo1 g=g:=zJ;have xZ:min g g=g:=by omega
 simp only[Ed]at h1;simp only[Cm]at h2;simp only[Az,Ey]at h3;simp only[FO,row0,Da,List.cons_append,List.nil_append]at h2 xu xw;have wD:=Be y8;have yU:=Be y5;have wM:=zu.len;have zI:min g H1.length=g:=by omega
 have xS:(((k:Nat):Int) != 1)=true:=by rw[bne_iff_ne];omega
 simp only[FO,Da,List.cons_append,List.nil_append,PO,tkR]at h4 y8 y5;obtain⟨z0,z1,z2,z3,z4,z5,z6,z7,z8,z9,z10,rfl⟩:=hshp;subst rQ;have kT:=Be uT
 have vw:opx.val=true:=by cases opx<;>first | rfl | (simp[D.Vv]at rT;done)
 have hoc3:opx.cells=[opx]:=by cases opx<;>first | rfl | (simp[D.Vv]at rT;done)
 have hmg5:min g (H4.length+1)=g:=by omega
 have hlz:decide (((rs.length+1:Nat):Int)=0)=false:=decide_eq_false (by omega);have hw:IntKind.i64.wrap (((rs.length+1:Nat):Int)-1)=((rs.length:Nat):Int):=by rw[IntKind.wrap_i64];omega
 have qF:(0:Int)≤((rs.length:Nat):Int):=by omega
 have qE:((rs.length:Nat):Int)<((rs.length+1:Nat):Int):=by omega
 have hS4:∀l,(H4++l)[H4.length]?=l[0]?:=fun l=>Dm H4 l;have hS5:∀l x,(H4++l).set H4.length x=H4++l.set 0 x:=fun l x=>Dt H4 l x;have hA2:∀l x,(H4.set H1.length x++l)[H1.length]?=some x:=fun l x=>by rw[Cr (by simpa using yU)];exact Ec yU x
 have hS2:∀l x y,(H4.set H1.length x++l).set H1.length y=H4.set H1.length y++l:=fun l x y=>by rw[Fh (by simpa using yU),List.set_set]
 have hG2:∀l x,(H4.set H1.length x++l)[g]?=H4[g]?:=fun l x=>Oa wD (by omega);have qy:∀l x,(H4.set H1.length x++l)[go]?=H4[go]?:=fun l x=>Oa kT xB;simp only[GO,List.cons_append,List.nil_append]at uT wZ;apply Fx (F:=F52) (g:=53) (dd:=dd) mixed Hg rfl (by simp only[Av,zs]<;>exact rfl) rfl (by simp only[F52,zv]<;>exact rfl);refine Bq (Bi (Af rfl (Aa (by simp only[zo]<;>exact rfl) ?_)));apply Aa (by simp only[zo,Ad,zm]<;>exact rfl);apply Aa (by simp only[zl,zm,Cf,List.replicate,Av,zs,zc,zf]<;>exact rfl);apply Aa (by simp only[zo];exact h1);refine Ab (De (by simp only[ze]<;>exact rfl) ?_);refine Bq (Hr (by simp only[Ci,zw]<;>exact rfl) (by simp only[zw,D9]<;>exact rfl) ?_);refine Ca rfl rfl (Am (by simp only[zo,Nat.reduceAdd]<;>exact rfl) rfl rfl ?_);apply Am (by simp only[zo,Ad,zm]<;>exact rfl) rfl rfl;apply Bb (by simp only[zl,zm,Cf,List.replicate,Av,zs,zc,zf]<;>exact rfl) (by simp only[Ao,zo,zq]<;>exact rfl) (by first | rfl | (simp[show ob 0 3=[false,false,false] from rfl,Vp,Ac,Ai,Bl,Aj,Au,dj,Ah,Ae,Aq,Ba,Bv,Cc,xu,xw,Vp,Ac,xq];done) | (simp[show ob 0 3=[false,false,false] from rfl,Vp,Ac,Ai,Bl,Aj,Au,dj,Ah,Ae,Aq,Ba,Bv,Cc,xu,xw,Vp,Ac,Br,Aw,Bg,Bu,Co,FO,row0,Da];done))
 first
  | refine Bb (by simp only[zo];exact (h2 _)) (by simp only[Ao,zo,zq]<;>exact rfl) (by first | rfl | (simp[show ob 15 4=[true,true,true,true] from rfl,Vp,Ac,Ai,Bl,Aj,Au,dj,Ah,Ae,Bv,Vp,Ac];done) | (simp[show ob 15 4=[true,true,true,true] from rfl,Vp,Ac,Ai,Bl,Aj,Au,dj,Ah,Ae,Bv,xu,Vp,Ac,Br,Aw,Bg,Bu,Co];done)) ?_
  | refine Bb (by simp only[zo,FO,row0,Da,Cm,Az,Ey,Dq,Dm,D8,Dt,xu,xw,uS,qb,yL,xZ,zI,Cr wD,Cr yU,Fh yU,y8,y5,wM,xS,PO,tkR,ho,uT,hA2,hS2,hG2,qy,hS4,hS5,hlz,hw,qF,qE,GO,List.length_set,Nat.reduceAdd,vw,hoc3,hmg5];exact (h3 _)) (by simp only[Ao,zo,zq]<;>exact rfl) (by first | rfl | (simp[show ob 15 4=[true,true,true,true] from rfl,Vp,Ac,Ai,Bl,Aj,Au,dj,Ah,Ae,Aq,Ba,Bv,Cc,xu,xw,Vp,Ac,xq];done) | (simp[show ob 15 4=[true,true,true,true] from rfl,Vp,Ac,Ai,Bl,Aj,Au,dj,Ah,Ae,Aq,Ba,Bv,Cc,xu,xw,Vp,Ac,Br,Aw,Bg,Bu,Co,FO,row0,Da];done)) ?_
 refine Ca rfl rfl (Am (by simp only[zo,yL]<;>exact rfl) rfl rfl ?_);apply Am (by simp only[zo,Ad,zm]<;>exact rfl) rfl rfl;apply Bb (by simp only[zl,zm,Cf,List.replicate,Av,zs,zc,zf,Nat.reduceAdd]<;>exact rfl) (by simp only[Ao,zo,zq]<;>exact rfl) (by first | rfl | (simp[show ob 0 8=[false,false,false,false,false,false,false,false] from rfl,Vp,Ac,Ai,Bl,Aj,Au,dj,Ah,Ae,Aq,Ba,Bv,Cc,xu,xw,Vp,Ac,xq];done) | (simp[show ob 0 8=[false,false,false,false,false,false,false,false] from rfl,Vp,Ac,Ai,Bl,Aj,Au,dj,Ah,Ae,Aq,Ba,Bv,Cc,xu,xw,Vp,Ac,Br,Aw,Bg,Bu,Co,FO,row0,Da];done))
 first
  | refine Bb (by simp only[zo];exact (h2 _)) (by simp only[Ao,zo,zq]<;>exact rfl) (by first | rfl | (simp[show ob 511 9=[true,true,true,true,true,true,true,true,true] from rfl,Vp,Ac,Ai,Bl,Aj,Au,dj,Ah,Ae,Aq,Ba,Bv,Cc,xu,xw,Vp,Ac,xq];done) | (simp[show ob 511 9=[true,true,true,true,true,true,true,true,true] from rfl,Vp,Ac,Ai,Bl,Aj,Au,dj,Ah,Ae,Aq,Ba,Bv,Cc,xu,xw,Vp,Ac,Br,Aw,Bg,Bu,Co,FO,row0,Da];done)) ?_
  | refine Bb (by simp only[zo];exact (h3 _)) (by simp only[Ao,zo,zq]<;>exact rfl) (by first | rfl | (simp[show ob 511 9=[true,true,true,true,true,true,true,true,true] from rfl,Vp,Ac,Ai,Bl,Aj,Au,dj,Ah,Ae,Bv,Vp,Ac];done) | (simp[show ob 511 9=[true,true,true,true,true,true,true,true,true] from rfl,Vp,Ac,Ai,Bl,Aj,Au,dj,Ah,Ae,Bv,xw,Vp,Ac,Br,Aw,Bg,Bu,Co];done)) ?_
 apply Am (by simp only[zo,Ez,overlay,zc,List.take,List.drop,Nat.reduceAdd,Nat.reduceLeDiff,zm,xZ,Nat.reduceAdd]<;>exact rfl) rfl rfl;apply Bb (by simp only[zo]<;>exact rfl) rfl rfl;apply Bb (by simp only[zl,zm,Bj,overlay,Cg,zs,zc,zf,List.take,List.drop,xw,zI,Nat.reduceAdd]<;>exact rfl) (by simp only[Ao,zo,zq]<;>exact rfl) (by first | rfl | (simp[show ob 4095 12=[true,true,true,true,true,true,true,true,true,true,true,true] from rfl,Vp,Ac,Ai,Bl,Aj,Au,dj,Ah,Ae,Aq,Ba,Bv,Cc,xu,xw,Vp,Ac,xq];done) | (simp[show ob 4095 12=[true,true,true,true,true,true,true,true,true,true,true,true] from rfl,Vp,Ac,Ai,Bl,Aj,Au,dj,Ah,Ae,Aq,Ba,Bv,Cc,xu,xw,Vp,Ac,Br,Aw,Bg,Bu,Co,FO,row0,Da];done));refine Cw (De (by simp only[ze]<;>exact rfl) ?_);refine Bq (Bi (Af rfl (Aa (by simp only[zo];exact (h4 _)) ?_)));apply Aa (by simp only[zl,zm,xZ,Nat.reduceAdd]<;>exact rfl);apply Aa (by simp only[zl,zm,Bj,overlay,Cg,zs,zc,zf,List.take,List.drop,hS4,hS5,Nat.reduceAdd]<;>exact rfl);refine Ab (De (by simp only[ze]<;>exact rfl) ?_);refine Bq (Bq (Bi (Af rfl (Aa (by simp only[zo]<;>exact rfl) ?_))));apply Aa (by simp only[zo,Ad,zm]<;>exact rfl);apply Aa (by simp only[zo,Ad,zm]<;>exact rfl);apply Aa (by simp only[zl,zm,zd,Ay,List.take,List.drop,Cr wD,y8,Nat.reduceAdd]<;>exact rfl);apply Aa (by simp only[zo,wM]<;>exact rfl);apply Aa (by simp only[zo,Bz]<;>exact rfl);refine Ar rfl (Gc 0 (b:=false) (by simp only[zv]<;>rfl) (by simp only[zn]<;>exact rfl) ?_);refine Bd rfl (Aa (by simp only[zo,Ad,zm]<;>exact rfl) ?_);refine Bd rfl (Aa (by simp only[zl,zm,zd,Ay,List.take,List.drop,Cr yU,y5,Nat.reduceAdd]<;>exact rfl) ?_);refine Bd rfl (Aa (by simp only[zo,Bz,xS]<;>exact rfl) ?_);refine Bd rfl (Ar rfl (Gc 0 (b:=true) (by simp only[zv]<;>rfl) (by simp only[zn]<;>exact rfl) ?_));refine Bd rfl (Aa (by simp only[zo,Ad,zm]<;>exact rfl) ?_);refine Bd rfl (Aa (by simp only[zl,zm,zd,Ay,List.take,List.drop,Cr yU,y5,Nat.reduceAdd]<;>exact rfl) ?_);refine Bd rfl (Aa (by simp only[zo,ho]<;>exact rfl) ?_);refine Bd rfl (Aa (by simp only[zo,Bz]<;>exact rfl) ?_);refine Bd rfl (Aa (by simp only[zo]<;>exact rfl) ?_);apply Aa (by simp only[zo]<;>exact rfl);refine Ab (De (by simp only[ze]<;>exact rfl) ?_);apply F7 (by simp only[opd,zv]<;>rfl);refine I5 (De rfl (Bq (Bq (Bi (Af rfl (Aa (by simp only[zo]<;>exact rfl) ?_))))));apply Aa (by simp only[zo,Ad,zm]<;>exact rfl);apply Aa (by simp only[zl,zm,zd,Ay,List.take,List.drop,Cr wD,y8,Nat.reduceAdd]<;>exact rfl);apply Aa (by simp only[zo,Ij]<;>exact rfl);apply Aa (by simp only[zo,Bz]<;>exact rfl);refine Ab (De (by simp only[ze]<;>exact rfl) ?_);apply F7 (by simp only[opd,zv]<;>rfl);refine I5 (De rfl (Bq (Bq (Bi (Aa (by simp only[zo,Ad,zm]<;>exact rfl) ?_)))));apply Aa (by simp only[zl,zm,zd,Ay,List.take,List.drop,Cr yU,y5,Nat.reduceAdd]<;>exact rfl);apply Aa (by simp only[zo,Bz,xS]<;>exact rfl);refine Ab (De (by simp only[ze]<;>exact rfl) ?_);apply Io (by simp only[opd,zv]<;>rfl);refine Bq (Bi (Aa (by simp only[zo,Ad,zm]<;>exact rfl) ?_));apply Aa (by simp only[zl,zm,zd,Ay,List.take,List.drop,hS4,Nat.reduceAdd]<;>exact rfl);apply Aa (by simp only[zo];exact vU _);apply Ar rfl;apply Aa (by simp only[zo,Lz]<;>exact rfl);apply Aa (by simp only[zo,Lz,Ls_]<;>exact rfl);apply Aa (by simp only[zl,zm,Nat.reduceAdd]<;>exact rfl);apply Aa (by simp only[zl,zm,Bj,overlay,Cg,zs,zc,zf,List.take,List.drop,Nat.reduceAdd]<;>exact rfl);refine Ar rfl (Ab (De (by simp only[ze]<;>exact rfl) ?_));refine Bq (Bq (Bi (Af rfl (Aa (by simp only[zo,Bz]<;>exact rfl) ?_))));refine Ab (De (by simp only[ze]<;>exact rfl) ?_);apply F7 (by simp only[opd,zv]<;>rfl);refine I5 (De rfl (Bi (Aa (by simp only[zl,zm,zd,Ay,List.take,List.drop,Nat.reduceAdd]<;>exact rfl) ?_)));apply Aa (by simp only[zo,Ad,zm]<;>exact rfl);apply Aa (by simp only[zl,zm,Bj,overlay,Cg,zs,zc,zf,List.take,List.drop,Cr yU,Fh yU,y5,Nat.reduceAdd]<;>exact rfl);refine Ab (De (by simp only[ze]<;>exact rfl) ?_);refine Bq (Hr (by simp only[Ci,zw]<;>exact rfl) (by simp only[zw]<;>exact rfl) ?_);refine Ca rfl rfl (Am (by simp only[zo]<;>exact rfl) rfl rfl ?_);apply Am (by simp only[zo,Ad,zm]<;>exact rfl) rfl rfl;apply Bb (by simp only[zl,zm,zd,Ay,List.take,List.drop,y8,hG2,Nat.reduceAdd]<;>exact rfl) (by simp only[Ao,zo,zq]<;>exact rfl) (by first | rfl | (simp[show ob 7 3=[true,true,true] from rfl,Vp,Ac,Ai,Bl,Aj,Au,dj,Ah,Ae,Aq,Ba,Bv,Cc,xu,xw,Vp,Ac,xq];done) | (simp[show ob 7 3=[true,true,true] from rfl,Vp,Ac,Ai,Bl,Aj,Au,dj,Ah,Ae,Aq,Ba,Bv,Cc,xu,xw,Vp,Ac,Br,Aw,Bg,Bu,Co,FO,row0,Da];done));refine Ca rfl rfl (Am (by simp only[zo]<;>exact rfl) rfl rfl ?_);apply Am (by simp only[zo,Ad,zm]<;>exact rfl) rfl rfl;apply Bb (by simp only[zl,zm,zd,Ay,List.take,List.drop,y8,hG2,Nat.reduceAdd]<;>exact rfl) (by simp only[Ao,zo,zq]<;>exact rfl) (by first | rfl | (simp[show ob 112 7=[true,true,true,false,false,false,false] from rfl,Vp,Ac,Ai,Bl,Aj,Au,dj,Ah,Ae,Aq,Ba,Bv,Cc,xu,xw,Vp,Ac,xq];done) | (simp[show ob 112 7=[true,true,true,false,false,false,false] from rfl,Vp,Ac,Ai,Bl,Aj,Au,dj,Ah,Ae,Aq,Ba,Bv,Cc,xu,xw,Vp,Ac,Br,Aw,Bg,Bu,Co,FO,row0,Da];done));apply Am (by simp only[zo,Ij]<;>exact rfl) rfl rfl;apply Am (by simp only[zo,Bz,hw]<;>exact rfl) rfl rfl;apply Bb (by simp only[zl,zm,Ch,Int.toNat_natCast,uT,qy,qF,qE]<;>exact rfl) (by simp only[Ao,zo,zq]<;>exact rfl) (by first | rfl | (simp[show ob 1023 10=[true,true,true,true,true,true,true,true,true,true] from rfl,Vp,Ac,Ai,Bl,Aj,Au,dj,Ah,Ae,Aq,Ba,Bv,Cc,xu,xw,Vp,Ac,xq];done) | (simp[show ob 1023 10=[true,true,true,true,true,true,true,true,true,true] from rfl,Vp,Ac,Ai,Bl,Aj,Au,dj,Ah,Ae,Aq,Ba,Bv,Cc,xu,xw,Vp,Ac,Br,Aw,Bg,Bu,Co,FO,row0,Da];done));refine Fy rfl rfl (Cw (De (by simp only[ze]<;>exact rfl) ?_));refine Bq (Bq (Bi (Aa (by simp only[zl,zm,zd,Ay,List.take,List.drop,hA2,Nat.reduceAdd]<;>exact rfl) ?_)));apply Aa (by simp only[zo];exact wZ _);apply Aa (by simp only[zo,unD]<;>exact rfl);refine Ab (De (by simp only[ze]<;>exact rfl) ?_);apply Io (by simp only[opd,zv]<;>rfl);apply H6 (fun xs=>xs=[.ptr g 0 0 0,.int .i64 13,.agg [.int .i64 (a:Nat),.int .i64 (c:Nat)]]) (by simp only[Ci,zw]<;>exact rfl) (by simp only[zw]<;>exact rfl) (⟨by simp only;omega,Nat.le_of_eq rfl,fun xs yP=>by subst yP;exact I1 _ _ _ _ _ (by simp only[Gw]) (by simp only[Ll_,List.length_set];omega)⟩);refine Ca rfl rfl (Am (by simp only[zo]<;>exact rfl) rfl rfl ?_);apply Am (by simp only[zo,Ad,zm]<;>exact rfl) rfl rfl;refine Ca rfl rfl (Am (by simp only[zo]<;>exact rfl) rfl rfl ?_);apply Am (by simp only[zo,Ad,zm]<;>exact rfl) rfl rfl;apply Am (by simp only[zo,Ad,zm]<;>exact rfl) rfl rfl;apply Bb (by simp only[zl,zm,zd,Ay,List.take,List.drop,y8,hG2,Nat.reduceAdd]<;>exact rfl) (by simp only[Ao,zo,zq]<;>exact rfl) (by first | rfl | (simp[show ob 120 7=[true,true,true,true,false,false,false] from rfl,Vp,Ac,Ai,Bl,Aj,Au,dj,Ah,Ae,Aq,Ba,Bv,Cc,xu,xw,Vp,Ac,xq];done) | (simp[show ob 120 7=[true,true,true,true,false,false,false] from rfl,Vp,Ac,Ai,Bl,Aj,Au,dj,Ah,Ae,Aq,Ba,Bv,Cc,xu,xw,Vp,Ac,Br,Aw,Bg,Bu,Co,FO,row0,Da];done));apply Bb (by simp only[zo];exact (Fg rfl)) (by simp only[Ao,zo,zq]<;>exact rfl) (by first | rfl | (simp[show ob 255 8=[true,true,true,true,true,true,true,true] from rfl,Vp,Ac,Ai,Bl,Aj,Au,dj,Ah,Ae,Aq,Ba,Bv,Cc,xu,xw,Vp,Ac,xq];done) | (simp[show ob 255 8=[true,true,true,true,true,true,true,true] from rfl,Vp,Ac,Ai,Bl,Aj,Au,dj,Ah,Ae,Aq,Ba,Bv,Cc,xu,xw,Vp,Ac,Br,Aw,Bg,Bu,Co,FO,row0,Da];done));apply Cw;exact⟨0,by decide,rfl⟩
theorem find36_hit{d:Nat}(hd:3≤d){H:List Vi}{r go v:Nat}{x:D}{nm nm':ByteArray}{l c:Nat}(hO:H[go]?=some (GO [] nm' x l c v))(hR:H[r]?=some (nmO nm))(hx:snap H.length H x=some x)(hc:x.Vv=true)(xB:(nm'.toList==nm.toList)=true)(lo:Nat) :
  Bh LP NN d 36 [.msl go v 0 1 none,.fn 37 [.ptr r 0 0 0]] ⟨H,lo⟩=some (.int .i64 0,⟨H,lo⟩,false):=by
 simp only[GO,List.nil_append]at hO;refine Eg (F:=F36) rfl (by simp only[LP,Av,zs,zm,hO,show ((0:Nat)=1)=False from by decide,show ((0:Nat)=2)=False from by decide,and_false,or_self]<;>exact rfl) rfl (by simp only[LP,zf,zm];try rfl) (by simp only[F36,zv]<;>exact rfl) (by omega) ?_;rintro d rfl;refine Ak (Al (Ct (Ab (Cb (by simp only[ze]<;>exact rfl) ?_))));refine Ak (Ak (Al (Af rfl (Aa (by simp only[zo,Ij]<;>exact rfl) ?_))));refine Ct (Ab (Cb (by simp only[ze]<;>exact rfl) ?_));refine Bo (Te (Ql (Ak (Al (Aa (by simp only[zo,Bz]<;>exact rfl) ?_)))));refine Ab (Cb (by simp only[ze]<;>exact rfl) ?_);refine Ak (J2 (by simp only[opd,zv]<;>rfl) ?_);refine Bn (Cb rfl (Ak (Bo (Ak (Al (Af rfl (Ar rfl (Ab (Cb (by simp only[ze]<;>exact rfl) ?_)))))))));refine Ak (Al (Af rfl (Af rfl (Af rfl (Aa (by simp only[zl,zm,Ch,Int.toNat_zero,Int.le_refl,hO]<;>exact rfl) ?_)))));apply Aa (by simp only[zl,zm,zd,Ay,List.take,List.drop,hO]<;>exact rfl);apply Aa (by simp only[zo];exact (find37 (by omega) hR hx hc _).trans (congrArg (fun b=>some (D.bool b,_,false)) xB));refine Ab (Cb (by simp only[ze]<;>exact rfl) ?_);apply J2 (by simp only[opd,zv]<;>rfl);refine Ak (Al (Af rfl (Ar rfl (Ab (Cb (by simp only[ze]<;>exact rfl) ?_)))));refine Cy (Oc (Kg (lu_r (Oc (Kg ?_)))));refine⟨_,by simp only[F36,Bw,Cz,Ei,zg]<;>exact rfl,?_⟩;simp[leave,LP,Vt,Vq,snap,D.Vs,D.Vr,D.free,D.Vw]
theorem find_hit{d:Nat}(hd:5≤d){H:List Vi}{go v gs:Nat}{x:D}{rows:List (List D)}{nm nm':ByteArray}{l c:Nat}(hO:H[go]?=some (GO [] nm' x l c v))(hF:FL H gs x rows)(xB:(nm'.toList==nm.toList)=true)(lo:Nat) :
  Bh LP NN d 12 [.msl go v 0 1 none,.str nm] ⟨H,lo⟩=some (.tup [.int .i64 0,.int .i64 0],⟨H,lo⟩,false):=by
 have zT:=Be hO;have hO0:=hO;have hc:=hF.cell;have hx:=hF.snap;simp only[GO,List.nil_append]at hO;refine Eg (F:=F12) rfl (by simp only[LP,Av,zs,zm,hO,show ((0:Nat)=1)=False from by decide,show ((0:Nat)=2)=False from by decide,and_false,or_self]<;>exact rfl) rfl (by simp only[LP,zf,zm,Bool.and_false];try rfl) (by simp only[F12,zv]<;>exact rfl) (by omega) ?_;rintro d rfl;refine Ak (Al (Aa (by simp only[zl,zm,zc]<;>exact rfl) ?_));refine Ct (Ct (Ab (Cb (by simp only[ze]<;>exact rfl) ?_)));refine Ak (Al (Af rfl (Aa (by simp only[zo]<;>exact rfl) ?_)));apply Aa (by simp only[zo];exact find36_hit (by omega) (by rw[Cr zT];exact hO0) (Dm H _) (by rw[Ll_];exact hx _ _) hc xB _);refine Ar rfl (Ab (Cb (by simp only[ze]<;>exact rfl) ?_));refine Ak (Ak (Al (Af rfl (Aa (by simp only[zo,Bz,Int.reduceLT]<;>exact rfl) ?_))));refine Ab (Cb (by simp only[ze]<;>exact rfl) ?_);apply Hy (by simp only[opd,zv]<;>rfl);refine Bn (Cb rfl (Ak (Al (Af rfl (Ar rfl (Ct (Ab (Cb (by simp only[ze]<;>exact rfl) ?_))))))));apply Cy;refine⟨_,by simp only[F12,Bw,Cz,Ei,zg]<;>exact rfl,?_⟩;simp[leave,LP,Vt,Vq,snap,D.Vs,D.Vr,D.free,D.Vw,Av]
theorem screen_panW{dd:Nat}(hd:20≤dd){H H1:List Vi}{g lo a c l0 c0:Nat}{ox lx1:D}{nm:ByteArray}(xG:g<H.length)
  (h1:Bh LP NN dd 89 [.ptr g 0 0 0,.int .u8 1,.V5] ⟨H,H.length⟩=some (.agg (tkR 1 nm l0 c0),⟨H1,g⟩,true)) (qN:H1[g]?=some (PO lx1 a c ox)) (zu:SlD 5 [] lx1) {w:Nat} (hwd:∀S,Bh LP NN dd 92 [.str nm] S=some (.int .u8 (w:Nat),S,false)) (hw:w≠0) (xI:lo≤g) (lw:Nat) :
  Df Tryz.prog GT lo (FT 11 l0 c0) 51 [.ptr g 0 0 0] ⟨H,lw⟩:=by
 have yT:=Be qN;have xq:=xG;have yL:min g H1.length=g:=by omega
 have yX:=zu.len;simp only[PO,tkR]at h1 qN;have hw1:(((w:Nat):Int) != 0)=true:=by rw[bne_iff_ne];omega
 apply Fx (F:=F51) (g:=53) (dd:=dd) mixed Hg rfl (by simp only[Av,zs]<;>exact rfl) rfl (by simp only[F51,zv]<;>exact rfl);refine Bq (Bi (Af rfl (Aa (by simp only[zo]<;>exact rfl) ?_)));apply Aa (by simp only[zo,Ad,zm]<;>exact rfl);apply Aa (by simp only[zo];exact h1);apply Aa (by simp only[zl,zm,Nat.reduceAdd]<;>exact rfl);apply Aa (by simp only[zl,zm,Bj,overlay,Cg,zs,zc,zf,List.take,List.drop,yL,Nat.reduceAdd]<;>exact rfl);refine Ab (De (by simp only[ze]<;>exact rfl) ?_);refine Bq (Bq (Bi (Af rfl (Aa (by simp only[zo]<;>exact rfl) ?_))));apply Aa (by simp only[zo,Ad,zm]<;>exact rfl);apply Aa (by simp only[zo,Ad,zm]<;>exact rfl);apply Aa (by simp only[zl,zm,zd,Ay,List.take,List.drop,Cr yT,qN,Nat.reduceAdd]<;>exact rfl);apply Aa (by simp only[zo,yX]<;>exact rfl);apply Aa (by simp only[zo,Bz]<;>exact rfl);refine Ab (De (by simp only[ze]<;>exact rfl) ?_);apply F7 (by simp only[opd,zv]<;>rfl);refine I5 (De rfl (Bq (Bq (Bi (Aa (by simp only[zo,Ad,zm]<;>exact rfl) ?_)))));apply Aa (by simp only[zl,zm,zd,Ay,List.take,List.drop,Nat.reduceAdd]<;>exact rfl);apply Aa (by simp only[zo];exact hwd _);apply Aa (by simp only[zo,Bz,hw1]<;>exact rfl);refine Ab (De (by simp only[ze]<;>exact rfl) ?_);apply Io (by simp only[opd,zv]<;>rfl);apply H6 (fun xs=>xs=[.ptr g 0 0 0,.int .i64 11,.agg [.int .i64 (l0:Nat),.int .i64 (c0:Nat)]]) (by simp only[Ci,zw]<;>exact rfl) (by simp only[zw]<;>exact rfl) (⟨by simp only;omega,Nat.le_of_eq rfl,fun xs yP=>by subst yP;exact I1 _ _ _ _ _ (by simp only[Gw]) (by simp only[Ll_];omega)⟩);refine Ca rfl rfl (Am (by simp only[zo]<;>exact rfl) rfl rfl ?_);apply Am (by simp only[zo,Ad,zm]<;>exact rfl) rfl rfl;apply Am (by simp only[zo,Ad,zm]<;>exact rfl) rfl rfl;apply Bb (by simp only[zl,zm,zd,Ay,List.take,List.drop,Nat.reduceAdd]<;>exact rfl) (by simp only[Ao,zo,zq]<;>exact rfl) (by first | rfl | (simp[show ob 8 4=[true,false,false,false] from rfl,Vp,Ac,Ai,Bl,Aj,Au,dj,Ah,Ae,Aq,Ba,Bv,Cc,Vp,Ac,xq];done) | (simp[show ob 8 4=[true,false,false,false] from rfl,Vp,Ac,Ai,Bl,Aj,Au,dj,Ah,Ae,Aq,Ba,Bv,Cc,Vp,Ac,Br,Aw,Bg,Bu,Co,FO,row0,Da];done));apply Bb (by simp only[zo];exact (Fg rfl)) (by simp only[Ao,zo,zq]<;>exact rfl) (by first | rfl | (simp[show ob 31 5=[true,true,true,true,true] from rfl,Vp,Ac,Ai,Bl,Aj,Au,dj,Ah,Ae,Aq,Ba,Bv,Cc,Vp,Ac,xq];done) | (simp[show ob 31 5=[true,true,true,true,true] from rfl,Vp,Ac,Ai,Bl,Aj,Au,dj,Ah,Ae,Aq,Ba,Bv,Cc,Vp,Ac,Br,Aw,Bg,Bu,Co,FO,row0,Da];done));apply Cw;exact⟨0,by decide,rfl⟩
theorem screen_panT{dd:Nat}(hd:20≤dd){H H1:List Vi}{g lo a c l0 c0:Nat}{ox lx1:D}{nm:ByteArray}(xG:g<H.length)
  (h1:Bh LP NN dd 89 [.ptr g 0 0 0,.int .u8 1,.V5] ⟨H,H.length⟩=some (.agg (tkR 1 nm l0 c0),⟨H1,g⟩,true)) (qN:H1[g]?=some (PO lx1 a c ox)) (zu:SlD 5 [] lx1) (hwd:∀S,Bh LP NN dd 92 [.str nm] S=some (.int .u8 0,S,false)) (rQ:ox.Vv=true) (h3:Bh LP NN dd 12 [ox,.str nm] ⟨H1++[tkO 1 nm l0 c0],g⟩=some (.tup [.int .i64 0,.int .i64 0],⟨H1++[tkO 1 nm l0 c0],g⟩,false)) (xI:lo≤g) (lw:Nat) :
  Df Tryz.prog GT lo (FT 8 l0 c0) 51 [.ptr g 0 0 0] ⟨H,lw⟩:=by
 have yT:=Be qN;have xq:=xG;have yL:min g H1.length=g:=by omega
 have yX:=zu.len;simp only[PO,tkR]at h1 qN;simp only[tkO,tkR]at h3;apply Fx (F:=F51) (g:=53) (dd:=dd) mixed Hg rfl (by simp only[Av,zs]<;>exact rfl) rfl (by simp only[F51,zv]<;>exact rfl);refine Bq (Bi (Af rfl (Aa (by simp only[zo]<;>exact rfl) ?_)));apply Aa (by simp only[zo,Ad,zm]<;>exact rfl);apply Aa (by simp only[zo];exact h1);apply Aa (by simp only[zl,zm,Nat.reduceAdd]<;>exact rfl);apply Aa (by simp only[zl,zm,Bj,overlay,Cg,zs,zc,zf,List.take,List.drop,yL,Nat.reduceAdd]<;>exact rfl);refine Ab (De (by simp only[ze]<;>exact rfl) ?_);refine Bq (Bq (Bi (Af rfl (Aa (by simp only[zo]<;>exact rfl) ?_))));apply Aa (by simp only[zo,Ad,zm]<;>exact rfl);apply Aa (by simp only[zo,Ad,zm]<;>exact rfl);apply Aa (by simp only[zl,zm,zd,Ay,List.take,List.drop,Cr yT,qN,Nat.reduceAdd]<;>exact rfl);apply Aa (by simp only[zo,yX]<;>exact rfl);apply Aa (by simp only[zo,Bz]<;>exact rfl);refine Ab (De (by simp only[ze]<;>exact rfl) ?_);apply F7 (by simp only[opd,zv]<;>rfl);refine I5 (De rfl (Bq (Bq (Bi (Aa (by simp only[zo,Ad,zm]<;>exact rfl) ?_)))));apply Aa (by simp only[zl,zm,zd,Ay,List.take,List.drop,Nat.reduceAdd]<;>exact rfl);apply Aa (by simp only[zo];exact hwd _);apply Aa (by simp only[zo,Bz]<;>exact rfl);refine Ab (De (by simp only[ze]<;>exact rfl) ?_);apply F7 (by simp only[opd,zv]<;>rfl);refine I5 (De rfl (Bq (Bq (Hr (by simp only[Ci,zw]<;>exact rfl) (by simp only[zw]<;>exact rfl) ?_))));refine Ca rfl rfl (Am (by simp only[zo]<;>exact rfl) rfl rfl ?_);apply Am (by simp only[zo,Ad,zm]<;>exact rfl) rfl rfl;apply Bb (by simp only[zl,zm,zd,Ay,List.take,List.drop,Cr yT,qN,Nat.reduceAdd]<;>exact rfl) (by simp only[Ao,zo,zq]<;>exact rfl) (by first | rfl | (simp[show ob 7 3=[true,true,true] from rfl,Vp,Ac,Ai,Bl,Aj,Au,dj,Ah,Ae,Aq,Ba,Bv,Cc,Vp,Ac,xq];done) | (simp[show ob 7 3=[true,true,true] from rfl,Vp,Ac,Ai,Bl,Aj,Au,dj,Ah,Ae,Aq,Ba,Bv,Cc,Vp,Ac,Br,Aw,Bg,Bu,Co,FO,row0,Da];done));apply Am (by simp only[zo,Ad,zm]<;>exact rfl) rfl rfl;apply Bb (by simp only[zl,zm,zd,Ay,List.take,List.drop,Nat.reduceAdd]<;>exact rfl) (by simp only[Ao,zo,zq]<;>exact rfl) (by first | rfl | (simp[show ob 16 5=[true,false,false,false,false] from rfl,Vp,Ac,Ai,Bl,Aj,Au,dj,Ah,Ae,Aq,Ba,Bv,Cc,Vp,Ac,xq];done) | (simp[show ob 16 5=[true,false,false,false,false] from rfl,Vp,Ac,Ai,Bl,Aj,Au,dj,Ah,Ae,Aq,Ba,Bv,Cc,Vp,Ac,Br,Aw,Bg,Bu,Co,FO,row0,Da];done));apply Bb (by simp only[zo];exact h3) (by simp only[Ao,zo,zq]<;>exact rfl) (by first | rfl | (simp[show ob 63 6=[true,true,true,true,true,true] from rfl,Vp,Ac,Ai,Bl,Aj,Au,dj,Ah,Ae,Aq,Ba,Bv,Cc,Vp,Ac,xq];done) | (simp[show ob 63 6=[true,true,true,true,true,true] from rfl,Vp,Ac,Ai,Bl,Aj,Au,dj,Ah,Ae,Aq,Ba,Bv,Cc,Vp,Ac,Br,Aw,Bg,Bu,Co,FO,row0,Da];done));apply Fy rfl rfl;apply Am (by simp only[zo,Lz]<;>exact rfl) rfl rfl;apply Am (by simp only[zo,Lz,Ls_]<;>exact rfl) rfl rfl;refine Fy rfl rfl (Fy rfl rfl (Cw (De (by simp only[ze]<;>exact rfl) ?_)));refine Bq (Bi (Af rfl (Aa (by simp only[zo,Bz]<;>exact rfl) ?_)));refine Ab (De (by simp only[ze]<;>exact rfl) ?_);apply Io (by simp only[opd,zv]<;>rfl);apply H6 (fun xs=>xs=[.ptr g 0 0 0,.int .i64 8,.agg [.int .i64 (l0:Nat),.int .i64 (c0:Nat)]]) (by simp only[Ci,zw]<;>exact rfl) (by simp only[zw]<;>exact rfl) (⟨by simp only;omega,Nat.le_of_eq rfl,fun xs yP=>by subst yP;exact I1 _ _ _ _ _ (by simp only[Gw]) (by simp only[Ll_];omega)⟩);refine Ca rfl rfl (Am (by simp only[zo]<;>exact rfl) rfl rfl ?_);apply Am (by simp only[zo,Ad,zm]<;>exact rfl) rfl rfl;apply Am (by simp only[zo,Ad,zm]<;>exact rfl) rfl rfl;apply Bb (by simp only[zl,zm,zd,Ay,List.take,List.drop,Nat.reduceAdd]<;>exact rfl) (by simp only[Ao,zo,zq]<;>exact rfl) (by first | rfl | (simp[show ob 8 4=[true,false,false,false] from rfl,Vp,Ac,Ai,Bl,Aj,Au,dj,Ah,Ae,Aq,Ba,Bv,Cc,Vp,Ac,xq];done) | (simp[show ob 8 4=[true,false,false,false] from rfl,Vp,Ac,Ai,Bl,Aj,Au,dj,Ah,Ae,Aq,Ba,Bv,Cc,Vp,Ac,Br,Aw,Bg,Bu,Co,FO,row0,Da];done));apply Bb (by simp only[zo];exact (Fg rfl)) (by simp only[Ao,zo,zq]<;>exact rfl) (by first | rfl | (simp[show ob 31 5=[true,true,true,true,true] from rfl,Vp,Ac,Ai,Bl,Aj,Au,dj,Ah,Ae,Aq,Ba,Bv,Cc,Vp,Ac,xq];done) | (simp[show ob 31 5=[true,true,true,true,true] from rfl,Vp,Ac,Ai,Bl,Aj,Au,dj,Ah,Ae,Aq,Ba,Bv,Cc,Vp,Ac,Br,Aw,Bg,Bu,Co,FO,row0,Da];done));apply Cw;exact⟨0,by decide,rfl⟩
theorem entry_panN{H:List Vi}{g lo a0 c0 a c:Nat}{d ox lx0 lx:D}{rows:List (List D)}(hH:H[g]?=some (PO lx0 a0 c0 ox))(hL:SlD 5 rows lx)(hg:∀l,Df Tryz.prog GT lo d 50 [.ptr g 0 0 0] ⟨H.set g (PO lx a c ox)++[⟨29,2,[[.int .i64 (a:Nat),.int .i64 (c:Nat)]],0,0,false⟩],l⟩)(xI:lo≤g)(lw:Nat) :
  Df Tryz.prog GT lo d 29 [.ptr g 0 0 0,lx,.agg [.int .i64 (a:Nat),.int .i64 (c:Nat)]] ⟨H,lw⟩:=by
 have xG:=Be hH;have ieq1:¬g=H.length:=by omega
 have ieq2:¬H.length=g:=by omega
 have yL:min H.length g=g:=by omega
 have xZ:min g g=g:=by omega
 have rG:∀l x,(H.set g x++l)[g]?=some x:=fun l x=>by rw[Cr (by simpa using xG)];exact Ec xG x
 have wV:∀l x y,(H.set g x++l).set g y=H.set g y++l:=fun l x y=>by rw[Fh (by simpa using xG),List.set_set]
 simp only[PO]at hH;simp only[PO]at hg;apply Fx (F:=F29) (g:=50) (dd:=20) mixed Hg rfl (by simp only[Av,Cg,zs,zm,hL.Vq]<;>exact rfl) rfl (by simp only[F29,zv]<;>exact rfl);refine Bq (Bi (Aa (by simp only[zl,zm,zc]<;>exact rfl) ?_));refine Ab (De (by simp only[ze]<;>exact rfl) ?_);refine Bq (Hr (by simp only[Ci,zw]<;>exact rfl) (by simp only[zw]<;>exact rfl) ?_);refine Ca rfl rfl (Ca rfl rfl (Ca rfl rfl (Bb (by simp only[zl,zm,zd,Ay,List.take,List.drop]<;>exact rfl) (by simp only[Ao,zo,zq]<;>exact rfl) rfl ?_)));apply Am (by simp only[zo]<;>exact rfl) rfl rfl;apply Am (by simp only[zo,Ad,zm]<;>exact rfl) rfl rfl;apply Am (by simp only[zo,Ad,zm]<;>exact rfl) rfl rfl;apply Bb (by simp only[zl,zm,Bj,overlay,List.take,List.drop,Cr xG,Fh xG,hH,hL.val,hL.cells,yL]<;>exact rfl) (by simp only[Ao,zo,zq,hL.Vp]<;>exact rfl) (by simp[show ob 117 7=[true,true,true,false,true,false,true] from rfl,Ai,Bl,Aj,Au,dj,Ah,Ae,ieq1]);apply Am (by simp only[zo]<;>exact rfl) rfl rfl;apply Am (by simp only[zo,Ad,zm]<;>exact rfl) rfl rfl;apply Am (by simp only[zo,Ad,zm]<;>exact rfl) rfl rfl;apply Bb (by simp only[zl,zm,Bj,overlay,Cg,zs,zc,zf,List.take,List.drop,rG,wV,xZ]<;>exact rfl) (by simp only[Ao,zo,zq]<;>exact rfl) rfl;refine Cw (De (by simp only[ze]<;>exact rfl) ?_);refine Bq (Ll 3 (by simp only[List.take_succ_cons,List.take_zero]<;>exact rfl) rfl ?_);refine Af rfl (Aa (by simp only[zo]<;>exact rfl) ?_);apply Aa (by simp only[zo,Ad,zm]<;>exact rfl);apply Ab;simp only[KPan];refine⟨?_,Nat.le_of_eq rfl,fun xs yP=>?_⟩
 ·
  omega
 simp only[opd,zv]at yP;subst yP;exact hg _
theorem entry_panS{dd:Nat}(hd:20≤dd){H:List Vi}{g lo a0 c0 a c:Nat}{d ox lx0 lx:D}{rows:List (List D)}(hH:H[g]?=some (PO lx0 a0 c0 ox))(hL:SlD 5 rows lx){H1:List Vi}{n:Nat}(hn:n=1)(h5:Bh LP NN dd 50 [.ptr g 0 0 0] ⟨H.set g (PO lx a c ox)++[⟨29,2,[[.int .i64 (a:Nat),.int .i64 (c:Nat)]],0,0,false⟩],g⟩=some (.int .i64 (n:Nat),⟨H1,g⟩,true))(hg:∀l,Df Tryz.prog GT lo d 51 [.ptr g 0 0 0] ⟨H1,l⟩)(xI:lo≤g)(lw:Nat) :
  Df Tryz.prog GT lo d 29 [.ptr g 0 0 0,lx,.agg [.int .i64 (a:Nat),.int .i64 (c:Nat)]] ⟨H,lw⟩:=by
 have xG:=Be hH;have ieq1:¬g=H.length:=by omega
 have ieq2:¬H.length=g:=by omega
 have yL:min H.length g=g:=by omega
 have xZ:min g g=g:=by omega
 have rG:∀l x,(H.set g x++l)[g]?=some x:=fun l x=>by rw[Cr (by simpa using xG)];exact Ec xG x
 have wV:∀l x y,(H.set g x++l).set g y=H.set g y++l:=fun l x y=>by rw[Fh (by simpa using xG),List.set_set]
 simp only[PO]at hH;have yX:(((n:Nat):Int)==1)=true:=by rw[beq_iff_eq];omega
 have yS:decide (((n:Nat):Int)≥2)=false:=decide_eq_false (by omega);have uq:decide (((n:Nat):Int)≤49)=true:=decide_eq_true (by omega);simp only[PO]at h5;apply Fx (F:=F29) (g:=51) (dd:=dd) mixed Hg rfl (by simp only[Av,Cg,zs,zm,hL.Vq]<;>exact rfl) rfl (by simp only[F29,zv]<;>exact rfl);refine Bq (Bi (Aa (by simp only[zl,zm,zc]<;>exact rfl) ?_));refine Ab (De (by simp only[ze]<;>exact rfl) ?_);refine Bq (Hr (by simp only[Ci,zw]<;>exact rfl) (by simp only[zw]<;>exact rfl) ?_);refine Ca rfl rfl (Ca rfl rfl (Ca rfl rfl (Bb (by simp only[zl,zm,zd,Ay,List.take,List.drop]<;>exact rfl) (by simp only[Ao,zo,zq]<;>exact rfl) rfl ?_)));apply Am (by simp only[zo]<;>exact rfl) rfl rfl;apply Am (by simp only[zo,Ad,zm]<;>exact rfl) rfl rfl;apply Am (by simp only[zo,Ad,zm]<;>exact rfl) rfl rfl;apply Bb (by simp only[zl,zm,Bj,overlay,List.take,List.drop,Cr xG,Fh xG,hH,hL.val,hL.cells,yL]<;>exact rfl) (by simp only[Ao,zo,zq,hL.Vp]<;>exact rfl) (by simp[show ob 117 7=[true,true,true,false,true,false,true] from rfl,Ai,Bl,Aj,Au,dj,Ah,Ae,ieq1]);apply Am (by simp only[zo]<;>exact rfl) rfl rfl;apply Am (by simp only[zo,Ad,zm]<;>exact rfl) rfl rfl;apply Am (by simp only[zo,Ad,zm]<;>exact rfl) rfl rfl;apply Bb (by simp only[zl,zm,Bj,overlay,Cg,zs,zc,zf,List.take,List.drop,rG,wV,xZ]<;>exact rfl) (by simp only[Ao,zo,zq]<;>exact rfl) rfl;refine Cw (De (by simp only[ze]<;>exact rfl) ?_);refine Bq (Bi (Af rfl (Aa (by simp only[zo]<;>exact rfl) ?_)));apply Aa (by simp only[zo,Ad,zm]<;>exact rfl);apply Aa (by simp only[zo];exact h5);refine Ar rfl (Ab (De (by simp only[ze]<;>exact rfl) ?_));refine Lu (Bq (Bi (Af rfl (Aa (by simp only[zo,Bz,yX]<;>exact rfl) ?_))));refine Ar rfl (Ab (De (by simp only[ze]<;>exact rfl) ?_));apply Io (by simp only[opd,zv]<;>rfl);apply Ll 1 (by simp only[List.take_succ_cons,List.take_zero]<;>exact rfl) rfl;refine Af rfl (Ab ?_);simp only[KPan];refine⟨?_,Nat.le_of_eq rfl,fun xs yP=>?_⟩
 ·
  omega
 simp only[opd,zv]at yP;subst yP;exact hg _
theorem entry_panF{dd:Nat}(hd:20≤dd){H:List Vi}{g lo a0 c0 a c:Nat}{d ox lx0 lx:D}{rows:List (List D)}(hH:H[g]?=some (PO lx0 a0 c0 ox))(hL:SlD 5 rows lx){H1:List Vi}{n:Nat}(hn:2≤n∧n≤49)(h5:Bh LP NN dd 50 [.ptr g 0 0 0] ⟨H.set g (PO lx a c ox)++[⟨29,2,[[.int .i64 (a:Nat),.int .i64 (c:Nat)]],0,0,false⟩],g⟩=some (.int .i64 (n:Nat),⟨H1,g⟩,true))(hg:∀l,Df Tryz.prog GT lo d 52 [.ptr g 0 0 0] ⟨H1,l⟩)(xI:lo≤g)(lw:Nat) :
  Df Tryz.prog GT lo d 29 [.ptr g 0 0 0,lx,.agg [.int .i64 (a:Nat),.int .i64 (c:Nat)]] ⟨H,lw⟩:=by
 have xG:=Be hH;have ieq1:¬g=H.length:=by omega
 have ieq2:¬H.length=g:=by omega
 have yL:min H.length g=g:=by omega
 have xZ:min g g=g:=by omega
 have rG:∀l x,(H.set g x++l)[g]?=some x:=fun l x=>by rw[Cr (by simpa using xG)];exact Ec xG x
 have wV:∀l x y,(H.set g x++l).set g y=H.set g y++l:=fun l x y=>by rw[Fh (by simpa using xG),List.set_set]
 simp only[PO]at hH;have yX:(((n:Nat):Int)==1)=false:=by rw[beq_eq_false_iff_ne];omega
 have yS:decide (((n:Nat):Int)≥2)=true:=decide_eq_true (by omega);have uq:decide (((n:Nat):Int)≤49)=true:=decide_eq_true (by omega);simp only[PO]at h5;apply Fx (F:=F29) (g:=52) (dd:=dd) mixed Hg rfl (by simp only[Av,Cg,zs,zm,hL.Vq]<;>exact rfl) rfl (by simp only[F29,zv]<;>exact rfl);refine Bq (Bi (Aa (by simp only[zl,zm,zc]<;>exact rfl) ?_));refine Ab (De (by simp only[ze]<;>exact rfl) ?_);refine Bq (Hr (by simp only[Ci,zw]<;>exact rfl) (by simp only[zw]<;>exact rfl) ?_);refine Ca rfl rfl (Ca rfl rfl (Ca rfl rfl (Bb (by simp only[zl,zm,zd,Ay,List.take,List.drop]<;>exact rfl) (by simp only[Ao,zo,zq]<;>exact rfl) rfl ?_)));apply Am (by simp only[zo]<;>exact rfl) rfl rfl;apply Am (by simp only[zo,Ad,zm]<;>exact rfl) rfl rfl;apply Am (by simp only[zo,Ad,zm]<;>exact rfl) rfl rfl;apply Bb (by simp only[zl,zm,Bj,overlay,List.take,List.drop,Cr xG,Fh xG,hH,hL.val,hL.cells,yL]<;>exact rfl) (by simp only[Ao,zo,zq,hL.Vp]<;>exact rfl) (by simp[show ob 117 7=[true,true,true,false,true,false,true] from rfl,Ai,Bl,Aj,Au,dj,Ah,Ae,ieq1]);apply Am (by simp only[zo]<;>exact rfl) rfl rfl;apply Am (by simp only[zo,Ad,zm]<;>exact rfl) rfl rfl;apply Am (by simp only[zo,Ad,zm]<;>exact rfl) rfl rfl;apply Bb (by simp only[zl,zm,Bj,overlay,Cg,zs,zc,zf,List.take,List.drop,rG,wV,xZ]<;>exact rfl) (by simp only[Ao,zo,zq]<;>exact rfl) rfl;refine Cw (De (by simp only[ze]<;>exact rfl) ?_);refine Bq (Bi (Af rfl (Aa (by simp only[zo]<;>exact rfl) ?_)));apply Aa (by simp only[zo,Ad,zm]<;>exact rfl);apply Aa (by simp only[zo];exact h5);refine Ar rfl (Ab (De (by simp only[ze]<;>exact rfl) ?_));refine Lu (Bq (Bi (Af rfl (Aa (by simp only[zo,Bz,yX]<;>exact rfl) ?_))));refine Ar rfl (Ab (De (by simp only[ze]<;>exact rfl) ?_));apply F7 (by simp only[opd,zv]<;>rfl);refine Bq (Bi (Af rfl (Aa (by simp only[zo,Bz,yS]<;>exact rfl) ?_)));refine Ar rfl (Gc 0 (b:=true) (by simp only[zv]<;>rfl) (by simp only[zn]<;>exact rfl) ?_);refine Bd rfl (Af rfl (Bd rfl (Aa (by simp only[zo,Bz,uq]<;>exact rfl) ?_)));apply Aa (by simp only[zo]<;>exact rfl);refine Ar rfl (Ab (De (by simp only[ze]<;>exact rfl) ?_));apply Io (by simp only[opd,zv]<;>rfl);apply Ll 1 (by simp only[List.take_succ_cons,List.take_zero]<;>exact rfl) rfl;refine Af rfl (Ab ?_);simp only[KPan];refine⟨?_,Nat.le_of_eq rfl,fun xs yP=>?_⟩
 ·
  omega
 simp only[opd,zv]at yP;subst yP;exact hg _
theorem entry_panL0{dd:Nat}(hd:20≤dd){H:List Vi}{g lo a0 c0 a c:Nat}{ox lx0 lx:D}{rows:List (List D)}(hH:H[g]?=some (PO lx0 a0 c0 ox))(hL:SlD 5 rows lx){H1:List Vi}{n:Nat}(hn:n=0)(h5:Bh LP NN dd 50 [.ptr g 0 0 0] ⟨H.set g (PO lx a c ox)++[⟨29,2,[[.int .i64 (a:Nat),.int .i64 (c:Nat)]],0,0,false⟩],g⟩=some (.int .i64 (n:Nat),⟨H1,g⟩,true))(uX:H1[H.length]?=some ⟨29,2,[[.int .i64 (a:Nat),.int .i64 (c:Nat)]],0,0,false⟩)(xI:lo≤g)(lw:Nat) :
  Df Tryz.prog GT lo (FT 4 a c) 29 [.ptr g 0 0 0,lx,.agg [.int .i64 (a:Nat),.int .i64 (c:Nat)]] ⟨H,lw⟩:=by
 have xG:=Be hH;have ieq1:¬g=H.length:=by omega
 have ieq2:¬H.length=g:=by omega
 have yL:min H.length g=g:=by omega
 have xZ:min g g=g:=by omega
 have rG:∀l x,(H.set g x++l)[g]?=some x:=fun l x=>by rw[Cr (by simpa using xG)];exact Ec xG x
 have wV:∀l x y,(H.set g x++l).set g y=H.set g y++l:=fun l x y=>by rw[Fh (by simpa using xG),List.set_set]
 simp only[PO]at hH;have hb:=Be uX;have yX:(((n:Nat):Int)==1)=false:=by rw[beq_eq_false_iff_ne];omega
 have yS:decide (((n:Nat):Int)≥2)=false:=decide_eq_false (by omega);have uq:decide (((n:Nat):Int)≤49)=true:=decide_eq_true (by omega);simp only[PO]at h5;apply Fx (F:=F29) (g:=53) (dd:=dd) mixed Hg rfl (by simp only[Av,Cg,zs,zm,hL.Vq]<;>exact rfl) rfl (by simp only[F29,zv]<;>exact rfl);refine Bq (Bi (Aa (by simp only[zl,zm,zc]<;>exact rfl) ?_));refine Ab (De (by simp only[ze]<;>exact rfl) ?_);refine Bq (Hr (by simp only[Ci,zw]<;>exact rfl) (by simp only[zw]<;>exact rfl) ?_);refine Ca rfl rfl (Ca rfl rfl (Ca rfl rfl (Bb (by simp only[zl,zm,zd,Ay,List.take,List.drop]<;>exact rfl) (by simp only[Ao,zo,zq]<;>exact rfl) rfl ?_)));apply Am (by simp only[zo]<;>exact rfl) rfl rfl;apply Am (by simp only[zo,Ad,zm]<;>exact rfl) rfl rfl;apply Am (by simp only[zo,Ad,zm]<;>exact rfl) rfl rfl;apply Bb (by simp only[zl,zm,Bj,overlay,List.take,List.drop,Cr xG,Fh xG,hH,hL.val,hL.cells,yL]<;>exact rfl) (by simp only[Ao,zo,zq,hL.Vp]<;>exact rfl) (by simp[show ob 117 7=[true,true,true,false,true,false,true] from rfl,Ai,Bl,Aj,Au,dj,Ah,Ae,ieq1]);apply Am (by simp only[zo]<;>exact rfl) rfl rfl;apply Am (by simp only[zo,Ad,zm]<;>exact rfl) rfl rfl;apply Am (by simp only[zo,Ad,zm]<;>exact rfl) rfl rfl;apply Bb (by simp only[zl,zm,Bj,overlay,Cg,zs,zc,zf,List.take,List.drop,rG,wV,xZ]<;>exact rfl) (by simp only[Ao,zo,zq]<;>exact rfl) rfl;refine Cw (De (by simp only[ze]<;>exact rfl) ?_);refine Bq (Bi (Af rfl (Aa (by simp only[zo]<;>exact rfl) ?_)));apply Aa (by simp only[zo,Ad,zm]<;>exact rfl);apply Aa (by simp only[zo];exact h5);refine Ar rfl (Ab (De (by simp only[ze]<;>exact rfl) ?_));refine Lu (Bq (Bi (Af rfl (Aa (by simp only[zo,Bz,yX]<;>exact rfl) ?_))));refine Ar rfl (Ab (De (by simp only[ze]<;>exact rfl) ?_));apply F7 (by simp only[opd,zv]<;>rfl);refine Bq (Bi (Af rfl (Aa (by simp only[zo,Bz,yS]<;>exact rfl) ?_)));refine Ar rfl (Gc 0 (b:=false) (by simp only[zv]<;>rfl) (by simp only[zn]<;>exact rfl) ?_);refine Cn rfl rfl (Cn rfl rfl (Aa (by simp only[zo]<;>exact rfl) ?_));refine Ar rfl (Ab (De (by simp only[ze]<;>exact rfl) ?_));apply F7 (by simp only[opd,zv]);apply H6 (fun xs=>xs=[.ptr g 0 0 0,.int .i64 4,.agg [.int .i64 (a:Nat),.int .i64 (c:Nat)]]) (by simp only[Ci,zw]<;>exact rfl) (by simp only[zw]<;>exact rfl) (⟨by simp only;omega,Nat.le_of_eq rfl,fun xs yP=>by subst yP;exact I1 _ _ _ _ _ (by simp only[Gw]) (by simp only[];omega)⟩);refine Ca rfl rfl (Am (by simp only[zo]<;>exact rfl) rfl rfl ?_);apply Am (by simp only[zo,Ad,zm]<;>exact rfl) rfl rfl;apply Bb (by simp only[zl,zm,zd,Ay,List.take,List.drop,uX]<;>exact rfl) (by simp only[Ao,zo,zq]<;>exact rfl) rfl;apply Bb (by simp only[zo];exact (Fg rfl)) (by simp only[Ao,zo,zq]<;>exact rfl) rfl;apply Cw;exact⟨0,by decide,rfl⟩
theorem entry_panL50{dd:Nat}(hd:20≤dd){H:List Vi}{g lo a0 c0 a c:Nat}{ox lx0 lx:D}{rows:List (List D)}(hH:H[g]?=some (PO lx0 a0 c0 ox))(hL:SlD 5 rows lx){H1:List Vi}{n:Nat}(hn:50≤n)(h5:Bh LP NN dd 50 [.ptr g 0 0 0] ⟨H.set g (PO lx a c ox)++[⟨29,2,[[.int .i64 (a:Nat),.int .i64 (c:Nat)]],0,0,false⟩],g⟩=some (.int .i64 (n:Nat),⟨H1,g⟩,true))(uX:H1[H.length]?=some ⟨29,2,[[.int .i64 (a:Nat),.int .i64 (c:Nat)]],0,0,false⟩)(xI:lo≤g)(lw:Nat) :
  Df Tryz.prog GT lo (FT 4 a c) 29 [.ptr g 0 0 0,lx,.agg [.int .i64 (a:Nat),.int .i64 (c:Nat)]] ⟨H,lw⟩:=by
 have xG:=Be hH;have ieq1:¬g=H.length:=by omega
 have ieq2:¬H.length=g:=by omega
 have yL:min H.length g=g:=by omega
 have xZ:min g g=g:=by omega
 have rG:∀l x,(H.set g x++l)[g]?=some x:=fun l x=>by rw[Cr (by simpa using xG)];exact Ec xG x
 have wV:∀l x y,(H.set g x++l).set g y=H.set g y++l:=fun l x y=>by rw[Fh (by simpa using xG),List.set_set]
 simp only[PO]at hH;have hb:=Be uX;have yX:(((n:Nat):Int)==1)=false:=by rw[beq_eq_false_iff_ne];omega
 have yS:decide (((n:Nat):Int)≥2)=true:=decide_eq_true (by omega);have uq:decide (((n:Nat):Int)≤49)=false:=decide_eq_false (by omega);simp only[PO]at h5;apply Fx (F:=F29) (g:=53) (dd:=dd) mixed Hg rfl (by simp only[Av,Cg,zs,zm,hL.Vq]<;>exact rfl) rfl (by simp only[F29,zv]<;>exact rfl);refine Bq (Bi (Aa (by simp only[zl,zm,zc]<;>exact rfl) ?_));refine Ab (De (by simp only[ze]<;>exact rfl) ?_);refine Bq (Hr (by simp only[Ci,zw]<;>exact rfl) (by simp only[zw]<;>exact rfl) ?_);refine Ca rfl rfl (Ca rfl rfl (Ca rfl rfl (Bb (by simp only[zl,zm,zd,Ay,List.take,List.drop]<;>exact rfl) (by simp only[Ao,zo,zq]<;>exact rfl) rfl ?_)));apply Am (by simp only[zo]<;>exact rfl) rfl rfl;apply Am (by simp only[zo,Ad,zm]<;>exact rfl) rfl rfl;apply Am (by simp only[zo,Ad,zm]<;>exact rfl) rfl rfl;apply Bb (by simp only[zl,zm,Bj,overlay,List.take,List.drop,Cr xG,Fh xG,hH,hL.val,hL.cells,yL]<;>exact rfl) (by simp only[Ao,zo,zq,hL.Vp]<;>exact rfl) (by simp[show ob 117 7=[true,true,true,false,true,false,true] from rfl,Ai,Bl,Aj,Au,dj,Ah,Ae,ieq1]);apply Am (by simp only[zo]<;>exact rfl) rfl rfl;apply Am (by simp only[zo,Ad,zm]<;>exact rfl) rfl rfl;apply Am (by simp only[zo,Ad,zm]<;>exact rfl) rfl rfl;apply Bb (by simp only[zl,zm,Bj,overlay,Cg,zs,zc,zf,List.take,List.drop,rG,wV,xZ]<;>exact rfl) (by simp only[Ao,zo,zq]<;>exact rfl) rfl;refine Cw (De (by simp only[ze]<;>exact rfl) ?_);refine Bq (Bi (Af rfl (Aa (by simp only[zo]<;>exact rfl) ?_)));apply Aa (by simp only[zo,Ad,zm]<;>exact rfl);apply Aa (by simp only[zo];exact h5);refine Ar rfl (Ab (De (by simp only[ze]<;>exact rfl) ?_));refine Lu (Bq (Bi (Af rfl (Aa (by simp only[zo,Bz,yX]<;>exact rfl) ?_))));refine Ar rfl (Ab (De (by simp only[ze]<;>exact rfl) ?_));apply F7 (by simp only[opd,zv]<;>rfl);refine Bq (Bi (Af rfl (Aa (by simp only[zo,Bz,yS]<;>exact rfl) ?_)));refine Ar rfl (Gc 0 (b:=true) (by simp only[zv]<;>rfl) (by simp only[zn]<;>exact rfl) ?_);refine Bd rfl (Af rfl (Bd rfl (Aa (by simp only[zo,Bz,uq]<;>exact rfl) ?_)));apply Aa (by simp only[zo]<;>exact rfl);refine Ar rfl (Ab (De (by simp only[ze]<;>exact rfl) ?_));apply F7 (by simp only[opd,zv]<;>rfl);apply H6 (fun xs=>xs=[.ptr g 0 0 0,.int .i64 4,.agg [.int .i64 (a:Nat),.int .i64 (c:Nat)]]) (by simp only[Ci,zw]<;>exact rfl) (by simp only[zw]<;>exact rfl) (⟨by simp only;omega,Nat.le_of_eq rfl,fun xs yP=>by subst yP;exact I1 _ _ _ _ _ (by simp only[Gw]) (by simp only[];omega)⟩);refine Ca rfl rfl (Am (by simp only[zo]<;>exact rfl) rfl rfl ?_);apply Am (by simp only[zo,Ad,zm]<;>exact rfl) rfl rfl;apply Bb (by simp only[zl,zm,zd,Ay,List.take,List.drop,uX]<;>exact rfl) (by simp only[Ao,zo,zq]<;>exact rfl) rfl;apply Bb (by simp only[zo];exact (Fg rfl)) (by simp only[Ao,zo,zq]<;>exact rfl) rfl;apply Cw;exact⟨0,by decide,rfl⟩
section
variable (d:Nat) (S:St) (cap:Option Nat)
theorem clone_nil:Dp LP NN (d+2) 148 [.V5] S=some (.V5,S,false):=by kernel_rfl
theorem clip_nil:Dp LP NN (d+2) 147 [.V5] S=some (.V5,S,false):=by kernel_rfl
theorem clone_zero:Dp LP NN (d+2) 148 [.sl 5 [] cap] S=some (.sl 5 [] (some 0),S,false):=by kernel_rfl
theorem clip_zero:Dp LP NN (d+2) 147 [.sl 5 [] (some 0)] S=some (.sl 5 [] (some 0),S,false):=by kernel_rfl
theorem xq_c:Dp LP NN (d+12) 17 [.str ⟨#[88,81]⟩] S=some (.tup [.agg Da,.int .i64 4],S,false):=by kernel_rfl
theorem p3_c:Dp LP NN (d+8) 90 [.str ⟨#[43,51]⟩] S=some (.bool false,S,false):=by kernel_rfl
end
theorem Iu{k l c:Nat}{s:ByteArray}{rest:List (List D)}{x:D}(h:SlD 5 (tkR k s l c::rest) x):SlD 5 rest (Cv 1 x):=h.drop 1
theorem lvl{d:Nat}(hd:7≤d){H:List Vi}{g a c a0 c0 n l1 c1:Nat}{lx0 lx ox:D}{rest:List (List D)}(hn:n<100)(hH:H[g]?=some (PO lx0 a0 c0 ox))(hL:SlD 5 (tkR 2 (Bf n) l1 c1::rest) lx) :
  ∃H1 lx1,Bh LP NN d 50 [.ptr g 0 0 0] ⟨H.set g (PO lx a c ox)++[⟨29,2,[[.int .i64 (a:Nat),.int .i64 (c:Nat)]],0,0,false⟩],g⟩=some (.int .i64 (n:Nat),⟨H1,g⟩,true)∧H1[g]?=some (PO lx1 a c ox)∧SlD 5 rest lx1∧H.length<H1.length∧(∀k,k<H.length→k≠g→H1[k]?=H[k]?)∧H1[H.length]?=some ⟨29,2,[[.int .i64 (a:Nat),.int .i64 (c:Nat)]],0,0,false⟩:=by
 have xG:=Be hH;have u1:=Upd.of xG (PO lx a c ox) [⟨29,2,[[.int .i64 (a:Nat),.int .i64 (c:Nat)]],0,0,false⟩];have r:=Qb hd hn u1.at_ hL g;rw[Nat.min_self]at r;have u2:=Upd.of (Be u1.at_) (PO (Cv 1 lx) a c ox) [tkO 2 (Bf n) l1 c1,tkO 2 (Bf n) l1 c1,tkO 2 (Bf n) l1 c1];have u:=u1.trans u2;have hb:(H.set g (PO lx a c ox)++[⟨29,2,[[.int .i64 (a:Nat),.int .i64 (c:Nat)]],0,0,false⟩])[H.length]?=some (⟨29,2,[[.int .i64 (a:Nat),.int .i64 (c:Nat)]],0,0,false⟩:Vi):=at_S0 H _ g _;refine⟨_,_,r,u.at_,Iu hL,?_,u.ne,u2.lt (by omega) hb⟩;have:=u2.len;rw[Ll_,List.length_set,List.length_cons,List.length_nil]at this;omega
theorem place_q{d:Nat}(hd:9≤d){H:List Vi}{g a c n l0 c0 l1 c1:Nat}{lx ox tx:D}{texts:List ByteArray}{w:ByteArray}{rest:List (List D)}(hn:n<100)(hH:H[g]?=some (PO lx a c ox))(hX:SlD 1 (Fv texts) tx)(zu:texts.length≤1000000)(hb:isB 1 1 w texts=true)
  (hL:SlD 5 (tkR 1 w l0 c0::tkR 2 (Bf n) l1 c1::rest) lx) :
  ∃H' lx',(∀lo,Bh LP NN d 94 [.ptr g 0 0 0,tx] ⟨H,lo⟩=some (.int .i64 (n:Nat),⟨H',min lo g⟩,true))∧Upd H H' g (PO lx' a c ox)∧SlD 5 rest lx':=by
 have xG:=Be hH;have h1:=Eo (d:=d-1) (by omega) hH hL hX zu hb;have u1:=Upd.of xG (PO (Cv 1 lx) a c ox) [tkO 1 w l0 c0,tkO 1 w l0 c0];have s1:=Iu hL;have h2:=Fw (d:=d-1) (texts:=[Pf]) (tx:=.sl 1 [[.str Pf]] (some 1)) (by omega) u1.at_ s1 (.of _ _ _) (by simp) (by simp[isB]) g;have h3:=Fw (d:=d-1) (texts:=[kIS]) (tx:=.sl 1 [[.str kIS]] (some 1)) (by omega) u1.at_ s1 (.of _ _ _) (by simp) (by simp[isB]) g;have h4:=Qb (d:=d-1) (by omega) hn u1.at_ s1 g;rw[Nat.min_self]at h4;have u4:=Upd.of (Be u1.at_) (PO (Cv 1 (Cv 1 lx)) a c ox) [tkO 2 (Bf n) l1 c1,tkO 2 (Bf n) l1 c1,tkO 2 (Bf n) l1 c1];exact⟨_,_,fun lo=>place_at hd hX xG (by omega) (fun d' e=>by subst e;exact h1) (fun d' e=>by subst e;exact h2) (fun d' e=>by subst e;exact h3) (fun d' e=>by subst e;exact h4) lo,u1.trans u4,Iu s1⟩
theorem value_pic0{d:Nat}(hd:16≤d){H H1 H2 H3 H4:List Vi}{g gf a c l0 c0 l1 c1 k kk:Nat}{a0 a1 a2 a3 a4 a5 a6 a7 a8 a9 a10 a11 a12 a13 a14 a15 x1 ox:D}{lx4 ly4 opx:D}{b2 w2:Bool}{s w:ByteArray}(rT:lx4.Vv=true)(hov:opx.val=true)(vw:opx.cells=[opx])(hclone:∀d',d=d'+1→∀S,Bh LP NN d' 148 [lx4] S=some (ly4,S,false))(hclip:∀d',d=d'+1→∀S,Bh LP NN d' 147 [ly4] S=some (opx,S,false))(hgf:gf<H.length)(uw:g<gf)
  (h1:∀d',d=d'+1→Bh LP NN d' 93 [.ptr g 0 0 0,.sl 1 [[.str Fe]] (some 1)] ⟨H++[Gq],H.length⟩=some (.bool false,⟨H++[Gq],H.length⟩,false))
  (qO:∀d',d=d'+1→Bh LP NN d' 89 [.ptr g 0 0 0,.int .u8 1,.sl 1 [[.str Dc],[.str Gz]] (some 2)] ⟨H++[Gq],H.length⟩=some (x1,⟨H1,g⟩,true))
  (h2:∀d',d=d'+1→Bh LP NN d' 93 [.ptr g 0 0 0,.sl 1 [[.str kIS]] (some 1)] ⟨H1,g⟩=some (.bool b2,⟨H2,g⟩,w2))
  (h3:∀d',d=d'+1→Bh LP NN d' 89 [.ptr g 0 0 0,.int .u8 4,.V5] ⟨H2,g⟩=some (.agg (tkR 4 s l0 c0),⟨H3,g⟩,true))
  (h4:∀d',d=d'+1→Bh LP NN d' 89 [.ptr g 0 0 0,.int .u8 1,.sl 1 [[.str Lh],[.str kTO],[.str Jo]] (some 3)] ⟨H3++[tkO 4 s l0 c0,Jq],g⟩=some (.agg (tkR 1 w l1 c1),⟨H4,g⟩,true))
  (kg:Jg (.str w) [[.str ⟨#[70,82,79,77]⟩,.int .u8 2],[.str ⟨#[84,79]⟩,.int .u8 3],[.str ⟨#[85,83,73,78,71]⟩,.int .u8 4]] 0=some (some (kk,.int .u8 (k:Nat)))) (xg:H.length<H3.length)
  (y8:H4[g]?=some (PO lx4 a c ox)) (y5:H4[gf]?=some (FO [a0,a1,a2,a3,a4,a5,a6,a7,a8,a9,a10,a11,a12,a13,a14,a15])) (wW:H4[H.length]?=some Gq) (uY:H4[H3.length]?=some (tkO 4 s l0 c0)) (uZ:H4[H3.length+1]?=some Jq) (lo:Nat) :
  Bh LP NN d 95 [.ptr g 0 0 0,.ptr gf 0 0 0] ⟨H,lo⟩=some (.agg (tkR 4 s l0 c0),⟨((H4.set gf (FO [a0,a1,.int .u8 (k:Nat),a3,a4,a5,a6,a7,a8,a9,a10,a11,a12,a13,a14,opx])).set g (PO .V5 a c ox)).set H.length (tkO 4 s l0 c0),min lo g⟩,true):=by
 have wD:=Be y8;have yU:=Be y5;have hz4:=Be wW;have ht4:=Be uY;have hm4:=Be uZ;have wQ:(gf=g)=False:=eq_false (by omega);have vI:(g=H.length)=False:=eq_false (by omega);have hn3:(gf=H3.length)=False:=eq_false (by omega);have kU:(g=H3.length)=False:=eq_false (by omega);have hn5:(gf=H3.length+1)=False:=eq_false (by omega);have hn6:(g=H3.length+1)=False:=eq_false (by omega);have kE:(gf=H.length)=False:=eq_false (by omega);have hn8:(g=gf)=False:=eq_false (by omega);have hn9:(H.length=H3.length)=False:=eq_false (by omega);have yX:(gf<H4.length)=True:=eq_true yU;have yS:(g<H4.length)=True:=eq_true wD;have uq:(H.length<H4.length)=True:=eq_true hz4;have wM:(H3.length<H4.length)=True:=eq_true ht4;have hl5:(H3.length+1<H4.length)=True:=eq_true hm4;have xW:min H.length g=g:=by omega
 have za:min g H3.length=g:=by omega
 have yu:min g (H3.length+1)=g:=by omega
 have wI:¬H.length≤g:=by omega
 have qD:min g (min gf H.length)=g:=by omega
 simp only[Fe,kIS,Dc,Gz,Lh,kTO,Jo]at h1 qO h2 h4;simp only[Gq,tkO,tkR,PO,FO,Jq,kwMap]at h1 qO h4 y8 y5 wW uY uZ;refine Eg (F:=F95) rfl (by simp only[LP,Av,zs]<;>exact rfl) rfl (by simp only[LP,zf,zm];try rfl) (by simp only[F95,zv]<;>exact rfl) (by omega) ?_;rintro d rfl;refine Ak (Al (Aa (by simp only[zl,zm]<;>exact rfl) ?_));refine Ab (Cb (by simp only[ze]<;>exact rfl) ?_);refine Ak (Ak (Al (Af rfl (Aa (by simp only[zo]<;>exact rfl) ?_))));apply Aa (by simp only[zo,Ad,zm]<;>exact rfl);apply Aa (by simp only[zl,zm,Cf,List.replicate,Av,zs,zc,zf]<;>exact rfl)
 first
  | refine Aa (by simp only[zo];exact h1 d rfl) ?_
  | refine Aa (by simp only[zo,List.getElem?_set,List.length_set,List.set_set,y8,y5,wW,uY,uZ,wQ,vI,hn3,kU,hn5,hn6,kE,hn8,hn9,yX,yS,uq,wM,hl5,tkO,tkR,PO,FO,Jq,Dq,Dm,D8,Dt,za,yu,rT,hov,vw];exact h2 d rfl) ?_
 refine Ab (Cb (by simp only[ze]<;>exact rfl) ?_);apply Hy (by simp only[opd,zv]<;>rfl);refine Bn (Cb rfl (Ak (Al (Af rfl (Aa (by simp only[zo]<;>exact rfl) ?_)))));apply Aa (by simp only[zo,Ad,zm]<;>exact rfl);apply Aa (by simp only[zl,zm,Cf,List.replicate,Av,zs,zc,zf]<;>exact rfl)
 first
  | refine Aa (by simp only[zo];exact qO d rfl) ?_
  | refine Aa (by simp only[zo,List.getElem?_set,List.length_set,List.set_set,y8,y5,wW,uY,uZ,wQ,vI,hn3,kU,hn5,hn6,kE,hn8,hn9,yX,yS,uq,wM,hl5,tkO,tkR,PO,FO,Jq,Dq,Dm,D8,Dt,za,yu,rT,hov,vw];exact h3 d rfl) ?_
  | refine Aa (by simp only[zo,List.getElem?_set,List.length_set,List.set_set,y8,y5,wW,uY,uZ,wQ,vI,hn3,kU,hn5,hn6,kE,hn8,hn9,yX,yS,uq,wM,hl5,tkO,tkR,PO,FO,Jq,Dq,Dm,D8,Dt,za,yu,rT,hov,vw];exact h4 d rfl) ?_
 refine Ab (Cb (by simp only[ze]<;>exact rfl) ?_);refine Ak (Al (Af rfl (Aa (by simp only[zo]<;>exact rfl) ?_)));apply Aa (by simp only[zo,Ad,zm]<;>exact rfl);apply Aa (by simp only[zl,zm,Cf,List.replicate,Av,zs,zc,zf]<;>exact rfl)
 first
  | refine Aa (by simp only[zo];exact h1 d rfl) ?_
  | refine Aa (by simp only[zo];exact h2 d rfl) ?_
 refine Ab (Cb (by simp only[ze]<;>exact rfl) ?_);refine Ak (Al (Af rfl (Aa (by simp only[zo]<;>exact rfl) ?_)));apply Aa (by simp only[zo,Ad,zm]<;>exact rfl)
 first
  | refine Aa (by simp only[zo];exact qO d rfl) ?_
  | refine Aa (by simp only[zo];exact h3 d rfl) ?_
  | refine Aa (by simp only[zo,List.getElem?_set,List.length_set,List.set_set,y8,y5,wW,uY,uZ,wQ,vI,hn3,kU,hn5,hn6,kE,hn8,hn9,yX,yS,uq,wM,hl5,tkO,tkR,PO,FO,Jq,Dq,Dm,D8,Dt,za,yu,rT,hov,vw];exact h4 d rfl) ?_
 apply Aa (by simp only[zl,zm,tkR]<;>exact rfl);apply Aa (by simp only[zl,zm,Bj,overlay,Cg,zs,zc,zf,List.take,List.drop,tkR,za]<;>exact rfl);refine Ab (Cb (by simp only[ze]<;>exact rfl) ?_);refine Ak (Al (Aa (by simp only[zl,zm]<;>exact rfl) ?_));apply Aa (by simp only[zl,zm,Ir,isKey,Jg,zs,zc,zf,yu]<;>exact rfl);apply Aa (by simp only[zl,zm,Ir,isKey,Jg,F6,zs,zc,zf,yu]<;>exact rfl);apply Aa (by simp only[zl,zm,Ir,isKey,Jg,F6,zs,zc,zf,yu]<;>exact rfl);refine Ar rfl (Ar rfl (Ab (Cb (by simp only[ze]<;>exact rfl) ?_)));refine Ak (Al (Af rfl (Af rfl (Af rfl (Aa (by simp only[zo]<;>exact rfl) ?_)))));apply Aa (by simp only[zo,Ad,zm]<;>exact rfl);apply Aa (by simp only[zl,zm,Cf,List.replicate,Av,zs,zc,zf]<;>exact rfl)
 first
  | refine Aa (by simp only[zo];exact qO d rfl) ?_
  | refine Aa (by simp only[zo];exact h3 d rfl) ?_
  | refine Aa (by simp only[zo];exact h4 d rfl) ?_
 apply Aa (by simp only[zo,Ay,List.take,List.drop,zm]<;>exact rfl);apply Aa (by simp only[zl,zm,Lf,Nj,isKey,kg,uZ]<;>exact rfl);apply Aa (by simp only[zo]<;>exact rfl);apply Aa (by simp only[zo,Ad,zm]<;>exact rfl);apply Aa (by simp only[zl,zm,Bj,overlay,zs,zc,zf,List.take,List.drop,y5]<;>exact rfl);refine Ab (Cb (by simp only[ze]<;>exact rfl) ?_);refine Ak (Al (Af rfl (Af rfl (Aa (by simp only[zo]<;>exact rfl) ?_))));apply Aa (by simp only[zo,Ad,zm]<;>exact rfl);apply Aa (by simp only[zo,Ad,zm]<;>exact rfl);refine Aa (by simp only[zl,zm,zd,Ay,List.take,List.drop,List.getElem?_set,y8,wQ,yX]<;>exact rfl) ?_;apply Aa (by simp only[zo];exact hclone d rfl _);apply Aa (by simp only[zo];exact hclip d rfl _);apply Aa (by simp only[zo]<;>exact rfl);apply Aa (by simp only[zo,Ad,zm]<;>exact rfl);refine Aa (by simp only[zl,zm,Bj,overlay,List.take,List.drop,List.getElem?_set,List.set_set,y5,yX,hov,vw]<;>exact rfl) ?_;refine Ab (Cb (by simp only[ze]<;>exact rfl) ?_);refine Ak (Al (Af rfl (Aa (by simp only[zo]<;>exact rfl) ?_)));apply Aa (by simp only[zo,Ad,zm]<;>exact rfl);apply Aa (by simp only[zo,Ad,zm]<;>exact rfl);refine Aa (by simp only[zl,zm,Bj,overlay,zs,zc,zf,List.take,List.drop,List.getElem?_set,y8,wQ,yX]<;>exact rfl) ?_;refine Ab (Cb (by simp only[ze]<;>exact rfl) ?_);refine Ak (Al ?_);refine Aa (by simp only[zl,zm,zd,Ay,List.take,List.drop,List.getElem?_set,uY,hn3,kU,yX,yS]<;>exact rfl) ?_;refine Aa (by simp only[zl,zm,Bj,overlay,Cg,zs,zc,zf,List.take,List.drop,List.getElem?_set,wW,vI,kE,yX,yS]<;>exact rfl) ?_;refine Ab (Cb (by simp only[ze]<;>exact rfl) ?_);apply Cy;refine⟨_,by simp only[F95,Bw,Cz,Ei,zg,zd,rowsOf,Ay,List.take,List.drop,zm,List.getElem?_set,List.length_set,wW,vI,kE,yX,yS,uq]<;>exact rfl,?_⟩;simp[leave,LP,Vt,Vq,snap,Cg,qD,wI,tkR,tkO,FO,PO]
end Go.Proofs.YtkaedpmmopigkaaGreatDoor
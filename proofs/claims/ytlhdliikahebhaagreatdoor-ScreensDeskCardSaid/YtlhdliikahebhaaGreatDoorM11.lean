/- Proved here: what functions compute in an abstract machine; no condition. -/
import Derived.Test.YtlhdliikahebhaaGreatDoorM10
namespace Go.Proofs.YtlhdliikahebhaaGreatDoor
set_option linter.unusedSimpArgs false
set_option linter.unusedVariables false
set_option maxRecDepth 100000
set_option maxHeartbeats 4000000
def T2:Nat→Nat→D × Bool:=fun _ j=>if j=0 then (.X4,false) else ((.sl 1 [[.int .u8 32],[.int .u8 32],[.int .u8 55]] (some 3)),true)
theorem acc_cl:H7 T2 2 [fm1,fm2] 0 0 []=some (2,[(1,(.sl 1 [[.int .u8 32],[.int .u8 32],[.int .u8 55]] (some 3)))]):=by
 have h1:fm1.kind=1:=rfl;have h2:fm2.kind=4:=rfl;rw[H7,if_pos (by rw[h1];omega),H7,if_neg (by rw[h2];omega),Ez,if_pos (by omega),if_neg (by simp[T2]),Ez,if_pos (by omega),if_pos (by simp[T2])];simp[H7,T2]
theorem SrcV.of{H:List Xh}{gv n vv:Nat}{vals:List D}{gr:Bool}(hg:H[gv]?=some ⟨57,1,vals.map fun v=>[v],vv,0,gr⟩)(hn:n=vals.length):SrcV H (.msl gv vv 0 n none) vals gv vv:=by
 subst hn;refine⟨rfl,rfl,fun m l=>?_,fun l lo i hi=>?_,fun l lo i v hv=>?_⟩
 ·
  rw[Md,Jm,Bj (Aj hg),hg];simp
 ·
  simp[Fe,rowsOf,Bj (Aj hg),hg,hi]
 simp[G6,rowsOf,Bj (Aj hg),hg,hv,Ci]
theorem lives_T(d:Nat)(hd:20≤d):∀i j p (hi:i<[fm1,fm2].length) (hj:j<([⟨#[120]⟩,⟨#[55]⟩]:List ByteArray).length),3≤([fm1,fm2][i]).kind→(∀d',d=d'→∀S,Ae LP NN d' 45 [.agg (Gs [fm1,fm2][i] p),.str ([⟨#[120]⟩,⟨#[55]⟩]:List ByteArray)[j]] S=some (.tup [(T2 i j).1,.bool (T2 i j).2],S,false))∧∃ys,SlD 1 ys (T2 i j).1:=by
 intro i j p hi hj hk
 match i,hi,hk with
 | 0,_,hk=>exact absurd hk (show ¬3≤fm1.kind from by decide)
 | 1,_,_ =>
  match j,hj with
  | 0,_=>exact⟨fun d' e S=>by subst e;obtain⟨d,rfl⟩:∃d',d=d'+20:=⟨d-20,by omega⟩;exact fast_ok (typed_x d S p),[],.nil 1⟩
  | 1,_=>exact⟨fun d' e S=>by subst e;obtain⟨d,rfl⟩:∃d',d=d'+20:=⟨d-20,by omega⟩;exact fast_ok (typed_7 d S p),_,.of _ _ _⟩
  | j+2,h=>exact absurd h (by simp)
 | i+2,h,_=>exact absurd h (by simp)
theorem Qp{d:Nat}(hd:26≤d)(S:St):Ae LP NN d 4 [] S=some (.bool true,S,false):=by
 obtain⟨H',x0,gs,rows,wr,hof,-,-,hFL,hRW,-⟩:=of_run (d:=d-1) (by omega) [] 0 (by simp) (lx:=.sl 6 [[.int .u8 1,.int .u8 2,.int .u8 0,.int .u8 1,.bool false,.bool false],[.int .u8 1,.int .u8 3,.int .u8 3,.int .u8 2,.bool true,.bool false]] (some 2)) (l:=[fm1,fm2]) (SlD.of 6 (Cr [fm1,fm2]) (some 2)) (by decide);obtain⟨v,hS⟩:=hFL.src;have yI:rows.length=2:=hRW.len;have hS2:=hS.mono [⟨32,4,[[.str nmA,Br x0,.int .i64 ((1:Nat):Int),.int .i64 ((12:Nat):Int)]],0,0,false⟩,⟨5,1,[[.int .u8 32],[.int .u8 49],[.int .u8 50]],1,2,false⟩,⟨57,1,[[.X4],[.sl 1 [[.int .u8 32],[.int .u8 49],[.int .u8 50]] (some 3)]],0,0,false⟩];have wE:=hS.len;rw[yI]at wE;have yw:=hS.cell;have hv:SrcV (H'++[⟨32,4,[[.str nmA,Br x0,.int .i64 ((1:Nat):Int),.int .i64 ((12:Nat):Int)]],0,0,false⟩,⟨5,1,[[.int .u8 32],[.int .u8 49],[.int .u8 50]],1,2,false⟩,⟨57,1,[[.X4],[.sl 1 [[.int .u8 32],[.int .u8 49],[.int .u8 50]] (some 3)]],0,0,false⟩]) (.msl (H'.length+2) 0 0 2 none) [.X4,.sl 1 [[.int .u8 32],[.int .u8 49],[.int .u8 50]] (some 3)] (H'.length+2) 0:=.of (gr:=false) (by rw[Bd];rfl) rfl
 have hshow:=fun lo=>show_run (d:=d-1) (by omega) (P:=P0v) hS2 hRW hv (by decide) rfl (fun i p w hp hw=>by
  match i with
  | 0=>cases hp;cases hw;exact⟨rfl,rfl⟩
  | 1=>cases hp;cases hw;exact⟨rfl,by rw[if_neg (by decide)];exact SlD.rdb (SlD.of 1 (bR [32,49,50]) (some 3)) _⟩
  | i+2=>simp[P0v]at hp) nmA 1 12 lo
 rw[out_cl]at hshow
 have zC:=Od (d:=d-1) (by omega) (T:=T2) (ls:=[⟨#[120]⟩,⟨#[55]⟩]) (xl:=.sl 1 [[.str ⟨#[120]⟩],[.str ⟨#[55]⟩]] (some 2)) (lo:=0) hS2 hRW (SlD.of 1 _ _) (by decide) (by simp) (fun i j p hi hj hk=>by
  obtain⟨h1,h2⟩:=lives_T (d-1-1) (by omega) i j p hi hj hk
  exact⟨fun d' e S=>h1 d' (by omega) S,h2⟩) nmA 1 12 (by omega)
 rw[show ([⟨#[120]⟩,⟨#[55]⟩]:List ByteArray).length=2 from rfl,acc_cl]at zC;obtain⟨_,⟨y,H3,go,wr2,rfl,hTL,-,-,-⟩,zC⟩:=zC;rcases hTL with⟨-,hbad⟩ | ⟨vs,rfl,h3⟩
 ·
  cases hbad
 have h3':H3[go]?=some ⟨83,2,[[.int .i64 1,(.sl 1 [[.int .u8 32],[.int .u8 32],[.int .u8 55]] (some 3))]],vs,0,true⟩:=h3
 have zR:∀i:Nat,2≤i→i<24→(([.str ⟨#[]⟩]::[.str ⟨#[32,32,65,32,49,50]⟩]::List.replicate 22 [.str ⟨#[]⟩]:List (List D)))[i]?=some [.str ⟨#[]⟩]:=fun i h1 h2=>by
  obtain⟨j,rfl⟩:∃j,i=j+2:=⟨i-2,by omega⟩;rw[Ls_,Ls_,List.getElem?_replicate,if_pos (by omega)]
 have h3p:=h3';have h24l:((⟨#[UInt8.ofNat 32,UInt8.ofNat 32,UInt8.ofNat 55]⟩:ByteArray).toList==(⟨#[32,32,55]⟩:ByteArray).toList)=true:=by decide +kernel
 have zz:=aI @beq_self_eq_true.{0} (aI @Bool.not_true (aI wE (aI yw (aI @Bd (aI @Bf (aI @Cb (aI @Ca (aI h3p h24l))))))));refine rpz (hb:=?_);rintro d rfl;refine g16 (q:=Aa (by simp only[zo,zz];exact hof) (g14 (q:=Bb 0 (b:=false) (h:=g20 (q:=Aa (by simp only[zo,zz];exact (hshow _)) (g11 (q:=Aa (by simp only[zo,zz];exact zC) (g15 (q:=Bb 0 (b:=false) (h:=g6 (q:=Bb 0 (b:=false) (h:=g8 (q:=Bb 0 (b:=false) (h:=g19 (q:=Bq (fun n env S'=>∃(i:Nat) (u12 u13:D),2≤i∧i≤24∧n=24-i∧S'=⟨H3,0⟩∧env=[.bool false,.sl 6 [[.int .u8 1,.int .u8 2,.int .u8 0,.int .u8 1,.bool false,.bool false],[.int .u8 1,.int .u8 3,.int .u8 3,.int .u8 2,.bool true,.bool false]] (some 2),.ptr H'.length 0 0 0,.bool true,.sl 1 ([.str ⟨#[]⟩]::[.str ⟨#[32,32,65,32,49,50]⟩]::List.replicate 22 [.str ⟨#[]⟩]) (some 24),.int .i64 0,.msl go vs 0 1 (some 1),.int .i64 2,.int .i64 0,.int .i64 (i:Nat),.bool false,.bool false,u12,u13]) (22) (by omega) (⟨2,_,_,by omega,by omega,by omega,rfl,rfl⟩) ?_)))))))))))))));rintro n env S' ⟨i,u12,u13,zD,hi,kL,rfl,rfl⟩;refine g7 (q:=Bz (ht:=fun xZ=>?_) (hf:=fun xZ=>?_))
 ·
  have xq:i<24:=by have:=of_decide_eq_true xZ;omega
  have hw:=Bu i (by omega);have hii:=zR i zD xq;have h0:(0:Int)≤(i:Int):=by omega
  have zz:=aI hw (aI hii (aI h0 zz));refine g23 (q:=?_);exact⟨24-(i+1),by omega,i+1,_,_,by omega,by omega,rfl,rfl,rfl⟩
 have xq:i=24:=by have:=of_decide_eq_false xZ;omega
 subst xq;refine g12 (q:=Bb 0 (b:=true) (h:=g10 (q:=Bb 0 (b:=true) (h:=g12 (q:=Bb 0 (b:=true) (h:=g14 (q:=Bb 0 (b:=true) (h:=g9 (q:=fq (h:=?_))))))))));simp only[Df,leave,Ah,Bl,zs,zf,zk]
def cstep (r c:Nat) (acc:UInt8) (p:FM × List UInt8):UInt8:=if r+1=p.1.line∧p.1.column≤c+1∧c+1<p.1.column+p.1.size then prn (p.2.getD (c+1-p.1.column) 0) else acc
def Dr (P:List (FM × List UInt8)) (r c k:Nat):UInt8:=(P.take k).foldl (cstep r c) 32
theorem Qw(P:List (FM × List UInt8))(r c:Nat):Ak P r c=Dr P r c P.length:=by
 unfold Dr Ak;rw[List.take_length]
 have key:∀(P:List (FM × List UInt8)) (G:G7),(P.foldl (fun G p=>Eu G p.1 p.2 p.1.size) G) r c=P.foldl (cstep r c) (G r c):=by
  intro P
  induction P with
  | nil=>intro G;rfl
  | cons p P ih=>intro G;rw[List.foldl_cons,List.foldl_cons,ih];rfl
 exact key P G0
theorem cellT_succ{P:List (FM × List UInt8)}{r c k:Nat}(h:k<P.length):Dr P r c (k+1)=cstep r c (Dr P r c k) P[k]:=by
 unfold Dr;rw[List.take_succ_eq_append_getElem h,List.foldl_append];rfl
def I6 (P:List (FM × List UInt8)) (r j:Nat):List UInt8:=(List.range j).map (Ak P r)
theorem Jn(P:List (FM × List UInt8))(r j:Nat):(I6 P r j).length=j:=by simp[I6]
theorem Ql(P:List (FM × List UInt8))(r j:Nat):I6 P r (j+1)=I6 P r j++[Ak P r j]:=by simp[I6,List.range_succ]
theorem sadd(a b:List UInt8)(h:a.length+b.length≤1000):Ec .add (.str (mkS a)) (.str (mkS b))=some (.str (mkS (a++b))):=by
 simp only[Ec,Fj,Ad];rw[if_neg (by rw[show IntKind.i64.max=9223372036854775807 from rfl];omega)]
def RLi (l:List Xh) (q:Nat) (x:D) (rows:List (List D)):Prop:=(x=.X4∧rows=[])∨∃vs,x=.msl q vs 0 rows.length none∧l[q]?=some ⟨9,1,rows,vs,1,true⟩
theorem RLi.app{l:List Xh}{q lo:Nat}{x:D}{rows:List (List D)}{row:List D}(h:RLi l q x rows)(xU:lo≤q∨x=.X4)(hl:rows.length<1000) :
  ∃x' l' q',Bo 9 1 16 1 x (.sl 1 [row] (some 1)) ⟨l,lo⟩=some (x',⟨l',lo⟩,true)∧RLi l' q' x' (rows++[row])∧(q'=q∨q'=l.length)∧l.length≤l'.length∧∀(k:Nat) (o:Xh),l[k]?=some o→o.elem≠9→l'[k]?=some o:=by
 rcases h with⟨rfl,rfl⟩ | ⟨vs,rfl,ho⟩
 ·
  refine⟨.msl l.length 0 0 1 none,l++[⟨9,1,[row],0,1,true⟩],l.length,?_,.inr ⟨0,rfl,by simp⟩,.inr rfl,by simp,fun k o h _=>by rw[Bj (Aj h)];exact h⟩;simp[Bo,Bw,Av,newAt]
 have uM:=Aj ho
 have uT:lo≤q:=by
  rcases xU with h | h
  ·
   exact h
  cases h
 refine⟨.msl q (vs+1) 0 (rows.length+1) none,l.set q ⟨9,1,rows++[row],vs+1,1,true⟩,q,?_,.inr ⟨vs+1,by simp,Et uM _⟩,.inl rfl,by simp,fun k o h he=>?_⟩
 ·
  have hb:(rows.length+1)*16≤140737488355328:=by omega
  have xM:min lo q=lo:=by omega
  simp[Bo,Bw,Av,rowsOf,ho,setAt,hb,xM]
 rw[Ln_ ?_]
 ·
  exact h
 intro e;subst e;rw[ho]at h;cases h;exact he rfl
theorem RLi.more{l:List Xh}{q:Nat}{x:D}{rows:List (List D)}(h:RLi l q x rows)(m:List Xh):RLi (l++m) q x rows:=by
 rcases h with h | ⟨vs,h1,h2⟩
 ·
  exact .inl h
 exact .inr ⟨vs,h1,by rw[Bj (Aj h2)];exact h2⟩
theorem RLi.len{l:List Xh}{q:Nat}{x:D}{rows:List (List D)}(h:RLi l q x rows):Hr false x=some (.int .i64 (rows.length:Nat)):=by
 rcases h with⟨rfl,rfl⟩ | ⟨vs,rfl,_⟩<;>rfl
def Ui (G:G7) (i:Nat):List (List D):=(List.range i).map fun r=>[.str (trS G r)]
theorem Sj(G:G7)(i:Nat):(Ui G i).length=i:=by simp[Ui]
theorem orow_succ(G:G7)(i:Nat):Ui G (i+1)=Ui G i++[[.str (trS G i)]]:=by simp[Ui,List.range_succ]
theorem orow_24(G:G7):Ui G 24=De G 24:=by
 unfold Ui De;refine List.map_congr_left fun r hr=>?_;rw[if_pos (List.mem_range.1 hr)]
theorem grid_run{d:Nat}(hd:12≤d)(S:St){P:List (FM × List UInt8)}{vs:List ByteArray}{lx vx:D}(zi:SlD 6 (Cr (P.map (·.1))) lx)(vV:SlD 1 (Cx vs) vx)(hP:P.length≤256)(hvn:vs.length=P.length)
  (xW:∀(i:Nat) (p:FM × List UInt8),P[i]?=some p→p.2.length=p.1.size∧(if p.1.kind=1 then p.2=p.1.text.data.toList else vs[i]?=some (mkS p.2))) :
  Ae LP NN d 13 [lx,vx] S=some (.sl 1 (De (Ak P) 24) none,S,false):=by
 have zz:=aI zi.len (aI vV.len (aI @Gh (aI @List.length_map.{0,0} (aI @FM.row.eq_1 (aI @Bd (aI @Bf (aI @Cb (aI @Ca (aI zi.Xp (aI vV.Xp (aI zi.Xq vV.Xq)))))))))));refine rpz (hb:=?_);rintro d rfl;refine g17 (q:=Bq (fun n env S'=>∃(i q:Nat) (l:List Xh) (xo u13 u5 u6 u7 u8 u9 u10 u11 u12 u14 u15 u16 u17 u18 u19:D),i≤24∧n=24-i∧S'=⟨l,0⟩∧env=[lx,vx,.X4,xo,.int .i64 ((i+1:Nat):Int),u5,u6,u7,u8,u9,u10,u11,u12,u13,u14,u15,u16,u17,u18,u19]∧RLi l q xo (Ui (Ak P) i)) (24) (by omega) (⟨0,0,[],.X4,_,_,_,_,_,_,_,_,_,_,_,_,_,_,_,by omega,by omega,rfl,rfl,.inl ⟨rfl,rfl⟩⟩) ?_);rintro n env S' ⟨i,q,l,xo,u13,u5,u6,u7,u8,u9,u10,u11,u12,u14,u15,u16,u17,u18,u19,hi,kL,rfl,rfl,hO⟩;refine g7 (q:=Bz (ht:=fun xZ=>?_) (hf:=fun xZ=>?_))
 ·
  have hi24:i<24:=by have:=of_decide_eq_true xZ;omega
  have vK:=Bu (i+1) (by omega);have zz:=aI vK zz;refine g21 (q:=Bq (fun n env S'=>∃(j:Nat) (l2:List Xh) (v8 v9 v10 v11 v12 v14 v15 v16 v17 v18 v19:D),j≤80∧n=80-j∧S'=⟨l2,0⟩∧env=[lx,vx,.X4,xo,.int .i64 ((i+1:Nat):Int),.str (mkS (I6 P i j)),.int .i64 (tn (I6 P i j):Nat),.int .i64 ((j+1:Nat):Int),v8,v9,v10,v11,v12,.bool (decide (((i+1:Nat):Int)≤24)),v14,v15,v16,v17,v18,v19]∧RLi l2 q xo (Ui (Ak P) i)) (80) (by omega) (⟨0,l,_,_,_,_,_,_,_,_,_,_,_,by omega,by omega,rfl,rfl,hO⟩) ?_);rintro n env S' ⟨j,l2,v8,v9,v10,v11,v12,v14,v15,v16,v17,v18,v19,hj,hnj,rfl,rfl,hO2⟩;refine g7 (q:=Bz (ht:=fun vw=>?_) (hf:=fun vw=>?_))
  ·
   have hj80:j<80:=by have:=of_decide_eq_true vw;omega
   have hwj:=Bu (j+1) (by omega);have zz:=aI hwj zz;refine g16 (q:=Bq (fun n env S'=>∃(k:Nat) (l4:List Xh) (w10 w11 w12 w15 w16 w17 w18:D),k≤P.length∧n=P.length-k∧S'=⟨l4,0⟩∧env=[lx,vx,.X4,xo,.int .i64 ((i+1:Nat):Int),.str (mkS (I6 P i j)),.int .i64 (tn (I6 P i j):Nat),.int .i64 ((j+1:Nat):Int),.str (mkS [Dr P i j k]),.int .i64 (k:Nat),w10,w11,w12,.bool (decide (((i+1:Nat):Int)≤24)),.bool (decide (((j+1:Nat):Int)≤80)),w15,w16,w17,w18,v19]∧RLi l4 q xo (Ui (Ak P) i)) (P.length) (by omega) (⟨0,l2,_,_,_,_,_,_,_,by omega,by omega,rfl,rfl,hO2⟩) ?_);rintro n env S' ⟨k,l4,w10,w11,w12,w15,w16,w17,w18,hk,hnk2,rfl,rfl,vJ⟩;refine g9 (q:=Bz (ht:=fun zL=>?_) (hf:=fun zL=>?_))
   ·
    have xq:k<P.length:=by have:=of_decide_eq_true zL;omega
    have kC:=Bu k (by omega);obtain⟨f,bs,hPe⟩:∃f bs,P[k]=(f,bs):=⟨_,_,rfl⟩;have hPk:P[k]?=some (f,bs):=by rw[Lg xq,hPe]
    have hfe:(P.map (·.1))[k]'(by rw[List.length_map];exact xq)=f:=by rw[List.getElem_map,hPe]
    have yD:=fun (S:St)=>zi.iaddrN S .i64 (Jc (l:=P.map (·.1)) (i:=k) (by rw[List.length_map];exact xq));rw[hfe]at yD;have wD:bs.length=f.size:=(xW k _ hPk).1;have wC:=cellT_succ (r:=i) (c:=j) xq;rw[hPe]at wC;simp only[cstep]at wC;have hln:=f.line_le;have hcn:=f.column_le;have xC:=f.size_le;have uO:=f.kind_le;have hw1:IntKind.i64.wrap (((f.column:Nat):Int)+((f.size:Nat):Int))=((f.column+f.size:Nat):Int):=by rw[IntKind.wrap_i64];omega
    have zz:=aI kC (aI yD (aI hw1 zz));refine g17 (q:=?_);have zz:=aI zi.fpi (aI vV.fpi zz);refine g1 (q:=Ao (by simp only[zo,zz];exact Sr (by omega) _ f) (by simp only[Ac,zo,zq,zi.fpi,vV.fpi]<;>exact rfl) (by first | rfl | (simp[show ob 1 1=[true] from rfl,Xo,Ay,Ar,Cf,Ap,Bn,djl,djr,djs,Am,Af,Az,Ba];done)) (g3 (q:=dw_sq 0 (h:=fun yZ=>?_) (k:=fun yZ=>?_))))
    ·
     have xk:Dr P i j (k+1)=Dr P i j k:=by
      rw[wC,if_neg];rintro⟨h1,h2,h3⟩;have h:=yZ;rw[bne_iff_ne]at h;omega
     refine g27 (q:=?_);exact⟨P.length-(k+1),by omega,k+1,_,_,_,_,_,_,_,_,by omega,rfl,rfl,by rw[xk]<;>exact rfl,vJ.more _⟩
    refine g5 (q:=Ao (by simp only[zo,zz];exact Fv (by omega) _ f) (by simp only[Ac,zo,zq,zi.fpi,vV.fpi]<;>exact rfl) (by first | rfl | (simp[show ob 95 7=[true,false,true,true,true,true,true] from rfl,Xo,Ay,Ar,Cf,Ap,Bn,djl,djr,djs,Am,Af,Az,Ba];done)) (g4 (q:=dw_sq 0 (h:=fun yM=>?_) (k:=fun yM=>?_))))
    ·
     have xk:Dr P i j (k+1)=Dr P i j k:=by
      rw[wC,if_neg];rintro⟨h1,h2,h3⟩;have:=of_decide_eq_true yM;omega
     refine g21 (q:=?_);exact⟨P.length-(k+1),by omega,k+1,_,_,_,_,_,_,_,_,by omega,rfl,rfl,by rw[xk]<;>exact rfl,vJ.more _⟩
    refine g5 (q:=Ao (by simp only[zo,zz];exact Fv (by omega) _ f) (by simp only[Ac,zo,zq,zi.fpi,vV.fpi]<;>exact rfl) (by first | rfl | (simp[show ob 6143 13=[true,false,true,true,true,true,true,true,true,true,true,true,true] from rfl,Xo,Ay,Ar,Cf,Ap,Bn,djl,djr,djs,Am,Af,Az,Ba];done)) (g3 (q:=Ao (by simp only[zo,zz];exact Ii (by omega) _ f) (by simp only[Ac,zo,zq,zi.fpi,vV.fpi]<;>exact rfl) (by first | rfl | (simp[show ob 30719 15=[true,true,true,false,true,true,true,true,true,true,true,true,true,true,true] from rfl,Xo,Ay,Ar,Cf,Ap,Bn,djl,djr,djs,Am,Af,Az,Ba];done)) (g7 (q:=Bz (ht:=fun yx=>?_) (hf:=fun yx=>?_))))))
    ·
     have xk:Dr P i j (k+1)=Dr P i j k:=by
      rw[wC,if_neg];rintro⟨h1,h2,h3⟩;have:=of_decide_eq_true yx;omega
     refine g10 (q:=?_);exact⟨P.length-(k+1),by omega,k+1,_,_,_,_,_,_,_,_,by omega,rfl,rfl,by rw[xk]<;>exact rfl,vJ.more _⟩
    have hli:f.line=i+1:=by
     have h:=yZ;rw[bne_eq_false_iff_eq]at h;omega
    have y8:f.column≤j+1:=by have:=of_decide_eq_false yM;omega
    have w9:j+1<f.column+f.size:=by have:=of_decide_eq_false yx;omega
    have wU:k<vs.length:=by omega
    have hiv:=fun (S:St)=>vV.iaddrN S .i64 (Iz wU);have hw2:IntKind.i64.wrap (((j+1:Nat):Int)-((f.column:Nat):Int))=((j+1-f.column:Nat):Int):=by rw[IntKind.wrap_i64];omega
    have hw3:=Bu (j+1-f.column) (by omega);obtain⟨b,hb⟩:∃b,b=bs[j+1-f.column]'(by omega):=⟨_,rfl⟩
    have hdt:(bs.drop (j+1-f.column)).take (j+1-f.column+1-(j+1-f.column))=[b]:=by
     rw[show j+1-f.column+1-(j+1-f.column)=1 from by omega,List.drop_eq_getElem_cons (by omega),hb];rfl
    have hz1:((0:Int)≤((j+1-f.column+1:Nat):Int))=True:=eq_true (by omega);have hz2:((0:Int)≤((j+1-f.column:Nat):Int))=True:=eq_true (by omega);have hz3:(j+1-f.column≤j+1-f.column+1∧j+1-f.column+1≤bs.length)=True:=eq_true ⟨by omega,by omega⟩;have qM:bs.getD (j+1-f.column) 0=b:=by rw[List.getD_eq_getElem?_getD,Lg (by omega),hb];rfl
    have yN:Dr P i j (k+1)=prn b:=by
     rw[wC,if_pos ⟨by omega,by omega,by omega⟩,qM]
    have rX:=(xW k _ hPk).2;simp only at rX;have zz:=aI hiv (aI hw2 (aI hw3 (aI hdt (aI hz1 (aI hz2 (aI hz3 (aI @Ad (aI @Ib (aI @Gt (aI @Int.toNat_natCast zz))))))))));by_cases y7:f.kind=1
    ·
     rw[if_pos y7]at rX;have hft:f.text=mkS bs:=by rw[rX];exact (str_rows f.text).symm
     have e1:(((f.kind:Nat):Int)==1)=true:=by rw[beq_iff_eq];omega
     have zz:=aI e1 (aI hft zz);refine g15 (q:=Aa (by simp only[zo,zz];exact Ik (by omega) _ f) (g6 (q:=Aa (by simp only[zo,zz];exact L8 (by omega) _ f) (g7 (q:=Aa (by simp only[zo,zz];exact Fv (by omega) _ f) (g20 (q:=Fy 0 (h:=fun xS=>?_) (k:=fun xS=>?_))))))))
     ·
      have xk:Dr P i j (k+1)=46:=by
       have:=of_decide_eq_true xS;rw[yN,prn,if_neg];intro h;rw[Bool.and_eq_true]at h;have:=of_decide_eq_true h.1;omega
      refine g18 (q:=?_);exact⟨P.length-(k+1),by omega,k+1,_,_,_,_,_,_,_,_,by omega,rfl,rfl,by rw[xk]<;>exact rfl,vJ.more _⟩
     refine g9 (q:=Bz (ht:=fun xQ=>?_) (hf:=fun xQ=>?_))
     ·
      have xk:Dr P i j (k+1)=46:=by
       have:=of_decide_eq_true xQ;rw[yN,prn,if_neg];intro h;rw[Bool.and_eq_true]at h;have:=of_decide_eq_true h.2;omega
      refine g11 (q:=?_);exact⟨P.length-(k+1),by omega,k+1,_,_,_,_,_,_,_,_,by omega,rfl,rfl,by rw[xk]<;>exact rfl,vJ.more _⟩
     have xk:Dr P i j (k+1)=b:=by
      have:=of_decide_eq_false xS;have:=of_decide_eq_false xQ;rw[yN,prn,if_pos];rw[Bool.and_eq_true];exact⟨decide_eq_true (by omega),decide_eq_true (by omega)⟩
     refine g9 (q:=?_);exact⟨P.length-(k+1),by omega,k+1,_,_,_,_,_,_,_,_,by omega,rfl,rfl,by rw[xk]<;>exact rfl,vJ.more _⟩
    rw[if_neg y7]at rX;have hvk:vs[k]=mkS bs:=by rw[Lg wU]at rX;exact Option.some.inj rX
    have e1:(((f.kind:Nat):Int)==1)=false:=by rw[beq_eq_false_iff_ne];omega
    have zz:=aI e1 (aI hvk zz);refine g15 (q:=Aa (by simp only[zo,zz];exact Ik (by omega) _ f) (g10 (q:=Aa (by simp only[zo,zz];exact Fv (by omega) _ f) (g20 (q:=Fy 0 (h:=fun xR=>?_) (k:=fun xR=>?_))))))
    ·
     have xk:Dr P i j (k+1)=46:=by
      have:=of_decide_eq_true xR;rw[yN,prn,if_neg];intro h;rw[Bool.and_eq_true]at h;have:=of_decide_eq_true h.1;omega
     refine g18 (q:=?_);exact⟨P.length-(k+1),by omega,k+1,_,_,_,_,_,_,_,_,by omega,rfl,rfl,by rw[xk]<;>exact rfl,vJ.more _⟩
    refine g9 (q:=Bz (ht:=fun xP=>?_) (hf:=fun xP=>?_))
    ·
     have xk:Dr P i j (k+1)=46:=by
      have:=of_decide_eq_true xP;rw[yN,prn,if_neg];intro h;rw[Bool.and_eq_true]at h;have:=of_decide_eq_true h.2;omega
     refine g11 (q:=?_);exact⟨P.length-(k+1),by omega,k+1,_,_,_,_,_,_,_,_,by omega,rfl,rfl,by rw[xk]<;>exact rfl,vJ.more _⟩
    have xk:Dr P i j (k+1)=b:=by
     have:=of_decide_eq_false xR;have:=of_decide_eq_false xP;rw[yN,prn,if_pos];rw[Bool.and_eq_true];exact⟨decide_eq_true (by omega),decide_eq_true (by omega)⟩
    refine g9 (q:=?_);exact⟨P.length-(k+1),by omega,k+1,_,_,_,_,_,_,_,_,by omega,rfl,rfl,by rw[xk]<;>exact rfl,vJ.more _⟩
   have hk':k=P.length:=by have:=of_decide_eq_false zL;omega
   subst hk';have hsadd:=sadd (I6 P i j) [Dr P i j P.length] (by rw[Jn];simp;omega);have h32:(⟨#[32]⟩:ByteArray).toList=[32]:=Ag [32];have zz:=aI @Ag (aI h32 zz);refine g9 (q:=Aa (by simp only[Al,aop,LOp.loud,pop,if_false,Bool.false_eq_true,opd,zv,hsadd,Option.map_some]<;>exact rfl) (g9 (q:=Bz (ht:=fun za=>?_) (hf:=fun za=>?_))))
   ·
    have kr:¬Dr P i j P.length=32:=by
     intro e;have h:=za;rw[e]at h;simp at h
    refine g12 (q:=?_);exact⟨80-(j+1),by omega,j+1,_,_,_,_,_,_,_,_,_,_,_,_,by omega,rfl,rfl,by rw[Ql,Qw,Na,if_neg kr,Jn]<;>exact rfl,vJ⟩
   have kr:Dr P i j P.length=32:=by
    have h:=za;simpa using h
   refine g9 (q:=?_);exact⟨80-(j+1),by omega,j+1,_,_,_,_,_,_,_,_,_,_,_,_,by omega,rfl,rfl,by rw[Ql,Qw,Na,if_pos kr]<;>exact rfl,vJ⟩
  have hj80:j=80:=by have:=of_decide_eq_false vw;omega
  subst hj80;have zQ:=tn_le (I6 P i 80);rw[Jn]at zQ;have hz1:((0:Int)≤((tn (I6 P i 80):Nat):Int))=True:=eq_true (by omega);have hz2:(0≤tn (I6 P i 80)∧tn (I6 P i 80)≤80)=True:=eq_true ⟨by omega,zQ⟩;obtain⟨x3,l3,q3,wm,rR,-,-,-⟩:=hO2.app (lo:=0) (row:=[.str (mkS ((I6 P i 80).take (tn (I6 P i 80))))]) (.inl (by omega)) (by rw[Sj];omega);have zz:=aI hz1 (aI hz2 (aI @Ad (aI @Ib (aI @Jn (aI @Int.toNat_natCast (aI @List.drop_zero.{0} (aI @Nat.sub_zero zz)))))));refine Jk (sk_e (lk_e (bk_e (sk_n rfl (M4 (ow_me rfl (ow_me rfl (ow_me rfl (Aa (by simp only[zo,Bt,Ch,Er,Dj,zm,zz]<;>exact rfl) (Aa (by simp only[zl,zm,Dm,List.replicate,Ah,Bl,zs,zc,zf,zz]<;>exact rfl) (Aa (by simp only[Al,aop,LOp.loud,lop,if_true,opd,zv];exact wm) (g10 (q:=?_)))))))))))));exact⟨24-(i+1),by omega,i+1,q3,l3,x3,_,_,_,_,_,_,_,_,_,_,_,_,_,_,_,by omega,rfl,rfl,rfl,by rw[orow_succ];exact rR⟩
 have hi24:i=24:=by have:=of_decide_eq_false xZ;omega
 subst hi24;refine g12 (q:=?_);rcases hO with⟨rfl,hbad⟩ | ⟨vs2,rfl,ho⟩
 ·
  have:=congrArg List.length hbad;rw[Sj]at this;cases this
 refine fq (h:=?_);simp[Df,leave,Xt,Xp,snap,D.Xr,D.Xq,D.free,D.Xw,ho,orow_24]
def RG (e kind:Nat) (l:List Xh) (n0 q:Nat) (x:D) (rows:List (List D)):Prop:=(x=.X4∧rows=[])∨∃vs,x=.msl (n0+q) vs 0 rows.length none∧l[q]?=some ⟨e,1,rows,vs,kind,true⟩
theorem RG.more{e kind n0 q:Nat}{l:List Xh}{x:D}{rows:List (List D)}(h:RG e kind l n0 q x rows)(m:List Xh):RG e kind (l++m) n0 q x rows:=by
 rcases h with h | ⟨vs,h1,h2⟩
 ·
  exact .inl h
 exact .inr ⟨vs,h1,by rw[Bj (Aj h2)];exact h2⟩
theorem RG.keep{e kind n0 q:Nat}{l l':List Xh}{x:D}{rows:List (List D)}(h:RG e kind l n0 q x rows)(hk:∀(k:Nat) (o:Xh),l[k]?=some o→o.elem=e→l'[k]?=some o):RG e kind l' n0 q x rows:=by
 rcases h with h | ⟨vs,h1,h2⟩
 ·
  exact .inl h
 exact .inr ⟨vs,h1,hk _ _ h2 rfl⟩
theorem RG.app0{H l:List Xh}{e b q lo:Nat}{x:D}{rows:List (List D)}{row:List D}(h:RG e 0 l H.length q x rows)(hq:0<q)(xU:lo≤H.length)(hl:rows.length<1000)(hb:b≤1000)(yY:0<l.length) :
  ∃x' l' q',Bo e 1 b 0 x (.msl (H.length+l.length) 0 0 1 none) ⟨H++(l++[⟨e,1,[row],0,0,false⟩]),lo⟩=some (x',⟨H++l',lo⟩,true)∧RG e 0 l' H.length q' x' (rows++[row])∧0<q'∧l.length≤l'.length∧l'[0]?=l[0]?∧∀(k:Nat) (o:Xh),l[k]?=some o→o.elem≠e→l'[k]?=some o:=by
 have hr:(H++(l++[(⟨e,1,[row],0,0,false⟩:Xh)]))[H.length+l.length]?=some ⟨e,1,[row],0,0,false⟩:=by rw[Bd,Bf];rfl
 have zM:Da ⟨H++(l++[⟨e,1,[row],0,0,false⟩]),lo⟩ 1 (.msl (H.length+l.length) 0 0 1 none)=some [row]:=by simp[Da,rowsOf,hr]
 rcases h with⟨rfl,rfl⟩ | ⟨vs,rfl,ho⟩
 ·
  have rY:b≤140737488355328:=by omega
  refine⟨.msl (H.length+(l.length+1)) 0 0 1 none,l++[⟨e,1,[row],0,0,false⟩,⟨e,1,[row],0,0,true⟩],l.length+1,?_,.inr ⟨0,rfl,by simp⟩,by omega,by simp,by rw[La_ yY],fun k o h _=>by rw[Bj (Aj h)];exact h⟩;simp[Bo,zM,Av,newAt,rY]
 have uM:=Aj ho;have hz:(H++(l++[(⟨e,1,[row],0,0,false⟩:Xh)]))[H.length+q]?=some ⟨e,1,rows,vs,0,true⟩:=by rw[Bd,Bj uM];exact ho
 refine⟨.msl (H.length+q) (vs+1) 0 (rows.length+1) none,l.set q ⟨e,1,rows++[row],vs+1,0,true⟩++[⟨e,1,[row],0,0,false⟩],q,?_,.inr ⟨vs+1,by simp,by rw[Bj (by simpa using uM)];exact Et uM _⟩,hq,by simp,?_,fun k o h he=>?_⟩
 ·
  have rY:(rows.length+1)*b≤140737488355328:=by
   have:=Nat.mul_le_mul (show rows.length+1≤1000 by omega) hb;omega
  have xM:min lo (H.length+q)=lo:=by omega
  simp[Bo,zM,Av,rowsOf,hz,setAt,rY,xM,Em uM]
 ·
  rw[La_ (by simpa using yY),Ln_ (by omega)]
 rw[Bj (by simpa using Aj h),Ln_ ?_]
 ·
  exact h
 intro e';subst e';rw[ho]at h;cases h;exact he rfl
theorem SrcV.nil(H:List Xh):SrcV H .X4 [] 0 0:=⟨rfl,rfl,fun _ _=>rfl,fun _ _ i h=>absurd h (by simp),fun _ _ i v h=>by simp at h⟩
theorem Du(z:Nat)(l:List UInt8)(k:Nat)(i:Int)(hi:i=k)(h:k≤l.length):pop (.slice true z true false false) [.str (mkS l),.int .i64 i]=some (.str (mkS (l.drop k))):=by
 subst hi;simp only[pop,Bt,Ch,Er,Dj,Ad];rw[if_pos (by omega)];simp only[Int.toNat_natCast];rw[if_pos ⟨h,Nat.le_refl _⟩];simp only[Option.map_some,Ib];rw[List.take_of_length_le (by simp)]
theorem Ox(z:Nat)(l:List UInt8)(k:Nat)(i:Int)(hi:i=k)(h:k≤l.length):pop (.slice true z false true false) [.str (mkS l),.int .i64 i]=some (.str (mkS (l.take k))):=by
 subst hi;simp only[pop,Bt,Ch,Er,Dj,Ad];rw[if_pos (by omega)];simp only[Int.toNat_natCast];rw[if_pos ⟨Nat.zero_le _,h⟩];simp only[Option.map_some,Ib,List.drop_zero,Nat.sub_zero]
theorem eqNil(l:List UInt8):(l==[])=true↔l=[]:=by simp
def Dk (b:UInt8) (l:List UInt8):List UInt8:=l.dropWhile (·==b)
def D8 (b:UInt8) (l:List UInt8):List UInt8:=(l.reverse.dropWhile (·==b)).reverse
theorem Nk(b:UInt8)(l:List UInt8)(c:UInt8):D8 b (l++[c])=if c==b then D8 b l else l++[c]:=by
 unfold D8;rw[List.reverse_append,List.reverse_singleton,List.singleton_append,List.dropWhile_cons];split
 ·
  rfl
 simp
theorem u8beq{c b:UInt8}(h:((c.toNat:Int)==(b.toNat:Int))=true):(c==b)=true:=by
 rw[beq_iff_eq]at h ⊢;exact UInt8.toNat_inj.1 (by omega)
theorem u8bne{c b:UInt8}(h:((c.toNat:Int)==(b.toNat:Int))=false):¬(c==b)=true:=by
 rw[beq_eq_false_iff_ne]at h;intro e;rw[beq_iff_eq]at e;subst e;exact h rfl
theorem Q8{d:Nat}(hd:1≤d)(S:St)(b:UInt8)(l:List UInt8)(hl:l.length≤1000000):Ae LP NN d 162 [.str (mkS l),.int .u8 (b.toNat:Nat)] S=some (.str (mkS (Dk b l)),S,false):=by
 have zz:=aI @Ad @Gt;refine rpz (hb:=?_);rintro d rfl;refine g7 (q:=Bq (fun n env S'=>∃(l':List UInt8) (u3:D),Dk b l'=Dk b l∧l'.length=n∧S'=⟨[],0⟩∧env=[.str (mkS l'),.int .u8 (b.toNat:Nat),.str ⟨#[]⟩,u3]) (l.length) (by omega) (⟨l,_,rfl,rfl,rfl,rfl⟩) ?_);rintro n env S' ⟨l',u3,hl',rfl,rfl,rfl⟩;refine g7 (q:=Fy 0 (h:=fun hgA=>?_) (k:=fun hgA=>?_))
 ·
  obtain⟨c,l'',rfl⟩:∃c l'',l'=c::l'':=by
   cases l' with
   | nil=>simp at hgA
   | cons c l=>exact⟨c,l,rfl⟩
  rename List UInt8=>l'
  have zz:=aI @List.getElem?_cons_zero.{0} zz;refine g11 (q:=Bz (ht:=fun yJ=>?_) (hf:=fun yJ=>?_))
  ·
   have h48:(c==b)=true:=u8beq yJ;refine g5 (q:=Aa (by simp only[opd,zv,Al,aop,LOp.loud,Bool.false_eq_true,if_false,Ad];rw[Du _ _ 1 1 rfl (by simp)];exact rfl) (g4 (q:=?_)));exact⟨l'.length,by simp,l',_,by rw[←hl',Dk,Dk,List.dropWhile_cons,if_pos h48],rfl,rfl,rfl⟩
  refine g12 (q:=fq (h:=?_));rw[←hl',show Dk b (c::l')=c::l' by rw[Dk,List.dropWhile_cons,if_neg (u8bne yJ)]];rfl
 obtain rfl:l'=[]:=by
  cases l' with
  | nil=>rfl
  | cons c l=>have:=of_decide_eq_false hgA;simp at this
 refine g20 (q:=fq (h:=?_));rw[←hl'];rfl
theorem trimLB_run{d:Nat}(hd:1≤d)(S:St)(l:List UInt8)(hl:l.length≤1000000):Ae LP NN d 162 [.str (mkS l),.int .u8 48] S=some (.str (mkS (Bh l)),S,false):=Q8 hd S 48 l hl
theorem trimRx_run{d:Nat}(hd:1≤d)(S:St)(b:UInt8)(l:List UInt8)(hl:l.length≤1000000):Ae LP NN d 163 [.str (mkS l),.int .u8 (b.toNat:Nat)] S=some (.str (mkS (D8 b l)),S,false):=by
 have zz:=aI @Ad @Gt;refine rpz (hb:=?_);rintro d rfl;refine g7 (q:=Bq (fun n env S'=>∃(l':List UInt8) (u3:D),D8 b l'=D8 b l∧l'.length=n∧n≤l.length∧S'=⟨[],0⟩∧env=[.str (mkS l'),.int .u8 (b.toNat:Nat),.str ⟨#[]⟩,u3]) (l.length) (by omega) (⟨l,_,rfl,rfl,by omega,rfl,rfl⟩) ?_);rintro n env S' ⟨l',u3,hl',rfl,yh,rfl,rfl⟩;refine g7 (q:=Fy 0 (h:=fun hgA=>?_) (k:=fun hgA=>?_))
 ·
  obtain⟨l'',c,rfl⟩:∃l'' c,l'=l''++[c]:=by
   rcases List.eq_nil_or_concat l' with h | ⟨a,b,h⟩
   ·
    subst h;simp at hgA
   exact⟨a,b,by simpa using h⟩
  rename List UInt8=>l'
  have hw:IntKind.i64.wrap (((l'++[c]).length:Nat)-1:Int)=(l'.length:Int):=by rw[IntKind.wrap_i64];simp at yh ⊢;omega
  have kP:(l'++[c])[l'.length]?=some c:=by simp
  have h0:(0:Int)≤(l'.length:Int):=by omega
  have zz:=aI hw (aI kP (aI h0 (aI @Int.toNat_natCast zz)));refine g17 (q:=Bz (ht:=fun yJ=>?_) (hf:=fun yJ=>?_))
  ·
   have h48:(c==b)=true:=u8beq yJ;refine g8 (q:=Aa (by simp only[opd,zv,Al,aop,LOp.loud,Bool.false_eq_true,if_false];rw[Ox _ (l'++[c]) l'.length _ rfl (by simp),List.take_left];exact rfl) (g4 (q:=?_)));exact⟨l'.length,by simp,l',_,by rw[←hl',Nk,if_pos h48],rfl,by simp at yh;omega,rfl,rfl⟩
  refine g12 (q:=fq (h:=?_));rw[←hl',Nk,if_neg (u8bne yJ)];rfl
 obtain rfl:l'=[]:=by
  cases l' with
  | nil=>rfl
  | cons c l=>have:=of_decide_eq_false hgA;simp at this
 refine g23 (q:=fq (h:=?_));rw[←hl'];rfl
theorem m48:(⟨#[48]⟩:ByteArray)=mkS [48]:=rfl
theorem trimL0_run{d:Nat}(hd:2≤d)(S:St)(l:List UInt8)(hl:l.length≤1000000):Ae LP NN d 196 [.str (mkS l),.str ⟨#[48]⟩] S=some (.str (mkS (Bh l)),S,false):=by
 have zz:=aI @Ag (aI @Ad (aI @Gt (aI @List.length_cons.{0} (aI @List.length_nil.{0} (aI @List.getElem?_cons_zero.{0} (aI @Ai @m48))))));refine rpz (hb:=?_);rintro d rfl;refine g11 (q:=Fy 0 (h:=fun hg=>?_) (k:=fun hg=>?_))
 ·
  refine g14 (q:=fq (h:=?_));obtain rfl:=(eqNil l).1 hg;rfl
 refine g17 (q:=Bb 0 (b:=true) (h:=g15 (q:=Aa (by simp only[zo,zz];exact trimLB_run (by omega) _ l hl) (g5 (q:=?_)))));exact fq (h:=rfl)
def digOb:Xh:=⟨236,256,[digTab],0,0,false⟩
theorem c256(c:UInt8):(0:Int)≤(c.toNat:Int)∧(c.toNat:Int)<((256:Nat):Int):=by have:=c.toNat_lt;omega
theorem cont_run{d:Nat}(hd:1≤d)(S:St)(g:Nat)(xB:S.heap[g]?=some digOb)(c:UInt8):Ae LP NN d 234 [.ptr g 0 0 0,.int .u8 c.toNat] S=some (.bool (Dw c),S,false):=by
 have zz:=aI xB (aI @digOb.eq_1 (aI @Int.toNat_natCast (aI @Nat.zero_add (aI @Nat.mul_one (aI @digTab_at (c256 c))))));refine raz (hb:=?_);rintro d rfl;refine g16 (q:=fq (h:=?_));simp[leave,LP,Xt,Xp,snap,D.Xr,D.Xq,D.free,D.Xw]
theorem trimLA_run{d:Nat}(hd:2≤d)(S:St)(g:Nat)(xB:S.heap[g]?=some digOb)(l:List UInt8)(hl:l.length≤1000000):Ae LP NN d 165 [.str (mkS l),.ptr g 0 0 0] S=some (.str (mkS (l.dropWhile Dw)),S,false):=by
 have zz:=aI @Ad @Gt;refine raz (hb:=?_);rintro d rfl;refine g7 (q:=Bq (fun n env S'=>∃(l':List UInt8) (u3 u4:D),l'.dropWhile Dw=l.dropWhile Dw∧l'.length=n∧S'=⟨S.heap,S.heap.length⟩∧env=[.str (mkS l'),.ptr g 0 0 0,.str ⟨#[]⟩,u3,u4]) (l.length) (by omega) (⟨l,_,_,rfl,rfl,rfl,rfl⟩) ?_);rintro n env S' ⟨l',u3,u4,hl',rfl,rfl,rfl⟩;refine g8 (q:=Bz (ht:=fun xZ=>?_) (hf:=fun xZ=>?_))
 ·
  obtain⟨c,l'',rfl⟩:∃c l'',l'=c::l'':=by
   cases l' with
   | nil=>simp at xZ
   | cons c l=>exact⟨c,l,rfl⟩
  rename List UInt8=>l'
  have zz:=aI @List.getElem?_cons_zero.{0} zz;refine g9 (q:=Aa (by simp only[zo,zz];exact cont_run (by omega) ⟨S.heap,S.heap.length⟩ g xB c) (g3 (q:=Bz (ht:=fun yJ=>?_) (hf:=fun yJ=>?_))))
  ·
   refine g13 (q:=fq (h:=?_));rw[←hl',List.dropWhile_cons,if_neg (by simpa using yJ)];simp[leave,LP,Xt,Xp,snap,D.Xr,D.Xq,D.free,D.Xw]
  refine g4 (q:=Aa (by simp only[opd,zv,Al,aop,LOp.loud,Bool.false_eq_true,if_false,Ad];rw[Du _ _ 1 1 rfl (by simp)];exact rfl) (g4 (q:=?_)));exact⟨l'.length,by simp,l',_,_,by rw[←hl',List.dropWhile_cons,if_pos (by simpa using yJ)],rfl,rfl,rfl⟩
 obtain rfl:l'=[]:=by
  cases l' with
  | nil=>rfl
  | cons c l=>have:=of_decide_eq_false xZ;simp at this
 refine g12 (q:=fq (h:=?_));rw[←hl'];simp[leave,LP,Xt,Xp,snap,D.Xr,D.Xq,D.free,D.Xw]
theorem trimRA_run{d:Nat}(hd:2≤d)(S:St)(g:Nat)(xB:S.heap[g]?=some digOb)(l:List UInt8)(hl:l.length≤1000000):Ae LP NN d 166 [.str (mkS l),.ptr g 0 0 0] S=some (.str (mkS (Oh l)),S,false):=by
 have zz:=aI @Ad @Gt;refine raz (hb:=?_);rintro d rfl;refine g7 (q:=Bq (fun n env S'=>∃(l':List UInt8) (u3 u4:D),Oh l'=Oh l∧l'.length=n∧n≤l.length∧S'=⟨S.heap,S.heap.length⟩∧env=[.str (mkS l'),.ptr g 0 0 0,.str ⟨#[]⟩,u3,u4]) (l.length) (by omega) (⟨l,_,_,rfl,rfl,by omega,rfl,rfl⟩) ?_);rintro n env S' ⟨l',u3,u4,hl',rfl,yh,rfl,rfl⟩;refine g8 (q:=Bz (ht:=fun xZ=>?_) (hf:=fun xZ=>?_))
 ·
  obtain⟨l'',c,rfl⟩:∃l'' c,l'=l''++[c]:=by
   rcases List.eq_nil_or_concat l' with h | ⟨a,b,h⟩
   ·
    subst h;simp at xZ
   exact⟨a,b,by simpa using h⟩
  rename List UInt8=>l'
  have hw:IntKind.i64.wrap (((l'++[c]).length:Nat)-1:Int)=(l'.length:Int):=by rw[IntKind.wrap_i64];simp at yh ⊢;omega
  have kP:(l'++[c])[l'.length]?=some c:=by simp
  have h0:(0:Int)≤(l'.length:Int):=by omega
  have zz:=aI hw (aI kP (aI h0 (aI @Int.toNat_natCast zz)));refine g12 (q:=Aa (by simp only[zo,zz];exact cont_run (by omega) ⟨S.heap,S.heap.length⟩ g xB c) (g3 (q:=Bz (ht:=fun yJ=>?_) (hf:=fun yJ=>?_))))
  ·
   refine g13 (q:=fq (h:=?_));rw[←hl',rtrim_snoc,if_neg (by simpa using yJ)];simp[leave,LP,Xt,Xp,snap,D.Xr,D.Xq,D.free,D.Xw]
  refine g7 (q:=Aa (by simp only[opd,zv,Al,aop,LOp.loud,Bool.false_eq_true,if_false];rw[Ox _ (l'++[c]) l'.length _ rfl (by simp),List.take_left];exact rfl) (g4 (q:=?_)));exact⟨l'.length,by simp,l',_,_,by rw[←hl',rtrim_snoc,if_pos (by simpa using yJ)],rfl,by simp at yh;omega,rfl,rfl⟩
 obtain rfl:l'=[]:=by
  cases l' with
  | nil=>rfl
  | cons c l=>have:=of_decide_eq_false xZ;simp at this
 refine g12 (q:=fq (h:=?_));rw[←hl',show Oh []=[] from rfl];simp[leave,LP,Xt,Xp,snap,D.Xr,D.Xq,D.free,D.Xw]
theorem aset_run{d:Nat}(hd:1≤d)(S:St):Ae LP NN d 164 [.str ⟨#[48,49,50,51,52,53,54,55,56,57]⟩] S=some (.tup [.agg digTab,.bool true],S,false):=by
 obtain⟨d,rfl⟩:∃d',d=d'+1:=⟨d-1,by omega⟩
 kernel_rfl
theorem plain_S:(⟨#[48,49,50,51,52,53,54,55,56,57]⟩:ByteArray)=mkS [48,49,50,51,52,53,54,55,56,57]:=rfl
theorem trimDg_run{d:Nat}(hd:4≤d)(S:St)(l:List UInt8)(hl:l.length≤1000000):Ae LP NN d 103 [.str (mkS l),.str ⟨#[48,49,50,51,52,53,54,55,56,57]⟩] S=some (.str (mkS (Ou l)),S,false):=by
 have zz:=aI @Ag (aI @Ai @plain_S);refine rpz (hb:=?_);rintro d rfl;refine g11 (q:=Fy 0 (h:=fun hg=>?_) (k:=fun hg=>?_))
 ·
  refine g14 (q:=fq (h:=?_));obtain rfl:=(eqNil l).1 hg;rfl
 refine g17 (q:=Bb 0 (b:=false) (h:=g13 (q:=Aa (by simp only[zo,zz];exact aset_run (by omega) _) (g3 (q:=Aa (show _=some (D.ptr 0 0 0 0,(⟨[⟨236,256,[List.replicate 256 (.bool false)],0,0,false⟩],0⟩:St),true) by kernel_rfl) (Aa (show _=some (D.undef,(⟨[digOb],0⟩:St),true) by kernel_rfl) (g12 (q:=Aa (by simp only[zo,zz];exact trimRA_run (by omega) ⟨[digOb],0⟩ 0 rfl l hl) (Aa (by simp only[zo,zz];exact trimLA_run (by omega) ⟨[digOb],0⟩ 0 rfl (Oh l) (by rw[Oh,List.length_reverse];have:=(List.dropWhile_suffix Dw (l:=l.reverse)).length_le;rw[List.length_reverse]at this;omega)) (g5 (q:=?_)))))))))));exact fq (h:=rfl)
def Dq (l:List UInt8):Bool:=!(l==[])&&l.all Dw
theorem Gz{d:Nat}(hd:5≤d)(S:St)(l:List UInt8)(hl:l.length≤1000000):Ae LP NN d 160 [.str (mkS l)] S=some (.bool (Dq l),S,false):=by
 have zz:=aI @Ag (aI @Ai @Ad);refine rpz (hb:=?_);rintro d rfl;refine g10 (q:=Fy 0 (h:=fun hg=>?_) (k:=fun hg=>?_))
 ·
  refine g3 (q:=Aa (by simp only[zo,zz];exact trimDg_run (by omega) _ l hl) (g7 (q:=fq (h:=?_))));rw[Dq,show (!(l==[]))=true from hg,Bool.true_and,G9];rfl
 refine g8 (q:=fq (h:=?_));rw[Dq,show (!(l==[]))=false from hg];rfl
theorem normal_run{d:Nat}(hd:3≤d)(S:St)(neg:Bool)(l:List UInt8)(hl:l.length≤1000)(xg:(Bh l).length≤62):Ae LP NN d 161 [.bool neg,.str (mkS l),.int .i64 0] S=some (.tup [.agg [.bool (neg&&nz l),.str (mkS (strip l)),.int .i64 0],.int .i64 0],S,false):=by
 have zz:=aI @Ag (aI @Ai @Ad);refine rpz (hb:=?_);rintro d rfl;refine g9 (q:=Aa (by simp only[zo,zz];exact trimL0_run (by omega) _ l (by omega)) (g10 (q:=Bz (ht:=fun hc=>?_) (hf:=fun hc=>?_))))
 ·
  refine g9 (q:=fq (h:=?_));have h0:Bh l=[]:=(eqNil _).1 hc;rw[nz,strip,if_pos h0,h0,bne_self_eq_false,Bool.and_false];rfl
 refine g4 (q:=Bq (fun n env S'=>∃u5 u6 u7 u8:D,S'=⟨[⟨176,3,[[.bool false,.str ⟨#[]⟩,.int .i64 0]],0,0,false⟩],0⟩∧env=[.bool neg,.str (mkS (Bh l)),.int .i64 0,.ptr 0 0 0 0,.int .i64 0,u5,u6,u7,u8]) (1) (by omega) (⟨_,_,_,_,rfl,rfl⟩) ?_);rintro n env S' ⟨u5,u6,u7,u8,rfl,rfl⟩;refine g6 (q:=Bb 0 (b:=false) (h:=g31 (q:=Au (by simp only[opd,zv,zz]<;>(rw[decide_eq_false_iff_not.2];split<;>omega)) (g13 (q:=fq (h:=?_))))));have h0:¬Bh l=[]:=fun h=>by rw[h]at hc;simp at hc
 rw[nz,strip,if_neg h0,show (Bh l != [])=true by simpa using h0,Bool.and_true];rfl
theorem L9(l:List UInt8):(Bh l).length≤l.length:=by
 obtain⟨k,hk⟩:=Gm l;have:=congrArg List.length hk;simp at this;omega
theorem big_len{l:List UInt8}(h:l.length≤62):decide ((l.length:Int)>1000)=false:=decide_eq_false (by omega)
theorem Rx{d:Nat}(hd:6≤d)(S:St)(neg:Bool)(l:List UInt8)(hl:l.length≤62)(hnum:Dq l=true):Ae LP NN d 224 [.bool neg,.str (mkS l),.int .i64 0] S=some (.tup [.agg [.bool (neg&&nz l),.str (mkS (strip l)),.int .i64 0],.int .i64 0],S,false):=by
 have zz:=aI @Ag (aI @Ai (aI @Ad (aI hnum (aI @Bool.not_true (big_len hl)))));refine rpz (hb:=?_);rintro d rfl;refine g10 (q:=Aa (by simp only[zo,zz];exact Gz (by omega) _ l (by omega)) (g2 (q:=Bb 0 (b:=false) (h:=g8 (q:=Bb 0 (b:=false) (h:=g6 (q:=Bb 0 (b:=false) (h:=g15 (q:=Aa (by simp only[zo,zz];exact normal_run (by omega) _ neg l (by omega) (Nat.le_trans (L9 l) hl)) (g7 (q:=fq (h:=?_))))))))))));simp only[Df,leave,Ah,Bl,zs,zf,zk]
structure Nrm (neg:Bool) (l:List UInt8):Prop where
 num:Dq l=true
 len:l.length≤62
 st:strip l=l
 sg:(neg&&nz l)=neg
theorem strip0_strip(l:List UInt8):Bh (strip l)=Bh l:=by
 unfold strip;split
 ·
  rename_i h;rw[h];rfl
 exact Lr l
theorem Nrm.of(neg:Bool)(l:List UInt8)(h1:Dq l=true)(h2:(Bh l).length≤62):Nrm (neg&&nz l) (strip l):=by
 simp only[Dq,Bool.and_eq_true,Bool.not_eq_true',beq_eq_false_iff_ne,ne_eq]at h1;obtain⟨a,b⟩:=J8 l h1.1;refine⟨?_,(by unfold strip;split;exact (by decide:1≤62);exact h2),Rc l,?_⟩
 ·
  simp only[Dq,Bool.and_eq_true,Bool.not_eq_true',beq_eq_false_iff_ne,ne_eq];exact⟨fun e=>by rw[e]at b;simp at b,strip_dig l h1.2⟩
 unfold nz;rw[strip0_strip];cases neg<;>simp
theorem Qb(s:ByteArray):(s==s)=true:=by
 first
  | exact beq_self_eq_true s
  | (cases s with | mk a=>show (a==a)=true;simp)
  | (cases s with | mk a=>show decide _=true;simp)
theorem big62{l:List UInt8}(h:l.length≤62):decide ((l.length:Int)>62)=false:=decide_eq_false (by omega)
theorem J6{d:Nat}(hd:6≤d)(S:St)(neg:Bool)(l:List UInt8)(h:Nrm neg l):Ae LP NN d 169 [.agg [.bool neg,.str (mkS l),.int .i64 0]] S=some (.int .i64 0,S,false):=by
 have zz:=aI @Ag (aI @Ai (aI @Ad (aI h.num (aI @Bool.not_true (big62 h.len)))));refine rpz (hb:=?_);rintro d rfl;refine g11 (q:=Aa (by simp only[zo,zz];exact Gz (by omega) _ l (by have:=h.len;omega)) (g2 (q:=Bb 0 (b:=false) (h:=g10 (q:=Bb 0 (b:=false) (h:=g8 (q:=Bb 0 (b:=false) (h:=g21 (q:=Aa (by simp only[zo,zz];exact normal_run (by omega) _ neg l (by have:=h.len;omega) (Nat.le_trans (L9 l) h.len)) (g13 (q:=Bb 0 (b:=false) (h:=g5 (q:=Aa (by simp only[zo,Cg,Eg,isKey,h.sg,h.st,beq_self_eq_true,Bool.and_self,if_true,Option.map_some,bne_self_eq_false,Qb,zz]<;>exact rfl) (g12 (q:=?_)))))))))))))));exact fq (h:=rfl)
theorem n1:((1:Nat):Int)=1:=rfl
theorem m32:(⟨#[32]⟩:ByteArray)=mkS [32]:=rfl
theorem m45:(⟨#[45]⟩:ByteArray)=mkS [45]:=rfl
theorem m43:(⟨#[43]⟩:ByteArray)=mkS [43]:=rfl
theorem m46:(⟨#[46]⟩:ByteArray)=mkS [46]:=rfl
theorem u8n(b:UInt8):UInt8.ofNat ((b.toNat:Int)).toNat=b:=by rw[Int.toNat_natCast];exact UInt8.ofNat_toNat
theorem Sd(b:UInt8)(l:List UInt8):(D8 b l).length≤l.length:=by
 unfold D8;rw[List.length_reverse];have:=(List.dropWhile_suffix (·==b) (l:=l.reverse)).length_le;rw[List.length_reverse]at this;exact this
def trimB (l:List UInt8):List UInt8:=Dk 32 (D8 32 l)
theorem trimB_le(l:List UInt8):(trimB l).length≤l.length:=Nat.le_trans (List.dropWhile_suffix _).length_le (Sd 32 l)
theorem trimB_run{d:Nat}(hd:2≤d)(S:St){l:List UInt8}(hl:l.length≤1000000):Ae LP NN d 103 [.str (mkS l),.str ⟨#[32]⟩] S=some (.str (mkS (trimB l)),S,false):=by
 have zz:=aI @Ag (aI @Ai (aI @Ad (aI @m32 (aI @Gt (aI @List.length_singleton.{0} (aI @List.getElem?_cons_zero.{0} (aI @List.length_cons.{0} @List.length_nil.{0})))))));refine rpz (hb:=?_);rintro d rfl;refine g11 (q:=Fy 0 (h:=fun hg=>?_) (k:=fun hg=>?_))
 ·
  refine g14 (q:=fq (h:=?_));obtain rfl:=(eqNil l).1 hg;rfl
 refine g17 (q:=Bb 0 (b:=true) (h:=g15 (q:=Ao (by simp only[zo,zz];exact trimRx_run (by omega) _ 32 l hl) (by simp only[Ac,zo,zq]<;>exact rfl) rfl (g2 (q:=Ao (by simp only[zo,zz];exact Q8 (by omega) _ 32 (D8 32 l) (Nat.le_trans (Sd 32 l) hl)) (by simp only[Ac,zo,zq]<;>exact rfl) rfl (g5 (q:=?_)))))));exact fq (h:=rfl)
theorem repB_one(b:UInt8):∀k,repB (mkS [b]) k=List.replicate k b
 | 0=>rfl
 | k+1=>by rw[repB,repB_one b k];rfl
theorem rep_run{d:Nat}(hd:1≤d)(S:St)(b:UInt8)(k:Nat)(hk:k≤1000):Ae LP NN d 175 [.str (mkS [b]),.int .i64 (k:Nat)] S=some (.str (mkS (List.replicate k b)),S,false):=by
 obtain⟨d,rfl⟩:∃d',d=d'+1:=⟨d-1,by omega⟩
 have h:LP.ext 175 [.str (mkS [b]),.int .i64 (k:Nat)]=some (.str (mkS (List.replicate k b))):=by
  show (if 0≤((k:Nat):Int)∧((k:Nat):Int)≤9223372036854775807∧(mkS [b]).size*((k:Nat):Int).toNat≤140737488355328 then some (D.str ⟨(repB (mkS [b]) ((k:Nat):Int).toNat).toArray⟩) else none)=_;rw[if_pos ⟨by omega,by omega,by rw[Ad,Int.toNat_natCast];simp;omega⟩,Int.toNat_natCast,repB_one];rfl
 have hy:¬YB≤175:=by decide
 simp only[Ae,Dc,if_neg hy,h]
theorem T9{d:Nat}(hd:2≤d)(S:St){l:List UInt8}(hl:l.length≤1000000):Ae LP NN d 103 [.str (mkS l),.str ⟨#[48]⟩] S=some (.str (mkS (Dk 48 (D8 48 l))),S,false):=by
 have zz:=aI @Ag (aI @Ai (aI @Ad (aI @m48 (aI @Gt (aI @List.length_singleton.{0} (aI @List.getElem?_cons_zero.{0} (aI @List.length_cons.{0} @List.length_nil.{0})))))));refine rpz (hb:=?_);rintro d rfl;refine g11 (q:=Fy 0 (h:=fun hg=>?_) (k:=fun hg=>?_))
 ·
  refine g14 (q:=fq (h:=?_));obtain rfl:=(eqNil l).1 hg;rfl
 refine g17 (q:=Bb 0 (b:=true) (h:=g15 (q:=Ao (by simp only[zo,zz];exact trimRx_run (by omega) _ 48 l hl) (by simp only[Ac,zo,zq]<;>exact rfl) rfl (g2 (q:=Ao (by simp only[zo,zz];exact Q8 (by omega) _ 48 (D8 48 l) (Nat.le_trans (Sd 48 l) hl)) (by simp only[Ac,zo,zq]<;>exact rfl) rfl (g5 (q:=?_)))))));exact fq (h:=rfl)
theorem Tm{d:Nat}(hd:7≤d)(S:St){neg:Bool}{l:List UInt8}(h:Nrm neg l):Ae LP NN d 171 [.agg [.bool neg,.str (mkS l),.int .i64 0],.int .i64 0] S=some (.tup [.agg [.bool neg,.str (mkS l),.int .i64 0],.bool true,.int .i64 0],S,false):=by
 have zz:=aI @Ag (aI @Ai @Ad);refine rpz (hb:=?_);rintro d rfl;refine g12 (q:=Aa (by simp only[zo,zz];exact J6 (by omega) _ neg l h) (g32 (q:=fq (h:=?_))));simp only[Df,leave,Ah,Bl,zs,zf,zk]
theorem rchk_run{d:Nat}(hd:7≤d)(S:St){neg:Bool}{l:List UInt8}(h:Nrm neg l)(n:Nat)(h1:1≤n)(h2:n≤62):Ae LP NN d 237 [.agg [.bool neg,.str (mkS l),.int .i64 0],.int .i64 (n:Nat),.int .i64 0] S=some (.int .i64 0,S,false):=by
 have uE:decide (((n:Nat):Int)<1)=false:=decide_eq_false (by omega);have qy:decide (((n:Nat):Int)>62)=false:=decide_eq_false (by omega);have zz:=aI @Ag (aI @Ai (aI @Ad (aI uE qy)));refine rpz (hb:=?_);rintro d rfl;refine g10 (q:=Aa (by simp only[zo,zz];exact J6 (by omega) _ neg l h) (g2 (q:=Bb 0 (b:=false) (h:=g6 (q:=Bb 0 (b:=false) (h:=g6 (q:=Bb 0 (b:=false) (h:=g6 (q:=Bb 0 (b:=false) (h:=g16 (q:=?_)))))))))));exact fq (h:=rfl)
theorem round_run{d:Nat}(hd:8≤d)(S:St){neg:Bool}{l:List UInt8}(h:Nrm neg l):Ae LP NN d 170 [.agg [.bool neg,.str (mkS l),.int .i64 0],.int .i64 0,.int .u8 0] S=some (.tup [.agg [.bool neg,.str (mkS l),.int .i64 0],.int .i64 0],S,false):=by
 have zz:=aI @Ag (aI @Ai @Ad);refine rpz (hb:=?_);rintro d rfl;refine g12 (q:=Aa (by simp only[zo,zz];exact rchk_run (by omega) _ h 1 (by omega) (by omega)) (g2 (q:=Bb 0 (b:=false) (h:=g14 (q:=Aa (by simp only[zo,zz];exact Tm (by omega) _ h) (g17 (q:=Bb 0 (b:=false) (h:=g18 (q:=fq (h:=?_))))))))));simp only[Df,leave,Ah,Bl,zs,zf,zk]
theorem rep0_run{d:Nat}(hd:1≤d)(S:St):Ae LP NN d 175 [.str ⟨#[48]⟩,.int .i64 0] S=some (.str (mkS []),S,false):=rep_run hd S 48 0 (by omega)
theorem repz_run{d:Nat}(hd:1≤d)(S:St)(k:Nat)(hk:k≤1000):Ae LP NN d 175 [.str ⟨#[48]⟩,.int .i64 (k:Nat)] S=some (.str (mkS (List.replicate k 48)),S,false):=rep_run hd S 48 k hk
theorem Rh{d:Nat}(hd:8≤d)(S:St){neg:Bool}{l:List UInt8}(h:Nrm neg l)(n:Nat)(h1:1≤n)(h2:n≤62):Ae LP NN d 240 [.agg [.bool neg,.str (mkS l),.int .i64 0],.int .i64 (n:Nat),.int .i64 0] S=some (.tup [.str (mkS (pad n l)),.bool true],S,false):=by
 have wu:=h.len;have hw:IntKind.i64.wrap ((n:Int)-(l.length:Int))=(n:Int)-(l.length:Int):=by rw[IntKind.wrap_i64];omega
 have hm:(if (0:Int)>(n:Int)-(l.length:Int) then (0:Int) else (n:Int)-(l.length:Int))=((n-l.length:Nat):Int):=by split<;>omega
 have zz:=aI @Ag (aI @Ai (aI @Ad (aI hw (aI hm @List.append_nil.{0}))));refine rpz (hb:=?_);rintro d rfl;refine g12 (q:=Aa (by simp only[zo,zz];exact Tm (by omega) _ h) (g46 (q:=?_)))
 first
  | refine Aa (by simp only[zo,zz];exact rep0_run (by omega) _) ?_
  | refine Aa (by simp only[zo,zz];exact repz_run (by omega) _ (n-l.length) (by omega)) ?_
 refine Aa (by simp only[zo,Ec,zb,Int.reduceEq,Int.reduceToNat,Int.reduceLT,Fj,Ad,List.append_nil];rw[if_neg (by rw[show IntKind.i64.max=9223372036854775807 from rfl];simp only[Ll_,List.length_replicate,List.length_nil];have:=h.len;omega)];exact rfl) (g10 (q:=?_))
 first
  | refine Aa (by simp only[zo,zz];exact rep0_run (by omega) _) ?_
  | refine Aa (by simp only[zo,zz];exact repz_run (by omega) _ (n-l.length) (by omega)) ?_
 refine g1 (q:=Aa (by simp only[zo,Ec,zb,Int.reduceEq,Int.reduceToNat,Int.reduceLT,Fj,Ad,List.append_nil];rw[if_neg (by rw[show IntKind.i64.max=9223372036854775807 from rfl];simp only[Ll_,List.length_replicate,List.length_nil];have:=h.len;omega)];exact rfl) (g5 (q:=?_)));exact fq (h:=rfl)
theorem Jf(n:Nat)(l:List UInt8):(pad n l).length=n-l.length+l.length:=by simp[pad]
theorem fits_pl{neg:Bool}{l:List UInt8}(h:Nrm neg l){n:Nat}(h1:1≤n):(Dk 48 (D8 48 ((pad n l).take ((pad n l).length-n)))==[])=decide (l.length≤n):=by
 by_cases hl:l.length≤n
 ·
  rw[show (pad n l).length-n=0 by rw[Jf];omega,List.take_zero,decide_eq_true hl];rfl
 rw[decide_eq_false hl,beq_eq_false_iff_ne];intro e;have h2:pad n l=l:=by rw[pad,show n-l.length=0 by omega];rfl
 rw[h2]at e;have hs:=h.st
 have h0:Bh l=l:=by
  unfold strip at hs;split at hs
  ·
   rw[←hs]at hl;simp at hl;omega
  exact hs
 match l,hl with
 | [],hl=>exact hl (Nat.zero_le _)
 | c :: l, hl =>
  have hc:¬(c==48)=true:=by
   intro hc;have h3:=L9 l;have h4:Bh (c::l)=Bh l:=by rw[Bh,Bh,List.dropWhile_cons,if_pos hc]
   rw[h4]at h0;have:=congrArg List.length h0;simp at this;omega
  obtain⟨k,hk⟩:∃k,(c::l).length-n=k+1:=⟨(c::l).length-n-1,by omega⟩;rw[hk,List.take_succ_cons]at e
  have hr:∃m,D8 48 (c::l.take k)=c::m:=by
   generalize l.take k=t;unfold D8;rw[List.reverse_cons]
   have:∀(r:List UInt8),∃m,((r++[c]).dropWhile (·==(48:UInt8))).reverse=c::m:=by
    intro r
    induction r with
    | nil=>exact⟨[],by rw[List.nil_append,List.dropWhile_cons,if_neg hc];rfl⟩
    | cons a r ih =>
     rw[List.cons_append,List.dropWhile_cons];split
     ·
      exact ih
     exact⟨r.reverse++[a],by simp⟩
   exact this _
  obtain⟨m,hm⟩:=hr;rw[hm,Dk,List.dropWhile_cons,if_neg hc]at e;cases e
theorem Uf{d:Nat}(hd:9≤d)(S:St){neg:Bool}{l:List UInt8}(h:Nrm neg l)(n:Nat)(h1:1≤n)(h2:n≤62):Ae LP NN d 172 [.agg [.bool neg,.str (mkS l),.int .i64 0],.int .i64 (n:Nat),.int .i64 0] S=some (.tup [.bool (decide (l.length≤n)),.int .i64 0],S,false):=by
 have uE:decide (((n:Nat):Int)<1)=false:=decide_eq_false (by omega);have qy:decide (((n:Nat):Int)>62)=false:=decide_eq_false (by omega);have wu:=h.len;have wV:=Jf n l;have hw:IntKind.i64.wrap (((pad n l).length:Nat)-((n:Nat):Int))=(((pad n l).length-n:Nat):Int):=by rw[IntKind.wrap_i64];omega
 have zz:=aI @Ag (aI @Ai (aI @Ad (aI hw (fits_pl h h1))));refine rpz (hb:=?_);rintro d rfl;refine g13 (q:=Aa (by simp only[zo,zz];exact rchk_run (by omega) _ h n h1 h2) (g17 (q:=Aa (by simp only[zo,zz];exact Rh (by omega) _ h n h1 h2) (g11 (q:=Bb 0 (b:=true) (h:=g11 (q:=Aa (by simp only[opd,zv,Al,aop,LOp.loud,Bool.false_eq_true,if_false,Ad];rw[Ox _ (pad n l) ((pad n l).length-n) _ rfl (by omega)];exact rfl) (g1 (q:=Aa (by simp only[zo,zz];exact T9 (by omega) _ (by rw[List.length_take];omega)) (g8 (q:=?_)))))))))));exact fq (h:=rfl)
def Ei (n:Nat) (l:List UInt8):List UInt8:=(pad n l).drop ((pad n l).length-n)
theorem Qu(n:Nat)(l:List UInt8):(Ei n l).length=n:=by
 have:=Jf n l;rw[Ei,List.length_drop];omega
theorem Ul{neg:Bool}{l:List UInt8}(h:Nrm neg l){n:Nat}(h1:1≤n):Dq (Ei n l)=true:=by
 have h2:=h.num;simp only[Dq,Bool.and_eq_true,Bool.not_eq_true',beq_eq_false_iff_ne,ne_eq]at h2 ⊢;refine⟨fun e=>?_,?_⟩
 ·
  have:=Qu n l;rw[e]at this;simp at this;omega
 rw[List.all_eq_true]at h2 ⊢;intro c hc;rcases List.mem_append.1 (List.mem_of_mem_drop hc) with hc | hc
 ·
  rw[(List.mem_replicate.1 hc).2];rfl
 exact h2.2 c hc
theorem Wz{d:Nat}(hd:9≤d)(S:St){neg:Bool}{l:List UInt8}(h:Nrm neg l)(n:Nat)(h1:1≤n)(h2:n≤62):Ae LP NN d 173 [.agg [.bool neg,.str (mkS l),.int .i64 0],.int .i64 (n:Nat),.int .i64 0] S=some (.tup [.agg [.bool (neg&&nz (Ei n l)),.str (mkS (strip (Ei n l))),.int .i64 0],.int .i64 0],S,false):=by
 have uE:decide (((n:Nat):Int)<1)=false:=decide_eq_false (by omega);have qy:decide (((n:Nat):Int)>62)=false:=decide_eq_false (by omega);have wu:=h.len;have wV:=Jf n l;have hw:IntKind.i64.wrap (((pad n l).length:Nat)-((n:Nat):Int))=(((pad n l).length-n:Nat):Int):=by rw[IntKind.wrap_i64];omega
 have zz:=aI @Ag (aI @Ai (aI @Ad hw));refine rpz (hb:=?_);rintro d rfl;refine g13 (q:=Aa (by simp only[zo,zz];exact rchk_run (by omega) _ h n h1 h2) (g17 (q:=Aa (by simp only[zo,zz];exact Rh (by omega) _ h n h1 h2) (g26 (q:=Co (by simp only[opd,zv,Al,aop,LOp.loud,Bool.false_eq_true,if_false,Ad];rw[Du _ (pad n l) ((pad n l).length-n) _ rfl (by omega)];exact rfl) rfl rfl (g1 (q:=Ao (by simp only[zo,zz];exact Rx (by omega) _ neg (Ei n l) (by rw[Qu];exact h2) (Ul h h1)) (by simp only[Ac,zo,zq]<;>exact rfl) rfl (g7 (q:=fq (h:=?_))))))))));simp only[Df,leave,Ah,Bl,zs,zf,zk]
theorem rdig_run{d:Nat}(hd:10≤d)(S:St){neg:Bool}{l:List UInt8}(h:Nrm neg l)(n:Nat)(h1:1≤n)(h2:n≤62)(hf:l.length≤n):Ae LP NN d 227 [.agg [.bool neg,.str (mkS l),.int .i64 0],.int .i64 (n:Nat),.int .i64 0] S=some (.tup [.str (mkS (pad n l)),.int .i64 0],S,false):=by
 have uE:decide (((n:Nat):Int)<1)=false:=decide_eq_false (by omega);have qy:decide (((n:Nat):Int)>62)=false:=decide_eq_false (by omega);have wu:=h.len;have wV:=Jf n l;have hw:IntKind.i64.wrap (((pad n l).length:Nat)-((n:Nat):Int))=(((pad n l).length-n:Nat):Int):=by rw[IntKind.wrap_i64];omega
 have zz:=aI @Ag (aI @Ai (aI @Ad hw));refine rpz (hb:=?_);rintro d rfl;refine g2 (q:=Aa (by simp only[opd,zv,Al,LOp.loud,aop,lop,if_true,zm,zc,zf,beq_self_eq_true,Bool.and_self,Bool.and_true,Bool.true_and,List.all_cons,List.all_nil,Nat.reduceBEq,Nat.reduceAdd,decide_eq_true hf,zz]<;>exact rfl) (g6 (q:=Aa (by simp only[zl,zm,zd,Ci,List.take,List.drop,decide_eq_true hf,zz]<;>exact rfl) (g2 (q:=Aa (by simp only[zo,decide_eq_true hf,zz];exact Uf (by omega) _ h n h1 h2) (g1 (q:=Aa (by simp only[zo,Lz,Ls_,decide_eq_true hf,zz]<;>exact rfl) ?_)))))));apply Aa (by simp only[zo,Lz,Ls_,decide_eq_true hf,zz]<;>exact rfl);refine g9 (q:=Aa (by simp only[zo,Ec,zb,Int.reduceEq,Int.reduceToNat,Int.reduceLT,decide_eq_true hf,zz]<;>exact rfl) (g3 (q:=Au (by simp only[opd,zv,decide_eq_true hf,zz]<;>rfl) (g3 (q:=Aa (by simp only[zo,unD,decide_eq_true hf,zz]<;>exact rfl) (g3 (q:=Au (by simp only[opd,zv,decide_eq_true hf,zz]<;>rfl) (g5 (q:=Aa (by simp only[zl,zm,zd,Ci,List.take,List.drop,decide_eq_true hf,zz]<;>exact rfl) (g2 (q:=Aa (by simp only[zo,decide_eq_true hf,zz];exact Rh (by omega) _ h n h1 h2) (g1 (q:=Aa (by simp only[zo,Lz,Ls_,decide_eq_true hf,zz]<;>exact rfl) ?_)))))))))))));apply Aa (by simp only[zo,Lz,Ls_,decide_eq_true hf,zz]<;>exact rfl);refine g8 (q:=Aa (by simp only[zo,Kq,I8,Nt,Kr,decide_eq_true hf,zz]<;>exact rfl) (g1 (q:=Aa (by simp only[zo,Ec,zb,Int.reduceEq,Int.reduceToNat,Int.reduceLT,decide_eq_true hf,zz]<;>exact rfl) (Aa (by simp only[opd,zv,Al,aop,LOp.loud,Bool.false_eq_true,if_false,Ad];rw[Du _ (pad n l) ((pad n l).length-n) _ rfl (by omega)];exact rfl) (g5 (q:=fq (h:=?_)))))));rw[show (pad n l).length-n=0 by omega];rfl
def shpE (n:Nat):List D:=[.int .u8 5,.int .u8 0,.str (Dp true n),.int .i64 (n:Nat),.int .i64 0,.bool false,.bool false,.bool false,.bool false,.bool false,.int .i64 (n:Nat)]
theorem shpR_E{n:Nat}(h:n≠1):shpR true n=shpE n:=by
 unfold shpR shpE;simp only[if_true,if_neg h]
def picD (n:Nat):D:=.agg [.str (Dp true n),.str ⟨#[]⟩,.int .u8 0]
section
variable (d:Nat) (S:St)
theorem eof_2:Bp LP NN (d+12) 279 [.agg (shpE 2)] S=some (picD 2,S,false):=by kernel_rfl
theorem econ_2:Bp LP NN (d+12) 363 [.str (Dp true 2),.str ⟨#[42]⟩] S=some (.bool false,S,false):=by kernel_rfl
theorem ezer_2:Bp LP NN (d+20) 226 [.agg [.bool false,.str ⟨#[48]⟩,.int .i64 0],.agg (shpE 2)] S=some (.sl 1 (List.replicate 1 [.int .u8 32]++[[.int .u8 48]]) none,S,false):=by kernel_rfl
theorem eof_3:Bp LP NN (d+12) 279 [.agg (shpE 3)] S=some (picD 3,S,false):=by kernel_rfl
theorem econ_3:Bp LP NN (d+12) 363 [.str (Dp true 3),.str ⟨#[42]⟩] S=some (.bool false,S,false):=by kernel_rfl
theorem ezer_3:Bp LP NN (d+20) 226 [.agg [.bool false,.str ⟨#[48]⟩,.int .i64 0],.agg (shpE 3)] S=some (.sl 1 (List.replicate 2 [.int .u8 32]++[[.int .u8 48]]) none,S,false):=by kernel_rfl
theorem eof_4:Bp LP NN (d+12) 279 [.agg (shpE 4)] S=some (picD 4,S,false):=by kernel_rfl
theorem econ_4:Bp LP NN (d+12) 363 [.str (Dp true 4),.str ⟨#[42]⟩] S=some (.bool false,S,false):=by kernel_rfl
theorem ezer_4:Bp LP NN (d+20) 226 [.agg [.bool false,.str ⟨#[48]⟩,.int .i64 0],.agg (shpE 4)] S=some (.sl 1 (List.replicate 3 [.int .u8 32]++[[.int .u8 48]]) none,S,false):=by kernel_rfl
theorem eof_5:Bp LP NN (d+12) 279 [.agg (shpE 5)] S=some (picD 5,S,false):=by kernel_rfl
theorem econ_5:Bp LP NN (d+12) 363 [.str (Dp true 5),.str ⟨#[42]⟩] S=some (.bool false,S,false):=by kernel_rfl
theorem ezer_5:Bp LP NN (d+20) 226 [.agg [.bool false,.str ⟨#[48]⟩,.int .i64 0],.agg (shpE 5)] S=some (.sl 1 (List.replicate 4 [.int .u8 32]++[[.int .u8 48]]) none,S,false):=by kernel_rfl
theorem eof_6:Bp LP NN (d+12) 279 [.agg (shpE 6)] S=some (picD 6,S,false):=by kernel_rfl
theorem econ_6:Bp LP NN (d+12) 363 [.str (Dp true 6),.str ⟨#[42]⟩] S=some (.bool false,S,false):=by kernel_rfl
theorem ezer_6:Bp LP NN (d+20) 226 [.agg [.bool false,.str ⟨#[48]⟩,.int .i64 0],.agg (shpE 6)] S=some (.sl 1 (List.replicate 5 [.int .u8 32]++[[.int .u8 48]]) none,S,false):=by kernel_rfl
end
theorem eof_run{d:Nat}(hd:12≤d)(S:St){n:Nat}(h2:2≤n)(h6:n≤6):Ae LP NN d 279 [.agg (shpE n)] S=some (picD n,S,false):=by
 obtain⟨d,rfl⟩:∃d',d=d'+12:=⟨d-12,by omega⟩
 match n,h2,h6 with
 | 2,_,_=>exact fast_ok (eof_2 d S)
 | 3,_,_=>exact fast_ok (eof_3 d S)
 | 4,_,_=>exact fast_ok (eof_4 d S)
 | 5,_,_=>exact fast_ok (eof_5 d S)
 | 6,_,_=>exact fast_ok (eof_6 d S)
theorem econ_run{d:Nat}(hd:12≤d)(S:St){n:Nat}(h2:2≤n)(h6:n≤6):Ae LP NN d 363 [.str (Dp true n),.str ⟨#[42]⟩] S=some (.bool false,S,false):=by
 obtain⟨d,rfl⟩:∃d',d=d'+12:=⟨d-12,by omega⟩
 match n,h2,h6 with
 | 2,_,_=>exact fast_ok (econ_2 d S)
 | 3,_,_=>exact fast_ok (econ_3 d S)
 | 4,_,_=>exact fast_ok (econ_4 d S)
 | 5,_,_=>exact fast_ok (econ_5 d S)
 | 6,_,_=>exact fast_ok (econ_6 d S)
theorem ezer_run{d:Nat}(hd:20≤d)(S:St){n:Nat}(h2:2≤n)(h6:n≤6):Ae LP NN d 226 [.agg [.bool false,.str ⟨#[48]⟩,.int .i64 0],.agg (shpE n)] S=some (.sl 1 (List.replicate (n-1) [.int .u8 32]++[[.int .u8 48]]) none,S,false):=by
 obtain⟨d,rfl⟩:∃d',d=d'+20:=⟨d-20,by omega⟩
 match n,h2,h6 with
 | 2,_,_=>exact fast_ok (ezer_2 d S)
 | 3,_,_=>exact fast_ok (ezer_3 d S)
 | 4,_,_=>exact fast_ok (ezer_4 d S)
 | 5,_,_=>exact fast_ok (ezer_5 d S)
 | 6,_,_=>exact fast_ok (ezer_6 d S)
def WR (sg0:Bool) (n:Nat) (dg:List UInt8) (x:D) (st la:Int):Xh:=⟨356,9,[[.str (Dp true n),.str ⟨#[]⟩,.int .u8 0,.str (mkS dg),.bool sg0,x,.bool false,.int .i64 st,.int .i64 la]],0,0,false⟩
def AT (bs:List UInt8) (t:List Xh) (x:D):Prop:=(bs=[]∧t=[]∧x=.X4)∨∃v,t=[⟨5,1,bR bs,v,1,true⟩]∧x=.msl 2 v 0 bs.length none
theorem AT.app{bs:List UInt8}{t:List Xh}{x:D}(h:AT bs t x)(hl:bs.length<1000)(c:UInt8):∃x' t',(∀(o w:Xh) (lo:Nat) (cp:Option Nat),1≤lo→∃lo',1≤lo'∧Bo 5 1 1 1 x (.sl 1 [[.int .u8 (c.toNat:Nat)]] cp) ⟨o::w::t,lo⟩=some (x',⟨o::w::t',lo'⟩,true))∧AT (bs++[c]) t' x':=by
 rcases h with⟨rfl,rfl,rfl⟩ | ⟨v,rfl,rfl⟩
 ·
  refine⟨.msl 2 0 0 1 none,[⟨5,1,bR [c],0,1,true⟩],fun o w lo cp h1=>⟨lo,h1,?_⟩,.inr ⟨0,rfl,rfl⟩⟩;simp[Bo,Av,Bw,newAt,bR]
 refine⟨.msl 2 (v+1) 0 (bs.length+1) none,[⟨5,1,bR (bs++[c]),v+1,1,true⟩],fun o w lo cp h1=>⟨min lo 2,by omega,?_⟩,.inr ⟨v+1,rfl,by simp⟩⟩;simp[Bo,Av,Bw,rowsOf,setAt,bR];omega
theorem AT.len{bs:List UInt8}{t:List Xh}{x:D}(h:AT bs t x):Hr false x=some (.int .i64 bs.length):=by
 rcases h with⟨rfl,rfl,rfl⟩ | ⟨v,rfl,rfl⟩<;>rfl
theorem AT.cell{bs:List UInt8}{t:List Xh}{x:D}(h:AT bs t x):x.Xv=true∧x.val=true∧x.cells=[x]:=by
 rcases h with⟨rfl,rfl,rfl⟩ | ⟨v,rfl,rfl⟩<;>exact⟨rfl,rfl,rfl⟩
theorem wfill_run{d:Nat}(hd:13≤d){sg0:Bool}{n:Nat}(h2:2≤n)(h6:n≤6)(o:Xh)(dg:List UInt8)(x:D)(st la:Int)(t:List Xh)(lo:Nat):Ae LP NN d 352 [.ptr 1 0 0 0] ⟨o::WR sg0 n dg x st la::t,lo⟩=some (.int .u8 32,⟨o::WR sg0 n dg x st la::t,lo⟩,false):=by
 have zz:=aI @List.getElem?_cons_zero.{0} (aI @List.getElem?_cons_succ.{0} (aI @List.set_cons_zero.{0} (aI @List.set_cons_succ.{0} (aI @List.length_cons.{0} @WR.eq_1))));refine raz (hb:=?_);rintro d rfl;refine g13 (q:=Aa (by simp only[zo,zz];exact econ_run (by omega) _ h2 h6) (g11 (q:=fq (h:=?_))));simp[leave,LP,Xt,Xp,snap,D.Xr,D.Xq,D.free,D.Xw]
theorem wputF_run{d:Nat}(hd:14≤d){sg0:Bool}{n:Nat}(h2:2≤n)(h6:n≤6)(o:Xh)(dg:List UInt8){bs:List UInt8}{x:D}(st la:Int){t:List Xh}(hA:AT bs t x)(hl:bs.length<1000)(c:UInt8):∃x' t',(∀lo,Ae LP NN d 322 [.ptr 1 0 0 0,.int .u8 (c.toNat:Nat),.bool false] ⟨o::WR sg0 n dg x st la::t,lo⟩=some (.tup [],⟨o::WR sg0 n dg x' st la::t',min lo 1⟩,true))∧AT (bs++[c]) t' x':=by
 obtain⟨x',t',yT,hA'⟩:=hA.app hl c;obtain⟨lo1,rE,wm⟩:=yT o (WR sg0 n dg x st la) (t.length+1+1) (some 1) (by omega);simp only[WR]at wm;have wE:=hA.len;have vU:=hA'.cell;have ko:=hA.cell;have wS:min (t.length+1+1) 1=1:=by omega
 have hm2:min lo1 1=1:=by omega
 have hm3:¬2+t.length≤1:=by omega
 refine⟨x',t',fun lo=>?_,hA'⟩;have zz:=aI @List.getElem?_cons_zero.{0} (aI @List.getElem?_cons_succ.{0} (aI @List.set_cons_zero.{0} (aI @List.set_cons_succ.{0} (aI @List.length_cons.{0} (aI @WR.eq_1 (aI wE (aI vU.1 (aI vU.2.1 (aI vU.2.2 (aI ko.1 (aI ko.2.1 (aI ko.2.2 (aI wS hm2)))))))))))));refine raz (hb:=?_);rintro d rfl;refine g17 (q:=Aa (by simp only[Al,aop,LOp.loud,lop,if_true,opd,zv,Lz,Ls_,zn,List.length_cons,WR];exact wm) ?_);refine g4 (q:=?_);simp only[ze];refine fq (h:=?_);simp[leave,LP,Xt,Xp,snap,D.Xr,D.Xq,D.free,D.Xw,Bl,Ah,hm2,WR]
theorem wputT_run{d:Nat}(hd:14≤d){sg0:Bool}{n:Nat}(h2:2≤n)(h6:n≤6)(o:Xh)(dg:List UInt8){bs:List UInt8}{x:D}(st la:Int){t:List Xh}(hA:AT bs t x)(hl:bs.length<1000)(c:UInt8):∃x' t',(∀lo,Ae LP NN d 322 [.ptr 1 0 0 0,.int .u8 (c.toNat:Nat),.bool true] ⟨o::WR sg0 n dg x st la::t,lo⟩=some (.tup [],⟨o::WR sg0 n dg x' st (bs.length:Nat)::t',min lo 1⟩,true))∧AT (bs++[32]) t' x':=by
 obtain⟨x',t',yT,hA'⟩:=hA.app hl 32;obtain⟨lo1,rE,wm⟩:=yT o (WR sg0 n dg x st (bs.length:Nat)) 1 (some 1) (by omega);simp only[WR]at wm;have wE:=hA.len;have vU:=hA'.cell;have ko:=hA.cell;have wS:min (t.length+1+1) 1=1:=by omega
 have hm2:min lo1 1=1:=by omega
 have hm3:¬2+t.length≤1:=by omega
 refine⟨x',t',fun lo=>?_,hA'⟩;have zz:=aI @List.getElem?_cons_zero.{0} (aI @List.getElem?_cons_succ.{0} (aI @List.set_cons_zero.{0} (aI @List.set_cons_succ.{0} (aI @List.length_cons.{0} (aI @WR.eq_1 (aI wE (aI vU.1 (aI vU.2.1 (aI vU.2.2 (aI ko.1 (aI ko.2.1 (aI ko.2.2 (aI wS hm2)))))))))))));refine raz (hb:=?_);rintro d rfl;refine g10 (q:=Ao (by simp only[zo,zz];exact wfill_run (by omega) h2 h6 o _ _ _ _ _ _) (by simp only[Ac,zo,zq]<;>exact rfl) rfl (g19 (q:=Aa (by simp only[Al,aop,LOp.loud,lop,if_true,opd,zv,Lz,Ls_,zn,List.length_cons,WR];exact wm) ?_)));refine g4 (q:=?_);simp only[ze];refine fq (h:=?_);simp[leave,LP,Xt,Xp,snap,D.Xr,D.Xq,D.free,D.Xw,Bl,Ah,hm2,WR]
theorem wput_run{d:Nat}(hd:14≤d){sg0:Bool}{n:Nat}(h2:2≤n)(h6:n≤6)(o:Xh)(dg:List UInt8){bs:List UInt8}{x:D}(st la:Int){t:List Xh}(hA:AT bs t x)(hl:bs.length<1000)(c:UInt8)(rep:Bool):∃x' t' la',(∀lo,Ae LP NN d 322 [.ptr 1 0 0 0,.int .u8 (c.toNat:Nat),.bool rep] ⟨o::WR sg0 n dg x st la::t,lo⟩=some (.tup [],⟨o::WR sg0 n dg x' st la'::t',min lo 1⟩,true))∧AT (bs++[if rep then 32 else c]) t' x':=by
 cases rep with
 | false =>
  obtain⟨x',t',h,hA'⟩:=wputF_run hd h2 h6 o dg st la hA hl c;exact⟨x',t',_,h,hA'⟩
 | true =>
  obtain⟨x',t',h,hA'⟩:=wputT_run hd h2 h6 o dg st la hA hl c;exact⟨x',t',_,h,hA'⟩
def nst (c:UInt8) (st:Int) (b:UInt8):Int:=if c=57∨b≠48 then 2 else if st=0 then 1 else st
theorem u8_ne{b:UInt8}(h:(((b.toNat:Nat):Int) != 48)=true):b≠48:=by
 rintro rfl;simp at h
theorem u8_eq{b:UInt8}(h:(((b.toNat:Nat):Int) != 48)=false):b=48:=by
 rw[bne_eq_false_iff_eq]at h;exact UInt8.toNat_inj.1 (by show b.toNat=48;omega)
theorem wnum90_run{d:Nat}(hd:15≤d){sg0:Bool}{n:Nat}(h2:2≤n)(h6:n≤6)(o:Xh)(b:UInt8)(dg:List UInt8){bs:List UInt8}{x:D}(st la:Int){t:List Xh}(hA:AT bs t x)(hl:bs.length<1000):∃x' t' la',(∀lo,Ae LP NN d 321 [.ptr 1 0 0 0,.int .u8 90] ⟨o::WR sg0 n (b::dg) x st la::t,lo⟩=some (.tup [],⟨o::WR sg0 n dg x' (nst 90 st b) la'::t',min lo 1⟩,true))∧AT (bs++[if nst 90 st b==1 then 32 else b]) t' x':=by
 obtain⟨x',t',la',hp,hA'⟩:=wput_run (d:=d-1) (by omega) h2 h6 o dg (nst 90 st b) la hA hl b (nst 90 st b==1);have wS:min (t.length+1+1) 1=1:=by omega
 have vU:=hA.cell;refine⟨x',t',la',fun lo=>?_,hA'⟩;have zz:=aI @List.getElem?_cons_zero.{0} (aI @List.getElem?_cons_succ.{0} (aI @List.set_cons_zero.{0} (aI @List.set_cons_succ.{0} (aI @List.length_cons.{0} (aI @WR.eq_1 (aI @Gt (aI vU.1 (aI vU.2.1 (aI vU.2.2 wS)))))))));refine raz (hb:=?_);rintro d rfl;refine g9 (q:=Fy 0 (h:=fun hg=>?_) (k:=fun hg=>?_))
 ·
  have h0:st=0:=eq_of_beq hg;refine g26 (q:=Bb 0 (b:=false) (h:=g28 (q:=Aa (by simp only[opd,zv,Al,aop,LOp.loud,Bool.false_eq_true,if_false];rw[Du _ (b::dg) 1 1 rfl (by simp)];exact rfl) (g11 (q:=Bb 0 (b:=false) (h:=g7 (q:=Bz (ht:=fun hcT=>?_) (hf:=fun hcT=>?_))))))))
  ·
   have hb:b≠48:=u8_ne hcT;have hn:nst 90 st b=2:=by rw[nst,if_pos (.inr hb)]
   rw[hn]at hp;refine g15 (q:=Aa (by simp only[zo,zz];exact hp _) (g1 (q:=?_)));simp only[ze];refine fq (h:=?_);simp[leave,LP,Xt,Xp,snap,D.Xr,D.Xq,D.free,D.Xw,Bl,Ah,wS,WR,hn]
  have hb:b=48:=u8_eq hcT;have hn:nst 90 st b=1:=by rw[nst,if_neg (by rw[hb];decide),if_pos h0]
  rw[hn]at hp;refine g10 (q:=Aa (by simp only[zo,zz];exact hp _) (g1 (q:=?_)));simp only[ze];refine fq (h:=?_);simp[leave,LP,Xt,Xp,snap,D.Xr,D.Xq,D.free,D.Xw,Bl,Ah,wS,WR,hn]
 have h0:st≠0:=by rw[beq_eq_false_iff_ne]at hg;exact hg
 refine g19 (q:=Bb 0 (b:=false) (h:=g28 (q:=Aa (by simp only[opd,zv,Al,aop,LOp.loud,Bool.false_eq_true,if_false];rw[Du _ (b::dg) 1 1 rfl (by simp)];exact rfl) (g11 (q:=Bb 0 (b:=false) (h:=g7 (q:=Bz (ht:=fun hcF=>?_) (hf:=fun hcF=>?_))))))))
 ·
  have hb:b≠48:=u8_ne hcF;have hn:nst 90 st b=2:=by rw[nst,if_pos (.inr hb)]
  rw[hn]at hp;refine g15 (q:=Aa (by simp only[zo,zz];exact hp _) (g1 (q:=?_)));simp only[ze];refine fq (h:=?_);simp[leave,LP,Xt,Xp,snap,D.Xr,D.Xq,D.free,D.Xw,Bl,Ah,wS,WR,hn]
 have hb:b=48:=u8_eq hcF;have hn:nst 90 st b=st:=by rw[nst,if_neg (by rw[hb];decide),if_neg h0]
 rw[hn]at hp;refine g10 (q:=Aa (by simp only[zo,zz];exact hp _) (g1 (q:=?_)));simp only[ze];refine fq (h:=?_);simp[leave,LP,Xt,Xp,snap,D.Xr,D.Xq,D.free,D.Xw,Bl,Ah,wS,WR,hn]
end Go.Proofs.YtlhdliikahebhaaGreatDoor

/- Proved here: what functions compute in an abstract machine; no condition. -/
import Derived.Test.YtlhdliikahebhaaGreatDoorM12
namespace Go.Proofs.YtlhdliikahebhaaGreatDoor
set_option linter.unusedSimpArgs false
set_option linter.unusedVariables false
set_option maxRecDepth 100000
set_option maxHeartbeats 4000000
theorem grow0_run{d:Nat}(hd:1≤d)(H:List Xh)(lo:Nat):Ae LP NN d 155 [.X4,.int .i64 ((0:Nat):Int)] ⟨H,lo⟩=some (.X4,⟨H,min lo H.length⟩,true):=by
 have w0:((0:Nat):Int)=0:=rfl;refine Ho (F:=F155) rfl (by rfl) rfl (by rfl) (by simp only[F155,P155,mkP,zv]<;>exact rfl) (by omega) ?_;rintro d rfl;have zz:=w0;refine g44 (q:=?_);refine⟨_,by simp only[F155,P155,mkP,Ce,En,I5,List.getD_cons_zero,List.getD_cons_succ]<;>exact rfl,?_⟩;simp[leave,LP]
def catY (R:List (List D)):D:=if R=[] then .X4 else .sl 1 R none
theorem catY_S(R:List (List D)):SlD 1 R (catY R):=by
 unfold catY;split
 ·
  exact .inl ⟨rfl,by assumption⟩
 exact .of _ _ _
theorem cat_app1{call:Aq}{H:List Xh}{n:Nat}(hn:0<n){lo:Nat}(xU:lo≤H.length):Al call (.append 9 1 16 2) [.msl H.length 0 0 0 none,.X4] ⟨H++[⟨9,1,List.replicate n [.str ⟨#[]⟩],0,2,true⟩],lo⟩=some (.msl H.length 0 0 0 none,⟨H++[⟨9,1,List.replicate n [.str ⟨#[]⟩],0,2,true⟩],lo⟩,true):=by
 have h0:¬0=n:=by omega
 have hm:min lo H.length=lo:=by omega
 simp[Al,aop,LOp.loud,lop,Bo,Bw,Av,rowsOf,setAt,h0,hm]
theorem cat_app2{call:Aq}{H:List Xh}{R:List (List D)}(hn:0<R.length)(c:Option Nat){lo:Nat}(xU:lo≤H.length):Al call (.append 9 1 16 2) [.msl H.length 0 0 0 none,.sl 1 R c] ⟨H++[⟨9,1,List.replicate R.length [.str ⟨#[]⟩],0,2,true⟩],lo⟩=some (.msl H.length 0 0 R.length none,⟨H++[⟨9,1,R,0,2,true⟩],lo⟩,true):=by
 have h0:¬0=R.length:=by omega
 have hm:min lo H.length=lo:=by omega
 simp[Al,aop,LOp.loud,lop,Bo,Bw,Av,rowsOf,setAt,h0,hm]
theorem concat0_run{d:Nat}(hd:2≤d){H:List Xh}{gz:Nat}{R:List (List D)}{c:Option Nat}(hZ:H[gz]?=some ⟨24,1,[[.X4],[.sl 1 R c]],0,0,false⟩)(hb:R.length≤1000000)(hR:R=[])(lo:Nat):Ae LP NN d 98 [.msl gz 0 0 2 none] ⟨H,lo⟩=some (catY R,⟨H,lo⟩,false):=by
 have xJ:=Aj hZ;have w0:IntKind.i64.wrap (0+0)=0:=rfl;have w1:IntKind.i64.wrap (0+((R.length:Nat):Int))=((R.length:Nat):Int):=by rw[IntKind.wrap_i64];omega
 have wB:decide (((R.length:Nat):Int)<0)=false:=decide_eq_false (by omega);have kZ:(R.length≤1000000)=True:=eq_true hb;have hmn:min H.length H.length=H.length:=Nat.min_self _;have wK:¬H.length≤gz:=by omega
 have w2:=w0;have zz:=aI (fun l=>@Bj _ l _ xJ) (aI hZ (aI w0 (aI w1 (aI w2 (aI wB (aI kZ (aI (show IntKind.i64.wrap (0+1)=1 from rfl) (aI (show IntKind.i64.wrap (1+1)=2 from rfl) (aI hR wK)))))))));refine raz (hb:=?_);rintro d rfl;refine g18 (q:=Gl (Gq (Dt (g6 (q:=Dn (by simp only[opd,zv,Bool.and_false,zz]<;>(first | rfl | simp)) (g26 (q:=Au (by simp only[opd,zv,Bool.and_false,zz]<;>(first | rfl | simp)) (g7 (q:=Wp (by simp only[ze]<;>exact rfl) (Dt (g6 (q:=Dn (by simp only[opd,zv,Bool.and_false,zz]<;>(first | rfl | simp)) (g26 (q:=Au (by simp only[opd,zv,Bool.and_false,zz]<;>(first | rfl | simp)) (g7 (q:=Wp (by simp only[ze]<;>exact rfl) (Dt (g6 (q:=Au (by simp only[opd,zv,Bool.and_false,zz]<;>(first | rfl | simp)) (Jk (sk_e (lu_e (bk_e (sk_n rfl (cw_sr (g1 (q:=Aa (by simp only[zo,Bool.and_false,zz];exact grow0_run (by omega) _ _) (g11 (q:=Gl (Gq (Dt (g6 (q:=Dn (by simp only[opd,zv,Bool.and_false,zz]<;>(first | rfl | simp)) (g23 (q:=Wp (by simp only[ze]<;>exact rfl) (Dt ?_))))))))))))))))))))))))))))))))))));refine g6 (q:=Dn (by simp only[opd,zv,Bool.and_false,zz]<;>(first | rfl | simp)) (g23 (q:=Wp (by simp only[ze]<;>exact rfl) (Dt (g6 (q:=Au (by simp only[opd,zv,Bool.and_false,zz]<;>(first | rfl | simp)) (Jk (sk_e (lu_e (bk_e (sk_n rfl (cw_sr (g5 (q:=fq (h:=?_)))))))))))))));rw[hR];simp[leave,LP,Xt,Xp,snap,D.Xr,D.Xq,D.free,D.Xw,catY]
theorem concat1_run{d:Nat}(hd:2≤d){H:List Xh}{gz:Nat}{R:List (List D)}{c:Option Nat}(hZ:H[gz]?=some ⟨24,1,[[.X4],[.sl 1 R c]],0,0,false⟩)(hb:R.length≤1000000)(hn:0<R.length)(lo:Nat):Ae LP NN d 98 [.msl gz 0 0 2 none] ⟨H,lo⟩=some (catY R,⟨H,lo⟩,false):=by
 have xJ:=Aj hZ;have w0:IntKind.i64.wrap (0+0)=0:=rfl;have w1:IntKind.i64.wrap (0+((R.length:Nat):Int))=((R.length:Nat):Int):=by rw[IntKind.wrap_i64];omega
 have wB:decide (((R.length:Nat):Int)<0)=false:=decide_eq_false (by omega);have kZ:(R.length≤1000000)=True:=eq_true hb;have hmn:min H.length H.length=H.length:=Nat.min_self _;have wK:¬H.length≤gz:=by omega
 have w2:=w0;have hR:¬R=[]:=by intro e;rw[e]at hn;cases hn
 have zz:=aI (fun l=>@Bj _ l _ xJ) (aI hZ (aI w0 (aI w1 (aI w2 (aI wB (aI kZ (aI (show IntKind.i64.wrap (0+1)=1 from rfl) (aI (show IntKind.i64.wrap (1+1)=2 from rfl) wK))))))));refine raz (hb:=?_);rintro d rfl;refine g18 (q:=Gl (Gq (Dt (g6 (q:=Dn (by simp only[opd,zv,Bool.and_false,zz]<;>(first | rfl | simp)) (g26 (q:=Au (by simp only[opd,zv,Bool.and_false,zz]<;>(first | rfl | simp)) (g7 (q:=Wp (by simp only[ze]<;>exact rfl) (Dt (g6 (q:=Dn (by simp only[opd,zv,Bool.and_false,zz]<;>(first | rfl | simp)) (g26 (q:=Au (by simp only[opd,zv,Bool.and_false,zz]<;>(first | rfl | simp)) (g7 (q:=Wp (by simp only[ze]<;>exact rfl) (Dt (g6 (q:=Au (by simp only[opd,zv,Bool.and_false,zz]<;>(first | rfl | simp)) (Jk (sk_e (lu_e (bk_e (sk_n rfl (cw_sr (g1 (q:=Aa (by simp only[zo,Bool.and_false,zz];exact grow_run (by omega) H R.length hn (by omega) _) (g11 (q:=Gl (Gq (Dt (g6 (q:=Dn (by simp only[opd,zv,Bool.and_false,zz]<;>(first | rfl | simp)) (g14 (q:=Aa (by simp only[opd,zv];exact cat_app1 hn (by omega)) (g8 (q:=?_)))))))))))))))))))))))))))))))))))));refine Wp (by simp only[ze]<;>exact rfl) (Dt (g6 (q:=Dn (by simp only[opd,zv,Bool.and_false,zz]<;>(first | rfl | simp)) (g14 (q:=Aa (by simp only[opd,zv];exact cat_app2 hn c (by omega)) (g8 (q:=Wp (by simp only[ze]<;>exact rfl) (Dt (g6 (q:=Au (by simp only[opd,zv,Bool.and_false,zz]<;>(first | rfl | simp)) (Jk (sk_e (lu_e (bk_e (sk_n rfl (cw_sr (g5 (q:=fq (h:=?_)))))))))))))))))));simp[leave,LP,Xt,Xp,snap,D.Xr,D.Xq,D.free,D.Xw,catY,hR,hmn,wK]
theorem concat_run{d:Nat}(hd:2≤d){H:List Xh}{gz:Nat}{R:List (List D)}{c:Option Nat}(hZ:H[gz]?=some ⟨24,1,[[.X4],[.sl 1 R c]],0,0,false⟩)(hb:R.length≤1000000)(lo:Nat):Ae LP NN d 98 [.msl gz 0 0 2 none] ⟨H,lo⟩=some (catY R,⟨H,lo⟩,false):=by
 by_cases h:R=[]
 ·
  exact concat0_run hd hZ hb h lo
 exact concat1_run hd hZ hb (by cases R with
  | nil=>exact absurd rfl h
  | cons a l=>simp) lo
theorem rep6_cl(d:Nat)(S:St) :Bp LP NN (d+6) 49 [.sl 1 [[.int .u8 32]] (some 1),.int .i64 6] S=some (.sl 1 [[.int .u8 32],[.int .u8 32],[.int .u8 32],[.int .u8 32],[.int .u8 32],[.int .u8 32]] (some 6),S,false):=by kernel_rfl
theorem Sg{d:Nat}(hd:6≤d)(S:St) :Ae LP NN d 49 [.sl 1 [[.int .u8 32]] (some 1),.int .i64 6] S=some (.sl 1 [[.int .u8 32],[.int .u8 32],[.int .u8 32],[.int .u8 32],[.int .u8 32],[.int .u8 32]] (some 6),S,false):=by
 obtain⟨d,rfl⟩:∃d',d=d'+6:=⟨d-6,by omega⟩;exact fast_ok (rep6_cl d S )
def bl6:List UInt8:=List.replicate 6 32
def Wm (V:List UInt8) (f:FM):List UInt8:=if f.kind=1 then f.text.data.toList else if f.kind=3 then bl6 else edS V
def vlF (V:List UInt8) (f:FM):D:=.sl 1 (bR (if f.kind=2∨f.kind=4 then edS V else bl6)) (some 6)
def PV (l:List FM) (V:List UInt8):List (FM × List UInt8):=l.map fun f=>(f,Wm V f)
def Big (l:List FM):Prop:=∀f∈l,f.nu=true∧f.size=6
def vlV (V:List UInt8) (l:List FM) (i:Nat):List D:=(l.map (vlF V)).take i
def rws (v:List D):List (List D):=v.map fun x=>[x]
theorem R5{V:List UInt8}{l:List FM}{i:Nat}(h:i<l.length):rws (vlV V l (i+1))=rws (vlV V l i)++[[vlF V l[i]]]:=by
 unfold rws vlV;rw[List.take_succ_eq_append_getElem (by rw[List.length_map];exact h),List.map_append,List.getElem_map];rfl
theorem R6{V:List UInt8}{l:List FM}{i:Nat}(h:i≤l.length):(rws (vlV V l i)).length=i:=by
 unfold rws vlV;rw[List.length_map,List.length_take,List.length_map];omega
theorem vlV_all(V:List UInt8)(l:List FM):vlV V l l.length=l.map (vlF V):=by
 unfold vlV;exact List.take_of_length_le (by rw[List.length_map];exact Nat.le_refl _)
theorem PV_fst(l:List FM)(V:List UInt8):(PV l V).map (·.1)=l:=by
 unfold PV;rw[List.map_map];exact List.map_id l
theorem U4(l:List FM)(V:List UInt8):(PV l V).length=l.length:=by simp[PV]
theorem valF_len{V:List UInt8}(hV:D6 V){f:FM}(hf:f.size=6):(Wm V f).length=f.size:=by
 unfold Wm;split
 ·
  exact Qj f
 split
 ·
  rw[hf];rfl
 rw[Qx,hV.len,hf]
theorem PV_fit{V:List UInt8}(hV:D6 V){l:List FM}(hl:Big l)(H:List Xh):∀(i:Nat) (p:FM × List UInt8) (w:D),(PV l V)[i]?=some p→(l.map (vlF V))[i]?=some w→Fits H p.1 p.2 w:=by
 intro i p w hp hw;unfold PV at hp;rw[Lp_]at hp hw
 cases hi:l[i]? with
 | none=>rw[hi]at hp;cases hp
 | some f =>
  rw[hi]at hp hw;simp only[Option.map_some,Oi]at hp hw;subst hp hw;obtain⟨hnu,xC⟩:=hl f (Lm hi);refine⟨valF_len hV xC,?_⟩;by_cases h1:f.kind=1
  ·
   rw[if_pos h1];show Wm V f=_;unfold Wm;rw[if_pos h1]
  rw[if_neg h1];have hk:=f.kind_le
  have hv:Wm V f=if f.kind=2∨f.kind=4 then edS V else bl6:=by
   unfold Wm;rw[if_neg h1];by_cases h3:f.kind=3
   ·
    rw[if_pos h3,if_neg (by omega)]
   rw[if_neg h3,if_pos (by omega)]
  show RdB H (vlF V f) (Wm V f);rw[hv];exact SlD.rdb (SlD.of 1 _ _) H
def empS (s:ByteArray):Bool:=s.toList==(⟨#[]⟩:ByteArray).toList
def Hf (G:G7):Nat→Nat
 | 0=>0
 | k+1=>if empS (trS G k) then Hf G k else k+1
def OutR (n:Nat) (l:List Xh) (ou:D) (rows:List (List D)):Prop:=(ou=.X4∧rows=[])∨∃q,ou=.msl (n+q) 0 0 rows.length none∧l[q]?=some ⟨9,1,rows,0,1,true⟩
def Cs (G:G7) (k:Nat):List (List D):=(De G 24).take k
theorem Gp{G:G7}{k:Nat}(h:k≤24):(Cs G k).length=k:=by unfold Cs;rw[List.length_take,Gy];omega
theorem Su{G:G7}{k i:Nat}(h:i<k)(h':k≤24):(Cs G k)[i]?=some [.str (trS G i)]:=by
 unfold Cs;rw[List.getElem?_take_of_lt h,Hz (by omega),if_pos (by omega)]
theorem keptG_take{G:G7}{k j:Nat}(h:j≤k):(Cs G k).take j=Cs G j:=by unfold Cs;rw[List.take_take,Nat.min_eq_left h]
theorem trS_le(G:G7)(r:Nat):(trS G r).size≤80:=by
 have h1:=tn_le (Ef G r);have h2:(Ef G r).length=80:=by simp[Ef]
 show ((Ef G r).take (tn (Ef G r))).toArray.size≤80;simp;omega
theorem display_run{d:Nat}(hd:30≤d){H:List Xh}{gm gd:Nat}{inn x:D}{V:List UInt8}{rows:List (List D)}{gs v:Nat}{l0:List FM}(hV:D6 V)(hM:H[gm]?=some (STo (.sl 1 (bR V) (some 6)) inn .X4 gd))(hS:SrcF H x rows gs v)(hR:RW l0 rows)(zG:Big l0)(xg:l0.length≤8)(nm:ByteArray)(p0 c0:Nat)(lo:Nat) :
  ∃r,(∃l' ou',r=(.int .i64 0,⟨H.set gm (STo (.sl 1 (bR V) (some 6)) inn ou' gd)++l',min lo gm⟩,true)∧OutR H.length l' ou' (Cs (Ak (PV l0 V)) (Hf (Ak (PV l0 V)) 24)))∧Ae LP NN d 41 [.ptr gm 0 0 0,.agg [.str nm,x,.int .i64 (p0:Nat),.int .i64 (c0:Nat)]] ⟨H,lo⟩=some r:=by
 have yI:=hR.len;have xJ:=Aj hM;have uN:min H.length gm=gm:=by omega
 have yK:¬H.length≤gm:=by omega
 have zV:min lo (min H.length gm)=min lo gm:=by omega
 have ifneg:True=True:=rfl;refine Kc (F:=F41) (P:=fun r=>∃l' ou',r=(.int .i64 0,⟨H.set gm (STo (.sl 1 (bR V) (some 6)) inn ou' gd)++l',min lo gm⟩,true)∧OutR H.length l' ou' (Cs (Ak (PV l0 V)) (Hf (Ak (PV l0 V)) 24))) rfl (by simp only[LP,Ah,Bl,zs,zm,zv,hS.zero,Bool.false_and]<;>exact rfl) rfl (by simp only[LP,zf,zm];try rfl) (by simp only[F41,P41,mkP,zv]<;>exact rfl) (by omega) ?_;rintro d rfl;have zz:=aI hS.len (aI hS.cell (aI hM (aI (fun l=>@Bj _ l _ xJ) (aI @STo.eq_1 (aI @Bd (aI @Bf (aI @Cb (aI @Ca ifneg))))))));refine g21 (q:=Bq (fun n env S'=>∃(i q:Nat) (l:List Xh) (xv u5 u6 u7 u8 u16 u17 u18 u19:D),i≤l0.length∧n=l0.length-i∧S'=⟨H++l,H.length⟩∧env=[.ptr gm 0 0 0,.agg [.str nm,x,.int .i64 (p0:Nat),.int .i64 (c0:Nat)],.ptr H.length 0 0 0,.int .i64 0,xv,u5,u6,u7,u8,.undef,.undef,.undef,.undef,x,.int .i64 (rows.length:Nat),.int .i64 (i:Nat),u16,u17,u18,u19,.undef,.undef,.undef,.undef,.undef,.undef,.undef,.undef]∧RG 57 0 l H.length q xv (rws (vlV V l0 i))∧0<q∧l[0]?=some (sbO nm x p0 c0)) (l0.length) (by omega) (⟨0,1,[sbO nm x p0 c0],.X4,_,_,_,_,_,_,_,_,by omega,by omega,rfl,rfl,.inl ⟨rfl,rfl⟩,by omega,rfl⟩) ?_);rintro n env S' ⟨i,q,l,xv,u5,u6,u7,u8,u16,u17,u18,u19,hi,kL,rfl,rfl,hO,hq,vM⟩;refine g6 (q:=Bz (ht:=fun xZ=>?_) (hf:=fun xZ=>?_))
 ·
  have xq:i<rows.length:=by have:=of_decide_eq_true xZ;omega
  have wB:i<l0.length:=by omega
  have hw:=Bu i (by omega);obtain⟨f,uX⟩:∃f,f=l0[i]:=⟨_,rfl⟩;have yD:=fun l lo=>hS.ia l lo i xq;obtain⟨p,xO⟩:=hR.at_ wB;rw[←uX]at xO;have wT:=fun (l:List Xh) lo=>hS.ld l lo i _ xO (by rw[Mj];exact Nat.le_refl _);rw[Mi]at wT;obtain⟨hnu,xC⟩:f.nu=true∧f.size=6:=zG f (by rw[uX];exact List.getElem_mem wB);obtain⟨tx,op,nu,r1,r2,hrf,kE,yR,y7,wW⟩:=Ke f p;have uO:=f.kind_le;have vY:=Aj vM;have wX:gm<(H++l).length:=by rw[Ll_];omega
  rcases (by omega:f.kind=1∨f.kind=2∨f.kind=3∨f.kind=4) with yO | yO | yO | yO
  ·
   obtain⟨rfl,rfl,rfl,rfl⟩:=y7 yO;have hrx:Gs f p=[.int .i64 (f.line:Nat),.int .i64 (f.column:Nat),.int .u8 1,.sl 1 (byteRows f.text) none,.int .u8 2,.int .u8 0,.str (Dp false 6),.int .i64 0,.int .i64 0,.bool false,.bool false,.bool false,.bool false,.bool false,.int .i64 6,.X4]:=by rw[hrf,xC,yO];rfl
   rw[hrx]at wT;have wU:vlF V l0[i]=.sl 1 [[.int .u8 32],[.int .u8 32],[.int .u8 32],[.int .u8 32],[.int .u8 32],[.int .u8 32]] (some 6):=by rw[←uX];unfold vlF;rw[if_neg (by omega)];rfl
   obtain⟨x3,l3,q3,yT,rR,hq3,rW,h30,hkp⟩:=RG.app0 (H:=H) (lo:=H.length) (b:=24) (row:=[.sl 1 [[.int .u8 32],[.int .u8 32],[.int .u8 32],[.int .u8 32],[.int .u8 32],[.int .u8 32]] (some 6)]) (hO.more [(⟨125,16,[[.int .i64 (f.line:Nat),.int .i64 (f.column:Nat),.int .u8 1,.sl 1 (byteRows f.text) none,.int .u8 2,.int .u8 0,.str (Dp false 6),.int .i64 0,.int .i64 0,.bool false,.bool false,.bool false,.bool false,.bool false,.int .i64 6,.X4]],0,0,false⟩:Xh)]) hq (Nat.le_refl _) (by rw[R6 hi];omega) (by omega) (by rw[Ll_];omega);have vX:(l++[(⟨125,16,[[.int .i64 (f.line:Nat),.int .i64 (f.column:Nat),.int .u8 1,.sl 1 (byteRows f.text) none,.int .u8 2,.int .u8 0,.str (Dp false 6),.int .i64 0,.int .i64 0,.bool false,.bool false,.bool false,.bool false,.bool false,.int .i64 6,.X4]],0,0,false⟩:Xh)])[0]?=some (sbO nm x p0 c0):=by rw[La_ vY];exact vM
   simp only[Lo_,List.cons_append,List.nil_append,Ll_,List.length_cons,List.length_nil,Nat.zero_add,Nat.reduceAdd]at yT;have zz:=aI hw (aI yD (aI wT (aI @List.append_assoc.{0} (aI @byteRows.eq_1 zz))));refine g20 (q:=Aa (by simp only[zo,zz];exact Sg (by omega) _) (g10 (q:=Bb 0 (b:=false) (h:=g16 (q:=Aa (by simp only[Al,aop,LOp.loud,lop,if_true,opd,zv];exact yT) (g9 (q:=?_)))))));exact⟨l0.length-(i+1),by omega,i+1,q3,l3,x3,_,_,_,_,_,_,_,_,by omega,rfl,rfl,rfl,by rw[R5 wB,wU];exact rR,hq3,by rw[h30];exact vX⟩
  ·
   obtain⟨rfl,rfl,rfl⟩:=wW (by omega);have hrx:Gs f p=[.int .i64 (f.line:Nat),.int .i64 (f.column:Nat),.int .u8 2,.X4,.int .u8 5,.int .u8 0,.str (Dp true 6),.int .i64 6,.int .i64 0,.bool false,.bool false,.bool false,.bool false,.bool false,.int .i64 6,.sl 5 [tkR 1 ⟨#[78]⟩ p 12] (some 1)]:=by rw[hrf,xC,yO];rw[hnu];rfl
   rw[hrx]at wT;have wU:vlF V l0[i]=.sl 1 (bR (edS V)) (some 6):=by rw[←uX];unfold vlF;rw[if_pos (by omega)]
   obtain⟨x3,l3,q3,yT,rR,hq3,rW,h30,hkp⟩:=RG.app0 (H:=H) (lo:=H.length) (b:=24) (row:=[.sl 1 (bR (edS V)) (some 6)]) (hO.more [(⟨125,16,[[.int .i64 (f.line:Nat),.int .i64 (f.column:Nat),.int .u8 2,.X4,.int .u8 5,.int .u8 0,.str (Dp true 6),.int .i64 6,.int .i64 0,.bool false,.bool false,.bool false,.bool false,.bool false,.int .i64 6,.sl 5 [tkR 1 ⟨#[78]⟩ p 12] (some 1)]],0,0,false⟩:Xh),(⟨168,12,[[.int .u8 4,.int .u8 0,.str ⟨#[57,57,57,57,57,57]⟩,.int .i64 6,.int .i64 0,.bool false,.bool false,.bool false,.bool false,.bool false,.int .i64 6,.sl 1 (bR V) (some 6)]],0,0,false⟩:Xh)]) hq (Nat.le_refl _) (by rw[R6 hi];omega) (by omega) (by rw[Ll_];omega);have vX:(l++[(⟨125,16,[[.int .i64 (f.line:Nat),.int .i64 (f.column:Nat),.int .u8 2,.X4,.int .u8 5,.int .u8 0,.str (Dp true 6),.int .i64 6,.int .i64 0,.bool false,.bool false,.bool false,.bool false,.bool false,.int .i64 6,.sl 5 [tkR 1 ⟨#[78]⟩ p 12] (some 1)]],0,0,false⟩:Xh),(⟨168,12,[[.int .u8 4,.int .u8 0,.str ⟨#[57,57,57,57,57,57]⟩,.int .i64 6,.int .i64 0,.bool false,.bool false,.bool false,.bool false,.bool false,.int .i64 6,.sl 1 (bR V) (some 6)]],0,0,false⟩:Xh)])[0]?=some (sbO nm x p0 c0):=by rw[La_ vY];exact vM
   simp only[Lo_,List.cons_append,List.nil_append,Ll_,List.length_cons,List.length_nil,Nat.zero_add,Nat.reduceAdd]at yT;have rz:=fun (m:List Xh) lo=>fieldV (d:=d) (by omega) hV.len (H:=H++m) (gm:=gm) (by rw[Bj xJ];exact hM) (p:Nat) ((12:Nat):Int) lo;have hmv:=fun S:St=>move9E_run (d:=d) (by omega) S hV (some 6);simp only[shpE]at hmv;have zz:=aI hw (aI yD (aI wT (aI @List.append_assoc.{0} (aI @byteRows.eq_1 zz))));refine g20 (q:=Aa (by simp only[zo,zz];exact Sg (by omega) _) (g10 (q:=Bb 0 (b:=true) (h:=g12 (q:=Aa (by simp only[zo,zz];exact rz _ _) (g23 (q:=Aa (by simp only[zo,zz];exact hmv _) (g20 (q:=Aa (by simp only[Al,aop,LOp.loud,lop,if_true,opd,zv];exact yT) (g9 (q:=?_)))))))))));exact⟨l0.length-(i+1),by omega,i+1,q3,l3,x3,_,_,_,_,_,_,_,_,by omega,rfl,rfl,rfl,by rw[R5 wB,wU];exact rR,hq3,by rw[h30];exact vX⟩
  ·
   obtain⟨rfl,rfl,rfl⟩:=wW (by omega);have hrx:Gs f p=[.int .i64 (f.line:Nat),.int .i64 (f.column:Nat),.int .u8 3,.X4,.int .u8 5,.int .u8 0,.str (Dp true 6),.int .i64 6,.int .i64 0,.bool false,.bool false,.bool false,.bool false,.bool false,.int .i64 6,.sl 5 [tkR 1 ⟨#[78]⟩ p 12] (some 1)]:=by rw[hrf,xC,yO];rw[hnu];rfl
   rw[hrx]at wT;have wU:vlF V l0[i]=.sl 1 [[.int .u8 32],[.int .u8 32],[.int .u8 32],[.int .u8 32],[.int .u8 32],[.int .u8 32]] (some 6):=by rw[←uX];unfold vlF;rw[if_neg (by omega)];rfl
   obtain⟨x3,l3,q3,yT,rR,hq3,rW,h30,hkp⟩:=RG.app0 (H:=H) (lo:=H.length) (b:=24) (row:=[.sl 1 [[.int .u8 32],[.int .u8 32],[.int .u8 32],[.int .u8 32],[.int .u8 32],[.int .u8 32]] (some 6)]) (hO.more [(⟨125,16,[[.int .i64 (f.line:Nat),.int .i64 (f.column:Nat),.int .u8 3,.X4,.int .u8 5,.int .u8 0,.str (Dp true 6),.int .i64 6,.int .i64 0,.bool false,.bool false,.bool false,.bool false,.bool false,.int .i64 6,.sl 5 [tkR 1 ⟨#[78]⟩ p 12] (some 1)]],0,0,false⟩:Xh)]) hq (Nat.le_refl _) (by rw[R6 hi];omega) (by omega) (by rw[Ll_];omega);have vX:(l++[(⟨125,16,[[.int .i64 (f.line:Nat),.int .i64 (f.column:Nat),.int .u8 3,.X4,.int .u8 5,.int .u8 0,.str (Dp true 6),.int .i64 6,.int .i64 0,.bool false,.bool false,.bool false,.bool false,.bool false,.int .i64 6,.sl 5 [tkR 1 ⟨#[78]⟩ p 12] (some 1)]],0,0,false⟩:Xh)])[0]?=some (sbO nm x p0 c0):=by rw[La_ vY];exact vM
   simp only[Lo_,List.cons_append,List.nil_append,Ll_,List.length_cons,List.length_nil,Nat.zero_add,Nat.reduceAdd]at yT;have zz:=aI hw (aI yD (aI wT (aI @List.append_assoc.{0} (aI @byteRows.eq_1 zz))));refine g20 (q:=Aa (by simp only[zo,zz];exact Sg (by omega) _) (g10 (q:=Bb 0 (b:=false) (h:=g16 (q:=Aa (by simp only[Al,aop,LOp.loud,lop,if_true,opd,zv];exact yT) (g9 (q:=?_)))))));exact⟨l0.length-(i+1),by omega,i+1,q3,l3,x3,_,_,_,_,_,_,_,_,by omega,rfl,rfl,rfl,by rw[R5 wB,wU];exact rR,hq3,by rw[h30];exact vX⟩
  obtain⟨rfl,rfl,rfl⟩:=wW (by omega);have hrx:Gs f p=[.int .i64 (f.line:Nat),.int .i64 (f.column:Nat),.int .u8 4,.X4,.int .u8 5,.int .u8 0,.str (Dp true 6),.int .i64 6,.int .i64 0,.bool false,.bool false,.bool false,.bool false,.bool false,.int .i64 6,.sl 5 [tkR 1 ⟨#[78]⟩ p 12] (some 1)]:=by rw[hrf,xC,yO];rw[hnu];rfl
  rw[hrx]at wT;have wU:vlF V l0[i]=.sl 1 (bR (edS V)) (some 6):=by rw[←uX];unfold vlF;rw[if_pos (by omega)]
  obtain⟨x3,l3,q3,yT,rR,hq3,rW,h30,hkp⟩:=RG.app0 (H:=H) (lo:=H.length) (b:=24) (row:=[.sl 1 (bR (edS V)) (some 6)]) (hO.more [(⟨125,16,[[.int .i64 (f.line:Nat),.int .i64 (f.column:Nat),.int .u8 4,.X4,.int .u8 5,.int .u8 0,.str (Dp true 6),.int .i64 6,.int .i64 0,.bool false,.bool false,.bool false,.bool false,.bool false,.int .i64 6,.sl 5 [tkR 1 ⟨#[78]⟩ p 12] (some 1)]],0,0,false⟩:Xh),(⟨168,12,[[.int .u8 4,.int .u8 0,.str ⟨#[57,57,57,57,57,57]⟩,.int .i64 6,.int .i64 0,.bool false,.bool false,.bool false,.bool false,.bool false,.int .i64 6,.sl 1 (bR V) (some 6)]],0,0,false⟩:Xh)]) hq (Nat.le_refl _) (by rw[R6 hi];omega) (by omega) (by rw[Ll_];omega);have vX:(l++[(⟨125,16,[[.int .i64 (f.line:Nat),.int .i64 (f.column:Nat),.int .u8 4,.X4,.int .u8 5,.int .u8 0,.str (Dp true 6),.int .i64 6,.int .i64 0,.bool false,.bool false,.bool false,.bool false,.bool false,.int .i64 6,.sl 5 [tkR 1 ⟨#[78]⟩ p 12] (some 1)]],0,0,false⟩:Xh),(⟨168,12,[[.int .u8 4,.int .u8 0,.str ⟨#[57,57,57,57,57,57]⟩,.int .i64 6,.int .i64 0,.bool false,.bool false,.bool false,.bool false,.bool false,.int .i64 6,.sl 1 (bR V) (some 6)]],0,0,false⟩:Xh)])[0]?=some (sbO nm x p0 c0):=by rw[La_ vY];exact vM
  simp only[Lo_,List.cons_append,List.nil_append,Ll_,List.length_cons,List.length_nil,Nat.zero_add,Nat.reduceAdd]at yT;have rz:=fun (m:List Xh) lo=>fieldV (d:=d) (by omega) hV.len (H:=H++m) (gm:=gm) (by rw[Bj xJ];exact hM) (p:Nat) ((12:Nat):Int) lo;have hmv:=fun S:St=>move9E_run (d:=d) (by omega) S hV (some 6);simp only[shpE]at hmv;have zz:=aI hw (aI yD (aI wT (aI @List.append_assoc.{0} (aI @byteRows.eq_1 zz))));refine g20 (q:=Aa (by simp only[zo,zz];exact Sg (by omega) _) (g10 (q:=Bb 0 (b:=false) (h:=g15 (q:=Aa (by simp only[zo,zz];exact rz _ _) (g23 (q:=Aa (by simp only[zo,zz];exact hmv _) (g20 (q:=Aa (by simp only[Al,aop,LOp.loud,lop,if_true,opd,zv];exact yT) (g9 (q:=?_)))))))))));exact⟨l0.length-(i+1),by omega,i+1,q3,l3,x3,_,_,_,_,_,_,_,_,by omega,rfl,rfl,rfl,by rw[R5 wB,wU];exact rR,hq3,by rw[h30];exact vX⟩
 have hi':i=l0.length:=by have:=of_decide_eq_false xZ;omega
 subst hi';have hsbH:(H++l)[H.length]?=some (sbO nm x p0 c0):=by rw[Bf];exact vM
 obtain⟨gv,vv,hv⟩:∃gv vv,SrcV (H++l) xv (l0.map (vlF V)) gv vv:=by
  rcases hO with⟨rfl,h0⟩ | ⟨vs,rfl,ho⟩
  ·
   have:l0=[]:=by
    have:=congrArg List.length h0;rw[R6 (Nat.le_refl _)]at this;exact List.length_eq_zero_iff.1 this
   subst this;exact⟨0,0,SrcV.nil _⟩
  rw[vlV_all]at ho;rw[vlV_all];exact⟨H.length+q,vs,SrcV.of (by rw[Bd];exact ho) (by simp[rws])⟩
 have hshow:=fun lo=>show_run (d:=d) (by omega) (P:=PV l0 V) (hS.mono l) (by rw[PV_fst];exact hR) hv (by rw[U4];omega) (by rw[U4,List.length_map]) (PV_fit hV zG _) nm p0 c0 lo;have zz:=aI hsbH zz;refine g9 (q:=Aa (by simp only[zo,zz];exact hshow _) (g19 (q:=Bq (fun n env S'=>∃(k:Nat) (u21:D),k≤24∧n=k∧S'=⟨H++l,H.length⟩∧env=[.ptr gm 0 0 0,.agg [.str nm,x,.int .i64 (p0:Nat),.int .i64 (c0:Nat)],.ptr H.length 0 0 0,.int .i64 0,xv,u5,u6,u7,u8,.sl 1 (Cs (Ak (PV l0 V)) k) (some 24),.int .i64 0,.undef,.undef,x,.int .i64 (rows.length:Nat),.int .i64 (l0.length:Nat),.bool (decide (((l0.length:Nat):Int)<((rows.length:Nat):Int))),u17,u18,u19,.bool false,u21,.undef,.undef,.undef,.undef,.undef,.undef]∧Hf (Ak (PV l0 V)) 24=Hf (Ak (PV l0 V)) k) (24) (by omega) (⟨24,_,by omega,rfl,rfl,by rw[show Cs _ 24=De _ 24 from List.take_of_length_le (by rw[Gy];exact Nat.le_refl _)];exact rfl,rfl⟩) ?_)));rintro n env S' ⟨k,u21,hk,hnk2,rfl,rfl,uU⟩;refine g7 (q:=Fy 0 (h:=fun hgAFB=>?_) (k:=fun hgAFB=>?_))
 ·
  have vO:0<k:=by have:=of_decide_eq_true hgAFB;have:=Gp (G:=(Ak (PV l0 V))) hk;omega
  have kC:IntKind.i64.wrap (((k:Nat):Int)-1)=((k-1:Nat):Int):=by rw[IntKind.wrap_i64];omega
  have zy:=Gp (G:=(Ak (PV l0 V))) hk;have hka:=Su (G:=(Ak (PV l0 V))) (k:=k) (i:=k-1) (by omega) hk;have hka0:(0:Int)≤((k-1:Nat):Int):=by omega
  have zz:=aI kC (aI zy (aI hka (aI hka0 (aI @Int.toNat_natCast zz))));refine g17 (q:=Bz (ht:=fun kY=>?_) (hf:=fun kY=>?_))
  ·
   have hem:empS (trS (Ak (PV l0 V)) (k-1))=true:=kY
   have kN:Hf (Ak (PV l0 V)) 24=Hf (Ak (PV l0 V)) (k-1):=by
    rw[uU];obtain⟨j,rfl⟩:∃j,k=j+1:=⟨k-1,by omega⟩;rw[Hf,Nat.add_sub_cancel]at *;rw[if_pos hem]
   have zu:∀S:St,D5 S 1 (.sl 1 (Cs (Ak (PV l0 V)) k) (some 24)) none (some (.int .i64 ((k-1:Nat):Int))) none=some (.sl 1 (Cs (Ak (PV l0 V)) (k-1)) (some 24)):=fun S=>by
    simp[D5,Ch,Er,Dj,zy,keptG_take]
   have zz:=aI zu zz;refine g8 (q:=Aa (by simp only[zl,zm,Bt,zz]<;>exact rfl) (g4 (q:=?_)));exact⟨k-1,by omega,k-1,_,by omega,rfl,rfl,rfl,kN⟩
  have qL:Hf (Ak (PV l0 V)) 24=k:=by
   rw[uU];obtain⟨j,rfl⟩:∃j,k=j+1:=⟨k-1,by omega⟩;rw[Hf,if_neg];have h:empS (trS (Ak (PV l0 V)) j)=false:=kY;rw[h];exact Bool.false_ne_true
  have zy:=Gp (G:=(Ak (PV l0 V))) hk;have kC:IntKind.i64.wrap (0+((k:Nat):Int))=((k:Nat):Int):=by rw[IntKind.wrap_i64];omega
  have kZ:decide (((k:Nat):Int)>4096)=false:=decide_eq_false (by omega);have hcz:(H++(l++[(⟨24,1,[[.X4],[.sl 1 (Cs (Ak (PV l0 V)) k) (some 24)]],0,0,false⟩:Xh)]))[H.length+l.length]?=some ⟨24,1,[[.X4],[.sl 1 (Cs (Ak (PV l0 V)) k) (some 24)]],0,0,false⟩:=by rw[Bd,Bf];rfl
  have yw:Hr false (catY (Cs (Ak (PV l0 V)) k))=some (.int .i64 (k:Nat)):=by rw[(catY_S _).len,zy]
  have zz:=aI kC (aI zy (aI kZ (aI yw zz)));refine g36 (q:=Aa (by simp only[zo,zz];exact concat_run (by omega) hcz (by rw[Gp hk];omega) _) (g5 (q:=Bq (fun n env S'=>∃(i:Nat) (r:Int) (w21 u12 u26 u27:D),i≤k∧n=k-i∧S'=⟨H++(l++[⟨24,1,[[.X4],[.sl 1 (Cs (Ak (PV l0 V)) k) (some 24)]],0,0,false⟩]),H.length⟩∧env=[.ptr gm 0 0 0,.agg [.str nm,x,.int .i64 (p0:Nat),.int .i64 (c0:Nat)],.ptr H.length 0 0 0,.int .i64 0,xv,u5,u6,u7,u8,.sl 1 (Cs (Ak (PV l0 V)) k) (some 24),.int .i64 0,.int .i64 r,u12,x,.int .i64 (rows.length:Nat),.int .i64 (l0.length:Nat),.bool (decide (((l0.length:Nat):Int)<((rows.length:Nat):Int))),u17,u18,u19,.bool false,w21,.bool false,catY (Cs (Ak (PV l0 V)) k),.int .i64 (k:Nat),.int .i64 (i:Nat),u26,u27]∧65536-80*(i:Int)≤r∧r≤65536) (k) (by omega) (⟨0,65536,_,_,_,_,by omega,by omega,rfl,rfl,by omega,by omega⟩) ?_)));rintro n env S' ⟨i,r,w21,u12,u26,u27,zD,hnk3,rfl,rfl,hr1,zN⟩;refine g6 (q:=Bz (ht:=fun rQ=>?_) (hf:=fun rQ=>?_))
  ·
   have xq:i<k:=by have:=of_decide_eq_true rQ;omega
   have hw:=Bu i (by omega);have hcat:=fun S:St=>(catY_S (Cs (Ak (PV l0 V)) k)).iaddrN S .i64 (Su (G:=(Ak (PV l0 V))) (k:=k) (i:=i) xq (by omega));obtain⟨t,ht⟩:∃t,t=trS (Ak (PV l0 V)) i:=⟨_,rfl⟩;have zQ:t.size≤80:=by rw[ht];exact trS_le _ _
   rw[←ht]at hcat;have xM:((65537:Int)<((t.size:Nat):Int))=False:=eq_false (by omega);have qW:IntKind.i64.wrap (r-((t.size:Nat):Int))=r-((t.size:Nat):Int):=by rw[IntKind.wrap_i64];omega
   have hneg:decide (r-((t.size:Nat):Int)<0)=false:=decide_eq_false (by omega);have zz:=aI hw (aI hcat (aI xM (aI qW (aI hneg zz))));refine g36 (q:=?_);exact⟨k-(i+1),by omega,i+1,_,w21,_,_,_,by omega,rfl,rfl,rfl,by omega,by omega⟩
  by_cases hR0:Cs (Ak (PV l0 V)) k=[]
  ·
   have q8:∀S:St,Bo 9 1 16 1 .X4 (.sl 1 (Cs (Ak (PV l0 V)) k) (some 24)) S=some (.X4,S,false):=fun S=>by rw[hR0];rfl
   refine g13 (q:=Aa (by simp only[Al,aop,LOp.loud,lop,if_true,opd,zv];exact q8 _) (g11 (q:=?_)));refine⟨_,⟨l++[(⟨24,1,[[.X4],[.sl 1 (Cs (Ak (PV l0 V)) k) (some 24)]],0,0,false⟩:Xh)],.X4,rfl,.inl ⟨rfl,by rw[qL];exact hR0⟩⟩,?_⟩;refine fq (h:=?_);simp[leave,LP,Xt,Xp,snap,D.Xr,D.Xq,D.free,D.Xw,Ah,STo,uN,yK,zV,Em xJ]
  have q8:∀S:St,Bo 9 1 16 1 .X4 (.sl 1 (Cs (Ak (PV l0 V)) k) (some 24)) S=some (.msl S.heap.length 0 0 (Cs (Ak (PV l0 V)) k).length none,newAt S ⟨9,1,Cs (Ak (PV l0 V)) k,0,1,true⟩,true):=fun S=>by
   have hb:(Cs (Ak (PV l0 V)) k).length*16≤140737488355328:=by rw[Gp (by omega)];omega
   simp[Bo,Bw,Av,hR0,hb]
  refine g13 (q:=Aa (by simp only[Al,aop,LOp.loud,lop,if_true,opd,zv];exact q8 _) (g11 (q:=?_)));refine⟨_,⟨l++[(⟨24,1,[[.X4],[.sl 1 (Cs (Ak (PV l0 V)) k) (some 24)]],0,0,false⟩:Xh),⟨9,1,Cs (Ak (PV l0 V)) k,0,1,true⟩],_,rfl,.inr ⟨l.length+1,by rw[qL],by rw[qL];simp⟩⟩,?_⟩;refine fq (h:=?_);simp[leave,LP,Xt,Xp,snap,D.Xr,D.Xq,D.free,D.Xw,Ah,STo,uN,yK,zV,Em xJ,zy]
 have vO:k=0:=by have:=of_decide_eq_false hgAFB;have:=Gp (G:=(Ak (PV l0 V))) hk;omega
 have qL:Hf (Ak (PV l0 V)) 24=k:=by rw[uU,vO];rfl
 have zy:=Gp (G:=(Ak (PV l0 V))) hk;have kC:IntKind.i64.wrap (0+((k:Nat):Int))=((k:Nat):Int):=by rw[IntKind.wrap_i64];omega
 have kZ:decide (((k:Nat):Int)>4096)=false:=decide_eq_false (by omega);have hcz:(H++(l++[(⟨24,1,[[.X4],[.sl 1 (Cs (Ak (PV l0 V)) k) (some 24)]],0,0,false⟩:Xh)]))[H.length+l.length]?=some ⟨24,1,[[.X4],[.sl 1 (Cs (Ak (PV l0 V)) k) (some 24)]],0,0,false⟩:=by rw[Bd,Bf];rfl
 have yw:Hr false (catY (Cs (Ak (PV l0 V)) k))=some (.int .i64 (k:Nat)):=by rw[(catY_S _).len,zy]
 have zz:=aI kC (aI zy (aI kZ (aI yw zz)));refine g47 (q:=Aa (by simp only[zo,zz];exact concat_run (by omega) hcz (by rw[Gp hk];omega) _) (g5 (q:=Bq (fun n env S'=>∃(i:Nat) (r:Int) (w21 u12 u26 u27:D),i≤k∧n=k-i∧S'=⟨H++(l++[⟨24,1,[[.X4],[.sl 1 (Cs (Ak (PV l0 V)) k) (some 24)]],0,0,false⟩]),H.length⟩∧env=[.ptr gm 0 0 0,.agg [.str nm,x,.int .i64 (p0:Nat),.int .i64 (c0:Nat)],.ptr H.length 0 0 0,.int .i64 0,xv,u5,u6,u7,u8,.sl 1 (Cs (Ak (PV l0 V)) k) (some 24),.int .i64 0,.int .i64 r,u12,x,.int .i64 (rows.length:Nat),.int .i64 (l0.length:Nat),.bool (decide (((l0.length:Nat):Int)<((rows.length:Nat):Int))),u17,u18,u19,.bool false,w21,.bool false,catY (Cs (Ak (PV l0 V)) k),.int .i64 (k:Nat),.int .i64 (i:Nat),u26,u27]∧65536-80*(i:Int)≤r∧r≤65536) (k) (by omega) (⟨0,65536,_,_,_,_,by omega,by omega,rfl,rfl,by omega,by omega⟩) ?_)));rintro n env S' ⟨i,r,w21,u12,u26,u27,zD,hnk3,rfl,rfl,hr1,zN⟩;refine g6 (q:=Bz (ht:=fun yQ=>?_) (hf:=fun yQ=>?_))
 ·
  have xq:i<k:=by have:=of_decide_eq_true yQ;omega
  have hw:=Bu i (by omega);have hcat:=fun S:St=>(catY_S (Cs (Ak (PV l0 V)) k)).iaddrN S .i64 (Su (G:=(Ak (PV l0 V))) (k:=k) (i:=i) xq (by omega));obtain⟨t,ht⟩:∃t,t=trS (Ak (PV l0 V)) i:=⟨_,rfl⟩;have zQ:t.size≤80:=by rw[ht];exact trS_le _ _
  rw[←ht]at hcat;have xM:((65537:Int)<((t.size:Nat):Int))=False:=eq_false (by omega);have qW:IntKind.i64.wrap (r-((t.size:Nat):Int))=r-((t.size:Nat):Int):=by rw[IntKind.wrap_i64];omega
  have hneg:decide (r-((t.size:Nat):Int)<0)=false:=decide_eq_false (by omega);have zz:=aI hw (aI hcat (aI xM (aI qW (aI hneg zz))));refine g36 (q:=?_);exact⟨k-(i+1),by omega,i+1,_,w21,_,_,_,by omega,rfl,rfl,rfl,by omega,by omega⟩
 by_cases hR0:Cs (Ak (PV l0 V)) k=[]
 ·
  have q8:∀S:St,Bo 9 1 16 1 .X4 (.sl 1 (Cs (Ak (PV l0 V)) k) (some 24)) S=some (.X4,S,false):=fun S=>by rw[hR0];rfl
  refine g13 (q:=Aa (by simp only[Al,aop,LOp.loud,lop,if_true,opd,zv];exact q8 _) (g11 (q:=?_)));refine⟨_,⟨l++[(⟨24,1,[[.X4],[.sl 1 (Cs (Ak (PV l0 V)) k) (some 24)]],0,0,false⟩:Xh)],.X4,rfl,.inl ⟨rfl,by rw[qL];exact hR0⟩⟩,?_⟩;refine fq (h:=?_);simp[leave,LP,Xt,Xp,snap,D.Xr,D.Xq,D.free,D.Xw,Ah,STo,uN,yK,zV,Em xJ]
 have q8:∀S:St,Bo 9 1 16 1 .X4 (.sl 1 (Cs (Ak (PV l0 V)) k) (some 24)) S=some (.msl S.heap.length 0 0 (Cs (Ak (PV l0 V)) k).length none,newAt S ⟨9,1,Cs (Ak (PV l0 V)) k,0,1,true⟩,true):=fun S=>by
  have hb:(Cs (Ak (PV l0 V)) k).length*16≤140737488355328:=by rw[Gp (by omega)];omega
  simp[Bo,Bw,Av,hR0,hb]
 refine g13 (q:=Aa (by simp only[Al,aop,LOp.loud,lop,if_true,opd,zv];exact q8 _) (g11 (q:=?_)));refine⟨_,⟨l++[(⟨24,1,[[.X4],[.sl 1 (Cs (Ak (PV l0 V)) k) (some 24)]],0,0,false⟩:Xh),⟨9,1,Cs (Ak (PV l0 V)) k,0,1,true⟩],_,rfl,.inr ⟨l.length+1,by rw[qL],by rw[qL];simp⟩⟩,?_⟩;refine fq (h:=?_);simp[leave,LP,Xt,Xp,snap,D.Xr,D.Xq,D.free,D.Xw,Ah,STo,uN,yK,zV,Em xJ,zy]
def edD (W:List UInt8):D:=.sl 1 (bR (edS W)) (some 6)
def Q6 (ws:List (Nat × List UInt8)):List (Nat × D):=ws.map fun p=>(p.1,edD p.2)
def OkW (l0:List FM) (p:Nat × List UInt8):Prop:=D6 p.2∧∃f,l0[p.1]?=some f∧3≤f.kind
def OkT (T:Nat→Nat→D × Bool):Prop:=∀i j,(T i j).2=true→∃W,D6 W∧(T i j).1=edD W
theorem findOk_T{T:Nat→D × Bool}{m j:Nat}{r:Nat × D}(h:Ez T m j=some r):∃k,(T k).2=true∧r.2=(T k).1:=by
 induction hk:m-j generalizing j with
 | zero =>
  rw[Ez,if_neg (by omega)]at h;cases h
 | succ n ih =>
  rw[Ez,if_pos (by omega)]at h;split at h
  ·
   rename_i ht;cases h;exact⟨j,ht,rfl⟩
  exact ih h (by omega)
theorem accF_ws{T:Nat→Nat→D × Bool}{m:Nat}{l0:List FM}(hT:OkT T):∀{l:List FM} {i used:Nat} {out:List (Nat × D)} {u:Nat} {o:List (Nat × D)},l=l0.drop i→(∃ws,out=Q6 ws∧∀p∈ws,OkW l0 p)→H7 T m l i used out=some (u,o)→∃ws,o=Q6 ws∧∀p∈ws,OkW l0 p
 | [],i,used,out,u,o,hl,hw,h=>by
  rw[H7]at h;cases h;exact hw
 | f :: l, i, used, out, u, o, hl, hw, h => by
  have hi:l0[i]?=some f:=by
   have:=congrArg List.head? hl;rw[List.head?_cons,List.head?_drop]at this;exact this.symm
  have hl':l=l0.drop (i+1):=by
   have:=congrArg List.tail hl;rw[List.tail_cons,List.tail_drop]at this;exact this
  rw[H7]at h;split at h
  ·
   exact accF_ws hT hl' hw h
  rename_i hk
  cases hf:Ez (T i) m used with
  | none=>rw[hf]at h;cases h
  | some jb =>
   obtain⟨j,b⟩:=jb;rw[hf]at h;obtain⟨k,h1,h2⟩:=findOk_T hf;obtain⟨W,hW,he⟩:=hT i k h1;obtain⟨ws,rfl,qW⟩:=hw;refine accF_ws hT hl' ⟨ws++[(i,W)],?_,fun p hp=>?_⟩ h
   ·
    have h3:b=edD W:=h2.trans he;rw[h3];simp[Q6]
   rcases List.mem_append.1 hp with hp | hp
   ·
    exact qW p hp
   rw[List.mem_singleton]at hp;subst hp;exact⟨hW,f,hi,by omega⟩
theorem accF_u{T:Nat→Nat→D × Bool}{m:Nat}{l:List FM}{u:Nat}{o:List (Nat × D)}(h:H7 T m l 0 0 []=some (u,o)):u≤m:=accF_len (Nat.zero_le _) h
def Ws (V:List UInt8) (ws:List (Nat × List UInt8)):Nat→List UInt8
 | 0=>V
 | j+1=>(ws[j]?.map (·.2)).getD V
theorem curV_D6{V:List UInt8}(hV:D6 V){l0:List FM}{ws:List (Nat × List UInt8)}(qW:∀p∈ws,OkW l0 p):∀i,D6 (Ws V ws i)
 | 0=>hV
 | j+1=>by
  show D6 ((ws[j]?.map (·.2)).getD V)
  cases h:ws[j]? with
  | none=>exact hV
  | some p=>exact (qW p (Lm h)).1
theorem FL.keep2{H H':List Xh}{gs:Nat}{x:D}{rows:List (List D)}(h:FL H gs x rows)(hk:∀o:Xh,H[gs]?=some o→o.elem=125→H'[gs]?=some o):FL H' gs x rows:=by
 rcases h with h | ⟨vs,h1,h2⟩
 ·
  exact .inl h
 exact .inr ⟨vs,h1,hk _ h2 rfl⟩
theorem TL.keep2{H H':List Xh}{gs:Nat}{x:D}{rows:List (List D)}(h:TL H gs x rows)(hk:∀o:Xh,H[gs]?=some o→o.elem=83→H'[gs]?=some o):TL H' gs x rows:=by
 rcases h with h | ⟨vs,h1,h2⟩
 ·
  exact .inl h
 exact .inr ⟨vs,h1,hk _ h2 rfl⟩
theorem tyRows_at{ws:List (Nat × List UInt8)}{i:Nat}{p:Nat × List UInt8}(h:ws[i]?=some p):(Fp (Q6 ws))[i]?=some [.int .i64 (p.1:Nat),edD p.2]:=by simp[Fp,Q6,h]
theorem O9(ws:List (Nat × List UInt8)):(Q6 ws).length=ws.length:=by simp[Q6]
theorem keepS{H:List Xh}{g k:Nat}{a b:List Xh}{z:Xh}(hk:k<H.length)(hn:k≠g):((H++a).set g z++b)[k]?=H[k]?:=by
 rw[La_ (by rw[List.length_set,Ll_];omega),Ln_ (by omega),La_ hk]
theorem keepG{H:List Xh}{g:Nat}{a b:List Xh}{z:Xh}(hg:g<H.length):((H++a).set g z++b)[g]?=some z:=by
 rw[La_ (by rw[List.length_set,Ll_];omega),List.getElem?_set_self (by rw[Ll_];omega)]
theorem acceptN{d:Nat}(hd:34≤d){H:List Xh}{gm gd:Nat}{inn ou x0:D}{V:List UInt8}{rows:List (List D)}{gs:Nat}{l0:List FM}{ls:List ByteArray}{T:Nat→Nat→D × Bool}(hV:D6 V)(hM:H[gm]?=some (STo (.sl 1 (bR V) (some 6)) inn ou gd))(hF:FL H gs x0 rows)(hR:RW l0 rows)(zG:Big l0)(xg:l0.length≤8)(yC:SlD 1 (Cx ls) inn)(qZ:ls.length≤1000)
  (hT:∀i j p (hi:i<l0.length) (hj:j<ls.length),3≤l0[i].kind→(∀d',26≤d'→∀S,Ae LP NN d' 45 [.agg (Gs l0[i] p),.str ls[j]] S=some (.tup [(T i j).1,.bool (T i j).2],S,false))∧∃ys,SlD 1 ys (T i j).1) (hn:H7 T ls.length l0 0 0 []=none) (nm:ByteArray) (p0 c0:Nat) (lo:Nat):Ae LP NN d 42 [.ptr gm 0 0 0,.agg [.str nm,Br x0,.int .i64 (p0:Nat),.int .i64 (c0:Nat)]] ⟨H,lo⟩=some (.int .i64 7,⟨H,lo⟩,false):=by
 have yI:=hR.len;have xJ:=Aj hM;have uN:min H.length gm=gm:=by omega
 have yK:¬H.length≤gm:=by omega
 have zV:min lo (min H.length gm)=min lo gm:=by omega
 obtain⟨v,hS⟩:=hF.src;obtain⟨r,hr,zC⟩:=Od (d:=d-1) (by omega) (T:=T) (lo:=H.length) (hS.mono [(sbO nm (Br x0) p0 c0)]) hR yC (by omega) qZ (fun i j p hi hj hk=>⟨fun d' e S=>(hT i j p hi hj hk).1 d' (by omega) S,(hT i j p hi hj hk).2⟩) nm p0 c0 (by simp);rw[hn]at hr;simp only[AccR]at hr;subst hr;have zz:=aI hS.len (aI hS.cell (aI hM (aI (fun l=>@Bj _ l _ xJ) (aI @STo.eq_1 (aI @Bd (aI @Bf (aI @Cb (aI @Ca (aI hS.zero @Bool.false_and)))))))));refine raz (hb:=?_);rintro d rfl;refine g12 (q:=Ao (by simp only[zl,zm,zd,Ci,List.take,List.drop,zz]<;>exact rfl) (by simp only[Ac,zo,zq]<;>exact rfl) (by first | rfl | (simp[show ob 14 4=[true,true,true,false] from rfl,Xo,Ay,Ar,Cf,Ap,Bn,djl,djr,djs,Am,Af,Az,Ba,Cq,Bv,Cc,Aw];done) | (cases wr<;>simp[show ob 14 4=[true,true,true,false] from rfl,Xo,Ay,Ar,Cf,Ap,Bn,djl,djr,djs,Am,Af,Az,Ba,Cq,Bv,Cc,Aw])) (Ao (by simp only[zo,zz];exact zC) (by simp only[Ac,zo,zq]<;>exact rfl) (by first | rfl | (simp[show ob 31 5=[true,true,true,true,true] from rfl,Xo,Ay,Ar,Cf,Ap,Bn,djl,djr,djs,Am,Af,Az,Ba,Cq,Bv,Cc,Aw];done) | (cases wr<;>simp[show ob 31 5=[true,true,true,true,true] from rfl,Xo,Ay,Ar,Cf,Ap,Bn,djl,djr,djs,Am,Af,Az,Ba,Cq,Bv,Cc,Aw])) (g25 (q:=fq (h:=?_)))));simp[leave,LP,Xt,Xp,snap,D.Xr,D.Xq,D.free,D.Xw,Ah]
theorem TL.src{H:List Xh}{go:Nat}{y:D}{rows:List (List D)}(h:TL H go y rows):∃v,Hr false y=some (.int .i64 (rows.length:Nat))∧(∀lo i,i<rows.length→Fe ⟨H,lo⟩ 2 y (.int .i64 (i:Nat))=some (.ptr go v i 0))∧(∀lo i a b,rows[i]?=some [a,b]→G6 2 true ⟨H,lo⟩ (.ptr go v i 0)=some (.agg [a,b])):=by
 rcases h with⟨rfl,rfl⟩ | ⟨vs,rfl,ho⟩
 ·
  exact⟨0,rfl,fun _ i h=>absurd h (by simp),fun _ i a b h=>by simp at h⟩
 refine⟨vs,rfl,fun lo i h=>?_,fun lo i a b h=>?_⟩
 ·
  simp[Fe,rowsOf,ho,h]
 simp[G6,rowsOf,ho,h,Ci]
theorem acceptS{d:Nat}(hd:34≤d){H:List Xh}{gm gd:Nat}{inn ou x0:D}{V:List UInt8}{rows:List (List D)}{gs:Nat}{l0:List FM}{ls:List ByteArray}{T:Nat→Nat→D × Bool}(hV:D6 V)(hM:H[gm]?=some (STo (.sl 1 (bR V) (some 6)) inn ou gd))(hF:FL H gs x0 rows)(hR:RW l0 rows)(zG:Big l0)(xg:l0.length≤8)(yC:SlD 1 (Cx ls) inn)(qZ:ls.length≤1000)
  (hT:∀i j p (hi:i<l0.length) (hj:j<ls.length),3≤l0[i].kind→(∀d',26≤d'→∀S,Ae LP NN d' 45 [.agg (Gs l0[i] p),.str ls[j]] S=some (.tup [(T i j).1,.bool (T i j).2],S,false))∧∃ys,SlD 1 ys (T i j).1) {u:Nat} {ws:List (Nat × List UInt8)} (zT:H7 T ls.length l0 0 0 []=some (u,Q6 ws)) (qW:∀p∈ws,OkW l0 p) (hwl0:ws.length≤1000) (nm:ByteArray) (p0 c0:Nat) (lo:Nat) :
  ∃r,(∃Hn,r=(.int .i64 0,⟨Hn,min lo gm⟩,true)∧H.length≤Hn.length∧(∀k,k<H.length→k≠gm→Hn[k]?=H[k]?)∧Hn[gm]?=some (STo (.sl 1 (bR (Ws V ws ws.length)) (some 6)) (Cu u inn) ou gd))∧Ae LP NN d 42 [.ptr gm 0 0 0,.agg [.str nm,Br x0,.int .i64 (p0:Nat),.int .i64 (c0:Nat)]] ⟨H,lo⟩=some r:=by
 have yI:=hR.len;have xJ:=Aj hM;have uN:min H.length gm=gm:=by omega
 have yK:¬H.length≤gm:=by omega
 have zV:min lo (min H.length gm)=min lo gm:=by omega
 obtain⟨v,hS⟩:=hF.src;obtain⟨r,hr,zC⟩:=Od (d:=d-1) (by omega) (T:=T) (lo:=H.length) (hS.mono [(sbO nm (Br x0) p0 c0)]) hR yC (by omega) qZ (fun i j p hi hj hk=>⟨fun d' e S=>(hT i j p hi hj hk).1 d' (by omega) S,(hT i j p hi hj hk).2⟩) nm p0 c0 (by simp);rw[zT]at hr;simp only[AccR]at hr;obtain⟨y,H',go,wr,rfl,hTL,hHl,hHk,hu⟩:=hr;have hHl1:H.length+1≤H'.length:=by simpa using hHl
 have hM':H'[gm]?=some (STo (.sl 1 (bR V) (some 6)) inn ou gd):=(hHk gm (by simp;omega)).trans (by rw[Bj xJ];exact hM);have hB':H'[H.length]?=some (sbO nm (Br x0) p0 c0):=(hHk H.length (by simp)).trans (Bf H _);have hF':FL H' gs x0 rows:=hF.keep2 fun o ho he=>(hHk gs (by have:=Aj ho;simp;omega)).trans (by rw[Bj (Aj ho)];exact ho)
 have hyl0:Hr false y=some (.int .i64 (ws.length:Nat)):=by
  obtain⟨v0,h,-⟩:=hTL.src;rw[h,Iy,O9]
 have hwl:ws.length≤1000:=hwl0;refine Kc (F:=F42) (P:=fun r=>∃Hn,r=(.int .i64 0,⟨Hn,min lo gm⟩,true)∧H.length≤Hn.length∧(∀k,k<H.length→k≠gm→Hn[k]?=H[k]?)∧Hn[gm]?=some (STo (.sl 1 (bR (Ws V ws ws.length)) (some 6)) (Cu u inn) ou gd)) rfl (by simp only[LP,Ah,Bl,zs,zm,zv,hS.zero,Bool.false_and]<;>exact rfl) rfl (by simp only[LP,zf,zm];try rfl) (by simp only[F42,P42,mkP,zv]<;>exact rfl) (by omega) ?_;rintro d rfl;have zz:=aI hS.len (aI hS.cell (aI hM (aI (fun l=>@Bj _ l _ xJ) (aI @STo.eq_1 (aI @Bd (aI @Bf (aI @Cb (aI @Ca (aI hS.zero hyl0)))))))));refine g12 (q:=Ao (by simp only[zl,zm,zd,Ci,List.take,List.drop,zz]<;>exact rfl) (by simp only[Ac,zo,zq]<;>exact rfl) (by first | rfl | (simp[show ob 14 4=[true,true,true,false] from rfl,Xo,Ay,Ar,Cf,Ap,Bn,djl,djr,djs,Am,Af,Az,Ba,Cq,Bv,Cc,Aw];done) | (cases wr<;>simp[show ob 14 4=[true,true,true,false] from rfl,Xo,Ay,Ar,Cf,Ap,Bn,djl,djr,djs,Am,Af,Az,Ba,Cq,Bv,Cc,Aw])) (Ao (by simp only[zo,zz];exact zC) (by simp only[Ac,zo,zq]<;>exact rfl) (by first | rfl | (simp[show ob 31 5=[true,true,true,true,true] from rfl,Xo,Ay,Ar,Cf,Ap,Bn,djl,djr,djs,Am,Af,Az,Ba,Cq,Bv,Cc,Aw];done) | (cases wr<;>simp[show ob 31 5=[true,true,true,true,true] from rfl,Xo,Ay,Ar,Cf,Ap,Bn,djl,djr,djs,Am,Af,Az,Ba,Cq,Bv,Cc,Aw])) (g28 (q:=Bq (fun n env S'=>∃(i:Nat) (Hc:List Xh) (lw:Nat) (u7 u8 u9 u14 u15:D),i≤ws.length∧n=ws.length-i∧S'=⟨Hc,lw⟩∧env=[.ptr gm 0 0 0,.agg [.str nm,Br x0,.int .i64 (p0:Nat),.int .i64 (c0:Nat)],.ptr H.length 0 0 0,.int .i64 0,y,.int .i64 (u:Nat),.int .i64 0,u7,u8,u9,.bool false,y,.int .i64 (ws.length:Nat),.int .i64 (i:Nat),u14,u15]∧H.length+1≤Hc.length∧gm≤lw∧lw≤H.length∧Hc[gm]?=some (STo (.sl 1 (bR (Ws V ws i)) (some 6)) inn ou gd)∧(∀k,k≤H.length→k≠gm→Hc[k]?=H'[k]?)∧FL Hc gs x0 rows∧TL Hc go y (Fp (Q6 ws))) (ws.length) (by omega) (⟨0,H',H.length,_,_,_,_,_,by omega,by omega,rfl,rfl,hHl1,by omega,Nat.le_refl _,hM',fun k _ _=>rfl,hF',hTL⟩) ?_))));rintro n env S' ⟨i,Hc,lw,u7,u8,u9,u14,u15,hi,kL,rfl,rfl,yw,hlw1,hlw2,hMc,hkc,hFc,hTc⟩;refine g6 (q:=Bz (ht:=fun xZ=>?_) (hf:=fun xZ=>?_))
 ·
  have xq:i<ws.length:=by have:=of_decide_eq_true xZ;omega
  have hw:=Bu i (by omega);have hgc:gm<Hc.length:=Aj hMc;obtain⟨pw,hpw⟩:∃p,ws[i]?=some p:=⟨_,Lg xq⟩;obtain⟨hW,f,hf,rX⟩:=qW pw (Lm hpw);obtain⟨hfi,uX⟩:=List.getElem?_eq_some_iff.1 hf
  have hcv:Ws V ws (i+1)=pw.2:=by
   show (ws[i]?.map (·.2)).getD V=pw.2;rw[hpw];rfl
  have hDc:=curV_D6 hV qW i;obtain⟨vy,hyl,hya,hyd⟩:=hTc.src;have hya:=hya lw i (by rw[Iy,O9];exact xq);have hyd:=hyd lw i _ _ (tyRows_at hpw);obtain⟨vc,hSc⟩:=hFc.src;have hrl2:pw.1<rows.length:=by rw[yI];exact hfi
  have yD:=fun l lo=>hSc.ia l lo pw.1 hrl2;obtain⟨pp,xO⟩:=hR.at_ hfi;rw[uX]at xO;have wT:=fun (l:List Xh) lo=>hSc.ld l lo pw.1 _ xO (by rw[Mj];exact Nat.le_refl _);rw[Mi]at wT;obtain⟨hnu,xC⟩:=zG f (Lm hf);obtain⟨tx,op,nu,r1,r2,hrf,kE,yR,y7,wW⟩:=Ke f pp;obtain⟨rfl,rfl,rfl⟩:=wW (by omega);have hrx:Gs f pp=[.int .i64 (f.line:Nat),.int .i64 (f.column:Nat),.int .u8 (f.kind:Nat),.X4,.int .u8 5,.int .u8 0,.str (Dp true 6),.int .i64 6,.int .i64 0,.bool false,.bool false,.bool false,.bool false,.bool false,.int .i64 6,.sl 5 [tkR 1 ⟨#[78]⟩ pp 12] (some 1)]:=by rw[hrf,xC,hnu];rfl
  rw[hrx]at wT;have hBc:Hc[H.length]?=some (sbO nm (Br x0) p0 c0):=(hkc H.length (Nat.le_refl _) (by omega)).trans hB';have hBl:=Aj hBc;have hmw0:min lw Hc.length=lw:=by omega
  have hmw1:min lw (Hc.length+1)=lw:=by omega
  have hsm:=fun (l:List Xh) lo=>smove_run (d:=d) (by omega) hDc hW (some 6) (H:=Hc++l) (gm:=gm) (by rw[Bj hgc];exact hMc) (pp:Nat) ((12:Nat):Int) lo;have zz:=aI hw (aI hya (aI hyd (aI yD (aI wT (aI hmw0 (aI hmw1 (aI (fun l=>@Bj _ l _ hBl) (aI hBc (aI @edD.eq_1 (aI hSc.cell zz))))))))));refine g34 (q:=Aa (by simp only[zo,zz];exact hsm _ _) (g18 (q:=?_)));refine⟨ws.length-(i+1),by omega,i+1,_,_,_,_,_,_,_,by omega,rfl,rfl,rfl,?_,?_,?_,?_,fun k hk hn=>?_,?_,?_⟩
  ·
   simp;omega
  ·
   omega
  ·
   omega
  ·
   rw[keepG hgc,hcv];exact rfl
  ·
   rw[keepS (by omega) hn];exact hkc k hk hn
  ·
   exact hFc.keep2 fun o ho he=>by
    rw[keepS (Aj ho) (by rintro rfl;rw[hMc]at ho;cases ho;exact absurd (show (63:Nat)=125 from he) (by decide))];exact ho
  exact hTc.keep2 fun o ho he=>by
   rw[keepS (Aj ho) (by rintro rfl;rw[hMc]at ho;cases ho;exact absurd (show (63:Nat)=83 from he) (by decide))];exact ho
 have hi':i=ws.length:=by have:=of_decide_eq_false xZ;omega
 subst hi';have hgc:gm<Hc.length:=Aj hMc;have zu:∀S:St,D5 S 1 inn (some (.int .i64 (u:Nat))) none none=some (Cu u inn):=fun S=>yC.slice_lo S .i64 (by rw[Fg];exact accF_u zT);have zH:=yC.drop u;have zz:=aI hMc (aI zu (aI zH.val (aI zH.cells (aI zH.Xv zz))));refine g13 (q:=Aa (by simp only[zl,zm,Bt,zz]<;>exact rfl) (g11 (q:=?_)));refine⟨_,⟨Hc.set gm (STo (.sl 1 (bR (Ws V ws ws.length)) (some 6)) (Cu u inn) ou gd),rfl,?_,fun k hk hn=>?_,?_⟩,?_⟩
 rotate_left 3
 ·
  refine fq (h:=?_);have wS:min lo (min H.length (min lw gm))=min lo gm:=by omega
  have hm2:¬H.length≤min lw gm:=by omega
  have hm3:min lo (min lw gm)=min lo gm:=by omega
  have hm4:min lw gm=gm:=by omega
  simp[leave,LP,Xt,Xp,snap,D.Xr,D.Xq,D.free,D.Xw,Ah,wS,hm2,hm3,hm4,yK,zV,STo]
 ·
  rw[List.length_set];omega
 ·
  rw[Ln_ (by omega),hkc k (by omega) hn,hHk k (by simp;omega),Bj hk]
 rw[List.getElem?_set_self hgc]
def DKo (gl:Nat):Xh:=⟨106,2,[[.msl gl 1 0 1 none,.ifc 52 (.agg [])]],0,0,false⟩
def SLo (xa:D):Xh:=⟨32,4,[[.str nmA,xa,.int .i64 ((1:Nat):Int),.int .i64 ((12:Nat):Int)]],1,0,true⟩
theorem vDD:(((⟨#[68,73,83,80,76,65,89]⟩:ByteArray).toList==(⟨#[68,73,83,80,76,65,89]⟩:ByteArray).toList))=true:=by decide +kernel
theorem vDA:(((⟨#[68,73,83,80,76,65,89]⟩:ByteArray).toList==(⟨#[65,67,67,69,80,84]⟩:ByteArray).toList))=false:=by decide +kernel
theorem vAD:(((⟨#[65,67,67,69,80,84]⟩:ByteArray).toList==(⟨#[68,73,83,80,76,65,89]⟩:ByteArray).toList))=false:=by decide +kernel
theorem vAA:(((⟨#[65,67,67,69,80,84]⟩:ByteArray).toList==(⟨#[65,67,67,69,80,84]⟩:ByteArray).toList))=true:=by decide +kernel
theorem other_run{d:Nat}(hd:1≤d)(H:List Xh)(gm:Nat)(v n:ByteArray)(st:Int)(lo:Nat):Ae LP NN d 400 [.agg [],.ptr gm 0 0 0,saidD v n,.int .i64 st] ⟨H,lo⟩=some (.agg [.bool true,.X4,.str ⟨#[]⟩,.bool false,.int .i64 9],⟨H,lo⟩,false):=by
 have zz:=aI @Bd (aI @Bf (aI @Cb (aI @Ca @saidD.eq_1)));refine raz (hb:=?_);rintro d rfl;refine g14 (q:=?_);refine⟨_,by simp only[F400,P400,mkP,Ce,En,I5,zg,zd,rowsOf,Ci,List.take,List.drop,zm,Bd,Bf]<;>exact rfl,?_⟩;simp[leave,LP,Xt,Xp,snap,D.Xr,D.Xq,D.free,D.Xw,Ah,Bl]
theorem doDisp{d:Nat}(hd:34≤d){H:List Xh}{gm gd gk gl:Nat}{inn x0:D}{V:List UInt8}{rows:List (List D)}{gs:Nat}{l0:List FM}(hV:D6 V)(hM:H[gm]?=some (STo (.sl 1 (bR V) (some 6)) inn .X4 gd))(hF:FL H gs x0 rows)(hR:RW l0 rows)(zG:Big l0)(xg:l0.length≤8)(hD:H[gk]?=some (DKo gl))(hO:H[gl]?=some (SLo (Br x0)))(lo:Nat):∃r,(∃l' ou',r=(.agg [.bool true,.X4,.str ⟨#[]⟩,.bool false,.int .i64 0],⟨H.set gm (STo (.sl 1 (bR V) (some 6)) inn ou' gd)++l',min lo gm⟩,true)∧OutR H.length l' ou' (Cs (Ak (PV l0 V)) (Hf (Ak (PV l0 V)) 24)))∧Ae LP NN d 14 [.ptr gk 0 0 0,.ptr gm 0 0 0,saidD ⟨#[68,73,83,80,76,65,89]⟩ nmA,.int .i64 0] ⟨H,lo⟩=some r:=by
 have zy:=Aj hD;have zX:=Aj hO;obtain⟨v,hS⟩:=hF.src;have xJ:=Aj hM;have zV:min H.length gm=gm:=by omega
 have yK:¬H.length≤gm:=by omega
 have hmm:min lo (min H.length gm)=min lo gm:=by omega
 have hm5:min gm (H.length+1)=gm:=by omega
 have hm6:min lo (min gm (H.length+1))=min lo gm:=by omega
 obtain⟨r,⟨l',ou',rfl,hou⟩,xu⟩:=display_run (d:=d-1) (by omega) hV (H:=H++[⟨77,5,[[.str ⟨#[68,73,83,80,76,65,89]⟩,.int .i64 0,.int .i64 0,.sl 2 [[.str ⟨#[]⟩,.sl 5 [[.int .u8 1,.str nmA,.int .i64 0,.int .i64 0,.bool false]] (some 1)]] (some 1),.X4]],0,0,false⟩,⟨72,5,[[.bool false,.X4,.str ⟨#[]⟩,.bool false,.int .i64 0]],0,0,false⟩]) (gm:=gm) (by rw[Bj xJ];exact hM) (hS.mono _) hR zG xg nmA 1 12 H.length;rw[Em xJ,Lo_,zV]at xu;refine Kc (F:=F14) (P:=fun r=>∃l' ou',r=(.agg [.bool true,.X4,.str ⟨#[]⟩,.bool false,.int .i64 0],⟨H.set gm (STo (.sl 1 (bR V) (some 6)) inn ou' gd)++l',min lo gm⟩,true)∧OutR H.length l' ou' (Cs (Ak (PV l0 V)) (Hf (Ak (PV l0 V)) 24))) rfl (by simp only[LP,Ah,Bl,zs,zm,zv,Bool.false_and,saidD]<;>exact rfl) rfl (by simp only[LP,zf,zm];try rfl) (by simp only[F14,zv]<;>exact rfl) (by omega) ?_;rintro d rfl;have zz:=aI (fun l=>@Bj _ l _ zy) (aI (fun l=>@Bj _ l _ zX) (aI hD (aI hO (aI @DKo.eq_1 (aI @SLo.eq_1 (aI @saidD.eq_1 (aI @vDD (aI @vDA (aI @vAD (aI @vAA (aI @Bd (aI @Bf (aI @Cb (aI @Ca (aI hS.zero (aI hS.cell (aI @at_S (aI @Tv (aI @set_S (aI @Re zV))))))))))))))))))));refine g19 (q:=Aa (by simp only[zo,zz];exact Kb (by omega) _ _ _) (g13 (q:=Bb 0 (b:=true) (h:=g8 (q:=Bb 0 (b:=true) (h:=g12 (q:=Bb 0 (b:=true) (h:=g8 (q:=Bb 0 (b:=true) (h:=g19 (q:=Ao (by simp only[zo,zz];exact find_oA (by omega) (by rw[Bj zX];exact hO) (fun m l=>by rw[Lo_];exact hS.snap m _) hS.cell _) (by simp only[Ac,zo,zq]<;>exact rfl) (by first | rfl | (simp[show ob 255 8=[true,true,true,true,true,true,true,true] from rfl,Xo,Ay,Ar,Cf,Ap,Bn,djl,djr,djs,Am,Af,Az,Ba,Cq,Bv,Cc,Aw];done) | (simp[show ob 255 8=[true,true,true,true,true,true,true,true] from rfl,Xo,Ay,Ar,Cf,Ap,Bn,djl,djr,djs,Am,Af,Az,Ba,Cq,Bv,Cc,Aw];omega)) (g41 (q:=Aa (by simp only[zo,zz];exact xu) (g6 (q:=?_)))))))))))))));refine⟨_,⟨⟨77,5,[[.str ⟨#[68,73,83,80,76,65,89]⟩,.int .i64 0,.int .i64 0,.sl 2 [[.str ⟨#[]⟩,.sl 5 [[.int .u8 1,.str nmA,.int .i64 0,.int .i64 0,.bool false]] (some 1)]] (some 1),.X4]],0,0,false⟩::⟨72,5,[[.bool true,.X4,.str ⟨#[]⟩,.bool false,.int .i64 0]],0,0,false⟩::l',ou',rfl,?_⟩,?_⟩
 ·
  rcases hou with h | ⟨q,h1,h2⟩
  ·
   exact .inl h
  refine .inr ⟨q+2,?_,h2⟩;rw[h1];congr 1;simp;omega
 refine⟨_,by simp only[F14,Ce,En,I5,zg,zd,rowsOf,Ci,List.take,List.drop,zm,at_S,Tv]<;>exact rfl,?_⟩;simp[leave,LP,Xt,Xp,snap,D.Xr,D.Xq,D.free,D.Xw,Ah,Bl,zV,yK,hmm,hm5,hm6,nmA]
theorem findnil_cl(d:Nat)(S:St)(n:ByteArray):Bp LP NN (d+6) 40 [.X4,.str n] S=some (.tup [.int .i64 0,.int .i64 7],S,false):=by kernel_rfl
theorem findnil_run{d:Nat}(hd:6≤d)(S:St)(n:ByteArray):Ae LP NN d 40 [.X4,.str n] S=some (.tup [.int .i64 0,.int .i64 7],S,false):=by
 obtain⟨d,rfl⟩:∃d',d=d'+6:=⟨d-6,by omega⟩;exact fast_ok (findnil_cl d S n)
theorem doAccN{d:Nat}(hd:36≤d){H:List Xh}{gm gd gk gl:Nat}{inn ou x0:D}{V:List UInt8}{rows:List (List D)}{gs:Nat}{l0:List FM}{ls:List ByteArray}{T:Nat→Nat→D × Bool}(hV:D6 V)(hM:H[gm]?=some (STo (.sl 1 (bR V) (some 6)) inn ou gd))(hF:FL H gs x0 rows)(hR:RW l0 rows)(zG:Big l0)(xg:l0.length≤8)(yC:SlD 1 (Cx ls) inn)(qZ:ls.length≤1000)
  (hT:∀i j p (hi:i<l0.length) (hj:j<ls.length),3≤l0[i].kind→(∀d',26≤d'→∀S,Ae LP NN d' 45 [.agg (Gs l0[i] p),.str ls[j]] S=some (.tup [(T i j).1,.bool (T i j).2],S,false))∧∃ys,SlD 1 ys (T i j).1) (hD:H[gk]?=some (DKo gl)) (hO:H[gl]?=some (SLo (Br x0))) (hn:H7 T ls.length l0 0 0 []=none) (lo:Nat):Ae LP NN d 14 [.ptr gk 0 0 0,.ptr gm 0 0 0,saidD ⟨#[65,67,67,69,80,84]⟩ nmA,.int .i64 0] ⟨H,lo⟩=some (.agg [.bool true,.X4,.str ⟨#[]⟩,.bool false,.int .i64 7],⟨H,lo⟩,false):=by
 have zy:=Aj hD;have zX:=Aj hO;obtain⟨v,hS⟩:=hF.src;have xJ:=Aj hM;have zV:min H.length gm=gm:=by omega
 have yK:¬H.length≤gm:=by omega
 have hF2:FL (H++[⟨77,5,[[.str ⟨#[65,67,67,69,80,84]⟩,.int .i64 0,.int .i64 0,.sl 2 [[.str ⟨#[]⟩,.sl 5 [[.int .u8 1,.str nmA,.int .i64 0,.int .i64 0,.bool false]] (some 1)]] (some 1),.X4]],0,0,false⟩,⟨72,5,[[.bool false,.X4,.str ⟨#[]⟩,.bool false,.int .i64 0]],0,0,false⟩]) gs x0 rows:=hF.keep2 fun o ho _=>by rw[Bj (Aj ho)];exact ho
 have hM2:(H++[⟨77,5,[[.str ⟨#[65,67,67,69,80,84]⟩,.int .i64 0,.int .i64 0,.sl 2 [[.str ⟨#[]⟩,.sl 5 [[.int .u8 1,.str nmA,.int .i64 0,.int .i64 0,.bool false]] (some 1)]] (some 1),.X4]],0,0,false⟩,(⟨72,5,[[.bool false,.X4,.str ⟨#[]⟩,.bool false,.int .i64 0]],0,0,false⟩:Xh)])[gm]?=some (STo (.sl 1 (bR V) (some 6)) inn ou gd):=by rw[Bj xJ];exact hM
 have xu:=acceptN (d:=d-1) (by omega) hV hM2 hF2 hR zG xg yC qZ (fun i j p hi hj hk=>hT i j p hi hj hk) hn nmA 1 12 (H.length);have zz:=aI (fun l=>@Bj _ l _ zy) (aI (fun l=>@Bj _ l _ zX) (aI hD (aI hO (aI @DKo.eq_1 (aI @SLo.eq_1 (aI @saidD.eq_1 (aI @vDD (aI @vDA (aI @vAD (aI @vAA (aI @Bd (aI @Bf (aI @Cb (aI @Ca (aI hS.zero hS.cell)))))))))))))));refine raz (hb:=?_);rintro d rfl;refine g19 (q:=Aa (by simp only[zo,zz];exact Kb (by omega) _ _ _) (g13 (q:=Bb 0 (b:=true) (h:=g8 (q:=Bb 0 (b:=true) (h:=g12 (q:=Bb 0 (b:=true) (h:=g8 (q:=Bb 0 (b:=false) (h:=g22 (q:=Ao (by simp only[zo,zz];exact find_oA (by omega) (by rw[Bj zX];exact hO) (fun m l=>by rw[Lo_];exact hS.snap m _) hS.cell _) (by simp only[Ac,zo,zq]<;>exact rfl) (by first | rfl | (simp[show ob 255 8=[true,true,true,true,true,true,true,true] from rfl,Xo,Ay,Ar,Cf,Ap,Bn,djl,djr,djs,Am,Af,Az,Ba,Cq,Bv,Cc,Aw];done) | (simp[show ob 255 8=[true,true,true,true,true,true,true,true] from rfl,Xo,Ay,Ar,Cf,Ap,Bn,djl,djr,djs,Am,Af,Az,Ba,Cq,Bv,Cc,Aw];omega)) (g43 (q:=Aa (by simp only[zo,zz];exact xu) (g6 (q:=?_)))))))))))))));refine⟨_,by simp only[F14,Ce,En,I5,zg,zd,rowsOf,Ci,List.take,List.drop,zm,Bd,Bf]<;>exact rfl,?_⟩;simp[leave,LP,Xt,Xp,snap,D.Xr,D.Xq,D.free,D.Xw,Ah,Bl]
theorem doAccS{d:Nat}(hd:36≤d){H:List Xh}{gm gd gk gl:Nat}{inn ou x0:D}{V:List UInt8}{rows:List (List D)}{gs:Nat}{l0:List FM}{ls:List ByteArray}{T:Nat→Nat→D × Bool}(hV:D6 V)(hM:H[gm]?=some (STo (.sl 1 (bR V) (some 6)) inn ou gd))(hF:FL H gs x0 rows)(hR:RW l0 rows)(zG:Big l0)(xg:l0.length≤8)(yC:SlD 1 (Cx ls) inn)(qZ:ls.length≤1000)
  (hT:∀i j p (hi:i<l0.length) (hj:j<ls.length),3≤l0[i].kind→(∀d',26≤d'→∀S,Ae LP NN d' 45 [.agg (Gs l0[i] p),.str ls[j]] S=some (.tup [(T i j).1,.bool (T i j).2],S,false))∧∃ys,SlD 1 ys (T i j).1) (hD:H[gk]?=some (DKo gl)) (hO:H[gl]?=some (SLo (Br x0))) {u:Nat} {ws:List (Nat × List UInt8)} (zT:H7 T ls.length l0 0 0 []=some (u,Q6 ws)) (qW:∀p∈ws,OkW l0 p) (hwl0:ws.length≤1000) (lo:Nat):∃r,(∃Hn,r=(.agg [.bool true,.X4,.str ⟨#[]⟩,.bool false,.int .i64 0],⟨Hn,min lo gm⟩,true)∧H.length≤Hn.length∧(∀k,k<H.length→k≠gm→Hn[k]?=H[k]?)∧Hn[gm]?=some (STo (.sl 1 (bR (Ws V ws ws.length)) (some 6)) (Cu u inn) ou gd))∧Ae LP NN d 14 [.ptr gk 0 0 0,.ptr gm 0 0 0,saidD ⟨#[65,67,67,69,80,84]⟩ nmA,.int .i64 0] ⟨H,lo⟩=some r:=by
 have zy:=Aj hD;have zX:=Aj hO;obtain⟨v,hS⟩:=hF.src;have xJ:=Aj hM;have zV:min H.length gm=gm:=by omega
 have yK:¬H.length≤gm:=by omega
 have hF2:FL (H++[⟨77,5,[[.str ⟨#[65,67,67,69,80,84]⟩,.int .i64 0,.int .i64 0,.sl 2 [[.str ⟨#[]⟩,.sl 5 [[.int .u8 1,.str nmA,.int .i64 0,.int .i64 0,.bool false]] (some 1)]] (some 1),.X4]],0,0,false⟩,⟨72,5,[[.bool false,.X4,.str ⟨#[]⟩,.bool false,.int .i64 0]],0,0,false⟩]) gs x0 rows:=hF.keep2 fun o ho _=>by rw[Bj (Aj ho)];exact ho
 have hM2:(H++[⟨77,5,[[.str ⟨#[65,67,67,69,80,84]⟩,.int .i64 0,.int .i64 0,.sl 2 [[.str ⟨#[]⟩,.sl 5 [[.int .u8 1,.str nmA,.int .i64 0,.int .i64 0,.bool false]] (some 1)]] (some 1),.X4]],0,0,false⟩,(⟨72,5,[[.bool false,.X4,.str ⟨#[]⟩,.bool false,.int .i64 0]],0,0,false⟩:Xh)])[gm]?=some (STo (.sl 1 (bR V) (some 6)) inn ou gd):=by rw[Bj xJ];exact hM
 obtain⟨r,⟨Hn,rfl,uE,qy,hn3⟩,xu⟩:=acceptS (d:=d-1) (by omega) hV hM2 hF2 hR zG xg yC qZ (fun i j p hi hj hk=>hT i j p hi hj hk) zT qW hwl0 nmA 1 12 H.length;rw[zV]at xu;have uD:H.length+2≤Hn.length:=by simpa using uE
 have hrep:Hn[H.length+1]?=some ⟨72,5,[[.bool false,.X4,.str ⟨#[]⟩,.bool false,.int .i64 0]],0,0,false⟩:=(qy _ (by simp) (by omega)).trans (Bd H _ 1);have hbx:Hn[H.length]?=some ⟨77,5,[[.str ⟨#[65,67,67,69,80,84]⟩,.int .i64 0,.int .i64 0,.sl 2 [[.str ⟨#[]⟩,.sl 5 [[.int .u8 1,.str nmA,.int .i64 0,.int .i64 0,.bool false]] (some 1)]] (some 1),.X4]],0,0,false⟩:=(qy _ (by simp) (by omega)).trans (Bf H _);have xH:∀z:Xh,(Hn.set (H.length+1) z)[H.length+1]?=some z:=fun z=>List.getElem?_set_self (by omega);have hmm:min lo (min H.length gm)=min lo gm:=by omega
 have hm5:min gm (H.length+1)=gm:=by omega
 have hm6:min lo (min gm (H.length+1))=min lo gm:=by omega
 refine Kc (F:=F14) (P:=fun r=>∃Hn,r=(.agg [.bool true,.X4,.str ⟨#[]⟩,.bool false,.int .i64 0],⟨Hn,min lo gm⟩,true)∧H.length≤Hn.length∧(∀k,k<H.length→k≠gm→Hn[k]?=H[k]?)∧Hn[gm]?=some (STo (.sl 1 (bR (Ws V ws ws.length)) (some 6)) (Cu u inn) ou gd)) rfl (by simp only[LP,Ah,Bl,zs,zm,zv,Bool.false_and,saidD]<;>exact rfl) rfl (by simp only[LP,zf,zm];try rfl) (by simp only[F14,zv]<;>exact rfl) (by omega) ?_;rintro d rfl;have zz:=aI (fun l=>@Bj _ l _ zy) (aI (fun l=>@Bj _ l _ zX) (aI hD (aI hO (aI @DKo.eq_1 (aI @SLo.eq_1 (aI @saidD.eq_1 (aI @vDD (aI @vDA (aI @vAD (aI @vAA (aI @Bd (aI @Bf (aI @Cb (aI @Ca (aI hS.zero (aI hS.cell hrep))))))))))))))));refine g19 (q:=Aa (by simp only[zo,zz];exact Kb (by omega) _ _ _) (g13 (q:=Bb 0 (b:=true) (h:=g8 (q:=Bb 0 (b:=true) (h:=g12 (q:=Bb 0 (b:=true) (h:=g8 (q:=Bb 0 (b:=false) (h:=g22 (q:=Ao (by simp only[zo,zz];exact find_oA (by omega) (by rw[Bj zX];exact hO) (fun m l=>by rw[Lo_];exact hS.snap m _) hS.cell _) (by simp only[Ac,zo,zq]<;>exact rfl) (by first | rfl | (simp[show ob 255 8=[true,true,true,true,true,true,true,true] from rfl,Xo,Ay,Ar,Cf,Ap,Bn,djl,djr,djs,Am,Af,Az,Ba,Cq,Bv,Cc,Aw];done) | (simp[show ob 255 8=[true,true,true,true,true,true,true,true] from rfl,Xo,Ay,Ar,Cf,Ap,Bn,djl,djr,djs,Am,Af,Az,Ba,Cq,Bv,Cc,Aw];omega)) (g43 (q:=Aa (by simp only[zo,zz];exact xu) (g6 (q:=?_)))))))))))))));refine⟨_,⟨Hn.set (H.length+1) ⟨72,5,[[.bool true,.X4,.str ⟨#[]⟩,.bool false,.int .i64 0]],0,0,false⟩,rfl,?_,fun k hk hn=>?_,?_⟩,?_⟩
 rotate_left 3
 ·
  refine⟨_,by simp only[F14,Ce,En,I5,zg,zd,rowsOf,Ci,List.take,List.drop,zm,xH]<;>exact rfl,?_⟩;simp[leave,LP,Xt,Xp,snap,D.Xr,D.Xq,D.free,D.Xw,Ah,Bl,zV,yK,hmm,hm5,hm6]
 ·
  rw[List.length_set];omega
 ·
  rw[Ln_ (by omega),qy k (by simp;omega) hn,Bj hk]
 rw[Ln_ (by omega)];exact hn3
theorem doZ{d:Nat}(hd:10≤d){H:List Xh}{gm gk gl gs:Nat}{x0:D}{rows:List (List D)}(hF:FL H gs x0 rows)(hD:H[gk]?=some (DKo gl))(hO:H[gl]?=some (SLo (Br x0)))(lo:Nat):Ae LP NN d 14 [.ptr gk 0 0 0,.ptr gm 0 0 0,saidD ⟨#[68,73,83,80,76,65,89]⟩ nmZ,.int .i64 0] ⟨H,lo⟩=some (.agg [.bool true,.X4,.str ⟨#[]⟩,.bool false,.int .i64 9],⟨H,lo⟩,false):=by
 have zy:=Aj hD;have zX:=Aj hO;obtain⟨v,hS⟩:=hF.src;have zz:=aI (fun l=>@Bj _ l _ zy) (aI (fun l=>@Bj _ l _ zX) (aI hD (aI hO (aI @DKo.eq_1 (aI @SLo.eq_1 (aI @saidD.eq_1 (aI @vDD (aI @vDA (aI @vAD (aI @vAA (aI @Bd (aI @Bf (aI @Cb (aI @Ca (aI hS.zero hS.cell)))))))))))))));refine raz (hb:=?_);rintro d rfl;refine g19 (q:=Aa (by simp only[zo,zz];exact Kb (by omega) _ _ _) (g13 (q:=Bb 0 (b:=true) (h:=g8 (q:=Bb 0 (b:=true) (h:=g12 (q:=Bb 0 (b:=true) (h:=g8 (q:=Bb 0 (b:=true) (h:=g19 (q:=Ao (by simp only[zo,zz];exact find_oZ (by omega) (by rw[Bj zX];exact hO) (fun m l=>by rw[Lo_];exact hS.snap m _) hS.cell _) (by simp only[Ac,zo,zq]<;>exact rfl) (by first | rfl | (simp[show ob 255 8=[true,true,true,true,true,true,true,true] from rfl,Xo,Ay,Ar,Cf,Ap,Bn,djl,djr,djs,Am,Af,Az,Ba,Cq,Bv,Cc,Aw];done) | (simp[show ob 255 8=[true,true,true,true,true,true,true,true] from rfl,Xo,Ay,Ar,Cf,Ap,Bn,djl,djr,djs,Am,Af,Az,Ba,Cq,Bv,Cc,Aw];omega)) (g36 (q:=Ao (by simp only[zo,zz];exact other_run (by omega) _ _ _ _ _ _) (by simp only[Ac,zo,zq]<;>exact rfl) (by first | rfl | (simp[show ob 127 7=[true,true,true,true,true,true,true] from rfl,Xo,Ay,Ar,Cf,Ap,Bn,djl,djr,djs,Am,Af,Az,Ba,Cq,Bv,Cc,Aw];done) | (simp[show ob 127 7=[true,true,true,true,true,true,true] from rfl,Xo,Ay,Ar,Cf,Ap,Bn,djl,djr,djs,Am,Af,Az,Ba,Cq,Bv,Cc,Aw];omega)) (g5 (q:=?_)))))))))))))));refine⟨_,by simp only[F14,Ce,En,I5,zg,zd,rowsOf,Ci,List.take,List.drop,zm,Bd,Bf]<;>exact rfl,?_⟩;simp[leave,LP,Xt,Xp,snap,D.Xr,D.Xq,D.free,D.Xw,Ah,Bl]
theorem doStage{d:Nat}(hd:10≤d){H:List Xh}{gm gk gl gs:Nat}{x0:D}{rows:List (List D)}(hF:FL H gs x0 rows)(hD:H[gk]?=some (DKo gl))(hO:H[gl]?=some (SLo (Br x0)))(lo:Nat):Ae LP NN d 14 [.ptr gk 0 0 0,.ptr gm 0 0 0,saidD ⟨#[68,73,83,80,76,65,89]⟩ nmA,.int .i64 1] ⟨H,lo⟩=some (.agg [.bool true,.X4,.str ⟨#[]⟩,.bool false,.int .i64 9],⟨H,lo⟩,false):=by
 have zy:=Aj hD;have zX:=Aj hO;obtain⟨v,hS⟩:=hF.src;have zz:=aI (fun l=>@Bj _ l _ zy) (aI (fun l=>@Bj _ l _ zX) (aI hD (aI hO (aI @DKo.eq_1 (aI @SLo.eq_1 (aI @saidD.eq_1 (aI @vDD (aI @vDA (aI @vAD (aI @vAA (aI @Bd (aI @Bf (aI @Cb (aI @Ca (aI hS.zero hS.cell)))))))))))))));refine raz (hb:=?_);rintro d rfl;refine g19 (q:=Aa (by simp only[zo,zz];exact Kb (by omega) _ _ _) (g13 (q:=Bb 0 (b:=false) (h:=g46 (q:=Ao (by simp only[zo,zz];exact other_run (by omega) _ _ _ _ _ _) (by simp only[Ac,zo,zq]<;>exact rfl) (by first | rfl | (simp[show ob 127 7=[true,true,true,true,true,true,true] from rfl,Xo,Ay,Ar,Cf,Ap,Bn,djl,djr,djs,Am,Af,Az,Ba,Cq,Bv,Cc,Aw];done) | (simp[show ob 127 7=[true,true,true,true,true,true,true] from rfl,Xo,Ay,Ar,Cf,Ap,Bn,djl,djr,djs,Am,Af,Az,Ba,Cq,Bv,Cc,Aw];omega)) (g5 (q:=?_)))))));refine⟨_,by simp only[F14,Ce,En,I5,zg,zd,rowsOf,Ci,List.take,List.drop,zm,Bd,Bf]<;>exact rfl,?_⟩;simp[leave,LP,Xt,Xp,snap,D.Xr,D.Xq,D.free,D.Xw,Ah,Bl]
theorem doNil{d:Nat}(hd:10≤d){H:List Xh}{gm:Nat}(lo:Nat):Ae LP NN d 14 [.nilp,.ptr gm 0 0 0,saidD ⟨#[68,73,83,80,76,65,89]⟩ nmA,.int .i64 0] ⟨H,lo⟩=some (.agg [.bool false,.X4,.str ⟨#[]⟩,.bool false,.int .i64 0],⟨H,lo⟩,false):=by
 have zz:=aI @saidD.eq_1 (aI @vDD (aI @vDA (aI @Bd (aI @Bf (aI @Cb @Ca)))));refine raz (hb:=?_);rintro d rfl;refine g22 (q:=?_);refine⟨_,by simp only[F14,Ce,En,I5,zg,zd,rowsOf,Ci,List.take,List.drop,zm,Bd,Bf]<;>exact rfl,?_⟩;simp[leave,LP,Xt,Xp,snap,D.Xr,D.Xq,D.free,D.Xw,Ah,Bl]
theorem Xa{d:Nat}(hd:10≤d){H:List Xh}{gm gk:Nat}(hD:H[gk]?=some ⟨106,2,[[.X4,.nili]],0,0,false⟩)(lo:Nat):Ae LP NN d 14 [.ptr gk 0 0 0,.ptr gm 0 0 0,saidD ⟨#[68,73,83,80,76,65,89]⟩ nmA,.int .i64 0] ⟨H,lo⟩=some (.agg [.bool false,.X4,.str ⟨#[]⟩,.bool false,.int .i64 0],⟨H,lo⟩,false):=by
 have zy:=Aj hD;have zz:=aI (fun l=>@Bj _ l _ zy) (aI hD (aI @saidD.eq_1 (aI @vDD (aI @vDA (aI @Bd (aI @Bf (aI @Cb @Ca)))))));refine raz (hb:=?_);rintro d rfl;refine g19 (q:=Aa (by simp only[zo,zz];exact Kb (by omega) _ _ _) (g13 (q:=Bb 0 (b:=true) (h:=g8 (q:=Bb 0 (b:=true) (h:=g12 (q:=Bb 0 (b:=true) (h:=g8 (q:=Bb 0 (b:=true) (h:=g19 (q:=Ao (by simp only[zo,zz];exact findnil_run (by omega) _ _) (by simp only[Ac,zo,zq]<;>exact rfl) (by first | rfl | (simp[show ob 255 8=[true,true,true,true,true,true,true,true] from rfl,Xo,Ay,Ar,Cf,Ap,Bn,djl,djr,djs,Am,Af,Az,Ba,Cq,Bv,Cc,Aw];done) | (simp[show ob 255 8=[true,true,true,true,true,true,true,true] from rfl,Xo,Ay,Ar,Cf,Ap,Bn,djl,djr,djs,Am,Af,Az,Ba,Cq,Bv,Cc,Aw];omega)) (g36 (q:=?_)))))))))))));refine⟨_,by simp only[F14,Ce,En,I5,zg,zd,rowsOf,Ci,List.take,List.drop,zm,Bd,Bf]<;>exact rfl,?_⟩;simp[leave,LP,Xt,Xp,snap,D.Xr,D.Xq,D.free,D.Xw,Ah,Bl]
end Go.Proofs.YtlhdliikahebhaaGreatDoor
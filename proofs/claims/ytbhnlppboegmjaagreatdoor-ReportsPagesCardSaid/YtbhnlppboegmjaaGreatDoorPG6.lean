/- Proved here: parts of the proof, joined (K85, K86, K87, K88, K89, K90, K91, K92, K93, K94, K95, K96, K97, K98, K99, K100, K101, K102, K103, K104, K105, K106, K107, K108, K109, K110, K111, K112, K114, K113, K115, K116, K117, K118, K119, K120, K121, K122, RpP): an abstract machine, its soundness, what functions of the program compute in it; no condition. -/
import Derived.Test.YtbhnlppboegmjaaGreatDoorTie
import Derived.WalkKit
import Derived.ProofKit
import Derived.OpenShut
import Derived.ShutString
import Derived.ChangeOld
import Derived.Below
import Derived.LaidMore
import Derived.Lay
import Derived.SevenTiedAt
import Derived.Stop.Joined
import Derived.Test.YtbhnlppboegmjaaGreatDoorPG5
namespace Go.Proofs.YtbhnlppboegmjaaGreatDoor
set_option linter.unusedSimpArgs false
set_option linter.unusedVariables false
set_option maxRecDepth 100000
set_option maxHeartbeats 4000000
theorem store_tot{H:List Z7}{gt v lo i m:Nat}{rows:List (List D)}(h:H[gt]?=some ⟨57,3,rows,v,2,true⟩)(hi:rows[i]?=some (dcR m))(n:Nat):Bi 3 ⟨H,lo⟩ (.ptr gt v i 0) (dcD n)=some ⟨H.set gt ⟨57,3,rows.set i (dcR n),v,2,true⟩,min lo gt⟩:=by
 have e1:Aaa H.length H (.agg [.bool false,.str (mkS (dgs n)),.int .i64 0])=some (.agg [.bool false,.str (mkS (dgs n)),.int .i64 0]):=rfl;simp only[Bi,rowsOf,h,if_true,hi,dcR];simp[e1,dcD,D.val,D.cells,D.Aae,overlay,setAt,D.free,D.Aaf]
theorem pres_tot(x:CM)(w:WM)(t:TG)(h:w.tot.length=x.ctl+1):(Dt x w t).tot.length=x.ctl+1:=by rw[(H5 x w t).2.1];exact h
theorem footN_f(x:CM):∀(k i:Nat) (w:WM),(footN x i k w).row=w.row∧(footN x i k w).ended=w.ended
 | 0,_,_=>⟨rfl,rfl⟩
 | k+1,i,w=>by
  have h:=footN_f x k (i-1) ((Dt x w (x.tg 5 (i-1))).clr (i-1));have h2:=H5 x w (x.tg 5 (i-1));exact⟨h.1.trans h2.1,h.2.trans h2.2.2⟩
theorem WB.foot{x:CM}:∀(k i:Nat) {w:WM} {n:Nat},WB w n→n+44*k≤50000→w.tot.length=x.ctl+1→i≤x.ctl+1→k≤i→WB (footN x i k w) (n+44*k)∧(footN x i k w).tot.length=x.ctl+1
 | 0,_,_,_,h,_,ht,_,_=>⟨h,ht⟩
 | k+1,i,w,n,h,hn,ht,hi,hk=>by
  have h1:=(h.pres (x:=x) (by omega) ht (Ko (x:=x) h (by omega) ht (k:=5) (lv:=i-1) (by omega))).clr (i-1);have h2:=pres_tot x w (x.tg 5 (i-1)) ht;have:=WB.foot k (i-1) h1 (by omega) (by simpa [WM.clr] using h2) (by omega) (by omega);rw[show n+44+44*k=n+44*(k+1) by omega]at this;exact this
theorem foot_run{d:Nat}(hd:31≤d){g gm gt:Nat}{x:CM}{w:WM}{b:Nat}(wP:WB w b)(hn:b≤40000){l:Nat}(hl:l≤x.ctl+1):WF d 46 [.int .i64 (l:Nat)] g gm gt x w (Hw x w l):=by
 intro H low hW;obtain⟨d0,rfl⟩:∃e,d=e+1:=⟨d-1,by omega⟩;have hct:=x.ctl_lt;obtain⟨lin,hw,yw⟩:=hW.hw;have hTl:(G5 (x.ctl+1)).length=x.ctl+1:=by simp[G5]
 have qM:lenD false (slB true 1 (x.ctlR x.ctl) none)=some (.int .i64 (x.ctl:Nat)):=by rw[Lc];simp[CM.ctlR]
 refine Gl (F:=F46) rfl (by simp only[LP,snapVs,zs,zm]<;>exact rfl) rfl (by simp only[LP,zf,zm];try rfl) (by simp only[F46,zv]<;>exact rfl) (by omega) ?_;intro d he;obtain rfl:=Nat.succ.inj he;refine Ad (Af rfl (xo3 ?_));refine xo1 ?_;refine xo1 ?_;apply Ac (by simp only[zl,zm,zd,Au,List.take,List.drop,hw,wO,wRow]<;>exact rfl);apply Ac (by simp only[zo,qM]<;>exact rfl);refine Ag rfl (Aa (Ae ?_));refine Ar (Em (fun n env S'=>∃(j:Nat) (m:Int) (K:List Z7) (lo:Nat) (w1:WM) (u3 u4 u5 u6 u7 u8 u9 u10:D),l≤j∧j≤x.ctl+1∧m=(j:Nat)-1∧WS K g gm gt x w1∧Keep H K∧WB w1 (b+44*(x.ctl+1-j))∧footN x j (j-l) w1=Hw x w l∧(lo≤max g gt∨w1=w)∧n=j∧S'=⟨K,lo⟩∧env=[.ptr g 0 0 0,.int .i64 (l:Nat),.int .i64 m,u3,u4,u5,u6,u7,u8,u9,u10]) (x.ctl+1) (by omega) (⟨x.ctl+1,_,_,_,w,_,_,_,_,_,_,_,_,hl,Nat.le_refl _,by omega,hW,Keep.refl _,by rw[Nat.sub_self];exact wP,rfl,.inr rfl,by omega,rfl,rfl⟩) ?_);rintro n env S' ⟨j,m,K,lo,w1,u3,u4,u5,u6,u7,u8,u9,u10,hlj,hjc1,hm,yI,wW,wQ,he,xW,hnA,rfl,rfl⟩;obtain⟨linK,hwK,kJ⟩:=yI.hw;refine Aj (Ad (Af rfl (Af rfl (xo2 ?_))));refine Aa (Ae ?_);refine Dc (by simp only[opd,zv]<;>exact rfl) (fun yx=>?_) (fun yx=>?_)
 ·
  have yJ:l<j:=by have:=of_decide_eq_true yx;omega
  obtain⟨i0,rfl⟩:∃i0,j=i0+1:=⟨j-1,by omega⟩;obtain rfl:m=((i0:Nat):Int):=by omega
  have qj:i0<x.ctl+1:=by omega
  have hws:=wrap_sub ((i0:Nat):Int) (by omega) (by omega);have hT:=Ko (x:=x) wQ (by omega) yI.hn (k:=5) (lv:=i0) qj;obtain⟨H',lo',wr,h48,hW',hK',yX,kU⟩:=(Wl (d:=d0) (by omega) wQ (by omega) yI.hn hT (x.tg_all (by omega))).go lo yI;obtain⟨linP,hwP,hlinP⟩:=hW'.hw
  have hBn:WB ((Dt x w1 (x.tg 5 i0)).clr i0) (b+44*(x.ctl+1-i0)):=by
   have:=(wQ.pres (x:=x) (by omega) yI.hn hT).clr i0;rwa [show b+44*(x.ctl+1-(i0+1))+44=b+44*(x.ctl+1-i0) by omega]at this
  have hen:footN x i0 (i0-l) ((Dt x w1 (x.tg 5 i0)).clr i0)=Hw x w l:=by
   rw[←he,show i0+1-l=(i0-l)+1 by omega];rfl
  have hln:lo'≤max g gt∨Dt x w1 (x.tg 5 i0)=w:=by
   rcases xW with h | h
   ·
    exact .inl (Nat.le_trans kU h)
   exact yX.imp_right fun h'=>h'.trans h
  refine Ak (Bl rfl (Aj (Ar (Ad (Af rfl (Af rfl (xo3 ?_)))))));refine xo1 ?_;apply Ac (by simp only[zl,zm,zd,Au,List.take,List.drop,wO,wRow,hwK]<;>exact rfl);refine Af rfl (Qr ?_);apply Ac (by simp only[opd,zv,Ap,aop,LOp.loud,lop,if_true];exact congrArg (Option.map fun r=>(r,_,false)) (Ro yI _ (.inr ⟨qj,.inr rfl⟩)));apply Ac (by simp only[zo];exact h48);refine Aa (Ae ?_);refine Ad (Af rfl (xo3 ?_));refine xo1 ?_;refine xo1 ?_;apply Ac (by simp only[zl,zm,zd,Au,List.take,List.drop,wO,wRow,hwP]<;>exact rfl);apply Ac (by simp only[zo,E5,hTl]<;>exact rfl);refine Az (Aa (Ae ?_));refine Ar (Em (fun n env S'=>∃(i:Nat) (K2:List Z7) (lo2:Nat) (u3 u4 u5 u9 u10:D),i≤x.ctl+1∧WS K2 g gm gt x (if i0<i then (Dt x w1 (x.tg 5 i0)).clr i0 else Dt x w1 (x.tg 5 i0))∧Keep H' K2∧(lo2≤max g gt∨(if i0<i then (Dt x w1 (x.tg 5 i0)).clr i0 else Dt x w1 (x.tg 5 i0))=w)∧n=x.ctl+1-i∧S'=⟨K2,lo2⟩∧env=[.ptr g 0 0 0,.int .i64 (l:Nat),.int .i64 (i0:Nat),u3,u4,u5,.sl 2 (G5 (x.ctl+1)) none,.int .i64 (x.ctl+1:Nat),.int .i64 (i:Nat),u9,u10]) (x.ctl+1) (by omega) (⟨0,_,_,_,_,_,_,_,by omega,by rw[if_neg (by omega)];exact hW',Keep.refl _,by rw[if_neg (by omega)];exact hln,by omega,rfl,rfl⟩) ?_);rintro n env S' ⟨i,K2,lo2,u3,u4,u5,u9,u10,hi,hWI,hKI,hloI,hnB,rfl,rfl⟩;obtain⟨linI,hwI,hlinI⟩:=hWI.hw;have hwI1:∀l,(K2++l)[g]?=_:=fun l=>C9 hwI l;have htI1:∀l,(K2++l)[gt]?=_:=fun l=>C9 hWI.ht l;have hslt:=trivial;have xu:=aI hwI (aI hwI1 (aI htI1 (hslt)));refine Ad (xo2 ?_);refine Aa (Ae ?_);apply Aj;refine Dc (by simp only[opd,zv]<;>exact rfl) (fun zA=>?_) (fun zA=>?_)
  ·
   have hiT0:i<x.ctl+1:=by have:=of_decide_eq_true zA;omega
   have hiT:(((i:Nat):Int)<((x.ctl+1:Nat):Int))=True:=eq_true (by omega);have wH:((0:Int)≤((i:Nat):Int))=True:=eq_true (by omega);have yR:=Eb i (by omega);have hti:(G5 (x.ctl+1))[i]?=some [.int .i64 2,.int .i64 (i:Nat)]:=by simp[G5,hiT0]
   have xq:=aI hiT (aI wH (aI yR (hti)));refine Ak (Bl rfl (Aj (Ar (Ad (Af rfl (Ac (by simp only[zl,zm,Dk,Int.toNat_natCast,xq]<;>exact rfl) ?_))))));refine Ou ?_;refine xo45 ?_;refine Ag rfl (xo73 ?_);refine Aa (Ae ?_);refine Ad (Zn ?_);refine Ou ?_;refine Af rfl (Zm ?_);refine Aa (Ae ?_);refine Dc (by simp only[opd,zv,xq]<;>exact rfl) (fun rP=>?_) (fun rP=>?_)
   ·
    have hii:i=i0:=by have:=eq_of_beq rP;omega
    subst hii;rw[if_neg (by omega)]at hWI hloI;have vK:i<(Dt x w1 (x.tg 5 i)).tot.length:=by rw[hWI.hn];omega
    have hir:((Dt x w1 (x.tg 5 i)).tot.map dcR)[i]?=some (dcR (Dt x w1 (x.tg 5 i)).tot[i]):=by rw[Lp_,Lg vK];rfl
    rw[if_neg (by omega)]at htI1;have xQ:=fun lo l=>store_tot (lo:=lo) (htI1 l) hir 0;have hWn:=(hWI.app [⟨67,2,[[.int .i64 2,.int .i64 (i:Nat)]],0,0,false⟩]).tot ((Dt x w1 (x.tg 5 i)).tot.set i 0) (by rw[List.length_set];exact hWI.hn);rw[List.map_set]at hWn;apply Eu (by simp only[newsVals,zw,Nat.reduceAdd]<;>exact rfl) (by simp only[zw]<;>exact rfl);refine Bf rfl rfl (Ib rfl rfl ?_);refine Mc rfl rfl ?_;refine Mc rfl rfl ?_;refine Be (by simp only[zl,zm,zd,Au,List.take,List.drop,wO,wRow,xu,xq]<;>exact rfl) rfl ?_;refine Bf rfl rfl (Be (by simp only[zo,xq];exact Zx (by omega) _ 0 (by omega)) rfl ?_);refine Be (by simp only[zl,zm,E8,Int.toNat_natCast,xu,xq]<;>exact rfl) rfl ?_;refine Be (by simp only[opd,zv,Ap,aop,LOp.loud,lop,if_true];exact congrArg (Option.map fun S'=>(D.undef,S',true)) (xQ _ _)) rfl ?_;refine Bz (Ej (Ae ?_));refine Am (Zm ?_);refine Ag rfl (Aa (Hl (by simp only[ze]<;>exact rfl) ?_));exact⟨x.ctl+1-(i+1),by omega,i+1,_,_,_,_,_,_,_,by omega,by rw[if_pos (by omega)];exact hWn.1,hKI.trans ((Keep.app _ _).trans hWn.2),.inl (by omega),rfl,rfl,rfl⟩
   have hii:i≠i0:=by have:=ne_of_beq_false rP;omega
   have uU:(if i0<i+1 then (Dt x w1 (x.tg 5 i0)).clr i0 else Dt x w1 (x.tg 5 i0))=(if i0<i then (Dt x w1 (x.tg 5 i0)).clr i0 else Dt x w1 (x.tg 5 i0)):=by
    by_cases h:i0<i
    ·
     rw[if_pos h,if_pos (by omega)]
    rw[if_neg h,if_neg (by omega)]
   have hloI':=fun k=>hloI.imp_left fun h=>Nat.le_trans (Nat.min_le_left _ k) h;refine Ak (Ej (Bl rfl (Am (Zm ?_))));refine Ag rfl (Aa (Hl (by simp only[ze]<;>exact rfl) ?_));exact⟨x.ctl+1-(i+1),by omega,i+1,_,_,_,_,_,_,_,by omega,by rw[uU];exact hWI.app _,hKI.trans (Keep.app _ _),by rw[uU];exact hloI' _,rfl,rfl,rfl⟩
  have zG:i=x.ctl+1:=by have:=of_decide_eq_false zA;omega
  subst zG;rw[if_pos qj]at hWI hloI;refine Dq (Hq (Jb (Hy (Ej (Bl rfl (Am (Af rfl (Ac (by simp only[zo,Bd,hws]<;>exact rfl) ?_))))))));refine Ag rfl (Aa (Hl (by simp only[ze]<;>exact rfl) ?_));exact⟨i0,by omega,i0,_,_,_,(Dt x w1 (x.tg 5 i0)).clr i0,_,_,_,_,_,_,_,_,by omega,by omega,by omega,hWI,wW.trans (hK'.trans hKI),hBn,hen,hloI,rfl,rfl,rfl⟩
 have zG:j=l:=by have:=of_decide_eq_false yx;omega
 subst zG;rw[Nat.sub_self]at he;have he2:w1=Hw x w j:=he;subst he2;refine Dq (Hq (Jb (Hy ?_)));obtain⟨r,wC,y8⟩:=Jv (S:=⟨H,low⟩) (S':=⟨K,lo⟩) hW yI wW xW;refine⟨r,wC,?_⟩;refine⟨_,by simp only[F46,resultD,Bg]<;>exact rfl,?_⟩;exact y8
theorem none_run{d:Nat}(hd:1≤d){H:List Z7}(low:Nat){g gm gt:Nat}{x:CM}{w:WM}(hW:WS H g gm gt x w):Bc LP NN d 36 [.ptr g 0 0 0] ⟨H,low⟩=some (.bool false,⟨H,low⟩,false):=by
 obtain⟨lin,hw,yw⟩:=hW.hw;refine Hf (F:=F36) rfl (by simp only[LP,snapVs,zs,zm]<;>exact rfl) rfl (by simp only[LP,zf,zm];try rfl) (by simp only[F36,zv]<;>exact rfl) (by omega) ?_;rintro d rfl;refine Ad (Az (Aa (Ae ?_)));refine Ad (Af rfl (Ac (by simp only[zl,zm,eqpD]<;>exact rfl) ?_));refine Ag rfl (Ey 0 (b:=false) ?_);refine Aq rfl (Af rfl (Aq rfl (xo3 ?_)));refine Aq rfl (xo1 ?_);refine Aq rfl (Ac (by simp only[zl,zm,zd,Au,List.take,List.drop,hw,wO,wRow]<;>exact rfl) ?_);refine Aq rfl (Xr ?_);refine xo3 ?_;refine Ag rfl (Aa (Ae ?_));apply Ba;refine⟨_,by simp only[F36,resultD,Bg,resD,zg]<;>exact rfl,?_⟩;exact Gg _ _ _ _ (Nat.le_refl _) rfl (fun _ _=>rfl)
theorem copied_tab(d:Nat)(S:St)(a b n0 n1 n2:Int)(c:Option Nat):Fb LP NN (d+4) 42 [.sl 12 [shT 1++[.sl 1 [[.int .u8 a]] none],shT 1++[.sl 1 [[.int .u8 b]] none],shN 3++[.sl 1 [[.int .u8 n0],[.int .u8 n1],[.int .u8 n2]] none]] c] S=some (.sl 12 [shT 1++[.sl 1 [[.int .u8 a]] none],shT 1++[.sl 1 [[.int .u8 b]] none],shN 3++[.sl 1 [[.int .u8 n0],[.int .u8 n1],[.int .u8 n2]] none]] (some 3),S,false):=by kernel_rfl
theorem Vt{d:Nat}(hd:4≤d)(S:St)(y:RM)(c:Option Nat):Bc LP NN d 42 [.sl 12 y.fld c] S=some (.sl 12 y.fld (some 3),S,false):=by
 obtain⟨d,rfl⟩:∃e,d=e+4:=⟨d-4,by omega⟩
 obtain⟨n0,n1,n2,e⟩:∃a b c,Bq y.N 3=[a,b,c]:=by
  have:=Ci y.N 3
  match h:Bq y.N 3,this with
  | [a,b,c],_=>exact⟨a,b,c,rfl⟩
 apply fast_ok;rw[RM.fld,e];exact copied_tab d S _ _ _ _ _ c
theorem equal_run{d:Nat}(hd:1≤d)(S:St)(a b:List UInt8)(c c':Option Nat):Bc LP NN d 79 [.sl 1 (bR a) c,.sl 1 (bR b) c'] S=some (.bool (decide (a=b)),S,false):=by
 refine rq (F:=F79) rfl (by simp only[LP,snapVs,zs,zm]<;>exact rfl) (by simp only[F79,zv]<;>exact rfl) ?_;rintro d rfl;refine Ad (Az (Aa (Ae ?_)));refine Ad (Af rfl (Ac (by simp only[zl,zm,Es,Ho,zm,Ho]<;>exact rfl) ?_));refine Af rfl (Ac (by simp only[zl,zm,Es,Ho,zm,Ho]<;>exact rfl) ?_);refine xo2 ?_;refine Ag rfl (Aa (Ae ?_));apply Ba;refine⟨_,by simp only[F79,resultD,Bg,resD,zg]<;>exact rfl,?_⟩;show leaveP _ (D.bool ((mkS a).toList==(mkS b).toList)) _=_;rw[Df,Df,show (a==b)=decide (a=b) by rw[Bool.eq_iff_iff];simp];rfl
theorem wcheck_run{d:Nat}(hd:20≤d){H:List Z7}(low:Nat){g gm gt:Nat}{x:CM}{w:WM}(hW:WS H g gm gt x w)(y:RM)(c:Option Nat):Bc LP NN d 39 [.ptr g 0 0 0,.sl 12 y.fld c] ⟨H,low⟩=some (.int .i64 0,⟨H,low⟩,false):=by
 obtain⟨lin,hw,yw⟩:=hW.hw;have hy3:((y.fld.length:Nat):Int)=3:=rfl;have hF3:lenD false (Gt true)=some (.int .i64 3):=rfl;refine Hf (F:=F39) rfl (by simp only[LP,snapVs,zs,zm]<;>exact rfl) rfl (by simp only[LP,zf,zm];try rfl) (by simp only[F39,zv]<;>exact rfl) (by omega) ?_;rintro d rfl;refine Ad (Az (Aa (Ae ?_)));refine Aj (Ad (Af rfl (Ac (by simp only[zo,E5,hy3]<;>exact rfl) ?_)));refine Af rfl (xo3 ?_);refine xo1 ?_;refine xo1 ?_;apply Ac (by simp only[zl,zm,zd,Au,List.take,List.drop,hw,wO,wRow]<;>exact rfl);apply Ac (by simp only[zo,hF3]<;>exact rfl);refine xo2 ?_;refine Aa (Ae ?_);refine D5 ?_;refine Ak (Bl rfl (Aj (Ad (Af rfl (Ac (by simp only[zo,E5,hy3]<;>exact rfl) ?_)))));refine Az (Aa (Ae ?_));refine Ar (Em (fun n env S'=>∃(i:Nat) (K:List Z7) (lo:Nat) (u2 u3 u4 u5 u9 u10 u11:D),i≤3∧K[g]?=some (wO x gm (.int .i64 (w.page:Nat)) (.int .i64 (w.line:Nat)) w.body (Ja w.row) (.msl gt x.ctl 0 (x.ctl+1) none) lin w.ended)∧H.length≤K.length∧H.length≤lo∧n=3-i∧S'=⟨K,lo⟩∧env=[.ptr g 0 0 0,.sl 12 y.fld c,u2,u3,u4,u5,.sl 12 y.fld c,.int .i64 3,.int .i64 (i:Nat),u9,u10,u11]) (3) (by omega) (⟨0,_,_,_,_,_,_,_,_,_,by omega,hw,Nat.le_refl _,Nat.le_refl _,by omega,rfl,rfl⟩) ?_);rintro n env S' ⟨i,K,lo,u2,u3,u4,u5,u9,u10,u11,hi,vS,hKl,xW,hnA,rfl,rfl⟩;have hKw1:∀l,(K++l)[g]?=_:=fun l=>C9 vS l;refine Ad (xo2 ?_);refine Aa (Ae ?_);apply Aj;refine Dc (by simp only[opd,zv]<;>exact rfl) (fun yx=>?_) (fun yx=>?_)
 ·
  have hi3:i<3:=by have:=of_decide_eq_true yx;omega
  have wH:((0:Int)≤((i:Nat):Int))=True:=eq_true (by omega);have yR:=Eb i (by omega);rcases (by omega:i<2∨i=2) with h2 | rfl
  ·
   have hfi:y.fld[i]?=some (shT 1++[.sl 1 (bR [if i=0 then y.A else y.B]) none]):=by
    rcases (by omega:i=0∨i=1) with rfl | rfl<;>rfl
   have hFi:∀S,Jc S 11 (Gt true) (.int .i64 (i:Nat))=some (.cptr (shT 1) 0):=fun S=>by
    rcases (by omega:i=0∨i=1) with rfl | rfl<;>rfl
   have hEQ:Dl [0,0,1,0,0,2,2,2,2,2,0] (shT 1) (shT 1)=some true:=by decide +kernel
   refine Ak (Bl rfl (Aj (Ar (Ad (Af rfl (Ac (by simp only[zl,zm,Dk,Int.toNat_natCast,wH,hfi,shT]<;>exact rfl) ?_))))));refine xo0 ?_;refine Lj ?_;refine Ag rfl (Us ?_);refine Aa (Ae ?_);refine Aj (Aj (Eu (by simp only[newsVals,zw,Nat.reduceAdd]<;>exact rfl) (by simp only[zw]<;>exact rfl) ?_));refine xo4 rfl rfl ?_;refine xo6 rfl ?_;refine Bf rfl rfl (xo9 rfl rfl ?_);refine xo4 rfl rfl ?_;refine xo4 rfl rfl ?_;refine Be (by simp only[zl,zm,zd,Au,List.take,List.drop,wO,wRow,hKw1]<;>exact rfl) rfl ?_;refine Bf rfl rfl (Cj (by simp only[zl,zm,hFi,shT]<;>exact rfl) (by simp only[fpHere,zo]<;>exact rfl) rfl ?_);refine xo6 rfl ?_;apply Ah (by simp only[zo];exact congrArg (Option.map fun b=>(D.bool (b != true),_,false)) hEQ) rfl rfl;refine Bz (Ae ?_);refine D5 ?_;refine Ak (Bl rfl (Ad (xo1 ?_)));refine xo0 ?_;apply Ac (by simp only[zo,E5,Nb]<;>exact rfl);refine xo1 ?_;refine xo1 ?_;refine xo0 ?_;refine xo2 ?_;refine Ag rfl (Ey 0 (b:=false) ?_);refine Aq rfl (xo1 ?_);refine Aq rfl (xo1 ?_);refine Aq rfl (xo0 ?_);refine Aq rfl (xo2 ?_);refine Aq rfl (Ag rfl (Ey 0 (b:=false) ?_));refine Dp rfl rfl (Dp rfl rfl (Dp rfl rfl (Aq rfl (xo3 ?_))));refine xo3 ?_;refine Aa (Ae ?_);apply A7 (by simp only[opd,zv]);refine Ak (Ej (Bl rfl (Am (Ac (by simp only[zo,Bd,yR]<;>exact rfl) ?_))));refine Ag rfl (Aa (Hl (by simp only[ze]<;>exact rfl) ?_));exact⟨3-(i+1),by omega,i+1,_,_,_,_,_,_,_,_,_,by omega,C9 vS _,by simp;omega,by omega,rfl,rfl,rfl⟩
  have hfi:y.fld[2]?=some (shN 3++[.sl 1 (bR (Bq y.N 3)) none]):=rfl;have hFi:∀S,Jc S 11 (Gt true) (.int .i64 (2:Nat))=some (.cptr (shN 3) 0):=fun S=>rfl;have hEQ:Dl [0,0,1,0,0,2,2,2,2,2,0] (shN 3) (shN 3)=some true:=by decide +kernel
  refine Ak (Bl rfl (Aj (Ar (Ad (Af rfl (Ac (by simp only[zl,zm,Dk,Int.toNat_natCast,wH,hfi,shN]<;>exact rfl) ?_))))));refine xo0 ?_;refine Lj ?_;refine Ag rfl (Us ?_);refine Aa (Ae ?_);refine Aj (Aj (Eu (by simp only[newsVals,zw,Nat.reduceAdd]<;>exact rfl) (by simp only[zw]<;>exact rfl) ?_));refine xo4 rfl rfl ?_;refine xo6 rfl ?_;refine Bf rfl rfl (xo9 rfl rfl ?_);refine xo4 rfl rfl ?_;refine xo4 rfl rfl ?_;refine Be (by simp only[zl,zm,zd,Au,List.take,List.drop,wO,wRow,hKw1]<;>exact rfl) rfl ?_;refine Bf rfl rfl (Cj (by simp only[zl,zm,hFi,shN]<;>exact rfl) (by simp only[fpHere,zo]<;>exact rfl) rfl ?_);refine xo6 rfl ?_;apply Ah (by simp only[zo];exact congrArg (Option.map fun b=>(D.bool (b != true),_,false)) hEQ) rfl rfl;refine Bz (Ae ?_);refine D5 ?_;refine Ak (Bl rfl (Ad (xo1 ?_)));refine xo0 ?_;apply Ac (by simp only[zo,E5,Nb,Ci]<;>exact rfl);refine xo1 ?_;refine xo1 ?_;refine xo0 ?_;refine xo2 ?_;refine Ag rfl (Ey 0 (b:=false) ?_);refine Aq rfl (xo1 ?_);refine Aq rfl (xo1 ?_);refine Aq rfl (xo0 ?_);refine Aq rfl (xo2 ?_);refine Aq rfl (Ag rfl (Ey 0 (b:=true) ?_));refine Aq rfl (xo0 ?_);refine Aq rfl (Ac (by simp only[zo];exact ucheck_run (n:=3) (by omega) _ (by omega) (by omega) (Xe _ (by omega)) (Ci _ _) none) ?_);refine Aq rfl (xo2 ?_);refine Aq rfl (xo3 ?_);refine xo3 ?_;refine Aa (Ae ?_);refine D5 ?_;refine Ak (Ej (Bl rfl (Am (Ac (by simp only[zo,Bd,yR]<;>exact rfl) ?_))));refine Ag rfl (Aa (Hl (by simp only[ze]<;>exact rfl) ?_));exact⟨3-(2+1),by omega,2+1,_,_,_,_,_,_,_,_,_,by omega,C9 vS _,by simp;omega,by omega,rfl,rfl,rfl⟩
 refine Dq (Hq (Jb (Hy (Bl rfl (Ad (Az (Aa (Ae ?_))))))));apply Ba;refine⟨_,by simp only[F39,resultD,Bg,resD,zg]<;>exact rfl,?_⟩;exact Gg _ _ _ _ xW rfl (fun _ _=>rfl)
def RM.key (y:RM) (i:Nat):UInt8:=if i=0 then y.A else y.B
def Xm (y0 y:RM) (c:Nat):Int:=if 1≤c∧y0.A≠y.A then 1 else if 2≤c∧y0.B≠y.B then 2 else -1
theorem broken_run{d:Nat}(hd:2≤d){H:List Z7}(low:Nat){g gm gt:Nat}{x:CM}{w:WM}(hW:WS H g gm gt x w){y0:RM}(xU:w.row=some y0)(y:RM)(c:Option Nat):Bc LP NN d 45 [.ptr g 0 0 0,.sl 12 y.fld c] ⟨H,low⟩=some (.int .i64 (Xm y0 y x.ctl),⟨H,low⟩,false):=by
 obtain⟨lin,hw,yw⟩:=hW.hw;have hct:=x.ctl_lt;have qM:lenD false (slB true 1 (x.ctlR x.ctl) none)=some (.int .i64 (x.ctl:Nat)):=by rw[Lc];simp[CM.ctlR]
 refine Hf (F:=F45) rfl (by simp only[LP,snapVs,zs,zm]<;>exact rfl) rfl (by simp only[LP,zf,zm];try rfl) (by simp only[F45,zv]<;>exact rfl) (by omega) ?_;rintro d rfl;refine Ad (Az (Aa (Ae ?_)));refine Aj (Ad (Af rfl (xo3 ?_)));refine xo1 ?_;refine xo1 ?_;apply Ac (by simp only[zl,zm,zd,Au,List.take,List.drop,hw,wO,wRow,xU,Ja]<;>exact rfl);apply Ac (by simp only[zo,qM]<;>exact rfl);refine Az (Aa (Ae ?_));refine Ar (Em (fun n env S'=>∃(i:Nat) (u2 u3 u4 u8 u9:D),i≤x.ctl∧(∀k,k<i→y0.key k=y.key k)∧n=x.ctl-i∧S'=⟨H,H.length⟩∧env=[.ptr g 0 0 0,.sl 12 y.fld c,u2,u3,u4,slB true 1 (x.ctlR x.ctl) none,.int .i64 (x.ctl:Nat),.int .i64 (i:Nat),u8,u9]) (x.ctl) (by omega) (⟨0,_,_,_,_,_,by omega,fun k h=>by omega,by omega,rfl,rfl⟩) ?_);rintro n env S' ⟨i,u2,u3,u4,u8,u9,hi,hks,hnA,rfl,rfl⟩;refine Ad (xo2 ?_);refine Aa (Ae ?_);apply Aj;refine Dc (by simp only[opd,zv]<;>exact rfl) (fun yx=>?_) (fun yx=>?_)
 ·
  have qj:i<x.ctl:=by have:=of_decide_eq_true yx;omega
  have hiT:(((i:Nat):Int)<((x.ctl:Nat):Int))=True:=eq_true (by omega);have wH:((0:Int)≤((i:Nat):Int))=True:=eq_true (by omega);have yR:=Eb i (by omega);have hCe:slB true 1 (x.ctlR x.ctl) none=.sl 1 (x.ctlR x.ctl) none:=Gi (by simp[CM.ctlR];omega);have hci:(x.ctlR x.ctl)[i]?=some [.int .i64 (i:Nat)]:=by simp[CM.ctlR,qj]
  have hfi:∀z:RM,z.fld[i]?=some (shT 1++[.sl 1 (bR [z.key i]) none]):=fun z=>by
   rcases (by omega:i=0∨i=1) with rfl | rfl<;>rfl
  have xu:=aI hiT (aI wH (aI yR (aI hCe (aI hci (hfi)))));refine Ak (Bl rfl (Aj (Ar (Ad (Af rfl (Ac (by simp only[zl,zm,Dk,Int.toNat_natCast,xu]<;>exact rfl) ?_))))));refine Qw ?_;refine Ag rfl (Ag rfl (Aa (Ae ?_)));refine Aj (D9 ?_);refine Bf rfl rfl (Bf rfl rfl (Be (by simp only[zl,zm,Dk,Int.toNat_natCast,shT,xu]<;>exact rfl) rfl ?_));apply Ah (by simp only[zo,Eh,zm,xu]<;>exact rfl) rfl rfl;refine xo48 rfl ?_;refine Bf rfl rfl (Ah (by simp only[zo,xu]<;>exact rfl) rfl rfl ?_);refine U4 rfl rfl ?_;refine U4 rfl rfl ?_;refine Be (by simp only[zl,zm,zd,Au,List.take,List.drop,hw,wO,wRow,xU,Ja,xu]<;>exact rfl) rfl ?_;refine Bf rfl rfl (Be (by simp only[zl,zm,Dk,Int.toNat_natCast,shT,xu]<;>exact rfl) rfl ?_);apply Ah (by simp only[zo,Eh,zm,xu]<;>exact rfl) rfl rfl;refine xo48 rfl ?_;refine Be (by simp only[zo,xu];exact equal_run (by omega) _ [y.key i] [y0.key i] none none) rfl ?_;apply Ah (by simp only[zo,unD,xu]<;>exact rfl) rfl rfl;refine Bz (Ae ?_);refine Dc (by simp only[opd,zv,xu]<;>exact rfl) (fun xZ=>?_) (fun xZ=>?_)
  ·
   have xw:y0.key i≠y.key i:=fun h=>by rw[h]at xZ;simp at xZ
   refine Ad (Af rfl (Zo ?_));refine Ag rfl (Aa (Ae ?_));refine Ba (bk_r (Oo (lk_r (bk_r (Oo ?_)))))
   have e:Xm y0 y x.ctl=((i+1:Nat):Int):=by
    unfold Xm;rcases (by omega:i=0∨i=1) with rfl | rfl
    ·
     rw[if_pos ⟨by omega,xw⟩];rfl
    have h0:=hks 0 (by omega);rw[if_neg (fun h=>h.2 h0),if_pos ⟨by omega,xw⟩];rfl
   rw[e];refine⟨_,by simp only[F45,resultD,Bg,resD,zg]<;>exact rfl,?_⟩;exact Gg _ _ _ _ (Nat.le_refl _) rfl (fun _ _=>rfl)
  have hke:y0.key i=y.key i:=by simp at xZ;exact xZ.symm
  have hks':∀k,k<i+1→y0.key k=y.key k:=fun k h=>by
   rcases (by omega:k<i∨k=i) with h1 | h1
   ·
    exact hks k h1
   exact h1▸hke
  refine Ak (Ej (Bl rfl (Am (Zo ?_))));refine Ag rfl (Aa (Hl (by simp only[ze]<;>exact rfl) ?_));exact⟨x.ctl-(i+1),by omega,i+1,_,_,_,_,_,by omega,hks',rfl,rfl,rfl⟩
 have zG:i=x.ctl:=by have:=of_decide_eq_false yx;omega
 subst zG;refine Dq (Hq (Jb (Hy (Bl rfl (Ad (Az (Aa (Ae ?_))))))));apply Ba
 have e:Xm y0 y x.ctl=-1:=by
  unfold Xm;rw[if_neg (fun h=>h.2 (hks 0 (by omega))),if_neg (fun h=>h.2 (hks 1 (by omega)))]
 rw[e];refine⟨_,by simp only[F45,resultD,Bg,resD,zg]<;>exact rfl,?_⟩;exact Gg _ _ _ _ (Nat.le_refl _) rfl (fun _ _=>rfl)
def Ux (w:WM) (N i:Nat):WM:={ w with tot:=(w.tot.take i).map (·+N)++w.tot.drop i }
def addW (w:WM) (N:Nat):WM:={ w with tot:=w.tot.map (·+N) }
theorem addP_get(w:WM)(N i:Nat)(h:i<w.tot.length):(Ux w N i).tot[i]?=some w.tot[i]:=by
 simp only[Ux];rw[Lr_ (by simp;omega)];simp[List.getElem?_drop,h,Nat.min_eq_left (Nat.le_of_lt h)]
theorem addP_step(w:WM)(N i:Nat)(h:i<w.tot.length):(Ux w N i).tot.set i (w.tot[i]+N)=(Ux w N (i+1)).tot:=by
 have h1:((w.tot.take i).map (·+N)).length=i:=by simp;omega
 show ((w.tot.take i).map (·+N)++w.tot.drop i).set i _=(w.tot.take (i+1)).map (·+N)++w.tot.drop (i+1);rw[List.set_append_right _ _ (by omega),h1,Nat.sub_self,List.drop_eq_getElem_cons h,List.set_cons_zero,List.take_add_one,Lg h];simp only[Option.toList_some,List.map_append,List.map_cons,List.map_nil,Lo_,List.cons_append,List.nil_append]
theorem wadd_run{d:Nat}(hd:21≤d){g gm gt:Nat}{x:CM}{w:WM}{y:RM}(xU:w.row=some y)(hn:w.tot.length=x.ctl+1)(htot:∀m∈w.tot,m<10 ^ 14):WF d 47 [] g gm gt x w (addW w y.N):=by
 intro H low hW;obtain⟨d0,rfl⟩:∃e,d=e+1:=⟨d-1,by omega⟩;have hct:=x.ctl_lt;have hN:y.N<1000:=Nat.mod_lt _ (by decide);obtain⟨lin,hw,yw⟩:=hW.hw;have hTl:(G5 (x.ctl+1)).length=x.ctl+1:=by simp[G5]
 have hW0:WS H g gm gt x (Ux w y.N 0):=by
  have:Ux w y.N 0=w:=by simp[Ux]
  rw[this];exact hW
 have hrowP:∀N i,(Ux w N i).row=some y:=fun _ _=>xU
 have yc:∀S,Bc LP NN d0 80 [.agg (shN 3++[.sl 1 (bR (Bq y.N 3)) none])] S=some (.tup [dcD y.N,.int .i64 0],S,false):=fun S=>by
  have:=uget_run (d:=d0) (n:=3) (by omega) S (by omega) (by omega) (Xe y.N (by omega)) (Ci y.N 3) none;rw[Ic (n:=y.N) (k:=3) (by omega) (by omega) (by omega)]at this;exact this
 refine Gl (F:=F47) rfl (by simp only[LP,snapVs,zs,zm]<;>exact rfl) rfl (by simp only[LP,zf,zm];try rfl) (by simp only[F47,zv]<;>exact rfl) (by omega) ?_;intro d he;obtain rfl:=Nat.succ.inj he;have xq:=aI hw (aI xU (aI hrowP (hTl)));refine Ad (Af rfl (xo3 ?_));refine xo1 ?_;refine xo1 ?_;apply Ac (by simp only[zl,zm,zd,Au,List.take,List.drop,wO,wRow,Ja,xq]<;>exact rfl);apply Ac (by simp only[zo,E5,xq]<;>exact rfl);refine Az (Aa (Ae ?_));refine Ar (Em (fun n env S'=>∃(i:Nat) (K:List Z7) (lo:Nat) (u1 u2 u3 u7:D),i≤x.ctl+1∧WS K g gm gt x (Ux w y.N i)∧Keep H K∧(lo≤max g gt∨i=0)∧n=x.ctl+1-i∧S'=⟨K,lo⟩∧env=[.ptr g 0 0 0,u1,u2,u3,.sl 2 (G5 (x.ctl+1)) none,.int .i64 (x.ctl+1:Nat),.int .i64 (i:Nat),u7]) (x.ctl+1) (by omega) (⟨0,_,_,_,_,_,_,by omega,hW0,Keep.refl _,.inr rfl,by omega,rfl,rfl⟩) ?_);rintro n env S' ⟨i,K,lo,u1,u2,u3,u7,hi,yI,wW,xW,hnA,rfl,rfl⟩;obtain⟨linK,hwK,kJ⟩:=yI.hw;have hwK1:∀l,(K++l)[g]?=_:=fun l=>C9 hwK l;have htK1:∀l,(K++l)[gt]?=_:=fun l=>C9 yI.ht l;refine Ad (xo2 ?_);refine Aa (Ae ?_);apply Aj;refine Dc (by simp only[opd,zv]<;>exact rfl) (fun yx=>?_) (fun yx=>?_)
 ·
  have qj:i<x.ctl+1:=by have:=of_decide_eq_true yx;omega
  have hiT:(((i:Nat):Int)<((x.ctl+1:Nat):Int))=True:=eq_true (by omega);have wH:((0:Int)≤((i:Nat):Int))=True:=eq_true (by omega);have yR:=Eb i (by omega);have hti:(G5 (x.ctl+1))[i]?=some [.int .i64 2,.int .i64 (i:Nat)]:=by simp[G5,qj]
  have vK:i<w.tot.length:=by rw[hn];omega
  have hf2:y.fld[2]?=some (shN 3++[.sl 1 (bR (Bq y.N 3)) none]):=rfl;have hir:((Ux w y.N i).tot.map dcR)[i]?=some (dcR w.tot[i]):=by rw[Lp_,addP_get w y.N i vK];rfl
  have hm1:w.tot[i]<10 ^ 14:=htot _ (List.getElem_mem vK);have xQ:=fun lo l=>store_tot (lo:=lo) (htK1 l) hir (w.tot[i]+y.N);have hWn:=(yI.app [⟨67,2,[[.int .i64 2,.int .i64 (i:Nat)]],0,0,false⟩,⟨57,3,[dcR y.N],0,0,false⟩]).tot ((Ux w y.N i).tot.set i (w.tot[i]+y.N)) (by rw[List.length_set];exact yI.hn);rw[List.map_set]at hWn;have hWn1:=hWn.1;have hst1:({ Ux w y.N i with tot:=(Ux w y.N i).tot.set i (w.tot[i]+y.N) }:WM)=Ux w y.N (i+1):=by rw[addP_step w y.N i vK];rfl
  rw[hst1]at hWn1;have xK:=aI hiT (aI wH (aI yR (aI hti (aI hf2 (hir)))));refine Ak (Bl rfl (Aj (Ar (Ad (Af rfl (Ac (by simp only[zl,zm,Dk,Int.toNat_natCast,xK]<;>exact rfl) ?_))))));apply Ac (by simp only[zl,zm,zd,Au,List.take,List.drop,xK]<;>exact rfl);apply Ac (by simp only[zl,zm,xK]<;>exact rfl);refine Ag rfl (Ac (by simp only[zl,zm,Bi,overlay,Bh,zs,zc,zf,List.take,List.drop,xK]<;>exact rfl) ?_);refine Aa (Ae ?_);refine Aj (Eu (by simp only[newsVals,zw,Nat.reduceAdd]<;>exact rfl) (by simp only[zw,newsObj]<;>exact rfl) ?_);refine Bf rfl rfl (Ah (by simp only[zo,xK]<;>exact rfl) rfl rfl ?_);refine xo33 rfl rfl ?_;refine xo33 rfl rfl ?_;refine Be (by simp only[zl,zm,zd,Au,List.take,List.drop,wO,wRow,Ja,xq,hwK1,xK]<;>exact rfl) rfl ?_;refine xo33 rfl rfl ?_;refine Be (by simp only[zl,zm,zd,Au,List.take,List.drop,xK]<;>exact rfl) rfl ?_;refine Be (by simp only[zl,zm,Dk,xK]<;>exact rfl) rfl ?_;refine Be (by simp only[zl,zm,zd,Au,List.take,List.drop,shN,xK]<;>exact rfl) rfl ?_;refine Be (by simp only[zo,shN,List.cons_append,List.nil_append,xK];exact yc _) rfl ?_;refine Dh rfl rfl (Ah (by simp only[zo,Lz,shN,List.cons_append,List.nil_append,xK]<;>exact rfl) rfl rfl ?_);apply Ah (by simp only[zo,Lz,Ls_,shN,List.cons_append,List.nil_append,xK]<;>exact rfl) rfl rfl;apply Cj (by simp only[zo]<;>exact rfl) (by simp only[fpHere]<;>exact rfl) rfl;refine Be (by simp only[zl,zm,Bi,overlay,List.take,shN,xK]<;>exact rfl) rfl ?_;refine Dh rfl rfl (Bz (Ae ?_));apply Eu (by simp only[newsVals,zw,Nat.reduceAdd]<;>exact rfl) (by simp only[zw]<;>exact rfl);refine Bf rfl rfl (Ah (by simp only[zo,xK]<;>exact rfl) rfl rfl ?_);refine xo33 rfl rfl ?_;refine xo33 rfl rfl ?_;refine Be (by simp only[zl,zm,zd,Au,List.take,List.drop,wO,wRow,Ja,xq,hwK1,xK]<;>exact rfl) rfl ?_;refine Bf rfl rfl (Bf rfl rfl (Ah (by simp only[zo,xK]<;>exact rfl) rfl rfl ?_));refine xo33 rfl rfl ?_;refine xo33 rfl rfl ?_;refine Be (by simp only[zl,zm,zd,Au,List.take,List.drop,wO,wRow,Ja,xq,hwK1,xK]<;>exact rfl) rfl ?_;refine Bf rfl rfl (Be (by simp only[zl,zm,E8,Int.toNat_natCast,htK1,xK]<;>exact rfl) rfl ?_);refine Be (by simp only[zl,zm,zd,Au,List.take,List.drop,dcR,htK1,xK]<;>exact rfl) rfl ?_;refine Be (by simp only[zl,zm,zd,Au,List.drop,xK]<;>exact rfl) rfl ?_;refine Be (by simp only[zo,xK];exact add_run (by omega) _ (by omega) (by omega)) rfl ?_;refine Dh rfl rfl (Ah (by simp only[zo,Lz,xK]<;>exact rfl) rfl rfl ?_);apply Ah (by simp only[zo,Lz,Ls_,xK]<;>exact rfl) rfl rfl;refine Be (by simp only[zl,zm,E8,Int.toNat_natCast,htK1,xK]<;>exact rfl) rfl ?_;refine Be (by simp only[opd,zv,Ap,aop,LOp.loud,lop,if_true];exact congrArg (Option.map fun S'=>(D.undef,S',true)) (xQ _ _)) rfl ?_;refine Bz (Ej (Ae ?_));refine Am (Ac (by simp only[zo,Bd,dcR,xK]<;>exact rfl) ?_);refine Ag rfl (Aa (Hl (by simp only[ze]<;>exact rfl) ?_));exact⟨x.ctl+1-(i+1),by omega,i+1,_,_,_,_,_,_,by omega,hWn1,wW.trans ((Keep.app _ _).trans hWn.2),.inl (by omega),rfl,rfl,rfl⟩
 have zG:i=x.ctl+1:=by have:=of_decide_eq_false yx;omega
 subst zG;have hae:Ux w y.N (x.ctl+1)=addW w y.N:=by simp[Ux,addW,List.take_of_length_le,List.drop_eq_nil_of_le,hn]
 rw[hae]at yI;refine Dq (Hq (Jb (Hy ?_)));obtain⟨r,wC,y8⟩:=Jv (S:=⟨H,low⟩) (S':=⟨K,lo⟩) hW yI wW (xW.imp_right fun h=>by omega);refine⟨r,wC,?_⟩;refine⟨_,by simp only[F47,resultD,Bg]<;>exact rfl,?_⟩;exact y8
theorem slice_full(S:St)(rows:List (List D))(c:Option Nat):Nu S 3 (.sl 3 rows c) none (some (.int .i64 (rows.length:Nat))) (some (.int .i64 (rows.length:Nat)))=some (.sl 3 rows (some rows.length)):=by
 simp[Nu,Fj,J7,Ih]
theorem clip_nil(d:Nat)(S:St):Fb LP NN (d+1) 37 [.nils] S=some (.nils,S,false):=by kernel_rfl
theorem oclone_nil(d:Nat)(S:St):Fb LP NN (d+1) 38 [.nils] S=some (.nils,S,false):=by kernel_rfl
theorem clip_sl{d:Nat}(hd:1≤d)(S:St)(rows:List (List D))(c:Option Nat):Bc LP NN d 37 [.sl 3 rows c] S=some (.sl 3 rows (some rows.length),S,false):=by
 refine rq (F:=F37) rfl (by simp only[LP,snapVs,zs,zm]<;>exact rfl) (by simp only[F37,zv]<;>exact rfl) ?_;rintro d rfl;refine Ad (Az (Aa (Ae ?_)));refine Ad (Af rfl (Af rfl (Ac (by simp only[zo,E5]<;>exact rfl) ?_)));refine Af rfl (Ac (by simp only[zo,E5]<;>exact rfl) ?_);apply Ac (by simp only[opd,zv,Ap,aop,LOp.loud,lop,if_true,Eg];rw[slice_full];exact rfl);refine Ag rfl (Aa (Ae ?_));apply Ba;refine⟨_,by simp only[F37,resultD,Bg,resD,zg]<;>exact rfl,?_⟩;rfl
theorem oclone_sl{d:Nat}(hd:1≤d)(S:St)(rows:List (List D))(hr:rows.length≠0)(y8:rows.length≤100000)(c:Option Nat):Bc LP NN d 38 [.sl 3 rows c] S=some (.sl 3 rows none,S,false):=by
 refine rq (F:=F38) rfl (by simp only[LP,snapVs,zs,zm]<;>exact rfl) (by simp only[F38,zv]<;>exact rfl) ?_;rintro d rfl;refine Ad (Az (Aa (Ae ?_)));refine Aj (Ad (Af rfl (Xr ?_)));refine Aa (Ae ?_);refine D5 ?_;refine Ak (Bl rfl (Ad (xo51 ?_)));refine Af rfl (Ac (by simp only[opd,zv,Ap,aop,LOp.loud,lop,if_true];exact Xo 52 3 32 1 (by decide) hr (by omega) c _) ?_);refine Ag rfl (Aa (Ae ?_));apply Ba;refine⟨_,by simp only[F38,resultD,Bg,resD,zg,zm]<;>exact rfl,?_⟩;simp[leaveP,leave,Aac,Aaa,snap,newAt,D.Aab,D.freeV,D.free];rfl
def L9 (rows:List (List D)):D:=if rows.isEmpty then .nils else .sl 3 rows (some rows.length)
theorem clipR_ne{rows:List (List D)}(h:rows≠[]):L9 rows=.sl 3 rows (some rows.length):=by cases rows<;>simp_all [L9]
theorem LinAt.snapA{H:List Z7}{d:D}{rows:List (List D)}(h:LinAt H d rows)(m:Nat):∃y,snapVs m H [d]=some [y]∧snapVs m H [y]=some [y]∧((rows=[]∧y=.nils)∨(rows≠[]∧∃c,y=.sl 3 rows c)):=by
 rcases h with⟨h1,rfl⟩ | ⟨h1,rfl | ⟨g,v,rfl,h3⟩⟩
 ·
  exact⟨.nils,rfl,rfl,.inl ⟨h1,rfl⟩⟩
 ·
  exact⟨_,rfl,rfl,.inr ⟨h1,_,rfl⟩⟩
 exact⟨.sl 3 rows none,by simp[snapVs,Nq,Lr,h3],rfl,.inr ⟨h1,_,rfl⟩⟩
theorem clip_run{d:Nat}(hd:1≤d){H:List Z7}(low:Nat){l:D}{rows:List (List D)}(h:LinAt H l rows):Bc LP NN d 37 [l] ⟨H,low⟩=some (L9 rows,⟨H,low⟩,false):=by
 obtain⟨y,h1,h2,⟨rfl,rfl⟩ | ⟨h3,c,rfl⟩⟩:=h.snapA H.length
 ·
  rw[Wi rfl h1 h2];obtain⟨d,rfl⟩:∃e,d=e+1:=⟨d-1,by omega⟩;exact fast_ok (clip_nil d _)
 rw[Wi rfl h1 h2,clipR_ne h3];exact clip_sl hd _ _ _
theorem oclone_run{d:Nat}(hd:1≤d){H:List Z7}(low:Nat){l:D}{rows:List (List D)}(h:LinAt H l rows)(hl:rows.length≤100000):Bc LP NN d 38 [l] ⟨H,low⟩=some (slB true 3 rows none,⟨H,low⟩,false):=by
 obtain⟨y,h1,h2,⟨rfl,rfl⟩ | ⟨h3,c,rfl⟩⟩:=h.snapA H.length
 ·
  rw[Wi rfl h1 h2];obtain⟨d,rfl⟩:∃e,d=e+1:=⟨d-1,by omega⟩;exact fast_ok (oclone_nil d _)
 have h4:rows.length≠0:=fun e=>h3 (List.length_eq_zero_iff.1 e);rw[Wi rfl h1 h2,Gi h4];exact oclone_sl hd _ _ h4 hl _
theorem clipR_lin(H:List Z7)(rows:List (List D)):LinAt H (L9 rows) rows:=by
 cases rows with
 | nil=>exact .inl ⟨rfl,rfl⟩
 | cons a l=>exact .inr ⟨by simp,.inl rfl⟩
theorem plainV_sl(sz:Nat)(rows:List (List D))(c:Option Nat):Z9 (.sl sz rows c)=true:=rfl
theorem clipR_pv(rows:List (List D)):Z9 (L9 rows)=true:=by cases rows<;>rfl
theorem app_tot{H:List Z7}{gt v lo n:Nat}{rows:List (List D)}(h:H[gt]?=some ⟨57,3,rows,v,2,true⟩)(hn:n=rows.length)(hl:n≤1000):Di 57 3 32 2 (.msl H.length 0 0 0 none) (.msl gt v 0 n none) ⟨H++[⟨57,3,[],0,2,false⟩],lo⟩=some (.msl H.length 1 0 n none,⟨H++[⟨57,3,rows,1,2,true⟩],min lo H.length⟩,true):=by
 have e2:rows.length*32≤140737488355328:=by omega
 subst hn;simp[Di,rowsOf,C9 h,Dn,Bj,e2,setAt]
theorem Zw{S S':St}(r:D)(hl:S'.low<S.heap.length)(hs:∀m H,Aac m H r=some r):leave false S r S'=some (r,⟨S'.heap,min S.low S'.low⟩,true):=by
 have h:¬S.heap.length≤S'.low:=by omega
 simp[leave,h,hs]
def CF (d:Nat) (f:FuncId) (caps:List D) (H:List Z7) (g gm gt:Nat) (x:CM) (w w':WM):Prop:=∀(H1:List Z7) (lo1:Nat),WS H1 g gm gt x w→Keep H H1→∃H2 lo2 wr,Bc LP NN d f caps ⟨H1,lo1⟩=some (.tup [],⟨H2,lo2⟩,wr)∧WS H2 g gm gt x w'∧Keep H1 H2∧lo2≤lo1
theorem rowO_cl(r:Option RM):Cl (Ja r):=by cases r<;>exact⟨rfl,rfl,rfl,rfl⟩
theorem tclone_run{d:Nat}(hd:1≤d){H:List Z7}(low:Nat){gt v n:Nat}{rows:List (List D)}(h:H[gt]?=some ⟨57,3,rows,v,2,true⟩)(hr:rows≠[])(hn:n=rows.length)(hl:n≤1000):Bc LP NN d 76 [.msl gt v 0 n none] ⟨H,low⟩=some (.sl 3 rows none,⟨H,low⟩,false):=by
 have hg:=Gx h;have htA:∀l,(H++l)[gt]?=_:=fun l=>C9 h l;refine Hf (F:=F76) rfl (by simp only[LP,snapVs,zs,zm,h,Nat.not_le.2 hg]<;>exact rfl) rfl (by simp only[LP,zf,zm];try rfl) (by simp only[F76,zv]<;>exact rfl) (by omega) ?_;rintro d rfl;refine Ad (Az (Aa (Ae ?_)));refine Aj (Ad (Af rfl (Xr ?_)));refine Aa (Ae ?_);refine D5 ?_;refine Ak (Bl rfl (Ad (xo51 ?_)));refine Af rfl (Ac (by simp only[opd,zv,Ap,aop,LOp.loud,lop,if_true];exact app_tot h hn hl) ?_);refine Ag rfl (Aa (Ae ?_));apply Ba;refine⟨_,by simp only[F76,resultD,Bg,resD,zg]<;>exact rfl,?_⟩;show leave false _ _ _=_;subst hn;simp[leave,Ua,Nq,Lr,D.Aab,D.freeV,D.free,D.Aaf]
theorem try_run{d:Nat}(hd:3≤d){H:List Z7}(low:Nat){g gm gt:Nat}{x:CM}{w w':WM}(hW:WS H g gm gt x w){f:FuncId}{caps:List D}(hcv:∀H,Aaa H.length H (.fn f caps)=some (.fn f caps))(hC:CF (d-1) f caps H g gm gt x w w'):∃r,(∃T,r=(.int .i64 0,T,true)∧WS T.heap g gm gt x w'∧Keep H T.heap∧T.low≤g)∧Bc LP NN d 40 [.ptr g 0 0 0,.fn f caps] ⟨H,low⟩=some r:=by
 obtain⟨lin,hw,yw⟩:=hW.hw;have hct:=x.ctl_lt;have ⟨qR0,qR1,qR2,qR3⟩:=rowO_cl w.row;have qL0:=yw.Aae;have qL1:=yw.cells;have qL2:=yw.val;have qC:=clipR_lin H (w.lines.map lnR);have qC0:=qC.Aae;have qC1:=qC.cells;have qC2:=qC.val;have hrn:w.tot.map dcR≠[]:=by intro h;have:=congrArg List.length h;rw[List.length_map,hW.hn]at this;simp at this
 have hwA:∀l,(H++l)[g]?=_:=fun l=>C9 hw l;have qZ:∀o,(H.set g o)[g]?=some o:=fun o=>Cb hw o;have hsgA:∀o l,(H.set g o++l)[g]?=some o:=fun o l=>C9 (qZ o) l;have hsL:∀o l,(H++l).set g o=H.set g o++l:=fun o l=>List.set_append_left _ _ hW.lt;have zI:=hW.set w.page w.line w.body w.row (L9 (w.lines.map lnR)) w.lines w.ended qC;obtain⟨d0,rfl⟩:∃e,d=e+1:=⟨d-1,by omega⟩;rw[Nat.add_sub_cancel]at hC;refine Gl (F:=F40) rfl (by simp only[LP,snapVs,zs,zm]<;>exact rfl) rfl (by simp only[LP,zf,zm];try rfl) (by simp only[F40,zv]<;>exact rfl) (by omega) ?_;intro d he;obtain rfl:=Nat.succ.inj he;have xu:=aI hw (aI hwA (aI hsL (aI qZ (hsgA))));refine Ad (Az (Aa (Ae ?_)));refine Ad (Af rfl (xo3 ?_));refine xo1 ?_;refine xo54 ?_;refine Lj ?_;apply Ac (by simp only[zl,zm,Bi,overlay,Bh,zs,zc,zf,List.take,List.drop,qR0,qL0]<;>exact rfl);refine Aa (Ae ?_);refine Aj (Eu (by simp only[newsVals,zw,Nat.reduceAdd]<;>exact rfl) (by simp only[zw]<;>exact rfl) ?_);refine Bf rfl rfl (xo9 rfl rfl ?_);refine xo4 rfl rfl ?_;refine xo4 rfl rfl ?_;refine xo64 rfl ?_;refine Be (by simp only[zo];exact tclone_run (by omega) _ (C9 hW.ht _) hrn (by rw[List.length_map,hW.hn]) (by omega)) rfl ?_;refine Bf rfl rfl (xo9 rfl rfl ?_);refine xo4 rfl rfl ?_;refine xo4 rfl rfl ?_;refine xo64 rfl ?_;refine Be (by simp only[zo];exact clip_run (by omega) _ (yw.keep fun j o h1 _=>C9 h1 _)) rfl ?_;refine xo4 rfl rfl ?_;refine Be (by simp only[zl,zm,Bi,overlay,zs,zc,zf,List.take,List.drop]<;>exact rfl) rfl ?_;refine xo4 rfl rfl ?_;refine dw_g (by simp only[zl,zm,Bi,overlay,List.take,List.drop,qC1,qC2]<;>exact rfl) (hok:=by simp[show ob 32767 15=[true,true,true,true,true,true,true,true,true,true,true,true,true,true,true] from rfl,plainV_sl,clipR_pv,okHere,Kr,Fe,J9,dj,D8,fpQuiet]) (h:=?_);refine Bz (Ae ?_);refine Ad (Af rfl (Af rfl (xo3 ?_)));refine xo1 ?_;refine xo1 ?_;refine xo54 ?_;apply Ac (by simp only[zo];exact clip_run (by omega) _ (yw.keep fun j o h1 _=>C9 h1 _));refine xo3 ?_;refine xo1 ?_;refine xo1 ?_;apply Ac (by simp only[zl,zm,Bi,overlay,List.take,List.drop,wO,wRow,qC1,qC2,xu]<;>exact rfl);refine Aa (Ae ?_);refine Ad (Af rfl ?_);obtain⟨H2,lo2,wr2,yC,hW2,hK2,zL⟩:=hC _ _ (zI.app [⟨89,7,[[.int .i64 (w.page:Nat),.int .i64 (w.line:Nat),.bool w.body,Ja w.row,.sl 3 (w.tot.map dcR) none,L9 (w.lines.map lnR),.bool false]],0,0,false⟩]) ((Keep.set hW _).trans (Keep.app _ _));obtain⟨lin2,uJ,hlin2⟩:=hW2.hw;apply Ac (by simp only[zo];exact yC);refine Aa (Ae ?_);refine Aj (Ad (Af rfl (xo3 ?_)));refine xo1 ?_;refine xo1 ?_;apply Ac (by simp only[zl,zm,zd,Au,List.take,List.drop,wO,wRow,uJ]<;>exact rfl);refine Aa (Ae ?_);refine D5 ?_;refine Ak (Bl rfl (Ad (Az (Aa (Ae ?_)))));apply Ba;refine⟨_,⟨⟨H2,min low lo2⟩,rfl,hW2,((Keep.set hW _).trans (Keep.app _ _)).trans hK2,by show min low lo2≤g;omega⟩,?_⟩;refine⟨_,by simp only[F40,resultD,Bg,resD,zg]<;>exact rfl,?_⟩;exact Zw (S:=⟨H,low⟩) (S':=⟨H2,lo2⟩) _ (by show lo2<H.length;have:=hW.lt;omega) (fun _ _=>rfl)
def setRow (w:WM) (y:RM):WM:={ w with row:=some y }
def stA (w:WM) (y:RM):WM:={ w with page:=1,row:=some y }
def Q4 (x:CM) (w:WM) (y:RM):WM:=headW x (((stA w y).write (x.tg 1 0).tl).write (x.tg 2 0).tl) 0
def Tj (x:CM) (w:WM) (y:RM) (b:Nat):WM:=headW x (setRow (Hw x w b) y) b
def Yl (w:WM) (y:RM) (c:Nat):Nat:=match w.row with
 | some y0=>(Xm y0 y c).toNat
 | none=>0
def Ed (x:CM) (w:WM) (y:RM):WM:=if w.page=0 then Q4 x w y else if Yl w y x.ctl=0 then w else Tj x w y (Yl w y x.ctl)
def genA (x:CM) (w:WM) (y:RM):WM:=addW (setRow (Ed x w y) y) y.N
def Na (x:CM) (w:WM) (y:RM) (det:Int):WM:=if det=0 then Dt x (genA x w y) (tD1 (x.nps 0)) else if det=1 then Dt x (genA x w y) tD2 else genA x w y
theorem WB.mono{w:WM}{n n':Nat}(h:WB w n)(hn:n≤n'):WB w n':=⟨h.row,by have:=h.page;omega,by have:=h.line;omega,by have:=h.lines;omega,h.totM hn⟩
theorem WB.setRow{w:WM}{n:Nat}(h:WB w n)(y:RM):WB (setRow w y) n:=⟨by simp[YtbhnlppboegmjaaGreatDoor.setRow],h.page,h.line,h.lines,h.tot⟩
theorem brkI_le(y0 y:RM)(c:Nat):Xm y0 y c=-1∨(1≤Xm y0 y c∧Xm y0 y c≤c):=by
 unfold Xm;split
 ·
  rename_i h;exact .inr ⟨by omega,by omega⟩
 split
 ·
  rename_i h;exact .inr ⟨by omega,by omega⟩
 exact .inl rfl
theorem WB.start{w:WM}{n:Nat}{y:RM}(h:WB (YtbhnlppboegmjaaGreatDoor.setRow w y) n)(h20:20≤n)(hn:n≤30000){x:CM}(ht:w.tot.length=x.ctl+1):WB (stA w y) n∧TOK (stA w y) (x.tg 1 0)∧WB ((stA w y).write (x.tg 1 0).tl) (n+4)∧TOK ((stA w y).write (x.tg 1 0).tl) (x.tg 2 0)∧WB (((stA w y).write (x.tg 1 0).tl).write (x.tg 2 0).tl) (n+8)∧(((stA w y).write (x.tg 1 0).tl).write (x.tg 2 0).tl).tot.length=x.ctl+1∧WB (Q4 x w y) (n+140):=by
 have hc:=x.ctl_lt;have h1:WB (stA w y) n:=⟨by simp[stA],by show 1≤n;omega,h.line,h.lines,h.tot⟩;have t1:=Ko (x:=x) h1 (by omega) ht (k:=1) (lv:=0) (by omega);have h2:=h1.write t1;have e1:=Gv (stA w y) (x.tg 1 0).tl;have ht1:((stA w y).write (x.tg 1 0).tl).tot.length=x.ctl+1:=by rw[e1.2.2.1];exact ht
 have t2:=Ko (x:=x) h2 (by omega) ht1 (k:=2) (lv:=0) (by omega);have h3:=h2.write t2;have e2:=Gv ((stA w y).write (x.tg 1 0).tl) (x.tg 2 0).tl;have ht2:(((stA w y).write (x.tg 1 0).tl).write (x.tg 2 0).tl).tot.length=x.ctl+1:=by rw[e2.2.2.1];exact ht1
 exact⟨h1,t1,h2,t2,h3,ht2,(WB.head (x:=x) (x.ctl+1-0) 0 h3 (by omega) ht2 (by omega)).mono (by omega)⟩
theorem WB.brk{w:WM}{n:Nat}(h:WB w n)(hn:n≤30000){x:CM}(ht:w.tot.length=x.ctl+1)(y:RM){b:Nat}(hb:b≤x.ctl+1):WB (Hw x w b) (n+132)∧(Hw x w b).tot.length=x.ctl+1∧WB (YtbhnlppboegmjaaGreatDoor.setRow (Hw x w b) y) (n+132)∧WB (Tj x w y b) (n+264):=by
 have hc:=x.ctl_lt;obtain⟨h1,h2⟩:=WB.foot (x:=x) (x.ctl+1-b) (x.ctl+1) h (by omega) ht (Nat.le_refl _) (by omega);have h3:=h1.mono (n':=n+132) (by omega);exact⟨h3,h2,h3.setRow y,(WB.head (x:=x) (x.ctl+1-b) b (h3.setRow y) (by omega) h2 (by omega)).mono (by omega)⟩
theorem WB.first{w:WM}{n:Nat}{y:RM}(h:WB (YtbhnlppboegmjaaGreatDoor.setRow w y) n)(hr:w.page≠0→w.row≠none)(h20:20≤n)(hn:n≤30000){x:CM}(ht:w.tot.length=x.ctl+1):WB (Ed x w y) (n+264)∧(Ed x w y).tot.length=x.ctl+1:=by
 have hc:=x.ctl_lt;unfold Ed;split
 ·
  have:=h.start h20 hn ht;refine⟨this.2.2.2.2.2.2.mono (by omega),?_⟩;show (headN x 0 _ _).tot.length=_;rw[(Qh x _ _ _).2.1];exact this.2.2.2.2.2.1
 rename_i hp;have hw:WB w n:=⟨hr hp,h.page,h.line,h.lines,h.tot⟩;split
 ·
  exact⟨hw.mono (by omega),ht⟩
 have hb:Yl w y x.ctl≤x.ctl+1:=by
  unfold Yl;split
  ·
   rename_i y0 _;have:=brkI_le y0 y x.ctl;omega
  omega
 have:=hw.brk hn ht y hb;refine⟨this.2.2.2,?_⟩;show (headN x _ _ _).tot.length=_;rw[(Qh x _ _ _).2.1];exact this.2.1
theorem WB.genA{w:WM}{n:Nat}{y:RM}(h:WB (YtbhnlppboegmjaaGreatDoor.setRow w y) n)(hr:w.page≠0→w.row≠none)(h20:20≤n)(hn:n≤30000){x:CM}(ht:w.tot.length=x.ctl+1):WB (YtbhnlppboegmjaaGreatDoor.setRow (Ed x w y) y) (n+264)∧WB (YtbhnlppboegmjaaGreatDoor.genA x w y) (n+265)∧(YtbhnlppboegmjaaGreatDoor.genA x w y).tot.length=x.ctl+1:=by
 obtain⟨h1,h2⟩:=h.first hr h20 hn ht
 have hN:y.N<1000:=Nat.mod_lt _ (by decide);have h3:=h1.setRow y;refine⟨h3,⟨by simp[YtbhnlppboegmjaaGreatDoor.genA,addW,YtbhnlppboegmjaaGreatDoor.setRow],by have:=h3.page;show (Ed x w y).page≤_;exact Nat.le_succ_of_le this,by have:=h3.line;show (Ed x w y).line≤_;exact Nat.le_succ_of_le this,by have:=h3.lines;show (Ed x w y).lines.length≤_;exact Nat.le_succ_of_le this,fun m hm=>?_⟩,by simp[YtbhnlppboegmjaaGreatDoor.genA,addW,YtbhnlppboegmjaaGreatDoor.setRow,h2]⟩;obtain⟨m',hm',rfl⟩:=List.mem_map.1 hm;have:=h3.tot m' hm';omega
theorem WB.gen{w:WM}{n:Nat}{y:RM}(h:WB (YtbhnlppboegmjaaGreatDoor.setRow w y) n)(hr:w.page≠0→w.row≠none)(h20:20≤n)(hn:n≤30000){x:CM}(ht:w.tot.length=x.ctl+1)(det:Int):WB (Na x w y det) (n+310)∧(Na x w y det).tot.length=x.ctl+1:=by
 obtain⟨_,h1,h2⟩:=h.genA hr h20 hn ht;unfold Na;split
 ·
  exact⟨(h1.pres (by omega) h2 (tok_D1 h1 _)).mono (by omega),pres_tot x _ _ h2⟩
 split
 ·
  exact⟨(h1.pres (by omega) h2 (tok_D2 h1)).mono (by omega),pres_tot x _ _ h2⟩
 exact⟨h1.mono (by omega),h2⟩
theorem gen_cl{d:Nat}(hd:33≤d){H:List Z7}{g gm gt:Nat}{x:CM}{w:WM}{y:RM}{n:Nat}(zF:WB (setRow w y) n)(uH:w.page≠0→w.row≠none)(h20:20≤n)(hn:n≤30000)(ht:w.tot.length=x.ctl+1)(det:Int)(hdet:-1≤det∧det≤1){c:Option Nat}{pw pr pg:Nat}(hpw:H[pw]?=some ⟨28,1,[[.ptr g 0 0 0]],0,0,false⟩)(uT:H[pr]?=some ⟨45,1,[[.sl 12 y.fld c]],0,0,false⟩)(zJ:H[pg]?=some ⟨3,1,[[.int .i64 det]],0,0,false⟩):CF d 41 [.ptr pw 0 0 0,.ptr pr 0 0 0,.ptr pg 0 0 0] H g gm gt x w (Na x w y det):=by
 intro H1 low1 zI wX
 have xw:∀{p:Nat} {o:Z7},H[p]?=some o→o.kind=0→o.elem≠91→g≠p:=fun h1 h2 h3 e=>by
  subst e;obtain⟨l,h4,_⟩:=zI.hw;have:=(wX.2 _ _ h1 (.inl ⟨h2,h3⟩)).symm.trans h4;obtain rfl:=Option.some.inj this;exact h3 rfl
 have uN:=xw hpw rfl (by simp);have kZ:=xw uT rfl (by simp);have hgpg:=xw zJ rfl (by simp);have hct:=x.ctl_lt;have hgH1:=zI.lt;obtain⟨d0,rfl⟩:∃e,d=e+1:=⟨d-1,by omega⟩;obtain⟨lin1,wR,hlin1⟩:=zI.hw;have hsg1:∀o,(H1.set g o)[g]?=some o:=fun o=>Cb wR o;have hpw1:=wX.2 _ _ hpw (.inl ⟨rfl,by simp⟩);have hpwS1:∀o,(H1.set g o)[pw]?=_:=fun o=>Bv hpw1 uN o;have hpr1:=wX.2 _ _ uT (.inl ⟨rfl,by simp⟩);have hprS1:∀o,(H1.set g o)[pr]?=_:=fun o=>Bv hpr1 kZ o;have hpg1:=wX.2 _ _ zJ (.inl ⟨rfl,by simp⟩);have hpgS1:∀o,(H1.set g o)[pg]?=_:=fun o=>Bv hpg1 hgpg o
 suffices h:∃r,(∃T wr,r=(.tup [],T,wr)∧Ef ⟨H1,low1⟩ T g gm gt x w (Na x w y det))∧Bc LP NN (d0+1) 41 [.ptr pw 0 0 0,.ptr pr 0 0 0,.ptr pg 0 0 0] ⟨H1,low1⟩=some r by
  obtain⟨r,⟨T,wr,rfl,h1⟩,h2⟩:=h;exact⟨T.heap,T.low,wr,h2,h1.ws,h1.kp,h1.lm⟩
 refine Gl (F:=F41) rfl (by simp only[LP,snapVs,zs,zm]<;>exact rfl) rfl (by simp only[LP,zf,zm];try rfl) (by simp only[F41,zv]<;>exact rfl) (by omega) ?_;intro d he;obtain rfl:=Nat.succ.inj he;have xu:=aI wR (aI hsg1 (aI hpw1 (aI hpwS1 (aI hpr1 (aI hprS1 (aI hpg1 (aI hpgS1 (@List.set_set.{0}))))))));refine Kv (fun env S'=>∃(K:List Z7) (lo:Nat) (u3 u4 u5 u6:D),WS K g gm gt x (Ed x w y)∧Keep H1 K∧lo≤H1.length∧S'=⟨K,lo⟩∧env=[.ptr pw 0 0 0,.ptr pr 0 0 0,.ptr pg 0 0 0,u3,u4,u5,u6]) ?_ ?_
 ·
  refine Ad (Qw ?_);refine xo3 ?_;refine xo1 ?_;refine xo1 ?_;apply Ac (by simp only[zl,zm,zd,Au,List.take,List.drop,wO,wRow,Ja,xu]<;>exact rfl);refine xo2 ?_;refine Aa (Ae ?_);refine Dc (by simp only[opd,zv]<;>exact rfl) (fun hc=>?_) (fun hc=>?_)
  ·
   have hp0:w.page=0:=by have:=eq_of_beq hc;omega
   have hBs:=zF.start h20 hn ht;have hWa:=zI.set 1 w.line w.body (some y) lin1 w.lines w.ended hlin1;refine Ad (Qw ?_);refine xo3 ?_;refine xo1 ?_;refine xo1 ?_;apply Ac (by simp only[zl,zm,Bi,overlay,zs,zc,zf,List.take,List.drop,wO,wRow,Ja,xu]<;>exact rfl);refine Aa (Ae ?_);refine Aj (D9 ?_);refine xo48 rfl ?_;refine xo48 rfl ?_;refine Be (by simp only[zo];exact Vt (by omega) _ y c) rfl ?_;refine xo9 rfl rfl ?_;refine xo4 rfl rfl ?_;refine xo4 rfl rfl ?_;refine Be (by simp only[zl,zm,Bi,overlay,zs,zc,zf,List.take,List.drop,xu]<;>exact rfl) rfl ?_;refine Bz (Ae ?_);refine Aj (D9 ?_);refine xo48 rfl ?_;refine xo48 rfl ?_;refine xo9 rfl rfl ?_;refine xo4 rfl rfl ?_;refine xo48 rfl ?_;refine xo58 rfl rfl ?_;apply Cj (by simp only[opd,zv,Ap,aop,LOp.loud,lop,if_true];exact congrArg (Option.map fun r=>(r,_,false)) (Ro hWa _ (.inl ⟨rfl,.inl rfl⟩))) (by simp only[fpHere,zo]<;>exact rfl) rfl;obtain⟨H43,lo43,wr43,hc43,hW43,rY,hlo43,hlm43⟩:=(Tq (d:=d0) (by omega) (n:=n) (by omega) hBs.1.lines (by have:=hBs.1.line;omega) hBs.2.1).go (min (min H1.length g) g) hWa;obtain⟨linb,vV,kH⟩:=hW43.hw;have hsgb:∀o,(H43.set g o)[g]?=some o:=fun o=>Cb vV o;have hpwb:=(wX.trans ((Keep.set zI _).trans rY)).2 _ _ hpw (.inl ⟨rfl,by simp⟩);have hpwSb:∀o,(H43.set g o)[pw]?=_:=fun o=>Bv hpwb uN o;have hprb:=(wX.trans ((Keep.set zI _).trans rY)).2 _ _ uT (.inl ⟨rfl,by simp⟩);have hprSb:∀o,(H43.set g o)[pr]?=_:=fun o=>Bv hprb kZ o;have hpgb:=(wX.trans ((Keep.set zI _).trans rY)).2 _ _ zJ (.inl ⟨rfl,by simp⟩);have hpgSb:∀o,(H43.set g o)[pg]?=_:=fun o=>Bv hpgb hgpg o;apply Cj (by simp only[zo];exact hc43) (by simp only[fpHere,zo,zq]<;>exact rfl) (by cases wr43<;>first | rfl | (simp[show ob 127 7=[true,true,true,true,true,true,true] from rfl,Z9,Me,okHere,Kr,Fe,J9,dj,D8,fpQuiet,N9,Ez,Vk,Hr,Fa];done));refine Bz (Ae ?_);refine Aj (D9 ?_);refine Be (by simp only[zl,zm,zd,Au,List.take,List.drop,hpwb]<;>exact rfl) rfl ?_;refine Be (by simp only[zl,zm,zd,Au,List.take,List.drop,hpwb]<;>exact rfl) rfl ?_;refine xo9 rfl rfl ?_;refine xo4 rfl rfl ?_;refine Be (by simp only[zl,zm,zd,Au,List.take,List.drop,wO,wRow,Ja,vV]<;>exact rfl) rfl ?_;refine xo58 rfl rfl ?_;apply Cj (by simp only[opd,zv,Ap,aop,LOp.loud,lop,if_true];exact congrArg (Option.map fun r=>(r,_,false)) (Ro hW43 _ (.inl ⟨rfl,.inr (.inl rfl)⟩))) (by simp only[fpHere,zo]<;>exact rfl) rfl;obtain⟨H43b,lo43b,wr43b,hc43b,hW43b,kQ,hlo43b,hlm43b⟩:=(Tq (d:=d0) (by omega) (n:=n+4) (by omega) hBs.2.2.1.lines (by have:=hBs.2.2.1.line;omega) hBs.2.2.2.1).go lo43 hW43;obtain⟨linc,hwc,hlinc⟩:=hW43b.hw;have hsgc:∀o,(H43b.set g o)[g]?=some o:=fun o=>Cb hwc o;have hpwc:=(wX.trans (((Keep.set zI _).trans rY).trans kQ)).2 _ _ hpw (.inl ⟨rfl,by simp⟩);have hpwSc:∀o,(H43b.set g o)[pw]?=_:=fun o=>Bv hpwc uN o;have hprc:=(wX.trans (((Keep.set zI _).trans rY).trans kQ)).2 _ _ uT (.inl ⟨rfl,by simp⟩);have hprSc:∀o,(H43b.set g o)[pr]?=_:=fun o=>Bv hprc kZ o;have hpgc:=(wX.trans (((Keep.set zI _).trans rY).trans kQ)).2 _ _ zJ (.inl ⟨rfl,by simp⟩);have hpgSc:∀o,(H43b.set g o)[pg]?=_:=fun o=>Bv hpgc hgpg o;apply Cj (by simp only[zo];exact hc43b) (by simp only[fpHere,zo,zq]<;>exact rfl) (by cases wr43b<;>first | rfl | (simp[show ob 127 7=[true,true,true,true,true,true,true] from rfl,Z9,Me,okHere,Kr,Fe,J9,dj,D8,fpQuiet,N9,Ez,Vk,Hr,Fa];done));refine Bz (Ae ?_);refine Am (Ac (by simp only[zl,zm,zd,Au,List.take,List.drop,hpwc]<;>exact rfl) ?_);obtain⟨H44,lo44,wr44,hc44,hW44,hK44,hlo44,hlm44⟩:=(head_run (d:=d0) (by omega) hBs.2.2.2.2.1 (by omega) (l:=0) (Nat.zero_le _)).go lo43b hW43b;apply Ac (by simp only[zo];exact hc44);refine Aa (Je (by simp only[ze]<;>exact rfl) ?_);have e:Ed x w y=Q4 x w y:=by unfold Ed;rw[if_pos hp0]
   rw[e];exact⟨_,_,_,_,_,_,hW44,(((Keep.set zI _).trans rY).trans kQ).trans hK44,by omega,rfl,rfl⟩
  have hp0:w.page≠0:=by have:=ne_of_beq_false hc;intro h;rw[h]at this;exact this rfl
  obtain⟨y0,hy0⟩:=Option.ne_none_iff_exists'.1 (uH hp0);have wP:WB w n:=⟨uH hp0,zF.page,zF.line,zF.lines,zF.tot⟩;have h45:=broken_run (d:=d0) (by omega) H1.length zI hy0 y c;refine Ad (Qw ?_);refine Qw ?_;apply Ac (by simp only[zo];exact h45);refine Ag rfl (Aa (Ae ?_));refine Ad (Af rfl (xo2 ?_));refine Aa (Ae ?_);refine Dc (by simp only[opd,zv]<;>exact rfl) (fun hcF=>?_) (fun hcF=>?_)
  ·
   obtain⟨b,hbe,hb1,hble⟩:∃b:Nat,Xm y0 y x.ctl=(b:Nat)∧1≤b∧b≤x.ctl+1:=by
    have h1:=of_decide_eq_true hcF;rcases brkI_le y0 y x.ctl with h2 | h2
    ·
     omega
    exact⟨(Xm y0 y x.ctl).toNat,by omega,by omega,by omega⟩
   have hbb:Yl w y x.ctl=b:=by simp only[Yl,hy0,hbe,Int.toNat_natCast]
   have hb0:Yl w y x.ctl≠0:=by omega
   have hBb:=wP.brk hn ht y hble;refine Ad (Ac (by simp only[zl,zm,zd,Au,List.take,List.drop,xu,hbe]<;>exact rfl) ?_);apply Af rfl;obtain⟨H46,lo46,wr46,hc46,rU,vU,hlo46,hlm46⟩:=(foot_run (d:=d0) (by omega) wP (by omega) hble).go H1.length zI;obtain⟨linf,hwf,hlinf⟩:=rU.hw;have hsgf:∀o,(H46.set g o)[g]?=some o:=fun o=>Cb hwf o;have kT:=(wX.trans vU).2 _ _ hpw (.inl ⟨rfl,by simp⟩);have hpwSf:∀o,(H46.set g o)[pw]?=_:=fun o=>Bv kT uN o;have hprf:=(wX.trans vU).2 _ _ uT (.inl ⟨rfl,by simp⟩);have hprSf:∀o,(H46.set g o)[pr]?=_:=fun o=>Bv hprf kZ o;have hpgf:=(wX.trans vU).2 _ _ zJ (.inl ⟨rfl,by simp⟩);have hpgSf:∀o,(H46.set g o)[pg]?=_:=fun o=>Bv hpgf hgpg o;have hWr6:=rU.set (Hw x w b).page (Hw x w b).line (Hw x w b).body (some y) linf (Hw x w b).lines (Hw x w b).ended hlinf;apply Ac (by simp only[zo,hbe];exact hc46);refine Aa (Ae ?_);refine Aj (D9 ?_);refine Be (by simp only[zl,zm,zd,Au,List.take,List.drop,hbe,kT]<;>exact rfl) rfl ?_;refine Be (by simp only[zl,zm,zd,Au,List.take,List.drop,hbe,hprf]<;>exact rfl) rfl ?_;refine Be (by simp only[zo,hbe];exact Vt (by omega) _ y c) rfl ?_;apply Ah (by simp only[zo,hbe]<;>exact rfl) rfl rfl;apply Ah (by simp only[zo,Ce,zm,hbe]<;>exact rfl) rfl rfl;apply Ah (by simp only[zo,Ce,zm,hbe]<;>exact rfl) rfl rfl;refine Be (by simp only[zl,zm,Bi,overlay,zs,zc,zf,List.take,List.drop,wO,wRow,Ja,hbe,hwf]<;>exact rfl) rfl ?_;refine Bz (Ae ?_);refine Am (Ac (by simp only[zl,zm,zd,Au,List.take,List.drop,hbe,hpwSf]<;>exact rfl) ?_);apply Af rfl;obtain⟨H44,lo44,wr44,hc44,hW44,hK44,hlo44,hlm44⟩:=(head_run (d:=d0) (by omega) hBb.2.2.1 (by omega) hble).go (min lo46 g) hWr6;apply Ac (by simp only[zo,hbe];exact hc44);refine Aa (Je (by simp only[ze]<;>exact rfl) ?_);have e:Ed x w y=Tj x w y b:=by unfold Ed;rw[if_neg hp0,if_neg hb0,hbb]
   rw[e];exact⟨_,_,_,_,_,_,hW44,(vU.trans (Keep.set rU _)).trans hK44,by omega,rfl,rfl⟩
  have hb0:Yl w y x.ctl=0:=by
   have h1:=of_decide_eq_false hcF;simp only[Yl,hy0];omega
  refine Ak (Je rfl ?_);have e:Ed x w y=w:=by unfold Ed;rw[if_neg hp0,if_pos hb0]
  rw[e];exact⟨_,_,_,_,_,_,zI,Keep.refl _,Nat.le_refl _,rfl,rfl⟩
 rintro env S' ⟨K,lo,u3,u4,u5,u6,yI,wW,xW,rfl,rfl⟩;obtain⟨link,hwk,hlink⟩:=yI.hw;have hsgk:∀o,(K.set g o)[g]?=some o:=fun o=>Cb hwk o;have hpwk:=(wX.trans wW).2 _ _ hpw (.inl ⟨rfl,by simp⟩);have hpwSk:∀o,(K.set g o)[pw]?=_:=fun o=>Bv hpwk uN o;have hprk:=(wX.trans wW).2 _ _ uT (.inl ⟨rfl,by simp⟩);have hprSk:∀o,(K.set g o)[pr]?=_:=fun o=>Bv hprk kZ o;have hpgk:=(wX.trans wW).2 _ _ zJ (.inl ⟨rfl,by simp⟩);have hpgSk:∀o,(K.set g o)[pg]?=_:=fun o=>Bv hpgk hgpg o;obtain⟨hB3,hB4,hn4⟩:=zF.genA uH h20 hn ht;have hWr:=yI.set (Ed x w y).page (Ed x w y).line (Ed x w y).body (some y) link (Ed x w y).lines (Ed x w y).ended hlink;have hlg:=yI.lt;have xq:=aI hwk (aI hsgk (aI hpwk (aI hpwSk (aI hprk (aI hprSk (aI hpgk (hpgSk)))))));refine Aj (D9 ?_);refine Jn rfl ?_;refine Jn rfl ?_;refine Be (by simp only[zo];exact Vt (by omega) _ y c) rfl ?_;refine xo9 rfl rfl ?_;refine xo4 rfl rfl ?_;refine xo4 rfl rfl ?_;refine Be (by simp only[zl,zm,Bi,overlay,zs,zc,zf,List.take,List.drop,wO,wRow,Ja,xq]<;>exact rfl) rfl ?_;refine Bz (Ae ?_);refine Ad (Ou ?_);obtain⟨H47,lo47,wr47,hc47,hW47,hK47,hlo47,hlm47⟩:=(wadd_run (d:=d0) (by omega) (x:=x) (w:=setRow (Ed x w y) y) (y:=y) rfl (zF.first uH h20 hn ht).2 (fun m hm=>by have:=hB3.tot m hm;omega)).go (min lo g) hWr;obtain⟨lind,hwd,hlind⟩:=hW47.hw;have hsgd:∀o,(H47.set g o)[g]?=some o:=fun o=>Cb hwd o;have hpwd:=(wX.trans (wW.trans ((Keep.set yI _).trans hK47))).2 _ _ hpw (.inl ⟨rfl,by simp⟩);have hpwSd:∀o,(H47.set g o)[pw]?=_:=fun o=>Bv hpwd uN o;have hprd:=(wX.trans (wW.trans ((Keep.set yI _).trans hK47))).2 _ _ uT (.inl ⟨rfl,by simp⟩);have hprSd:∀o,(H47.set g o)[pr]?=_:=fun o=>Bv hprd kZ o;have hpgd:=(wX.trans (wW.trans ((Keep.set yI _).trans hK47))).2 _ _ zJ (.inl ⟨rfl,by simp⟩);have hpgSd:∀o,(H47.set g o)[pg]?=_:=fun o=>Bv hpgd hgpg o;apply Ac (by simp only[zo];exact hc47);refine Aa (Ae ?_);refine Ad (Ac (by simp only[zl,zm,zd,Au,List.take,List.drop,hpgd]<;>exact rfl) ?_);refine xo2 ?_;refine Aa (Ae ?_);refine Dc (by simp only[opd,zv]<;>exact rfl) (fun uP=>?_) (fun uP=>?_)
 ·
  have hdt:det=0∨det=1:=by have:=of_decide_eq_true uP;omega
  obtain⟨td,hTd,hTa,htd,qN⟩:∃td:TG,TOK (genA x w y) td∧td∈allT∧Na x w y det=Dt x (genA x w y) td∧(x.grps.map (GrM.row true))[det.toNat]?=some [.int .u8 (td.kind:Nat),.int .i64 (td.level:Nat),.bool td.np,slB true 2 (td.tl.map Jq) none]:=by
   rcases hdt with rfl | rfl
   ·
    refine⟨tD1 (x.nps 0),tok_D1 hB4 _,by cases x.nps 0<;>simp[allT],by simp[Na],rfl⟩
   refine⟨tD2,tok_D2 hB4,by simp[allT],by simp[Na],rfl⟩
  have yG:((0:Int)≤det)=True:=eq_true (by omega);refine D9 ?_;refine Be (by simp only[zl,zm,zd,Au,List.take,List.drop,hpwd,yG]<;>exact rfl) rfl ?_;refine Be (by simp only[zl,zm,zd,Au,List.take,List.drop,hpwd,yG]<;>exact rfl) rfl ?_;apply Ah (by simp only[zo,yG]<;>exact rfl) rfl rfl;apply Ah (by simp only[zo,Ce,zm,yG]<;>exact rfl) rfl rfl;apply Ah (by simp only[zo,Ce,zm,yG]<;>exact rfl) rfl rfl;refine Be (by simp only[zl,zm,zd,Au,List.take,List.drop,wO,wRow,Ja,hwd,yG]<;>exact rfl) rfl ?_;refine Be (by simp only[zl,zm,zd,Au,List.take,List.drop,hpgd,yG]<;>exact rfl) rfl ?_;refine Be (by simp only[zl,zm,Dk,qN,yG]<;>exact rfl) rfl ?_;refine Be (by simp only[zl,zm,zd,Au,List.take,List.drop,yG]<;>exact rfl) rfl ?_;obtain⟨H48,lo48,wr48,hc48,hW48,hK48,hlo48,hlm48⟩:=(Wl (d:=d0) (by omega) hB4 (by omega) hn4 hTd hTa).go lo47 hW47;apply Cj (by simp only[zo,yG];exact hc48) (by simp only[fpHere,zo,zq]<;>exact rfl) (by cases wr48<;>first | rfl | (simp[show ob 511 9=[true,true,true,true,true,true,true,true,true] from rfl,Z9,Me,okHere,Kr,Fe,J9,dj,D8,fpQuiet,N9,Ez,Vk,Hr,Fa];done));apply Bz;simp only[ze];rw[htd];obtain⟨r,wC,y8⟩:=Jv (S:=⟨H1,low1⟩) (S':=⟨H48,lo48⟩) zI hW48 (wW.trans (((Keep.set yI _).trans hK47).trans hK48)) (.inl (by show lo48≤_;omega));refine⟨r,wC,?_⟩;refine⟨_,by simp only[F41,resultD,Bg]<;>exact rfl,?_⟩;exact y8
 have hgw:Na x w y det=genA x w y:=by have:=of_decide_eq_false uP;unfold Na;rw[if_neg (by omega),if_neg (by omega)]
 apply Ak;rw[hgw];obtain⟨r,wC,y8⟩:=Jv (S:=⟨H1,low1⟩) (S':=⟨H47,lo47⟩) zI hW47 (wW.trans ((Keep.set yI _).trans hK47)) (.inl (by show lo47≤_;omega));refine⟨r,wC,?_⟩;refine⟨_,by simp only[F41,resultD,Bg]<;>exact rfl,?_⟩;exact y8
def V4 (x:CM) (w:WM):WM:=Dt x (Hw x w 0) (x.tg 7 0)
def G9 (x:CM) (w:WM):WM:=if w.page=0 then w else if x.P=0 then V4 x w else Dj x (V4 x w)
theorem term_cl{d:Nat}(hd:33≤d){H:List Z7}{g gm gt:Nat}{x:CM}{w:WM}{n:Nat}(zF:w.page≠0→WB w n)(hn:n≤30000)(ht:w.tot.length=x.ctl+1){pw:Nat}(hpw:H[pw]?=some ⟨28,1,[[.ptr g 0 0 0]],0,0,false⟩):CF d 58 [.ptr pw 0 0 0] H g gm gt x w (G9 x w):=by
 intro H1 low1 zI wX
 have uN:g≠pw:=fun e=>by
  subst e;obtain⟨l,h4,_⟩:=zI.hw;have:=(wX.2 _ _ hpw (.inl ⟨rfl,by simp⟩)).symm.trans h4;simp[wO]at this
 have hct:=x.ctl_lt;have hgH1:=zI.lt;obtain⟨d0,rfl⟩:∃e,d=e+1:=⟨d-1,by omega⟩;obtain⟨lin1,wR,hlin1⟩:=zI.hw;have hsg1:∀o,(H1.set g o)[g]?=some o:=fun o=>Cb wR o;have hpw1:=wX.2 _ _ hpw (.inl ⟨rfl,by simp⟩);have hpwS1:∀o,(H1.set g o)[pw]?=_:=fun o=>Bv hpw1 uN o
 suffices h:∃r,(∃T wr,r=(.tup [],T,wr)∧Ef ⟨H1,low1⟩ T g gm gt x w (G9 x w))∧Bc LP NN (d0+1) 58 [.ptr pw 0 0 0] ⟨H1,low1⟩=some r by
  obtain⟨r,⟨T,wr,rfl,h1⟩,h2⟩:=h;exact⟨T.heap,T.low,wr,h2,h1.ws,h1.kp,h1.lm⟩
 refine Gl (F:=F58) rfl (by simp only[LP,snapVs,zs,zm]<;>exact rfl) rfl (by simp only[LP,zf,zm];try rfl) (by simp only[F58,zv]<;>exact rfl) (by omega) ?_;intro d he;obtain rfl:=Nat.succ.inj he;have xu:=aI wR (aI hsg1 (aI hpw1 (aI hpwS1 (@List.set_set.{0}))));refine Aj (Ad (Qw ?_));refine xo3 ?_;refine xo1 ?_;refine xo1 ?_;apply Ac (by simp only[zl,zm,zd,Au,List.take,List.drop,wO,wRow,Ja,xu]<;>exact rfl);refine xo2 ?_;refine Aa (Ae ?_);refine Dc (by simp only[opd,zv]<;>exact rfl) (fun hc=>?_) (fun hc=>?_)
 ·
  have hp0:w.page=0:=by have:=eq_of_beq hc;omega
  refine Ba (Oo ?_);have e:G9 x w=w:=by unfold G9;rw[if_pos hp0]
  rw[e];obtain⟨r,wC,y8⟩:=Jv (S:=⟨H1,low1⟩) (S':=⟨H1,H1.length⟩) zI zI (Keep.refl _) (.inr rfl);refine⟨r,wC,?_⟩;refine⟨_,by simp only[F58,resultD,Bg]<;>exact rfl,?_⟩;exact y8
 have hp0:w.page≠0:=by have:=ne_of_beq_false hc;intro h;rw[h]at this;exact this rfl
 have wP:=zF hp0;obtain⟨hBf0,hnf⟩:=WB.foot (x:=x) (x.ctl+1-0) (x.ctl+1) wP (by omega) ht (Nat.le_refl _) (by omega);have hBf:=hBf0.mono (n':=n+132) (by omega);have hT7:=Ko (x:=x) hBf (by omega) hnf (k:=7) (lv:=0) (by omega);have hBp:=hBf.pres (x:=x) (by omega) hnf hT7;refine Ak (Bl rfl (Ad (Qw ?_)));obtain⟨H46,lo46,wr46,hc46,rU,vU,hlo46,hlm46⟩:=(foot_run (d:=d0) (by omega) wP (by omega) (l:=0) (Nat.zero_le _)).go H1.length zI;obtain⟨linf,hwf,hlinf⟩:=rU.hw;have hsgf:∀o,(H46.set g o)[g]?=some o:=fun o=>Cb hwf o;have kT:=(wX.trans vU).2 _ _ hpw (.inl ⟨rfl,by simp⟩);have hpwSf:∀o,(H46.set g o)[pw]?=_:=fun o=>Bv kT uN o;apply Ac (by simp only[zo];exact hc46);refine Aa (Ae ?_);refine Aj (D9 ?_);refine Be (by simp only[zl,zm,zd,Au,List.take,List.drop,kT]<;>exact rfl) rfl ?_;refine Be (by simp only[zl,zm,zd,Au,List.take,List.drop,kT]<;>exact rfl) rfl ?_;refine xo9 rfl rfl ?_;refine xo4 rfl rfl ?_;refine Be (by simp only[zl,zm,zd,Au,List.take,List.drop,wO,wRow,Ja,hwf]<;>exact rfl) rfl ?_;refine xo58 rfl rfl ?_;apply Cj (by simp only[opd,zv,Ap,aop,LOp.loud,lop,if_true];exact congrArg (Option.map fun r=>(r,_,false)) (Ro rU _ (.inl ⟨rfl,.inr (.inr (.inr rfl))⟩))) (by simp only[fpHere,zo]<;>exact rfl) rfl;obtain⟨H48,lo48,wr48,hc48,hW48,hK48,hlo48,hlm48⟩:=(Wl (d:=d0) (by omega) hBf (by omega) hnf hT7 (x.tg_all (by omega))).go lo46 rU;obtain⟨linp,hwp,hlinp⟩:=hW48.hw;have hsgp:∀o,(H48.set g o)[g]?=some o:=fun o=>Cb hwp o;have hpwp:=(wX.trans (vU.trans hK48)).2 _ _ hpw (.inl ⟨rfl,by simp⟩);have hpwSp:∀o,(H48.set g o)[pw]?=_:=fun o=>Bv hpwp uN o;apply Cj (by simp only[zo];exact hc48) (by simp only[fpHere,zo,zq]<;>exact rfl) (by cases wr48<;>first | rfl | (simp[show ob 127 7=[true,true,true,true,true,true,true] from rfl,Z9,Me,okHere,Kr,Fe,J9,dj,D8,fpQuiet,N9,Ez,Vk,Hr,Fa];done));refine Bz (Ae ?_);refine Ad (Ac (by simp only[zl,zm,zd,Au,List.take,List.drop,hpwp]<;>exact rfl) ?_);refine xo3 ?_;refine xo1 ?_;refine xo1 ?_;apply Ac (by simp only[zl,zm,zd,Au,List.take,List.drop,wO,wRow,Ja,hwp]<;>exact rfl);refine xo2 ?_;refine Aa (Ae ?_);refine Dc (by simp only[opd,zv]<;>exact rfl) (fun hcF=>?_) (fun hcF=>?_)
 ·
  have hP:x.P≠0:=by have:=of_decide_eq_true hcF;omega
  have e:G9 x w=Dj x (V4 x w):=by unfold G9;rw[if_neg hp0,if_neg hP]
  refine Am (Ac (by simp only[zl,zm,zd,Au,List.take,List.drop,hpwp]<;>exact rfl) ?_);obtain⟨H59,lo59,wr59,hc59,hW59,hK59,hlo59,hlm59⟩:=(Vx (d:=d0) (by omega) hBp (by omega)).go lo48 hW48;apply Ac (by simp only[zo];exact hc59);apply Aa;simp only[ze];rw[e]
  have zL:lo48≤max g gt∨V4 x w=w:=by
   rcases hlo46 with h | h
   ·
    exact .inl (Nat.le_trans hlm48 h)
   exact hlo48.imp_right fun h'=>h'.trans h
  have hl3:lo59≤max g gt∨Dj x (V4 x w)=w:=by
   rcases zL with h | h
   ·
    exact .inl (Nat.le_trans hlm59 h)
   exact hlo59.imp_right fun h'=>h'.trans h
  obtain⟨r,wC,y8⟩:=Jv (S:=⟨H1,low1⟩) (S':=⟨H59,lo59⟩) zI hW59 ((vU.trans hK48).trans hK59) hl3;refine⟨r,wC,?_⟩;refine⟨_,by simp only[F58,resultD,Bg]<;>exact rfl,?_⟩;exact y8
 have hP:x.P=0:=by have:=of_decide_eq_false hcF;omega
 have e:G9 x w=V4 x w:=by unfold G9;rw[if_neg hp0,if_pos hP]
 apply Ak;rw[e]
 have zL:lo48≤max g gt∨V4 x w=w:=by
  rcases hlo46 with h | h
  ·
   exact .inl (Nat.le_trans hlm48 h)
  exact hlo48.imp_right fun h'=>h'.trans h
 obtain⟨r,wC,y8⟩:=Jv (S:=⟨H1,low1⟩) (S':=⟨H48,lo48⟩) zI hW48 (vU.trans hK48) zL;refine⟨r,wC,?_⟩;refine⟨_,by simp only[F58,resultD,Bg]<;>exact rfl,?_⟩;exact y8
theorem gen_run{d:Nat}(hd:35≤d){H:List Z7}(low:Nat){g gm gt:Nat}{x:CM}{w:WM}{y:RM}{n:Nat}(hW:WS H g gm gt x w)(zF:WB (setRow w y) n)(uH:w.page≠0→w.row≠none)(h20:20≤n)(hn:n≤30000)(hen:w.ended=false)(det:Int)(hdet:-1≤det∧det≤1)(c:Option Nat):∃r,(∃T,r=(.int .i64 0,T,true)∧WS T.heap g gm gt x (Na x w y det)∧Keep H T.heap∧T.low≤g)∧Bc LP NN d 12 [.ptr g 0 0 0,.int .i64 det,.sl 12 y.fld c] ⟨H,low⟩=some r:=by
 obtain⟨lin,hw,yw⟩:=hW.hw;have hgH:=hW.lt;have hgl:=x.grps_len;have hwA:∀l,(H++l)[g]?=_:=fun l=>C9 hw l;have hd1:(det < -1)=False:=eq_false (by omega);have hd2:(det≥((x.grps.length:Nat):Int))=False:=eq_false (by omega);have rQ:=hW.app [⟨28,1,[[.ptr g 0 0 0]],0,0,false⟩,⟨3,1,[[.int .i64 det]],0,0,false⟩,⟨45,1,[[.sl 12 y.fld c]],0,0,false⟩];obtain⟨d0,rfl⟩:∃e,d=e+1:=⟨d-1,by omega⟩;obtain⟨rT,hrT,hcT⟩:=try_run (d:=d0) (by omega) H.length rQ (f:=41) (caps:=[.ptr H.length 0 0 0,.ptr (H.length+2) 0 0 0,.ptr (H.length+1) 0 0 0]) (fun _=>rfl) (gen_cl (d:=d0-1) (by omega) zF uH h20 hn hW.hn det hdet (c:=c) (pw:=H.length) (pr:=H.length+2) (pg:=H.length+1) (Iw _ _) (at_app _ _ 2) (at_app _ _ 1));refine Gl (F:=F12) rfl (by simp only[LP,snapVs,zs,zm]<;>exact rfl) rfl (by simp only[LP,zf,zm];try rfl) (by simp only[F12,zv]<;>exact rfl) (by omega) ?_;intro d he;obtain rfl:=Nat.succ.inj he;have xu:=aI hw (aI hwA (aI hd1 (aI hd2 (hen))));refine Ad (Zl ?_);refine Zl ?_;refine Zl ?_;refine Az (Aa (Ae ?_));refine Aj (Ar (Ad (xo0 ?_)));apply Ac (by simp only[zo];exact none_run (by omega) _ rQ);refine Ag rfl (Aa (Ae ?_));refine D5 ?_;refine Ad (xo0 ?_);refine xo3 ?_;refine xo1 ?_;refine xo54 ?_;refine Ag rfl (Aa (Ae ?_));refine D5 ?_;refine Aj (D9 ?_);refine xo6 rfl ?_;apply Ah (by simp only[zo,Bd,decide_false,xu]<;>exact rfl) rfl rfl;refine Dh rfl rfl (Gy 0 (b:=false) ?_);refine Aw rfl (xo6 rfl ?_);refine Aw rfl (xo6 rfl ?_);refine Aw rfl (xo9 rfl rfl ?_);refine Aw rfl (xo4 rfl rfl ?_);refine Aw rfl (xo4 rfl rfl ?_);refine Aw rfl (xo64 rfl ?_);refine Aw rfl (Ah (by simp only[zo,E5,List.length_map]<;>exact rfl) rfl rfl ?_);refine Aw rfl (Ah (by simp only[zo,Bd,decide_false,xu]<;>exact rfl) rfl rfl ?_);refine xo9 rfl rfl ?_;refine Dh rfl rfl (Gy 0 (b:=false) ?_);refine Aw rfl (xo6 rfl ?_);refine Aw rfl (xo42 rfl rfl ?_);refine Aw rfl (Dh rfl rfl ?_);refine S9 0 (by simp only[zv]<;>exact rfl) (by simp only[zn]<;>exact rfl) (by simp only[zn]<;>exact rfl) (fun hg=>?_) (fun hg=>?_)
 ·
  have hdt:det=0∨det=1:=by have:=of_decide_eq_true hg;omega
  obtain⟨r4,hr4,hr5⟩:∃r4,(x.grps.map (GrM.row true))[det.toNat]?=some (.int .u8 4::r4)∧r4.length=3:=by
   rcases hdt with rfl | rfl
   ·
    exact⟨_,rfl,rfl⟩
   exact⟨_,rfl,rfl⟩
  have yG:((0:Int)≤det)=True:=eq_true (by omega);refine Aw rfl (Be (by simp only[zl,zm,zd,Au,List.take,List.drop,yG]<;>exact rfl) rfl ?_);refine Aw rfl (Ah (by simp only[zo,yG]<;>exact rfl) rfl rfl ?_);refine Aw rfl (Ah (by simp only[zo,Ce,zm,yG]<;>exact rfl) rfl rfl ?_);refine Aw rfl (Ah (by simp only[zo,Ce,zm,yG]<;>exact rfl) rfl rfl ?_);refine Aw rfl (Be (by simp only[zl,zm,zd,Au,List.take,List.drop,wO,wRow,xu,yG]<;>exact rfl) rfl ?_);refine Aw rfl (Be (by simp only[zl,zm,zd,Au,List.take,List.drop,yG]<;>exact rfl) rfl ?_);refine Aw rfl (Be (by simp only[zl,zm,Dk,hr4,yG]<;>exact rfl) rfl ?_);refine Aw rfl (Ah (by simp only[zo,Eh,zm,yG]<;>exact rfl) rfl rfl ?_);refine Aw rfl (Be (by simp only[zl,zm,zd,Au,List.take,List.drop,yG]<;>exact rfl) rfl ?_);refine Aw rfl (Ah (by simp only[zo,Bd,yG]<;>exact rfl) rfl rfl ?_);refine Aw rfl (Ah (by simp only[zo,yG]<;>exact rfl) rfl rfl ?_);apply Ah (by simp only[zo,yG]<;>exact rfl) rfl rfl;refine Dh rfl rfl (Bz (Ae ?_));refine D5 ?_;refine Ak (Ej (Bl rfl (Aj (Ad (xo0 ?_)))));refine xo0 ?_;apply Ac (by simp only[zo];exact wcheck_run (by omega) _ rQ y c);refine Ag rfl (Aa (Ae ?_));refine Ad (Af rfl (xo2 ?_));refine Aa (Ae ?_);refine D5 ?_;refine Ak (Bl rfl (Ad (xo0 ?_)));refine xo3 ?_;obtain⟨T,rfl,hWT,hKT,hlT⟩:=hrT;apply Ac (by simp only[zo];exact hcT);refine Ag rfl (Aa (Ae ?_));apply Ba;refine⟨_,⟨⟨T.heap,min low T.low⟩,rfl,hWT,(Keep.app _ _).trans hKT,by show min low T.low≤g;omega⟩,?_⟩;refine⟨_,by simp only[F12,resultD,Bg,resD,zg]<;>exact rfl,?_⟩;exact Zw (S:=⟨H,low⟩) (S':=T) _ (by show T.low<H.length;omega) (fun _ _=>rfl)
 refine A8 rfl rfl (A8 rfl rfl (A8 rfl rfl (A8 rfl rfl (A8 rfl rfl (A8 rfl rfl (A8 rfl rfl (A8 rfl rfl (A8 rfl rfl (A8 rfl rfl (Aw rfl (xo9 rfl rfl ?_)))))))))));refine xo9 rfl rfl ?_;refine Dh rfl rfl (Bz (Ae ?_));apply A7 (by simp only[opd,zv]);refine Ak (Ej (Bl rfl (Aj (Ad (xo0 ?_)))));refine xo0 ?_;apply Ac (by simp only[zo];exact wcheck_run (by omega) _ rQ y c);refine Ag rfl (Aa (Ae ?_));refine Ad (Af rfl (xo2 ?_));refine Aa (Ae ?_);refine D5 ?_;refine Ak (Bl rfl (Ad (xo0 ?_)));refine xo3 ?_;obtain⟨T,rfl,hWT,hKT,hlT⟩:=hrT;apply Ac (by simp only[zo];exact hcT);refine Ag rfl (Aa (Ae ?_));apply Ba;refine⟨_,⟨⟨T.heap,min low T.low⟩,rfl,hWT,(Keep.app _ _).trans hKT,by show min low T.low≤g;omega⟩,?_⟩;refine⟨_,by simp only[F12,resultD,Bg,resD,zg]<;>exact rfl,?_⟩;exact Zw (S:=⟨H,low⟩) (S':=T) _ (by show T.low<H.length;omega) (fun _ _=>rfl)
def endW (w:WM):WM:={ w with ended:=true }
theorem clip_slB{d:Nat}(hd:1≤d)(S:St)(rows:List (List D)):Bc LP NN d 37 [slB true 3 rows none] S=some (L9 rows,S,false):=by
 cases rows with
 | nil =>
  obtain⟨d,rfl⟩:∃e,d=e+1:=⟨d-1,by omega⟩;exact fast_ok (clip_nil d S)
 | cons r l=>exact clip_sl hd S (r::l) none
theorem clipR_free(rows:List (List D)):(L9 rows).Aab=true:=by cases rows<;>rfl
theorem clipR_snap(rows:List (List D)):∀m H,Aac m H (L9 rows)=some (L9 rows):=fun m H=>by cases rows<;>rfl
theorem lines_run{d:Nat}(hd:2≤d){H:List Z7}(low:Nat){g gm gt:Nat}{x:CM}{w:WM}(hW:WS H g gm gt x w)(hl:w.lines.length≤100000):Bc LP NN d 11 [.ptr g 0 0 0] ⟨H,low⟩=some (L9 (w.lines.map lnR),⟨H,low⟩,false):=by
 obtain⟨lin,hw,yw⟩:=hW.hw;refine Hf (F:=F11) rfl (by simp only[LP,snapVs,zs,zm]<;>exact rfl) rfl (by simp only[LP,zf,zm];try rfl) (by simp only[F11,zv]<;>exact rfl) (by omega) ?_;rintro d rfl;refine Ad (Az (Aa (Ae ?_)));refine Aj (Ad (Af rfl (Ac (by simp only[zo];exact none_run (by omega) _ hW) ?_)));refine Aa (Ae ?_);refine D5 ?_;refine Ak (Bl rfl (Ad (Af rfl (xo3 ?_))));refine xo1 ?_;refine xo1 ?_;apply Ac (by simp only[zl,zm,zd,Au,List.take,List.drop,hw,wO,wRow]<;>exact rfl);apply Ac (by simp only[zo];exact oclone_run (by omega) _ yw (by rw[List.length_map];exact hl));apply Ac (by simp only[zo];exact clip_slB (by omega) _ _);refine Ag rfl (Aa (Ae ?_));apply Ba;refine⟨_,by simp only[F11,resultD,Bg,resD,zg]<;>exact rfl,?_⟩;exact Gg _ _ _ _ (Nat.le_refl _) (clipR_free _) (clipR_snap _)
theorem term_run{d:Nat}(hd:35≤d){H:List Z7}(low:Nat){g gm gt:Nat}{x:CM}{w:WM}{n:Nat}(hW:WS H g gm gt x w)(zF:w.page≠0→WB w n)(hn:n≤30000)(hen:w.ended=false):∃r,(∃T,r=(.int .i64 0,T,true)∧WS T.heap g gm gt x (endW (G9 x w))∧Keep H T.heap∧T.low≤g)∧Bc LP NN d 17 [.ptr g 0 0 0] ⟨H,low⟩=some r:=by
 obtain⟨lin,hw,yw⟩:=hW.hw;have hgH:=hW.lt;have hwA:∀l,(H++l)[g]?=_:=fun l=>C9 hw l;have rQ:=hW.app [⟨28,1,[[.ptr g 0 0 0]],0,0,false⟩];obtain⟨d0,rfl⟩:∃e,d=e+1:=⟨d-1,by omega⟩;obtain⟨rT,hrT,hcT⟩:=try_run (d:=d0) (by omega) H.length rQ (f:=58) (caps:=[.ptr H.length 0 0 0]) (fun _=>rfl) (term_cl (d:=d0-1) (by omega) zF hn hW.hn (pw:=H.length) (Iw _ _));refine Gl (F:=F17) rfl (by simp only[LP,snapVs,zs,zm]<;>exact rfl) rfl (by simp only[LP,zf,zm];try rfl) (by simp only[F17,zv]<;>exact rfl) (by omega) ?_;intro d he;obtain rfl:=Nat.succ.inj he;refine Ad (Zl ?_);refine Az (Aa (Ae ?_));refine Aj (Ar (Ad (xo0 ?_)));apply Ac (by simp only[zo];exact none_run (by omega) _ rQ);refine Ag rfl (Aa (Ae ?_));refine D5 ?_;refine Ad (xo0 ?_);refine xo3 ?_;refine xo1 ?_;apply Ac (by simp only[zl,zm,zd,Au,List.take,List.drop,hwA,wO,wRow,hen]<;>exact rfl);refine Ag rfl (Aa (Ae ?_));refine D5 ?_;refine Ak (Ej (Bl rfl (Ad (xo0 ?_))));refine xo3 ?_;obtain⟨T,rfl,hWT,hKT,hlT⟩:=hrT;obtain⟨linT,hwT,hlinT⟩:=hWT.hw;have hpT:=hKT.2 _ _ (Iw H [⟨28,1,[[.ptr g 0 0 0]],0,0,false⟩]) (.inl ⟨rfl,by simp⟩);apply Ac (by simp only[zo];exact hcT);refine Ag rfl (Aa (Ae ?_));refine Ad (Ac (by simp only[zl,zm,zd,Au,List.take,List.drop,hpT]<;>exact rfl) ?_);refine Af rfl (xo2 ?_);refine xo3 ?_;refine xo1 ?_;apply Ac (by simp only[zl,zm,Bi,overlay,zs,zc,zf,List.take,List.drop,wO,wRow,hwT]<;>exact rfl);refine Aa (Ae ?_);refine Ad (Af rfl (Ag rfl (Aa (Ae ?_))));apply Ba;have hWe:=hWT.set (G9 x w).page (G9 x w).line (G9 x w).body (G9 x w).row linT (G9 x w).lines true hlinT;refine⟨_,⟨⟨_,min low (min T.low g)⟩,rfl,hWe,((Keep.app _ _).trans hKT).trans (Keep.set hWT _),by show min low (min T.low g)≤g;omega⟩,?_⟩;refine⟨_,by simp only[F17,resultD,Bg,resD,zg]<;>exact rfl,?_⟩;exact Zw (S:=⟨H,low⟩) (S':=⟨_,min T.low g⟩) _ (by show min T.low g<H.length;omega) (fun _ _=>rfl)
theorem sadd(a b:List UInt8)(h:a.length+b.length≤100000):pop (.bin .add) [.str (mkS a),.str (mkS b)]=some (.str (mkS (a++b))):=by
 simp only[pop,Bd,Og,D7];rw[if_neg (by rw[show IntKind.i64.max=9223372036854775807 from rfl];omega)]
def chgB (a b:RM) (lv:Nat):Bool:=(decide (1≤lv)&&a.A != b.A)||(decide (2≤lv)&&a.B != b.B)
def chgAt (l:List RM) (r lv:Nat):Bool:=match l[r]?,l[r+1]? with
 | some a,some b=>chgB a b lv
 | _,_=>false
def begF (l:List RM) (lv:Nat):Nat→Nat
 | 0=>0
 | r+1=>if chgAt l r lv then r+1 else begF l lv r
theorem RM.row_len(y:RM):y.row.length=4:=rfl
theorem part4{r:List D}(h:r.length=4):Au r 0 4 true=some (.agg r):=by
 simp only[Au,if_true,h,Nat.zero_add,Nat.le_refl,List.drop_zero];rw[←h,List.take_length]
structure VM where
 page:Nat
 line:Nat
 body:Bool
 lines:List (Nat × Nat × List UInt8)
def vRow (x:CM) (pg ln:D) (bo:Bool) (lin:D):List D:=[.int .u8 (x.co:Nat),.int .u16 (x.gr:Nat),.int .u8 (x.bl:Nat),.int .u8 (x.np:Nat),.int .u8 (x.p0:Nat),.int .u8 (x.p1:Nat),.int .u8 (x.p2:Nat),pg,ln,.bool bo,lin]
def vO (x:CM) (pg ln:D) (bo:Bool) (lin:D):Z7:=⟨107,11,[vRow x pg ln bo lin],0,0,false⟩
def VS (H:List Z7) (g:Nat) (x:CM) (v:VM):Prop:=∃lin,H[g]?=some (vO x (.int .i64 (v.page:Nat)) (.int .i64 (v.line:Nat)) v.body lin)∧LinAt H lin (v.lines.map lnR)
def KeepV (H H':List Z7):Prop:=H.length≤H'.length∧∀(j:Nat) (o:Z7),H[j]?=some o→o.kind=0∧o.elem≠107→H'[j]?=some o
theorem KeepV.refl(H:List Z7):KeepV H H:=⟨Nat.le_refl _,fun _ _ h _=>h⟩
theorem KeepV.trans{H H' H'':List Z7}(h:KeepV H H')(h':KeepV H' H''):KeepV H H'':=⟨Nat.le_trans h.1 h'.1,fun j o h1 h2=>h'.2 j o (h.2 j o h1 h2) h2⟩
theorem KeepV.app(H l:List Z7):KeepV H (H++l):=⟨by simp,fun j o h _=>C9 h l⟩
theorem VS.lt{H:List Z7}{g:Nat}{x:CM}{v:VM}(h:VS H g x v):g<H.length:=by
 obtain⟨lin,hw,_⟩:=h;exact Gx hw
theorem VS.app{H:List Z7}{g:Nat}{x:CM}{v:VM}(h:VS H g x v)(l:List Z7):VS (H++l) g x v:=by
 obtain⟨lin,hw,hl⟩:=h;exact⟨lin,C9 hw l,hl.keep fun j o hj _=>C9 hj l⟩
theorem VS.set{H:List Z7}{g:Nat}{x:CM}{v:VM}(h:VS H g x v)(pg ln:Nat)(bo:Bool)(lin:D)(lines:List (Nat × Nat × List UInt8))(hl:LinAt H lin (lines.map lnR)):VS (H.set g (vO x (.int .i64 (pg:Nat)) (.int .i64 (ln:Nat)) bo lin)) g x ⟨pg,ln,bo,lines⟩:=by
 obtain⟨lin0,hw,_⟩:=h;refine⟨lin,Cb hw _,hl.keep fun j o hj he=>Bv hj (fun e=>?_) _⟩;subst e;rw[hw]at hj;obtain rfl:=Option.some.inj hj;simp[vO]at he
theorem KeepV.set{H:List Z7}{g:Nat}{x:CM}{v:VM}(h:VS H g x v)(o':Z7):KeepV H (H.set g o'):=by
 obtain⟨lin0,hw,_⟩:=h;refine⟨by simp,fun j o hj hk=>Bv hj (fun e=>?_) _⟩;subst e;rw[hw]at hj;obtain rfl:=Option.some.inj hj;simp[vO]at hk
structure VE (S T:St) (g:Nat) (x:CM) (v v':VM):Prop where
 ws:VS T.heap g x v'
 kp:KeepV S.heap T.heap
 lo:T.low≤g∨v'=v
 lm:T.low≤S.low
def VF (d f:Nat) (args:List D) (g:Nat) (x:CM) (v v':VM):Prop:=∀(H:List Z7) (low:Nat),VS H g x v→∃r,(∃T wr,r=(.tup [],T,wr)∧VE ⟨H,low⟩ T g x v v')∧Bc LP NN d f (.ptr g 0 0 0::args) ⟨H,low⟩=some r
theorem VF.go{d f:Nat}{args:List D}{g:Nat}{x:CM}{v v':VM}(h:VF d f args g x v v'){H:List Z7}(low:Nat)(hW:VS H g x v):∃H' lo' wr,Bc LP NN d f (.ptr g 0 0 0::args) ⟨H,low⟩=some (.tup [],⟨H',lo'⟩,wr)∧VS H' g x v'∧KeepV H H'∧(lo'≤g∨v'=v)∧lo'≤low:=by
 obtain⟨r,⟨T,wr,rfl,h1⟩,h2⟩:=h H low hW;exact⟨T.heap,T.low,wr,h2,h1.ws,h1.kp,h1.lo,h1.lm⟩
def VM.put (v:VM) (p:Nat) (s:List UInt8):VM:={ v with line:=v.line+p,lines:=v.lines++[(v.page,v.line+p,s)] }
theorem VS.put{K H':List Z7}{g:Nat}{x:CM}{v:VM}(h:VS K g x v){o:Z7}(ho:o.kind=0∧o.elem=107)(xO:(K.set g o).length≤H'.length)(hf:∀(j:Nat) (o':Z7),(K.set g o)[j]?=some o'→(o'.kind=0∨o'.elem≠52)→H'[j]?=some o'){g' v':Nat}(p:Nat)(s:List UInt8)(hg':H'[g']?=some ⟨52,3,v.lines.map lnR++[lnR (v.page,v.line+p,s)],v',1,true⟩) :
  VS (H'.set g (vO x (.int .i64 (v.page:Nat)) (.int .i64 (v.line+p:Nat)) v.body (.msl g' v' 0 (v.lines.length+1) none))) g x (v.put p s)∧KeepV K (H'.set g (vO x (.int .i64 (v.page:Nat)) (.int .i64 (v.line+p:Nat)) v.body (.msl g' v' 0 (v.lines.length+1) none))):=by
 obtain⟨lin0,hw,_⟩:=h;have hg:H'[g]?=some o:=hf g o (Cb hw _) (.inl ho.1)
 have qW:g≠g':=fun e=>by
  subst e;have:=hg.symm.trans hg';obtain rfl:=Option.some.inj this;simp at ho
 refine⟨⟨_,Cb hg _,.inr ⟨by simp[VM.put],.inr ⟨g',v',by simp[VM.put],?_⟩⟩⟩,?_,fun j o' hj hk=>?_⟩
 ·
  rw[Ln_ qW,hg'];simp[VM.put]
 ·
  simpa using xO
 have hj2:j≠g:=fun e=>by
  subst e;rw[hw]at hj;obtain rfl:=Option.some.inj hj;simp[vO]at hk
 rw[Ln_ (Ne.symm hj2)];exact hf j o' (by rw[Ln_ (Ne.symm hj2)];exact hj) (.inl hk.1)
def VM.top (x:CM) (v:VM):VM:=if x.paged&&x.has 1 then v.put 1 ([80,32]++Bq v.page 2) else v
def VM.bot (x:CM) (v:VM):VM:=if x.has 8 then ({ v with line:=x.last }:VM).put 2 ([66,32]++Bq v.page 2) else { v with line:=x.last }
def VM.brk (x:CM) (v:VM) (h:Nat) (fresh:Bool):Bool:=v.body&&(fresh||decide (x.last<max v.line (x.first-1)+h))
def VM.newp (x:CM) (v:VM):VM:=VM.top x { VM.bot x v with page:=(VM.bot x v).page+1,line:=0 }
def VM.room (x:CM) (v:VM) (h:Nat) (fresh:Bool):VM:=if x.paged then (if v.brk x h fresh then { VM.newp x v with line:=max (VM.newp x v).line (x.first-1),body:=true } else { v with line:=max v.line (x.first-1),body:=true }) else v
structure VB (v:VM) (n:Nat):Prop where
 page:v.page≤n
 line:v.line≤n
 lines:v.lines.length≤n
theorem VB.mono{v:VM}{n n':Nat}(h:VB v n)(hn:n≤n'):VB v n':=⟨by have:=h.page;omega,by have:=h.line;omega,by have:=h.lines;omega⟩
theorem VB.put{v:VM}{n:Nat}(h:VB v n)(p:Nat)(hp:p≤2)(s:List UInt8):VB (v.put p s) (n+2):=⟨by have:=h.page;show v.page≤_;omega,by have:=h.line;show v.line+p≤_;omega,by have:=h.lines;simp[VM.put];omega⟩
theorem VB.top{v:VM}{n:Nat}(h:VB v n)(x:CM):VB (VM.top x v) (n+2):=by
 unfold VM.top;split
 ·
  exact h.put 1 (by omega) _
 exact h.mono (by omega)
theorem CM.last_le(x:CM):x.last≤12∧3≤x.first∧x.first≤5∧x.first+3≤x.last:=by
 have h1:x.p1 % 3<3:=Nat.mod_lt _ (by decide);have h2:x.p2 % 4<4:=Nat.mod_lt _ (by decide)
 unfold CM.last CM.first
 omega
theorem VB.bot{v:VM}{n:Nat}(h:VB v n)(x:CM)(hn:12≤n):VB (VM.bot x v) (n+2):=by
 have h0:=x.last_le;have h1:VB ({ v with line:=x.last }:VM) n:=⟨h.page,by show x.last≤n;omega,h.lines⟩;unfold VM.bot;split
 ·
  exact h1.put 2 (by omega) _
 exact h1.mono (by omega)
theorem VB.newp{v:VM}{n:Nat}(h:VB v n)(x:CM)(hn:12≤n):VB ({ VM.bot x v with page:=(VM.bot x v).page+1,line:=0 }:VM) (n+3)∧VB (VM.newp x v) (n+5):=by
 have h1:=h.bot x hn;have h2:VB ({ VM.bot x v with page:=(VM.bot x v).page+1,line:=0 }:VM) (n+3):=⟨by have:=h1.page;show (VM.bot x v).page+1≤_;omega,Nat.zero_le _,by have:=h1.lines;show (VM.bot x v).lines.length≤_;omega⟩;exact⟨h2,h2.top x⟩
theorem VB.room{v:VM}{n:Nat}(hv:VB v n)(x:CM)(hn:12≤n)(h:Nat)(f:Bool):VB (v.room x h f) (n+5):=by
 have h0:=x.last_le;unfold VM.room;split
 ·
  split
  ·
   have h1:=(hv.newp x hn).2;exact⟨h1.page,by have:=h1.line;show max (VM.newp x v).line (x.first-1)≤_;omega,h1.lines⟩
  exact⟨by have:=hv.page;show v.page≤_;omega,by have:=hv.line;show max v.line (x.first-1)≤_;omega,by have:=hv.lines;show v.lines.length≤_;omega⟩
 exact hv.mono (by omega)
def CM.npb (x:CM) (k:Nat):Bool:=x.np / 2 ^ k % 2==1
def hTxt (y:RM) (i:Nat):List UInt8:=[72]++Bq i 1++[32]++[y.A]++[y.B]
def VM.headI (x:CM) (y:RM) (i:Nat) (v:VM):VM:=if x.has (2+i) then (v.room x 1 (x.npb (1+i))).put 1 (hTxt y i) else v
def VM.headN (x:CM) (y:RM):Nat→Nat→VM→VM
 | _,0,v=>v
 | i,k+1,v=>VM.headN x y (i+1) k (v.headI x y i)
def VM.head (x:CM) (v:VM) (l:Nat) (y:RM):VM:=VM.headN x y l (x.ctl+1-l) v
theorem VB.headI{v:VM}{n:Nat}(h:VB v n)(kR:12≤n)(x:CM)(y:RM)(i:Nat):VB (v.headI x y i) (n+7):=by
 unfold VM.headI;split
 ·
  exact (h.room x kR _ _).put 1 (by omega) _
 exact h.mono (by omega)
theorem VB.head(x:CM)(y:RM):∀(k i:Nat) {v:VM} {n:Nat},VB v n→12≤n→VB (VM.headN x y i k v) (n+7*k)
 | 0,_,_,_,h,_=>h
 | k+1,i,v,n,h,kR=>by
  have:=VB.head x y k (i+1) (h.headI kR x y i) (by omega);rwa [show n+7+7*k=n+7*(k+1) by omega]at this
def sumN (l:List RM) (b k:Nat):Nat:=(((l.drop b).take k).map RM.N).sum
def Xg (l:List RM) (last i:Nat) (y:RM) (s:Nat):List UInt8:=[70]++Bq i 1++[32]++[y.A]++[y.B]++[32]++Bq s 6
def fSum (x:CM) (l:List RM) (last i:Nat):Nat:=sumN l (begF l (min i x.ctl) last) (last+1-begF l (min i x.ctl) last)
def VM.footI (x:CM) (l:List RM) (last:Nat) (y:RM) (i:Nat) (v:VM):VM :=
 if x.has (5+i) then (if x.blk i then ((v.room x 2 false).put 1 (Xg l last i y (fSum x l last i))).put 1 [] else (v.room x 1 false).put 1 (Xg l last i y (fSum x l last i))) else v
def VM.footN (x:CM) (l:List RM) (last:Nat) (y:RM):Nat→Nat→VM→VM
 | _,0,v=>v
 | i,k+1,v=>VM.footN x l last y (i-1) k (v.footI x l last y (i-1))
def VM.foot (x:CM) (v:VM) (lv:Nat) (l:List RM) (last:Nat) (y:RM):VM:=VM.footN x l last y (x.ctl+1) (x.ctl+1-lv) v
theorem VB.footI{v:VM}{n:Nat}(h:VB v n)(kR:12≤n)(x:CM)(l:List RM)(last:Nat)(y:RM)(i:Nat):VB (v.footI x l last y i) (n+9):=by
 unfold VM.footI;split
 ·
  split
  ·
   exact ((h.room x kR _ _).put 1 (by omega) _).put 1 (by omega) _
  exact ((h.room x kR _ _).put 1 (by omega) _).mono (by omega)
 exact h.mono (by omega)
theorem VB.foot(x:CM)(l:List RM)(last:Nat)(y:RM):∀(k i:Nat) {v:VM} {n:Nat},VB v n→12≤n→VB (VM.footN x l last y i k v) (n+9*k)
 | 0,_,_,_,h,_=>h
 | k+1,i,v,n,h,kR=>by
  have:=VB.foot x l last y k (i-1) (h.footI kR x l last y (i-1)) (by omega);rwa [show n+9+9*k=n+9*(k+1) by omega]at this
theorem begF_le(l:List RM)(lv:Nat):∀r,begF l lv r≤r
 | 0=>Nat.le_refl _
 | r + 1 => by
  rw[begF];split
  ·
   exact Nat.le_refl _
  have:=begF_le l lv r;omega
theorem Xv(l:List RM)(b k:Nat){y:RM}(h:l[b+k]?=some y):sumN l b (k+1)=sumN l b k+y.N:=by
 unfold sumN;rw[List.take_add_one,List.getElem?_drop,h];simp
def LinZ (z:D) (rows:List (List D)):Prop:=(rows=[]∧z=.nils)∨(rows≠[]∧∃c,z=.sl 3 rows c)
theorem LinAt.leaveP{H:List Z7}{d:D}{rows:List (List D)}(h:LinAt H d rows)(lo:Nat):∃z,LinZ z rows∧leaveP ⟨[],0⟩ d ⟨H,lo⟩=some (z,⟨[],0⟩,false):=by
 rcases h with⟨h1,rfl⟩ | ⟨h1,rfl | ⟨g,v,rfl,h3⟩⟩
 ·
  exact⟨.nils,.inl ⟨h1,rfl⟩,rfl⟩
 ·
  exact⟨_,.inr ⟨h1,_,rfl⟩,rfl⟩
 refine⟨.sl 3 rows none,.inr ⟨h1,_,rfl⟩,?_⟩;simp[YtbhnlppboegmjaaGreatDoor.leaveP,leave,Ua,Nq,Lr,h3,D.Aab,D.freeV,D.free,D.Aaf]
def VM.ini:VM:=⟨1,0,false,[]⟩
def lvD (a b:RM):Nat→Nat→Nat
 | 0,_=>0
 | n+1,k=>if chgB a b (k+1) then k+1 else lvD a b n (k+1)
def VM.fst (x:CM) (v:VM) (y:RM):VM:=VM.head x (VM.top x (if x.has 0 then v.put 1 [82,72] else v)) 0 y
def VM.nxt (x:CM) (v:VM) (l:List RM) (i:Nat) (a y:RM):VM:=if lvD a y x.ctl 0=0 then v else VM.head x (VM.foot x v (lvD a y x.ctl 0) l i a) (lvD a y x.ctl 0) y
def U3 (y:RM):List UInt8:=[y.A]++[y.B]++[32]++Bq y.N 3
def U2 (y:RM):List UInt8:=[32,32,32,32,32,32,32,32,32]++Bq y.N 3
def VM.det (x:CM) (v:VM) (y:RM):VM:=if y.det=0 then (v.room x 1 (x.npb 0)).put 1 (U3 y) else if y.det=1 then (v.room x 2 false).put 2 (U2 y) else v
def VM.rows (x : CM) (l : List RM) : Nat → VM → VM
 | 0,v=>v
 | i + 1, v => match l[i]? with
  | none=>VM.rows x l i v
  | some y => VM.det x (match i with
   | 0=>VM.fst x (VM.rows x l 0 v) y
   | j+1=>match l[j]? with
    | some a=>VM.nxt x (VM.rows x l (j+1) v) l j a y
    | none=>VM.rows x l (j+1) v) y
def VM.fin1 (x:CM) (v:VM) (l:List RM) (y:RM):VM:=VM.foot x v 0 l (l.length-1) y
def VM.fin2 (x:CM) (v:VM):VM:=if x.has 9 then (v.room x 1 false).put 1 [82,70] else v
def VM.fin (x:CM) (v:VM) (l:List RM) (y:RM):VM:=if x.paged then VM.bot x (VM.fin2 x (VM.fin1 x v l y)) else VM.fin2 x (VM.fin1 x v l y)
def VM.all (x:CM) (l:List RM) (e:Bool):VM:=if e then (match l[l.length-1]? with
 | some y=>VM.fin x (VM.rows x l l.length VM.ini) l y
 | none=>VM.rows x l l.length VM.ini) else VM.rows x l l.length VM.ini
theorem lvD_le(a b:RM):∀n k,lvD a b n k≤k+n
 | 0,k=>Nat.zero_le _
 | n + 1, k => by
  rw[lvD];split
  ·
   omega
  have:=lvD_le a b n (k+1);omega
theorem VB.fst{v:VM}{n:Nat}(h:VB v n)(kR:12≤n)(x:CM)(y:RM):VB (if x.has 0 then v.put 1 [82,72] else v) (n+2)∧VB (VM.top x (if x.has 0 then v.put 1 [82,72] else v)) (n+4)∧VB (VM.fst x v y) (n+25):=by
 have hc:=x.ctl_lt
 have h1:VB (if x.has 0 then v.put 1 [82,72] else v) (n+2):=by
  split
  ·
   exact h.put 1 (by omega) _
  exact h.mono (by omega)
 have h2:=h1.top x;exact⟨h1,h2,(VB.head x y (x.ctl+1-0) 0 h2 (by omega)).mono (by omega)⟩
theorem VB.nxt{v:VM}{n:Nat}(h:VB v n)(kR:12≤n)(x:CM)(l:List RM)(i:Nat)(a y:RM)(lv:Nat):VB (VM.foot x v lv l i a) (n+27)∧VB (VM.nxt x v l i a y) (n+48):=by
 have hc:=x.ctl_lt;have h1:∀lv,VB (VM.foot x v lv l i a) (n+27):=fun lv=>(VB.foot x l i a (x.ctl+1-lv) (x.ctl+1) h kR).mono (by omega);refine⟨h1 lv,?_⟩;unfold VM.nxt;split
 ·
  exact h.mono (by omega)
 exact (VB.head x y (x.ctl+1-_) _ (h1 _) (by omega)).mono (by omega)
theorem VB.det{v:VM}{n:Nat}(h:VB v n)(kR:12≤n)(x:CM)(y:RM):VB (VM.det x v y) (n+7):=by
 unfold VM.det;split
 ·
  exact (h.room x kR _ _).put 1 (by omega) _
 split
 ·
  exact (h.room x kR _ _).put 2 (by omega) _
 exact h.mono (by omega)
theorem VB.rows(x:CM)(l:List RM):∀i,VB (VM.rows x l i VM.ini) (12+55*i)
 | 0=>⟨by show 1≤_;omega,Nat.zero_le _,Nat.zero_le _⟩
 | i + 1 => by
  have ih:=VB.rows x l i;rw[VM.rows];split
  ·
   exact ih.mono (by omega)
  rename_i y _
  cases i with
  | zero =>
   have h1:=(ih.fst (by omega) x y).2.2;have h2:=h1.det (by omega) x y;exact VB.mono h2 (by omega)
  | succ j =>
   cases hj:l[j]? with
   | none =>
    have h2:=ih.det (by omega) x y;simp only[hj];exact VB.mono h2 (by omega)
   | some a =>
    have h1:=(ih.nxt (by omega) x l j a y 0).2;have h2:=h1.det (by omega) x y;simp only[hj];exact VB.mono h2 (by omega)
def VM.pre (x:CM) (l:List RM) (i:Nat) (y:RM):VM:=match i with
 | 0=>VM.fst x (VM.rows x l 0 VM.ini) y
 | j+1=>match l[j]? with
  | some a=>VM.nxt x (VM.rows x l (j+1) VM.ini) l j a y
  | none=>VM.rows x l (j+1) VM.ini
theorem Uc(x:CM)(l:List RM){i:Nat}{y:RM}(h:l[i]?=some y):VM.rows x l (i+1) VM.ini=VM.det x (VM.pre x l i y) y:=by
 rw[VM.rows,h];cases i<;>rfl
theorem VB.pre(x:CM)(l:List RM){i:Nat}{y:RM}(h:l[i]?=some y):VB (VM.pre x l i y) (12+55*i+48):=by
 have ih:=VB.rows x l i;unfold VM.pre
 cases i with
 | zero=>exact VB.mono (ih.fst (by omega) x y).2.2 (by omega)
 | succ j =>
  cases hj:l[j]? with
  | none=>simp only[hj];exact VB.mono ih (by omega)
  | some a=>simp only[hj];exact (ih.nxt (by omega) x l j a y 0).2
def toV (w:WM):VM:=⟨w.page,w.line,w.body,w.lines⟩
theorem CM.P_iff(x:CM):x.P=0↔x.paged=false:=by
 unfold CM.P;cases x.paged<;>simp
theorem CM.L_eq(x:CM)(h:x.paged=true):x.L=x.last∧x.F=x.first:=by simp[CM.L,CM.F,h]
theorem toV_put(w:WM)(p:Nat)(s:List UInt8):toV (w.put p s)=(toV w).put p s:=rfl
theorem Xt(w:WM)(p:Nat)(its:List It):w.write [(p,its)]=w.put p (Ee w its):=rfl
theorem fillL1(i:Nat)(h:i<10):Bq i 1=[dgt i]:=by
 simp[Bq,dgt,Nat.mod_eq_of_lt h]
theorem rend_L2(w:WM)(a b:UInt8):Ee w [.lit 1 [a,b]]=[a,b]:=by simp[Ee,O5,It.col,It.txt]
theorem rend_LP(w:WM)(a:UInt8):Ee w [.lit 1 [a],.pag]=[a,32]++Bq w.page 2:=by simp[Ee,O5,It.col,It.txt]
theorem rend_H(w:WM)(y:RM)(hr:w.row=some y)(i:Nat)(hi:i<10):Ee w [.lit 1 [72,dgt i],.key 4 0,.key 5 1]=hTxt y i:=by simp[Ee,O5,It.col,It.txt,hr,hTxt,fillL1 i hi]
theorem rend_F(w:WM)(y:RM)(hr:w.row=some y)(i:Nat)(hi:i<10)(l:List RM)(last:Nat):Ee w [.lit 1 [70,dgt i],.key 4 0,.key 5 1,.tot i]=Xg l last i y (w.tot.getD i 0):=by simp[Ee,O5,It.col,It.txt,hr,Xg,fillL1 i hi]
theorem rend_D1(w:WM)(y:RM)(hr:w.row=some y):Ee w [.key 1 0,.key 2 1,.num 4]=U3 y:=by simp[Ee,O5,It.col,It.txt,hr,U3]
theorem rend_D2(w:WM)(y:RM)(hr:w.row=some y):Ee w [.num 10]=U2 y:=by simp[Ee,O5,It.col,It.txt,hr,U2,List.replicate]
theorem bot_eq(x:CM)(hp:x.paged=true)(w:WM):toV (Dj x w)=VM.bot x (toV w):=by
 have hL:=(x.L_eq hp).1;have e:x.tg 6 0=if x.has 8 then tPF else tZ:=by simp[CM.tg,hp]
 unfold Dj VM.bot;rw[e,hL];split
 ·
  show toV (WM.write _ [(2,[.lit 1 [66],.pag])])=_;rw[Xt,rend_LP];rfl
 rfl
theorem top_eq(x:CM)(w:WM):toV (w.write (x.tg 2 0).tl)=VM.top x (toV w):=by
 have e:x.tg 2 0=if x.paged&&x.has 1 then tPH else tZ:=by simp[CM.tg,Bool.and_comm]
 unfold VM.top;rw[e];split
 ·
  show toV (WM.write _ [(1,[.lit 1 [80],.pag])])=_;rw[Xt,rend_LP];rfl
 rfl
theorem top_body(x:CM)(v:VM)(b:Bool):VM.top x { v with body:=b }={ VM.top x v with body:=b }:=by
 unfold VM.top;split<;>rfl
theorem newp_eq(x:CM)(hp:x.paged=true)(w:WM):toV (En x w)={ VM.newp x (toV w) with body:=false }:=by
 unfold En VM.newp;rw[top_eq,←top_body,←bot_eq x hp w];rfl
theorem room_eq(x:CM)(w:WM)(t:TG)(f:Bool)(ht:t.tl≠[])(hf:x.paged=true→t.np=f):toV (Gp x w t)=(toV w).room x t.h f:=by
 unfold Gp VM.room
 cases hp:x.paged with
 | false=>rw[if_pos (x.P_iff.2 hp)];simp
 | true =>
  have h1:=x.L_eq hp;rw[if_neg (by rw[x.P_iff,hp];simp),if_neg ht]
  have hb:Gu x w t=(toV w).brk x t.h f:=by
   unfold Gu VM.brk;rw[h1.1,h1.2,hf hp,Nat.add_comm];rfl
  rw[hb];simp only[if_true]
  cases (toV w).brk x t.h f with
  | false=>simp only[Bool.false_eq_true,if_false];rw[h1.2];rfl
  | true =>
   simp only[if_true];have h2:=newp_eq x hp w;have h3:(En x w).line=(VM.newp x (toV w)).line:=congrArg VM.line h2;have h4:(En x w).page=(VM.newp x (toV w)).page:=congrArg VM.page h2;have h5:(En x w).lines=(VM.newp x (toV w)).lines:=congrArg VM.lines h2;show (⟨(En x w).page,max (En x w).line (x.F-1),true,(En x w).lines⟩:VM)=_;rw[h3,h4,h5,h1.2]
def InvV (x:CM) (v:VM):Prop:=x.paged=true→if v.body then v.line≤x.last else v.line≤2
theorem Jw{x:CM}{v:VM}(h:InvV x v)(n:Nat)(hn:n≤2)(f:Bool)(hp:x.paged=true):(v.room x n f).line+n≤x.last∧(v.room x n f).body=true:=by
 have hl:=x.last_le;have h0:=h hp;unfold VM.room;rw[if_pos hp]
 cases hb:v.brk x n f with
 | true =>
  simp only[if_true];refine⟨?_,trivial⟩
  have:(VM.newp x v).line≤1:=by
   unfold VM.newp VM.top;split
   ·
    simp[VM.put]
   simp
  show max (VM.newp x v).line (x.first-1)+n≤x.last;omega
 | false =>
  simp only[Bool.false_eq_true,if_false];refine⟨?_,trivial⟩;show max v.line (x.first-1)+n≤x.last
  cases hv:v.body with
  | true =>
   rw[hv,if_pos rfl]at h0
   have:¬(x.last<max v.line (x.first-1)+n):=fun h'=>by
    have:v.brk x n f=true:=by simp[VM.brk,hv,h']
    rw[hb]at this;simp at this
   omega
  | false =>
   rw[hv]at h0;simp at h0;omega
theorem Ul{x:CM}{v:VM}{p:Nat}(s:List UInt8)(h:x.paged=true→v.line+p≤x.last∧v.body=true):InvV x (v.put p s):=fun hp=>by
 obtain⟨h1,h2⟩:=h hp;show if v.body then v.line+p≤x.last else _
 rw[h2,if_pos rfl];exact h1
theorem inv_ub{x:CM}{v:VM}(h:InvV x v)(hp:x.paged=true):max v.line (x.first-1)≤x.last:=by
 have hl:=x.last_le;have h0:=h hp;split at h0<;>omega
theorem X4{x:CM}{w:WM}(h:InvV x (toV w)):Dt x w tZ=w:=by
 unfold Dt Gp;show (if x.P=0 then w else if tZ.tl=[] then (if Gu x w tZ then En x w else w) else _:WM).write []=w;split
 ·
  rfl
 rename_i hP
 have hp:x.paged=true:=by
  cases h:x.paged with
  | true=>rfl
  | false=>exact absurd (x.P_iff.2 h) hP
 have h1:=inv_ub h hp;have h2:=x.L_eq hp
 have hb:Gu x w tZ=false:=by
  simp only[Gu,tZ,TG.h,Bool.false_or,Bool.and_eq_false_imp,decide_eq_false_iff_not,h2.1,h2.2,List.map_nil,List.sum_nil];intro _;have:(toV w).line=w.line:=rfl;rw[this]at h1;omega
 rw[if_pos (show tZ.tl=[] from rfl),hb];rfl
theorem pres1(x:CM)(w:WM)(t:TG)(f:Bool){p:Nat}{its:List It}(ht:t.tl=[(p,its)])(hf:x.paged=true→t.np=f):toV (Dt x w t)=((toV w).room x t.h f).put p (Ee (Gp x w t) its):=by
 unfold Dt;rw[ht,Xt,toV_put,room_eq x w t f (by rw[ht];simp) hf]
theorem Rf(x:CM)(w:WM)(t:TG):(Gp x w t).row=w.row:=(room_f x w t).1
theorem pres_H{x:CM}{w:WM}{y:RM}(hr:w.row=some y){i:Nat}(hi:i<3){b f:Bool}(hf:x.paged=true→b=f):toV (Dt x w (tH i b))=((toV w).room x 1 f).put 1 (hTxt y i):=by
 rw[pres1 x w (tH i b) f rfl hf,rend_H _ y ((Rf _ _ _).trans hr) i (by omega)];rfl
theorem pres_D1{x:CM}{w:WM}{y:RM}(hr:w.row=some y){b f:Bool}(hf:x.paged=true→b=f):toV (Dt x w (tD1 b))=((toV w).room x 1 f).put 1 (U3 y):=by
 rw[pres1 x w (tD1 b) f rfl hf,rend_D1 _ y ((Rf _ _ _).trans hr)];rfl
theorem pres_D2{x:CM}{w:WM}{y:RM}(hr:w.row=some y):toV (Dt x w tD2)=((toV w).room x 2 false).put 2 (U2 y):=by
 rw[pres1 x w tD2 false rfl (fun _=>rfl),rend_D2 _ y ((Rf _ _ _).trans hr)];rfl
theorem pres_RF{x:CM}{w:WM}:toV (Dt x w tRF)=((toV w).room x 1 false).put 1 [82,70]:=by
 rw[pres1 x w tRF false rfl (fun _=>rfl),rend_L2];rfl
theorem pres_F{x:CM}{w:WM}{y:RM}(hr:w.row=some y){i:Nat}(hi:i<3)(b:Bool)(l:List RM)(last:Nat):toV (Dt x w (tF i b))=if b then (((toV w).room x 2 false).put 1 (Xg l last i y (w.tot.getD i 0))).put 1 [] else ((toV w).room x 1 false).put 1 (Xg l last i y (w.tot.getD i 0)):=by
 have ht:∀b,(Gp x w (tF i b)).tot=w.tot:=fun b=>(room_f x w (tF i b)).2.1
 cases b with
 | false =>
  rw[pres1 x w (tF i false) false rfl (fun _=>rfl),rend_F _ y ((Rf _ _ _).trans hr) i (by omega) l last,ht];rfl
 | true =>
  unfold Dt;show toV (WM.write (WM.write _ [(1,[.lit 1 [70,dgt i],.key 4 0,.key 5 1,.tot i])]) [(1,[])])=_;rw[Xt,Xt,toV_put,toV_put,rend_F _ y ((Rf _ _ _).trans hr) i (by omega) l last,room_eq x w (tF i true) false (by simp[tF]) (fun _=>rfl),ht];rfl
theorem inv_headI{x:CM}{v:VM}(h:InvV x v)(y:RM)(i:Nat):InvV x (v.headI x y i):=by
 unfold VM.headI;split
 ·
  exact Ul _ fun hp=>Jw h 1 (by omega) _ hp
 exact h
theorem inv_footI{x:CM}{v:VM}(h:InvV x v)(l:List RM)(last:Nat)(y:RM)(i:Nat):InvV x (v.footI x l last y i):=by
 unfold VM.footI;split
 ·
  split
  ·
   refine Ul _ fun hp=>?_;have:=Jw h 2 (by omega) false hp;exact⟨by show (v.room x 2 false).line+1+1≤_;omega,this.2⟩
  exact Ul _ fun hp=>Jw h 1 (by omega) _ hp
 exact h
theorem nps_npb{x:CM}(hp:x.paged=true)(k:Nat):x.nps k=x.npb k:=by simp[CM.nps,CM.npb,hp]
theorem headI_eq{x:CM}{w:WM}{y:RM}(hr:w.row=some y)(hI:InvV x (toV w)){i:Nat}(hi:i<3):toV (Dt x w (x.tg 3 i))=(toV w).headI x y i:=by
 unfold VM.headI;have e:x.tg 3 i=if x.has (2+i) then tH i (x.nps (1+i)) else tZ:=rfl
 rw[e];split
 ·
  exact pres_H hr hi (fun hp=>nps_npb hp _)
 rw[X4 hI]
theorem headN_eq{x:CM}{y:RM}:∀(k i:Nat) {w:WM},w.row=some y→InvV x (toV w)→i+k≤3→toV (headN x i k w)=VM.headN x y i k (toV w)∧InvV x (toV (headN x i k w))
 | 0,_,_,_,hI,_=>⟨rfl,hI⟩
 | k+1,i,w,hr,hI,hk=>by
  have h1:=headI_eq hr hI (i:=i) (by omega);have h2:=headN_eq k (i+1) (w:=Dt x w (x.tg 3 i)) ((H5 x w _).1.trans hr) (by rw[h1];exact inv_headI hI y i) (by omega);rw[h1]at h2;exact h2
theorem toV_clr(w:WM)(i:Nat):toV (w.clr i)=toV w:=rfl
theorem getD_set(l:List Nat)(i j:Nat):(l.set i 0).getD j 0=if i=j then 0 else l.getD j 0:=by
 rw[List.getD_eq_getElem?_getD,List.getD_eq_getElem?_getD,List.getElem?_set];split
 ·
  split<;>rfl
 rfl
theorem footI_eq{x:CM}{w:WM}{a:RM}(hr:w.row=some a)(hI:InvV x (toV w)){i:Nat}(hi:i<3)(l:List RM)(last:Nat)(ht:w.tot.getD i 0=fSum x l last i):toV ((Dt x w (x.tg 5 i)).clr i)=(toV w).footI x l last a i:=by
 rw[toV_clr];unfold VM.footI;have e:x.tg 5 i=if x.has (5+i) then tF i (x.blk i) else tZ:=rfl
 rw[e];split
 ·
  rw[pres_F hr hi (x.blk i) l last,ht]
 rw[X4 hI]
theorem footN_eq{x:CM}{a:RM}(l:List RM)(last:Nat):∀(k i:Nat) {w:WM},w.row=some a→InvV x (toV w)→i≤3→k≤i→(∀j,j<i→w.tot.getD j 0=fSum x l last j)→toV (footN x i k w)=VM.footN x l last a i k (toV w)∧InvV x (toV (footN x i k w))
 | 0,_,_,_,hI,_,_,_=>⟨rfl,hI⟩
 | k + 1, i, w, hr, hI, hi, hk, ht => by
  have h1:=footI_eq hr hI (i:=i-1) (by omega) l last (ht (i-1) (by omega))
  have h2:=footN_eq l last k (i-1) (w:=(Dt x w (x.tg 5 (i-1))).clr (i-1)) ((H5 x w _).1.trans hr) (by rw[h1];exact inv_footI hI l last a (i-1)) (by omega) (by omega) (fun j hj=>by
   show ((Dt x w (x.tg 5 (i-1))).tot.set (i-1) 0).getD j 0=_;rw[getD_set,if_neg (by omega),(H5 x w _).2.1]
   exact ht j (by omega))
  rw[h1]at h2;exact h2
theorem Yb(x:CM):∀(k i:Nat) (w:WM),k≤i→∀j,(footN x i k w).tot.getD j 0=if i-k≤j∧j<i then 0 else w.tot.getD j 0
 | 0,i,w,_,j=>by rw[if_neg (by omega)];rfl
 | k + 1, i, w, hk, j => by
  have h:=Yb x k (i-1) ((Dt x w (x.tg 5 (i-1))).clr (i-1)) (by omega) j;rw[footN,h];show (if _ then 0 else ((Dt x w (x.tg 5 (i-1))).tot.set (i-1) 0).getD j 0)=_;rw[getD_set,(H5 x w _).2.1];by_cases h1:i-1=j
  ·
   rw[if_pos h1,ite_self,if_pos (by omega)]
  rw[if_neg h1];by_cases h2:i-1-k≤j∧j<i-1
  ·
   rw[if_pos h2,if_pos (by omega)]
  rw[if_neg h2,if_neg (by omega)]
theorem write_page(w:WM)(tl:List (Nat × List It)):(w.write tl).page=w.page:=(Gv w tl).2.1
theorem Ud(x:CM)(w:WM)(t:TG):w.page≤(Dt x w t).page:=by
 have h0:w.page≤(if Gu x w t then En x w else w).page:=by
  split
  ·
   unfold En;rw[write_page];show w.page≤(Dj x w).page+1;rw[(Pv x w).2.1];omega
  exact Nat.le_refl _
 unfold Dt;rw[write_page];unfold Gp;split
 ·
  exact Nat.le_refl _
 split<;>exact h0
theorem Vh(x:CM):∀(k i:Nat) (w:WM),w.page≤(headN x i k w).page
 | 0,_,_=>Nat.le_refl _
 | k+1,i,w=>Nat.le_trans (Ud x w _) (Vh x k (i+1) _)
theorem footN_page(x:CM):∀(k i:Nat) (w:WM),w.page≤(footN x i k w).page
 | 0,_,_=>Nat.le_refl _
 | k+1,i,w=>Nat.le_trans (Ud x w (x.tg 5 (i-1))) (footN_page x k (i-1) ((Dt x w (x.tg 5 (i-1))).clr (i-1)))
theorem lvD_brk(a y:RM)(c:Nat)(hc:c<3):(Xm a y c).toNat=lvD a y c 0:=by
 have h:∀p q:UInt8,(p != q)=!decide (p=q):=fun p q=>by rw[bne,Bool.eq_iff_iff];simp
 rcases (by omega:c=0∨c=1∨c=2) with rfl | rfl | rfl<;>by_cases h1:a.A=y.A<;>by_cases h2:a.B=y.B<;>simp[Xm,lvD,chgB,h1,h2]
theorem chg_lvD(a y:RM)(c j:Nat)(hc:c<3)(hj:j≤c):chgB a y j=decide (lvD a y c 0≠0∧lvD a y c 0≤j):=by
 rcases (by omega:c=0∨c=1∨c=2) with rfl | rfl | rfl<;>rcases (by omega:j=0∨j=1∨j=2) with rfl | rfl | rfl<;>first | omega | (by_cases h1:a.A=y.A<;>by_cases h2:a.B=y.B<;>simp[lvD,chgB,h1,h2])
theorem fSum_first(x:CM)(l:List RM){y:RM}(h:l[0]?=some y)(j:Nat):fSum x l 0 j=y.N:=by
 show sumN l 0 1=_;have:=Xv l 0 0 (y:=y) (by simpa using h);rw[this];simp[sumN]
theorem fSum_step(x:CM)(l:List RM){i:Nat}{a y:RM}(ha:l[i]?=some a)(hy:l[i+1]?=some y)(j:Nat):fSum x l (i+1) j=if chgB a y (min j x.ctl) then y.N else fSum x l i j+y.N:=by
 have e:chgAt l i (min j x.ctl)=chgB a y (min j x.ctl):=by simp[chgAt,ha,hy]
 unfold fSum;rw[begF,e];split
 ·
  have:=Xv l (i+1) 0 (y:=y) (by simpa using hy);rw[show i+1+1-(i+1)=0+1 by omega,this];simp[sumN]
 have hb:=begF_le l (min j x.ctl) i;rw[show i+1+1-begF l (min j x.ctl) i=(i+1-begF l (min j x.ctl) i)+1 by omega,Xv l _ _ (y:=y)];rw[show begF l (min j x.ctl) i+(i+1-begF l (min j x.ctl) i)=i+1 by omega];exact hy
structure TQ (x:CM) (l:List RM) (i:Nat) (w:WM):Prop where
 row:∃a,l[i-1]?=some a∧w.row=some a
 tot:∀j,j≤x.ctl→w.tot.getD j 0=fSum x l (i-1) j
 len:w.tot.length=x.ctl+1
 page:w.page≠0
 ended:w.ended=false
def w0 (x:CM):WM:=⟨0,0,false,none,List.replicate (x.ctl+1) 0,[],false⟩
theorem gen_keep(x:CM)(w:WM)(y:RM)(det:Int):(Na x w y det).row=(genA x w y).row∧(Na x w y det).tot=(genA x w y).tot∧(Na x w y det).ended=(genA x w y).ended∧(genA x w y).page≤(Na x w y det).page:=by
 unfold Na;split
 ·
  exact⟨(H5 x _ _).1,(H5 x _ _).2.1,(H5 x _ _).2.2,Ud x _ _⟩
 split
 ·
  exact⟨(H5 x _ _).1,(H5 x _ _).2.1,(H5 x _ _).2.2,Ud x _ _⟩
 exact⟨rfl,rfl,rfl,Nat.le_refl _⟩
theorem genA_f(x:CM)(w:WM)(y:RM):(genA x w y).row=some y∧(genA x w y).tot=(Ed x w y).tot.map (·+y.N)∧(genA x w y).ended=(Ed x w y).ended∧(genA x w y).page=(Ed x w y).page:=⟨rfl,rfl,rfl,rfl⟩
theorem getD_map(l:List Nat)(N j:Nat)(h:j<l.length):(l.map (·+N)).getD j 0=l.getD j 0+N:=by
 simp[h]
theorem start_f(x:CM)(w:WM)(y:RM):(Q4 x w y).tot=w.tot∧(Q4 x w y).ended=w.ended∧1≤(Q4 x w y).page:=by
 have h1:=Gv (stA w y) (x.tg 1 0).tl;have h2:=Gv ((stA w y).write (x.tg 1 0).tl) (x.tg 2 0).tl;have h3:=Qh x (x.ctl+1-0) 0 (((stA w y).write (x.tg 1 0).tl).write (x.tg 2 0).tl);have h4:=Vh x (x.ctl+1-0) 0 (((stA w y).write (x.tg 1 0).tl).write (x.tg 2 0).tl);rw[h2.2.1,h1.2.1]at h4;exact⟨h3.2.1.trans (h2.2.2.1.trans h1.2.2.1),h3.2.2.trans (h2.2.2.2.2.trans h1.2.2.2.2),h4⟩
theorem TQ.first(x:CM){l:List RM}{y:RM}(hy:l[0]?=some y)(det:Int):TQ x l 1 (Na x (w0 x) y det):=by
 obtain⟨k1,k2,k3,k4⟩:=gen_keep x (w0 x) y det;obtain⟨a1,a2,a3,a4⟩:=genA_f x (w0 x) y;have e:Ed x (w0 x) y=Q4 x (w0 x) y:=if_pos rfl;obtain⟨s1,s2,s3⟩:=start_f x (w0 x) y;refine⟨⟨y,hy,k1.trans a1⟩,fun j hj=>?_,?_,?_,?_⟩
 ·
  rw[k2,a2,e,s1,getD_map _ _ _ (by simp[w0];omega),fSum_first x l hy];simp[w0,List.getElem?_replicate];split<;>rfl
 ·
  rw[k2,a2,e,s1];simp[w0]
 ·
  rw[a4,e]at k4;omega
 rw[k3,a3,e,s2];rfl
theorem foot_len(x:CM):∀(k i:Nat) (w:WM),(footN x i k w).tot.length=w.tot.length
 | 0,_,_=>rfl
 | k+1,i,w=>by
  rw[footN,foot_len x k (i-1)];show ((Dt x w _).tot.set _ _).length=_;rw[List.length_set,(H5 x w _).2.1]
theorem TQ.next(x:CM){l:List RM}{i:Nat}{w:WM}(h:TQ x l (i+1) w){y:RM}(hy:l[i+1]?=some y)(det:Int):TQ x l (i+2) (Na x w y det):=by
 obtain⟨a,ha,hr⟩:=h.row;have ha:l[i]?=some a:=ha;have hc:=x.ctl_lt;obtain⟨k1,k2,k3,k4⟩:=gen_keep x w y det;obtain⟨a1,a2,a3,a4⟩:=genA_f x w y;have hb:Yl w y x.ctl=lvD a y x.ctl 0:=by simp only[Yl,hr];exact lvD_brk a y x.ctl hc
 have hlv:=lvD_le a y x.ctl 0;have e:Ed x w y=if lvD a y x.ctl 0=0 then w else Tj x w y (lvD a y x.ctl 0):=by rw[Ed,if_neg h.page,hb]
 have xk:(Ed x w y).tot.length=x.ctl+1:=by
  rw[e];split
  ·
   exact h.len
  rw[Tj,headW,(Qh x _ _ _).2.1];exact (foot_len x _ _ w).trans h.len
 have htot:∀j,j≤x.ctl→(Ed x w y).tot.getD j 0=if chgB a y j then 0 else w.tot.getD j 0:=fun j hj=>by
  rw[chg_lvD a y x.ctl j hc hj,e];by_cases h0:lvD a y x.ctl 0=0
  ·
   rw[if_pos h0,if_neg (by simp[h0])]
  rw[if_neg h0,Tj,headW,(Qh x _ _ _).2.1];show (footN x (x.ctl+1) (x.ctl+1-lvD a y x.ctl 0) w).tot.getD j 0=_;rw[Yb x _ _ w (by omega) j];by_cases h1:lvD a y x.ctl 0≤j
  ·
   rw[if_pos (by omega),if_pos (by simp[h0,h1])]
  rw[if_neg (by omega),if_neg (by simp[h1])]
 refine⟨⟨y,hy,k1.trans a1⟩,fun j hj=>?_,by rw[k2,a2,List.length_map];exact xk,?_,?_⟩
 ·
  rw[k2,a2,getD_map _ _ _ (by omega),htot j hj];show _=fSum x l (i+1) j;rw[fSum_step x l ha hy j,Nat.min_eq_left hj];split
  ·
   omega
  rw[h.tot j hj];rfl
 ·
  have:w.page≤(Ed x w y).page:=by
   rw[e];split
   ·
    exact Nat.le_refl _
   exact Nat.le_trans (footN_page x _ _ w) (Vh x _ _ (setRow (Hw x w _) y))
  have:=h.page;omega
 rw[k3,a3,e];split
 ·
  exact h.ended
 rw[Tj,headW,(Qh x _ _ _).2.2];exact (footN_f x _ _ w).2.trans h.ended
def RQ (x:CM) (l:List RM) (i:Nat) (w:WM):Prop:=toV w=VM.rows x l i VM.ini∧InvV x (toV w)
theorem inv_det{x:CM}{v:VM}(h:InvV x v)(y:RM):InvV x (VM.det x v y):=by
 unfold VM.det;split
 ·
  exact Ul _ fun hp=>Jw h 1 (by omega) _ hp
 split
 ·
  exact Ul _ fun hp=>Jw h 2 (by omega) _ hp
 exact h
theorem det_eq{x:CM}{w:WM}{y:RM}:toV (Na x w y y.det)=VM.det x (toV (Ed x w y)) y:=by
 have h:toV (genA x w y)=toV (Ed x w y):=rfl;have hr:(genA x w y).row=some y:=rfl;unfold Na VM.det;split
 ·
  rw[pres_D1 hr (fun hp=>nps_npb hp 0),h]
 split
 ·
  rw[pres_D2 hr,h]
 rfl
theorem RQ.first(x:CM){l:List RM}{y:RM}(hy:l[0]?=some y):RQ x l 1 (Na x (w0 x) y y.det):=by
 have hc:=x.ctl_lt;have e:Ed x (w0 x) y=Q4 x (w0 x) y:=if_pos rfl
 have e1:toV ((stA (w0 x) y).write (x.tg 1 0).tl)=if x.has 0 then VM.ini.put 1 [82,72] else VM.ini:=by
  have e0:x.tg 1 0=if x.has 0 then tRH else tZ:=rfl
  rw[e0];split
  ·
   show toV (WM.write _ [(1,[.lit 1 [82,72]])])=_;rw[Xt,rend_L2];rfl
  rfl
 have e2:toV (((stA (w0 x) y).write (x.tg 1 0).tl).write (x.tg 2 0).tl)=VM.top x (if x.has 0 then VM.ini.put 1 [82,72] else VM.ini):=by rw[top_eq,e1]
 have hr:(((stA (w0 x) y).write (x.tg 1 0).tl).write (x.tg 2 0).tl).row=some y:=(Gv _ _).1.trans (Gv _ _).1
 have hI:InvV x (toV (((stA (w0 x) y).write (x.tg 1 0).tl).write (x.tg 2 0).tl)):=fun _=>by
  rw[e2];unfold VM.top;split<;>split<;>simp[VM.put,VM.ini]
 obtain⟨h1,h2⟩:=headN_eq (x:=x) (y:=y) (x.ctl+1-0) 0 hr hI (by omega);have h3:toV (Ed x (w0 x) y)=VM.fst x VM.ini y:=by rw[e];exact h1.trans (by rw[e2];rfl)
 have h4:VM.rows x l 1 VM.ini=VM.det x (VM.fst x VM.ini y) y:=by
  rw[Uc x l hy];rfl
 unfold RQ;rw[det_eq,h3,h4];exact⟨rfl,inv_det (by rw[←h3,e];exact h2) y⟩
theorem RQ.next(x:CM){l:List RM}{i:Nat}{w:WM}(hT:TQ x l (i+1) w)(h:RQ x l (i+1) w){y:RM}(hy:l[i+1]?=some y):RQ x l (i+2) (Na x w y y.det):=by
 have hc:=x.ctl_lt;obtain⟨a,ha,hr⟩:=hT.row;have ha:l[i]?=some a:=ha;obtain⟨hv,hI⟩:=h;have hb:Yl w y x.ctl=lvD a y x.ctl 0:=by simp only[Yl,hr];exact lvD_brk a y x.ctl hc
 have hlv:=lvD_le a y x.ctl 0;have e:Ed x w y=if lvD a y x.ctl 0=0 then w else Tj x w y (lvD a y x.ctl 0):=by rw[Ed,if_neg hT.page,hb]
 have h4:VM.rows x l (i+2) VM.ini=VM.det x (VM.nxt x (VM.rows x l (i+1) VM.ini) l i a y) y:=by
  rw[Uc x l hy,VM.pre];simp only[ha]
 have h3:toV (Ed x w y)=VM.nxt x (VM.rows x l (i+1) VM.ini) l i a y∧InvV x (toV (Ed x w y)):=by
  rw[e,VM.nxt,←hv];split
  ·
   exact⟨rfl,hI⟩
  obtain⟨f1,f2⟩:=footN_eq (x:=x) l i (x.ctl+1-lvD a y x.ctl 0) (x.ctl+1) hr hI (by omega) (by omega) (fun j hj=>hT.tot j (by omega));obtain⟨g1,g2⟩:=headN_eq (x:=x) (y:=y) (x.ctl+1-lvD a y x.ctl 0) (lvD a y x.ctl 0) (w:=setRow (Hw x w (lvD a y x.ctl 0)) y) rfl f2 (by omega);exact⟨g1.trans (by show VM.headN x y _ _ (toV (footN x _ _ w))=_;rw[f1];rfl),g2⟩
 unfold RQ;rw[det_eq,h4,h3.1];exact⟨rfl,inv_det (by rw[←h3.1];exact h3.2) y⟩
theorem term_eq(x:CM){l:List RM}{i:Nat}{w:WM}(hT:TQ x l (i+1) w)(h:RQ x l (i+1) w)(hl:l.length=i+1):toV (G9 x w)=VM.all x l true:=by
 have hc:=x.ctl_lt;obtain⟨a,ha,hr⟩:=hT.row;have ha:l[i]?=some a:=ha;obtain⟨hv,hI⟩:=h;obtain⟨f1,f2⟩:=footN_eq (x:=x) l i (x.ctl+1-0) (x.ctl+1) hr hI (by omega) (by omega) (fun j hj=>hT.tot j (by omega));have e7:x.tg 7 0=if x.has 9 then tRF else tZ:=rfl
 have e1:toV (Hw x w 0)=VM.fin1 x (VM.rows x l l.length VM.ini) l a:=by
  rw[VM.fin1,hl,Nat.add_sub_cancel,←hv];exact f1
 have e2:toV (V4 x w)=VM.fin2 x (VM.fin1 x (VM.rows x l l.length VM.ini) l a):=by
  unfold V4 VM.fin2;rw[e7,←e1];split
  ·
   rw[pres_RF]
  rw[X4 (show InvV x (toV (Hw x w 0)) from f2)]
 have e3:VM.all x l true=VM.fin x (VM.rows x l l.length VM.ini) l a:=by
  rw[VM.all,if_pos rfl,hl,Nat.add_sub_cancel,ha]
 rw[e3,G9,if_neg hT.page,VM.fin]
 cases hp:x.paged with
 | false=>rw[if_pos (x.P_iff.2 hp)];simpa using e2
 | true =>
  rw[if_neg (by rw[x.P_iff,hp];simp),if_pos rfl,bot_eq x hp,e2]
theorem len_clipR(rows:List (List D)):lenD false (L9 rows)=some (.int .i64 (rows.length:Nat)):=by cases rows<;>rfl
def LsD (ls:D) (l:List RM):Prop:=(l=[]∧ls=.nils)∨∃c,ls=.sl 4 (l.map RM.row) c
theorem LsD.len{ls:D}{l:List RM}(h:LsD ls l):lenD false ls=some (.int .i64 (l.length:Nat)):=by
 rcases h with⟨rfl,rfl⟩ | ⟨c,rfl⟩
 ·
  rfl
 show some (D.int .i64 ((l.map RM.row).length:Nat))=_;rw[List.length_map]
theorem LsD.sl{ls:D}{l:List RM}(h:LsD ls l)(hl:l.length≠0):∃c,ls=.sl 4 (l.map RM.row) c:=by
 rcases h with⟨rfl,rfl⟩ | h
 ·
  simp at hl
 exact h
def Gj (x:CM) (l:List RM) (e:Bool):List (Nat × Nat × List UInt8):=if l=[] then [] else (VM.all x l e).lines
theorem RM.det_le(y:RM):-1≤y.det∧y.det≤1:=by
 unfold RM.det;have:y.e % 3<3:=Nat.mod_lt _ (by decide);split<;>omega
structure GQ (x:CM) (l:List RM) (i:Nat) (w:WM):Prop where
 wb:∀y,WB (setRow w y) (20+310*i)
 q:(i=0∧w=w0 x)∨(i≠0∧TQ x l i w∧RQ x l i w)
theorem GQ.start(x:CM)(l:List RM):GQ x l 0 (w0 x):=⟨fun y=>⟨by simp[setRow],by show 0≤_;omega,by show 0≤_;omega,by show 0≤_;omega,fun m hm=>by
 have:m=0:=(List.mem_replicate.1 (show m∈List.replicate (x.ctl+1) 0 from hm)).2
 omega⟩,.inl ⟨rfl,rfl⟩⟩
theorem GQ.pr{x:CM}{l:List RM}{i:Nat}{w:WM}(h:GQ x l i w):w.page≠0→w.row≠none:=by
 rcases h.q with⟨_,rfl⟩ | ⟨_,h1,_⟩
 ·
  intro h;exact absurd rfl h
 obtain⟨a,_,hr⟩:=h1.row;intro _;rw[hr];simp
theorem GQ.en{x:CM}{l:List RM}{i:Nat}{w:WM}(h:GQ x l i w):w.ended=false:=by
 rcases h.q with⟨_,rfl⟩ | ⟨_,h1,_⟩
 ·
  rfl
 exact h1.ended
theorem GQ.len{x:CM}{l:List RM}{i:Nat}{w:WM}(h:GQ x l i w):w.tot.length=x.ctl+1:=by
 rcases h.q with⟨_,rfl⟩ | ⟨_,h1,_⟩
 ·
  simp[w0]
 exact h1.len
theorem GQ.wbp{x:CM}{l:List RM}{i:Nat}{w:WM}(h:GQ x l i w)(hp:w.page≠0):WB w (20+310*i):=by
 obtain⟨y,hy⟩:=Option.ne_none_iff_exists'.1 (h.pr hp);have:=h.wb y;exact⟨h.pr hp,this.page,this.line,this.lines,this.tot⟩
theorem GQ.next{x:CM}{l:List RM}{i:Nat}{w:WM}(h:GQ x l i w){y:RM}(hy:l[i]?=some y)(hi:i<90:=by omega):GQ x l (i+1) (Na x w y y.det):=by
 refine⟨fun y'=>?_,.inr ⟨by omega,?_⟩⟩
 ·
  have:=((h.wb y).gen h.pr (by omega) (by omega) h.len y.det).1.setRow y';rwa [show 20+310*i+310=20+310*(i+1) by omega]at this
 rcases h.q with⟨rfl,rfl⟩ | ⟨h0,h1,h2⟩
 ·
  exact⟨TQ.first x hy _,RQ.first x hy⟩
 obtain⟨j,rfl⟩:∃j,i=j+1:=⟨i-1,by omega⟩;exact⟨h1.next x hy _,RQ.next x h1 h2 hy⟩
theorem GQ.fin{x:CM}{l:List RM}{w:WM}(h:GQ x l l.length w):(G9 x w).lines=Gj x l true:=by
 rcases h.q with⟨h0,rfl⟩ | ⟨h0,h1,h2⟩
 ·
  have hl:l=[]:=List.length_eq_zero_iff.1 h0;rw[Gj,if_pos hl];rfl
 have hl:l≠[]:=fun e=>h0 (by rw[e];rfl);obtain⟨i,hi⟩:∃i,l.length=i+1:=⟨l.length-1,by omega⟩;rw[hi]at h1 h2;rw[Gj,if_neg hl,←term_eq x h1 h2 hi];rfl
theorem GQ.flen{x:CM}{l:List RM}{i:Nat}{w:WM}(h:GQ x l i w)(hi:i≤90:=by omega):(G9 x w).lines.length≤50000:=by
 unfold G9;split
 ·
  rcases h.q with⟨_,rfl⟩ | ⟨_,h1,_⟩
  ·
   show 0≤_;omega
  exact absurd ‹_› h1.page
 rename_i hp;have hw:=h.wbp hp;have hct:=x.ctl_lt;obtain⟨hBf0,hnf⟩:=WB.foot (x:=x) (x.ctl+1-0) (x.ctl+1) hw (by omega) h.len (Nat.le_refl _) (by omega);have hT7:=Ko (x:=x) hBf0 (by omega) hnf (k:=7) (lv:=0) (by omega);have hBp:=hBf0.pres (x:=x) (by omega) hnf hT7;have hBb:=(hBp.bottom (x:=x) (by omega) (by rw[(H5 x _ _).2.1];exact hnf)).2;split
 ·
  have:=hBp.lines;show (Dt x _ _).lines.length≤_;exact Nat.le_trans this (by omega)
 have:=hBb.lines;exact Nat.le_trans this (by omega)
set_option maxRecDepth 1000000
def lvX (r:List D):List D:=.int .u8 2::.int .u8 0::.str ⟨#[88]⟩::.int .i64 0::.int .i64 0::.bool false::.bool false::.bool false::.bool false::.bool false::.int .i64 1::r
def lvN (r:List D):List D:=.int .u8 4::.int .u8 0::.str ⟨#[57,57]⟩::.int .i64 2::.int .i64 0::.bool false::.bool false::.bool false::.bool false::.bool false::.int .i64 2::r
def lvE (r:List D):List D:=.int .u8 5::.int .u8 0::.str ⟨#[90,57]⟩::.int .i64 2::.int .i64 0::.bool false::.bool false::.bool false::.bool false::.bool false::.int .i64 2::r
def lvZ (r:List D):List D:=.int .u8 5::.int .u8 0::.str ⟨#[90,90,57]⟩::.int .i64 3::.int .i64 0::.bool false::.bool false::.bool false::.bool false::.bool false::.int .i64 3::r
def lvP0:List (List D):=[[.sl 11 [(lvX []),(lvN [])] (some 2),.sl 1 [[.int .i64 0]] (some 1),.int .i64 0,.int .i64 0,.int .i64 0,.sl 4 [[.int .u8 4,.int .i64 0,.bool false,.sl 2 [[.int .i64 1,.sl 15 [(.int .i64 3::lvE [.int .u8 2,.nils,.int .i64 1])] (some 1)]] (some 1)],[.int .u8 5,.int .i64 1,.bool false,.sl 2 [[.int .i64 1,.sl 15 [(.int .i64 1::lvX [.int .u8 2,.nils,.int .i64 0]),(.int .i64 3::lvZ [.int .u8 3,.nils,.int .i64 0])] (some 2)]] (some 1)],[.int .u8 5,.int .i64 0,.bool false,.sl 2 [[.int .i64 1,.sl 15 [(.int .i64 3::lvZ [.int .u8 3,.nils,.int .i64 1])] (some 1)]] (some 1)]] (some 3),.sl 2 [[.int .i64 1,.int .i64 1],[.int .i64 1,.int .i64 0]] (some 2)]]
def lvP11:List (List D):=[(.int .i64 1::lvX [.int .u8 2,.nils,.int .i64 0])]
def lvR:List D:=lvP0.headD []
def lvH0:List Z7:=[⟨64,11,[(lvZ [])],0,0,false⟩,⟨64,11,[(lvE [])],0,0,false⟩,⟨37,7,lvP0,0,0,false⟩,⟨82,15,lvP11,0,0,false⟩]
def ch (x:Option (D × St × Bool)) (k:St→Option (List (D × Bool))):Option (List (D × Bool)):=match x with
 | some (d,S,w)=>(k S).map ((d,w)::·)
 | none=>none
theorem ch_ok{x:Option (D × St × Bool)}{k:St→Option (List (D × Bool))}{d:D}{w:Bool}{l:List (D × Bool)}(h:ch x k=some ((d,w)::l)):∃S,x=some (d,S,w)∧k S=some l:=by
 unfold ch at h;split at h
 ·
  rename_i d' S w'
  cases hk:k S with
  | none=>rw[hk]at h;cases h
  | some l'=>rw[hk]at h;cases h;exact⟨S,rfl,hk⟩
 cases h
theorem lv_zz9(d:Nat)(S:St):Fb LP NN (d+59) 28 [.str ⟨#[90,90,57]⟩] S=some (.agg (lvZ []),S,false):=by kernel_rfl
theorem lv_z9(d:Nat)(S:St):Fb LP NN (d+59) 28 [.str ⟨#[90,57]⟩] S=some (.agg (lvE []),S,false):=by kernel_rfl
theorem lv_chain(d:Nat):(ch (Fb LP NN (d+59) 9 [.agg lvR] ⟨lvH0,0⟩) fun S1=>ch (Fb LP NN (d+59) 12 [.ptr 6 0 0 0,.int .i64 0,.sl 12 [lvX [.sl 1 (bR [65]) none],lvN [.sl 1 (bR [48,53]) none]] (some 2)] S1) fun S2=>ch (Fb LP NN (d+59) 12 [.ptr 6 0 0 0,.int .i64 0,.sl 12 [lvX [.sl 1 (bR [65]) none],lvN [.sl 1 (bR [49,48]) none]] (some 2)] S2) fun S3=>ch (Fb LP NN (d+59) 12 [.ptr 6 0 0 0,.int .i64 0,.sl 12 [lvX [.sl 1 (bR [66]) none],lvN [.sl 1 (bR [48,55]) none]] (some 2)] S3) fun S4=>ch (Fb LP NN (d+59) 17 [.ptr 6 0 0 0] S4) fun S5=>ch (Fb LP NN (d+59) 11 [.ptr 6 0 0 0] S5) fun S6=>some [])=some [(.tup [.ptr 6 0 0 0,.int .i64 0],true),(.int .i64 0,true),(.int .i64 0,true),(.int .i64 0,true),(.int .i64 0,true),(.sl 3 ([(1,1,[32,32,32,53]),(1,2,[32,32,49,48]),(1,3,[65,32,32,49,53]),(1,4,[32,32,32,55]),(1,5,[66,32,32,32,55]),(1,6,[32,32,32,50,50])].map lnR) (some 6),false)]:=by kernel_rfl
theorem lv_x1(d:Nat)(S:St):Fb LP NN (d+59) 21 [.sl 3 ([(1,1,[32,32,32,53]),(1,2,[32,32,49,48]),(1,3,[65,32,32,49,53]),(1,4,[32,32,32,55]),(1,5,[66,32,32,32,55]),(1,6,[32,32,32,50,50])].map lnR) (some 6)] S=some (.str ⟨#[32,32,32,53,10,32,32,49,48,10,65,32,32,49,53,10,32,32,32,55,10,66,32,32,32,55,10,32,32,32,50,50,10]⟩,S,false):=by kernel_rfl
theorem lives_run:∀(d:Nat) (S:St),60≤d→Bc LP NN d 8 [] S=some (.bool true,S,false):=by
 intro d S hd;obtain⟨e,rfl⟩:∃e,d=e+60:=⟨d-60,by omega⟩;obtain⟨S1,hg0,yg⟩:=ch_ok (lv_chain e);obtain⟨S2,yZ,yK⟩:=ch_ok yg;obtain⟨S3,uw,hc3⟩:=ch_ok yK;obtain⟨S4,hg3,hc4⟩:=ch_ok hc3;obtain⟨S5,hg4,hc5⟩:=ch_ok hc4;obtain⟨S6,hg5,hc6⟩:=ch_ok hc5;have wR:IntKind.i64.wrap (0+1)=1:=by decide
 have uJ:IntKind.i64.wrap (1+1)=2:=by decide
 have hw3:IntKind.i64.wrap (2+1)=3:=by decide
 refine run_pure (F:=F8) rfl (by simp only[LP,snapVs,zm]<;>exact rfl) rfl (by simp only[LP,zm];try rfl) (by simp only[F8,zv]<;>exact rfl) (by omega) ?_;intro d he;obtain rfl:d=e+59:=by omega
 refine Ad (Az (Aa (Ae ?_)));refine Ad (Ac (by simp only[zo];exact fast_ok (lv_zz9 e _)) ?_);apply Ac (by simp only[zl,zm,lvZ]<;>exact rfl);apply Ac (by simp only[zl,zm,Bi,overlay,Bh,zs,zc,zf,List.take,List.drop,lvZ]<;>exact rfl);refine Aa (Ae ?_);refine Ad (Ac (by simp only[zo];exact fast_ok (lv_z9 e _)) ?_);apply Ac (by simp only[zl,zm,lvE]<;>exact rfl);apply Ac (by simp only[zl,zm,Bi,overlay,Bh,zs,zc,zf,List.take,List.drop,lvE]<;>exact rfl);refine Aa (Ae ?_);refine Ad (Ac (by simp only[zo];exact Gz (by omega) _ (n:=1) (by omega) (by omega)) ?_);apply Ac (by simp only[zo,shT];exact Js (by omega) _ (n:=2) (by omega) (by omega));apply Ac (by simp only[zl,zm,Cm,List.replicate,snapVs,Bh,zs,zc,zf,shT,shN]<;>exact rfl);apply Ac (by simp only[zl,zm,Cm,List.replicate,snapVs,zs,zc,zf,shT,shN]<;>exact rfl);refine xo74 ?_;refine xo74 ?_;apply Ac (by simp only[zl,zm,Cm,List.replicate,snapVs,Bh,zs,zc,zf,shT,shN]<;>exact rfl);refine xo74 ?_;apply Ac (by simp only[zl,zm,shT,shN]<;>exact rfl);apply Ac (by simp only[zl,zm,Bi,overlay,Bh,zs,zc,zf,List.take,List.drop,shT,shN]<;>exact rfl);refine Aa (Ae ?_);refine Ad (Ac (by simp only[zo];exact Gz (by omega) _ (n:=1) (by omega) (by omega)) ?_);refine xo59 ?_;apply Ac (by simp only[zl,zm,shT]<;>exact rfl);apply Ac (by simp only[zl,zm,Bi,overlay,Bh,zs,zc,zf,List.take,List.drop,shT]<;>exact rfl);refine Aa (Ae ?_);refine Ad (xo0 ?_);refine Qr ?_;refine xo49 ?_;refine Qr ?_;refine xo49 ?_;refine Qr ?_;refine xo0 ?_;refine xo0 ?_;refine Qr ?_;refine xo49 ?_;refine Qr ?_;refine xo49 ?_;refine Qr ?_;refine xo0 ?_;refine Qr ?_;refine xo49 ?_;refine Qr ?_;refine xo49 ?_;refine Qr ?_;refine xo49 ?_;refine xo1 ?_;apply Ac (by simp only[zl,zm,Bi,overlay,zs,zc,zf,List.take,List.drop]<;>exact rfl);refine Aa (Ae ?_);refine Ad (xo0 ?_);apply Ac (by simp only[zo];exact fast_ok hg0);refine Ag rfl (Lh ?_);refine Jm ?_;refine Ag rfl (Ag rfl (Aa (Ae ?_)));refine Ad (Ac (by simp only[zl,zm,Cm,List.replicate,snapVs,zs,zc,zf]<;>exact rfl) ?_);refine Ag rfl (Aa (Ae ?_));refine Aj (Ad (Az (Aa (Ae ?_))));refine Ar (Ku (F6 (Aj (Ad (Af rfl (xo50 ?_))))));refine Aa (Ae ?_);refine Jk ?_;refine Ak (Bl rfl (Aj (Ar (Aj (Eu (by simp only[newsVals,zw]<;>exact rfl) (by simp only[zw,St.eta]<;>exact rfl) ?_)))));refine Bf rfl rfl (Be (by simp only[zo];exact Gz (by omega) _ (n:=1) (by omega) (by omega)) rfl ?_);refine Bf rfl rfl (Bf rfl rfl (Be (by simp only[zl,zm,Dk,Int.toNat_zero,Int.le_refl,shT]<;>exact rfl) rfl ?_));refine xo53 rfl ?_;apply Ah (by simp only[opd,zv,Ap,aop,LOp.loud,if_false,Bool.false_eq_true];exact congrArg (Option.map fun r=>(r,_,false)) (show pop (.slice true 0 false true false) [.str ⟨#[65,48,53]⟩,.int .i64 1]=some (.str (mkS [65])) from rfl)) rfl rfl;refine Be (by simp only[zl,zm,shT,Fv]<;>exact rfl) rfl ?_;refine xo52 rfl rfl ?_;refine Be (by simp only[zo,shT];exact Js (by omega) _ (n:=2) (by omega) (by omega)) rfl ?_;refine Bf rfl rfl (Bf rfl rfl (Be (by simp only[zl,zm,Dk,Int.toNat_zero,Int.le_refl,shT,shN]<;>exact rfl) rfl ?_));refine xo56 rfl ?_;apply Ah (by simp only[opd,zv,Ap,aop,LOp.loud,if_false,Bool.false_eq_true];exact congrArg (Option.map fun r=>(r,_,false)) (show pop (.slice true 0 true false false) [.str ⟨#[65,48,53]⟩,.int .i64 1]=some (.str (mkS [48,53])) from rfl)) rfl rfl;refine Be (by simp only[zl,zm,shT,shN,Fv]<;>exact rfl) rfl ?_;refine xo55 rfl rfl ?_;refine xo57 rfl ?_;refine Be (by simp only[zo,shT,shN];exact fast_ok yZ) rfl ?_;apply Ah (by simp only[zo,Bd,shT,shN]<;>exact rfl) rfl rfl;refine Bz (Ae ?_);refine D5 ?_;refine Ak (Ej (Bl rfl (Am (Af rfl (Ac (by simp only[zo,Bd,wR]<;>exact rfl) ?_)))));refine Ag rfl (Aa (Zq (by simp only[ze]<;>exact rfl) ?_));refine F6 (Aj (Ad (Af rfl (xo50 ?_))));refine Aa (Ae ?_);refine Jk ?_;refine Ak (Bl rfl (Aj (Ar (Aj (Eu (by simp only[newsVals,zw]<;>exact rfl) (by simp only[zw,St.eta]<;>exact rfl) ?_)))));refine Bf rfl rfl (Be (by simp only[zo];exact Gz (by omega) _ (n:=1) (by omega) (by omega)) rfl ?_);refine Bf rfl rfl (Bf rfl rfl (Be (by simp only[zl,zm,Dk,shT]<;>exact rfl) rfl ?_));refine xo53 rfl ?_;apply Ah (by simp only[opd,zv,Ap,aop,LOp.loud,if_false,Bool.false_eq_true];exact congrArg (Option.map fun r=>(r,_,false)) (show pop (.slice true 0 false true false) [.str ⟨#[65,49,48]⟩,.int .i64 1]=some (.str (mkS [65])) from rfl)) rfl rfl;refine Be (by simp only[zl,zm,shT,Fv]<;>exact rfl) rfl ?_;refine xo52 rfl rfl ?_;refine Be (by simp only[zo,shT];exact Js (by omega) _ (n:=2) (by omega) (by omega)) rfl ?_;refine Bf rfl rfl (Bf rfl rfl (Be (by simp only[zl,zm,Dk,shT,shN]<;>exact rfl) rfl ?_));refine xo56 rfl ?_;apply Ah (by simp only[opd,zv,Ap,aop,LOp.loud,if_false,Bool.false_eq_true];exact congrArg (Option.map fun r=>(r,_,false)) (show pop (.slice true 0 true false false) [.str ⟨#[65,49,48]⟩,.int .i64 1]=some (.str (mkS [49,48])) from rfl)) rfl rfl;refine Be (by simp only[zl,zm,shT,shN,Fv]<;>exact rfl) rfl ?_;refine xo55 rfl rfl ?_;refine xo57 rfl ?_;refine Be (by simp only[zo,shT,shN];exact fast_ok uw) rfl ?_;apply Ah (by simp only[zo,Bd,shT,shN]<;>exact rfl) rfl rfl;refine Bz (Ae ?_);refine D5 ?_;refine Ak (Ej (Bl rfl (Am (Af rfl (Ac (by simp only[zo,Bd,uJ]<;>exact rfl) ?_)))));refine Ag rfl (Aa (Zq (by simp only[ze]<;>exact rfl) ?_));refine F6 (Aj (Ad (Af rfl (xo50 ?_))));refine Aa (Ae ?_);refine Jk ?_;refine Ak (Bl rfl (Aj (Ar (Aj (Eu (by simp only[newsVals,zw]<;>exact rfl) (by simp only[zw,St.eta]<;>exact rfl) ?_)))));refine Bf rfl rfl (Be (by simp only[zo];exact Gz (by omega) _ (n:=1) (by omega) (by omega)) rfl ?_);refine Bf rfl rfl (Bf rfl rfl (Be (by simp only[zl,zm,Dk,shT]<;>exact rfl) rfl ?_));refine xo53 rfl ?_;apply Ah (by simp only[opd,zv,Ap,aop,LOp.loud,if_false,Bool.false_eq_true];exact congrArg (Option.map fun r=>(r,_,false)) (show pop (.slice true 0 false true false) [.str ⟨#[66,48,55]⟩,.int .i64 1]=some (.str (mkS [66])) from rfl)) rfl rfl;refine Be (by simp only[zl,zm,shT,Fv]<;>exact rfl) rfl ?_;refine xo52 rfl rfl ?_;refine Be (by simp only[zo,shT];exact Js (by omega) _ (n:=2) (by omega) (by omega)) rfl ?_;refine Bf rfl rfl (Bf rfl rfl (Be (by simp only[zl,zm,Dk,shT,shN]<;>exact rfl) rfl ?_));refine xo56 rfl ?_;apply Ah (by simp only[opd,zv,Ap,aop,LOp.loud,if_false,Bool.false_eq_true];exact congrArg (Option.map fun r=>(r,_,false)) (show pop (.slice true 0 true false false) [.str ⟨#[66,48,55]⟩,.int .i64 1]=some (.str (mkS [48,55])) from rfl)) rfl rfl;refine Be (by simp only[zl,zm,shT,shN,Fv]<;>exact rfl) rfl ?_;refine xo55 rfl rfl ?_;refine xo57 rfl ?_;refine Be (by simp only[zo,shT,shN];exact fast_ok hg3) rfl ?_;apply Ah (by simp only[zo,Bd,shT,shN]<;>exact rfl) rfl rfl;refine Bz (Ae ?_);refine D5 ?_;refine Ak (Ej (Bl rfl (Am (Af rfl (Ac (by simp only[zo,Bd,hw3]<;>exact rfl) ?_)))));refine Ag rfl (Aa (Zq (by simp only[ze]<;>exact rfl) ?_));refine F6 (Aj (Ad (Af rfl (xo50 ?_))));refine Aa (Ae ?_);refine D5 ?_;refine Dq (Hq (lu_e (Hy (Bl rfl (Ad (Af rfl (Ac (by simp only[zo];exact fast_ok hg4) ?_)))))));refine Ag rfl (Aa (Ae ?_));refine Ad (Af rfl (xo2 ?_));refine Ag rfl (Ey 0 (b:=true) ?_);refine Aq rfl (Af rfl (Aq rfl (xo2 ?_)));refine xo3 ?_;refine Ag rfl (Ey 0 (b:=true) ?_);refine Aq rfl (Af rfl (Aq rfl (Ac (by simp only[zo];exact fast_ok hg5) ?_)));refine Aq rfl (Ac (by simp only[zo];exact fast_ok (lv_x1 e _)) ?_);refine Aq rfl (Ac (by simp only[zo,Bd,beq_self_eq_true]<;>exact rfl) ?_);refine xo3 ?_;refine Ag rfl (Aa (Ae ?_));apply Ba;refine⟨_,by simp only[F8,resultD,Bg,resD,zg]<;>exact rfl,?_⟩;rfl
def Jo (s:List UInt8):Prop:=∀c∈s,c≠10∧c≠12
theorem H6:Jo []:=fun c h=>by cases h
theorem Fp{c:UInt8}{s:List UInt8}(h:c≠10∧c≠12)(hs:Jo s):Jo (c::s):=fun d hd=>by
 rcases List.mem_cons.1 hd with rfl | h'
 ·
  exact h
 exact hs d h'
theorem H7{s t:List UInt8}(hs:Jo s)(ht:Jo t):Jo (s++t):=fun d hd=>by
 rcases List.mem_append.1 hd with h | h
 ·
  exact hs d h
 exact ht d h
theorem u8_ne{n:Nat}(h:13≤n)(h2:n<256):UInt8.ofNat n≠10∧UInt8.ofNat n≠12:=by
 constructor<;>(intro e;have:=congrArg UInt8.toNat e;simp[UInt8.toNat_ofNat,Nat.mod_eq_of_lt h2]at this;omega)
theorem Ll(n:Nat):∀k,Jo (Bq n k)
 | 0=>H6
 | k+1=>Fp (u8_ne (by omega) (by have:n / 10 ^ k % 10<10:=Nat.mod_lt _ (by decide);omega)) (Ll n k)
theorem RM.A_ne(y:RM):y.A≠10∧y.A≠12:=u8_ne (by omega) (by have:y.a % 3<3:=Nat.mod_lt _ (by decide);omega)
theorem RM.B_ne(y:RM):y.B≠10∧y.B≠12:=u8_ne (by omega) (by have:y.b % 3<3:=Nat.mod_lt _ (by decide);omega)
def fB (p:Nat):List UInt8:=[66,32]++Bq p 2
def fP (p:Nat):List UInt8:=[80,32]++Bq p 2
theorem txt_B(p:Nat):Jo (fB p):=Fp (by decide) (Fp (by decide) (Ll p 2))
theorem txt_P(p:Nat):Jo (fP p):=Fp (by decide) (Fp (by decide) (Ll p 2))
theorem txt_H(y:RM)(i:Nat):Jo (hTxt y i):=H7 (H7 (H7 (H7 (Fp (by decide) H6) (Ll _ _)) (Fp (by decide) H6)) (Fp y.A_ne H6)) (Fp y.B_ne H6)
theorem txt_F(l:List RM)(last i:Nat)(y:RM)(s:Nat):Jo (Xg l last i y s):=H7 (H7 (H7 (H7 (H7 (H7 (Fp (by decide) H6) (Ll _ _)) (Fp (by decide) H6)) (Fp y.A_ne H6)) (Fp y.B_ne H6)) (Fp (by decide) H6)) (Ll _ _)
theorem txt_0(y:RM):Jo (U3 y):=H7 (H7 (H7 (Fp y.A_ne H6) (Fp y.B_ne H6)) (Fp (by decide) H6)) (Ll _ _)
theorem txt_1(y:RM):Jo (U2 y):=H7 (fun c h=>by simp at h;subst h;decide) (Ll _ _)
def bodT (s:List UInt8):Prop:=s≠[82,72]∧s.head?≠some 80∧s.head?≠some 66
theorem bod_H(y:RM)(i:Nat):bodT (hTxt y i):=⟨by simp[hTxt],by simp[hTxt],by simp[hTxt]⟩
theorem bod_F(l:List RM)(last i:Nat)(y:RM)(s:Nat):bodT (Xg l last i y s):=⟨by simp[Xg],by simp[Xg],by simp[Xg]⟩
theorem RM.A_b(y:RM):y.A≠82∧y.A≠80∧y.A≠66:=by
 have h:y.a % 3=0∨y.a % 3=1∨y.a % 3=2:=by omega
 unfold RM.A;rcases h with h | h | h<;>rw[h]<;>decide
theorem bod_0(y:RM):bodT (U3 y):=by
 obtain⟨h1,h2,h3⟩:=y.A_b;exact⟨fun h=>by simp[U3]at h,by simpa [U3] using h2,by simpa [U3] using h3⟩
theorem bod_1(y:RM):bodT (U2 y):=⟨by simp[U2],by simp[U2],by simp[U2]⟩
def cls (x:CM) (p n:Nat) (s:List UInt8):Prop:=(n<x.first∧(s=[82,72]∨s=fP p))∨(x.last<n∧s=fB p)∨(x.first≤n∧n≤x.last∧bodT s)
abbrev Ln:=Nat × Nat × List UInt8
def stp (x:CM) (q o:Ln):Prop:=((o.1=q.1∧q.2.1<o.2.1∧o.2.1≤q.2.1+20)∨(o.1=q.1+1∧1≤o.2.1∧o.2.1≤20∧(x.has 8=true→q.2.2=fB q.1)))∧Jo o.2.2∧(x.paged=true→o.2.1≤x.last+2∧cls x o.1 o.2.1 o.2.2)
def chn (x:CM):Ln→List Ln→Prop
 | _,[]=>True
 | q,o::r=>stp x q o∧chn x o r
def o0:Ln:=(1,0,[])
def Et (l:List Ln):Ln:=l.getLast?.getD o0
theorem chn_snoc(x:CM){o:Ln}:∀{l:List Ln} {q:Ln},chn x q l→stp x (l.getLast?.getD q) o→chn x q (l++[o])
 | [],q,h,hs=>⟨hs,trivial⟩
 | a::l,q,h,hs=>⟨h.1,chn_snoc x h.2 (by rwa [List.getLast?_cons,Option.getD_some]at hs)⟩
structure LA (x:CM) (v:VM):Prop where
 ch:chn x o0 v.lines
 hd:∀o,v.lines.head?=some o→o.1=1
 pg:(Et v.lines).1=v.page
 le:(Et v.lines).2.1≤v.line
 ub:v.line≤(Et v.lines).2.1+15
 bd:v.body=true→v.lines≠[]
structure LB (x:CM) (v:VM):Prop where
 ch:chn x o0 v.lines
 hd:∀o,v.lines.head?=some o→o.1=1
 st:((Et v.lines).1=v.page∧(Et v.lines).2.1≤v.line∧v.line≤(Et v.lines).2.1+15)∨((Et v.lines).1+1=v.page∧v.line≤17∧v.lines≠[]∧(x.has 8=true→(Et v.lines).2.2=fB (Et v.lines).1))
theorem LA.b{x:CM}{v:VM}(h:LA x v):LB x v:=⟨h.ch,h.hd,.inl ⟨h.pg,h.le,h.ub⟩⟩
theorem Kt(l:List Ln)(o:Ln):Et (l++[o])=o:=by simp[Et]
theorem LB.put{x:CM}{v:VM}(h:LB x v){p:Nat}{s:List UInt8}(hp1:1≤p)(hp2:p≤2)(hs:Jo s)(hc:x.paged=true→v.line+p≤x.last+2∧cls x v.page (v.line+p) s):LA x (v.put p s):=by
 refine⟨?_,?_,?_,?_,?_,?_⟩
 ·
  refine chn_snoc x h.ch ⟨?_,hs,hc⟩;show (v.page=(Et v.lines).1∧_)∨_;rcases h.st with⟨h1,h2,h3⟩ | ⟨h1,h2,h3,h4⟩
  ·
   exact .inl ⟨h1.symm,by show (Et v.lines).2.1<v.line+p;omega,by show v.line+p≤(Et v.lines).2.1+20;omega⟩
  exact .inr ⟨h1.symm,by show 1≤v.line+p;omega,by show v.line+p≤20;omega,h4⟩
 ·
  intro o ho
  cases hl:v.lines with
  | nil =>
   have ho:(v.lines++[(v.page,v.line+p,s)]).head?=some o:=ho;rw[hl]at ho;cases ho;rcases h.st with⟨h1,_⟩ | ⟨_,_,h3,_⟩
   ·
    rw[hl]at h1;exact h1.symm
   exact absurd hl h3
  | cons a r =>
   have ho:(v.lines++[(v.page,v.line+p,s)]).head?=some o:=ho;rw[hl]at ho;exact h.hd o (by rw[hl];exact ho)
 ·
  show (Et (v.lines++[(v.page,v.line+p,s)])).1=v.page;rw[Kt]
 ·
  show (Et (v.lines++[(v.page,v.line+p,s)])).2.1≤v.line+p;rw[Kt];exact Nat.le_refl _
 ·
  show v.line+p≤(Et (v.lines++[(v.page,v.line+p,s)])).2.1+15;rw[Kt];show v.line+p≤v.line+p+15;omega
 intro _;show v.lines++[(v.page,v.line+p,s)]≠[];simp
theorem LA.put{x:CM}{v:VM}(h:LA x v){p:Nat}{s:List UInt8}(hp1:1≤p)(hp2:p≤2)(hs:Jo s)(hc:x.paged=true→v.line+p≤x.last+2∧cls x v.page (v.line+p) s):LA x (v.put p s):=h.b.put hp1 hp2 hs hc
theorem inv_line{x:CM}{v:VM}(hI:InvV x v)(hp:x.paged=true):v.line≤x.last:=by
 have:=inv_ub hI hp;omega
theorem LA.bot{x:CM}{v:VM}(h:LA x v)(hI:InvV x v)(hp:x.paged=true):LA x (VM.bot x v)∧(VM.bot x v).page=v.page∧(VM.bot x v).body=v.body∧(x.has 8=true→(Et (VM.bot x v).lines).2.2=fB v.page):=by
 have hl:=x.last_le;have hu:=inv_line hI hp;have h1:LA x ({ v with line:=x.last }:VM):=⟨h.ch,h.hd,h.pg,Nat.le_trans h.le hu,by show x.last≤(Et v.lines).2.1+15;omega,h.bd⟩;unfold VM.bot;split
 ·
  refine⟨h1.put (by omega) (by omega) (txt_B _) fun _=>⟨Nat.le_refl _,.inr (.inl ⟨by show x.last<x.last+2;omega,rfl⟩)⟩,rfl,rfl,fun _=>?_⟩;show (Et (v.lines++[_])).2.2=_;rw[Kt];rfl
 rename_i h8;exact⟨h1,rfl,rfl,fun h=>absurd h h8⟩
theorem LB.top{x:CM}{v:VM}(h:LB x v)(hn:x.paged=true→v.line≤1):LB x (VM.top x v):=by
 unfold VM.top;split
 ·
  rename_i hp;have hp:x.paged=true:=by simp at hp;exact hp.1
  have hl:=x.last_le;have:=hn hp;exact (h.put (by omega) (by omega) (txt_P _) fun _=>⟨by omega,.inl ⟨by omega,.inr rfl⟩⟩).b
 exact h
theorem LB.lift{x:CM}{v:VM}(h:LB x v)(hv:v.line≤12){n:Nat}(hn:n≤12):LB x ({ v with line:=max v.line n,body:=true }:VM):=by
 refine⟨h.ch,h.hd,?_⟩;rcases h.st with⟨h1,h2,h3⟩ | ⟨h1,h2,h3,h4⟩
 ·
  exact .inl ⟨h1,by show (Et v.lines).2.1≤max v.line n;omega,by show max v.line n≤(Et v.lines).2.1+15;omega⟩
 exact .inr ⟨h1,by show max v.line n≤17;omega,h3,h4⟩
theorem LA.room{x:CM}{v:VM}(h:LA x v)(hI:InvV x v)(n:Nat)(f:Bool):LB x (v.room x n f):=by
 unfold VM.room
 cases hp:x.paged with
 | false=>rw[if_neg (by simp)];exact h.b
 | true =>
  have hl:=x.last_le;rw[if_pos rfl]
  cases hb:v.brk x n f with
  | true =>
   rw[if_pos rfl]
   have hv:v.body=true:=by
    unfold VM.brk at hb;simp at hb;exact hb.1
   obtain⟨b1,b2,b3,b4⟩:=h.bot hI hp
   have h1:LB x ({ VM.bot x v with page:=(VM.bot x v).page+1,line:=0 }:VM):=⟨b1.ch,b1.hd,.inr ⟨by show (Et (VM.bot x v).lines).1+1=(VM.bot x v).page+1;rw[b1.pg],Nat.zero_le _,b1.bd (b3.trans hv),fun h8=>by
    show (Et (VM.bot x v).lines).2.2=fB (Et (VM.bot x v).lines).1
    rw[b4 h8,b1.pg,b2]⟩⟩
   have h2:LB x (VM.newp x v):=h1.top fun _=>Nat.zero_le _
   have h3:(VM.newp x v).line≤1:=by
    unfold VM.newp VM.top;split
    ·
     simp[VM.put]
    simp
   exact h2.lift (by omega) (by omega)
  | false =>
   rw[if_neg (by simp)];have:=inv_line hI hp;exact h.b.lift (by omega) (by omega)
theorem U6{x:CM}{v:VM}(n:Nat)(f:Bool)(hp:x.paged=true):x.first≤(v.room x n f).line+1:=by
 have hl:=x.last_le;unfold VM.room;rw[if_pos hp];split
 ·
  show x.first≤max (VM.newp x v).line (x.first-1)+1;omega
 show x.first≤max v.line (x.first-1)+1;omega
theorem LA.body{x:CM}{v:VM}(h:LA x v)(hI:InvV x v)(p:Nat)(hp1:1≤p)(hp2:p≤2)(f:Bool){s:List UInt8}(hs:Jo s)(hb:bodT s):LA x ((v.room x p f).put p s):=by
 refine (h.room hI p f).put hp1 hp2 hs fun hp=>?_;have h1:=(Jw hI p hp2 f hp).1;have h2:=U6 (x:=x) (v:=v) p f hp;exact⟨by omega,.inr (.inr ⟨by omega,h1,hb⟩)⟩
theorem LA.headI{x:CM}{v:VM}(h:LA x v)(hI:InvV x v)(y:RM)(i:Nat):LA x (v.headI x y i):=by
 unfold VM.headI;split
 ·
  exact h.body hI 1 (by omega) (by omega) _ (txt_H y i) (bod_H y i)
 exact h
theorem LA.footI{x:CM}{v:VM}(h:LA x v)(hI:InvV x v)(l:List RM)(last:Nat)(y:RM)(i:Nat):LA x (v.footI x l last y i):=by
 unfold VM.footI;split
 ·
  split
  ·
   have h0:LA x ((v.room x 2 false).put 1 (Xg l last i y (fSum x l last i))):=(h.room hI 2 false).put (by omega) (by omega) (txt_F _ _ _ _ _) fun hp=>by
    have h1:=(Jw hI 2 (by omega) false hp).1;have h2:=U6 (x:=x) (v:=v) 2 false hp;exact⟨by omega,.inr (.inr ⟨by omega,by omega,bod_F _ _ _ _ _⟩)⟩
   refine h0.put (by omega) (by omega) H6 fun hp=>?_;have h1:=(Jw hI 2 (by omega) false hp).1;have h2:=U6 (x:=x) (v:=v) 2 false hp;exact⟨by show (v.room x 2 false).line+1+1≤_;omega,.inr (.inr ⟨by show x.first≤(v.room x 2 false).line+1+1;omega,by show (v.room x 2 false).line+1+1≤_;omega,by simp[bodT]⟩)⟩
  exact h.body hI 1 (by omega) (by omega) _ (txt_F _ _ _ _ _) (bod_F _ _ _ _ _)
 exact h
theorem LA.headN{x:CM}(y:RM):∀(k i:Nat) {v:VM},LA x v→InvV x v→LA x (VM.headN x y i k v)∧InvV x (VM.headN x y i k v)
 | 0,_,_,h,hI=>⟨h,hI⟩
 | k+1,i,v,h,hI=>LA.headN y k (i+1) (h.headI hI y i) (inv_headI hI y i)
theorem LA.footN{x:CM}(l:List RM)(last:Nat)(y:RM):∀(k i:Nat) {v:VM},LA x v→InvV x v→LA x (VM.footN x l last y i k v)∧InvV x (VM.footN x l last y i k v)
 | 0,_,_,h,hI=>⟨h,hI⟩
 | k+1,i,v,h,hI=>LA.footN l last y k (i-1) (h.footI hI l last y (i-1)) (inv_footI hI l last y (i-1))
theorem LA.det{x:CM}{v:VM}(h:LA x v)(hI:InvV x v)(y:RM):LA x (VM.det x v y)∧InvV x (VM.det x v y):=by
 refine⟨?_,inv_det hI y⟩;unfold VM.det;split
 ·
  exact h.body hI 1 (by omega) (by omega) _ (txt_0 y) (bod_0 y)
 split
 ·
  exact h.body hI 2 (by omega) (by omega) _ (txt_1 y) (bod_1 y)
 exact h
theorem LA.ini(x:CM):LA x VM.ini:=⟨trivial,fun o h=>(by cases h),rfl,Nat.le_refl _,Nat.zero_le _,fun h=>(by cases h)⟩
theorem LA.fst(x:CM)(y:RM):LA x (VM.fst x VM.ini y)∧InvV x (VM.fst x VM.ini y):=by
 have hl:=x.last_le
 have h1:LA x (if x.has 0 then VM.ini.put 1 [82,72] else VM.ini):=by
  split
  ·
   exact (LA.ini x).put (by omega) (by omega) (fun c h=>by simp at h;rcases h with rfl | rfl<;>decide) fun _=>⟨by show 0+1≤_;omega,.inl ⟨by show 0+1<_;omega,.inl rfl⟩⟩
  exact LA.ini x
 have e1:(if x.has 0 then VM.ini.put 1 [82,72] else VM.ini).line≤1:=by split<;>simp[VM.put,VM.ini]
 have h2:LA x (VM.top x (if x.has 0 then VM.ini.put 1 [82,72] else VM.ini)):=by
  unfold VM.top;split
  ·
   exact h1.put (by omega) (by omega) (txt_P _) fun _=>⟨by omega,.inl ⟨by omega,.inr rfl⟩⟩
  exact h1
 have hI:InvV x (VM.top x (if x.has 0 then VM.ini.put 1 [82,72] else VM.ini)):=fun _=>by
  unfold VM.top;split<;>split<;>simp[VM.put,VM.ini]
 exact h2.headN y _ _ hI
theorem LA.nxt{x:CM}{v:VM}(h:LA x v)(hI:InvV x v)(l:List RM)(i:Nat)(a y:RM):LA x (VM.nxt x v l i a y)∧InvV x (VM.nxt x v l i a y):=by
 unfold VM.nxt;split
 ·
  exact⟨h,hI⟩
 obtain⟨h1,h2⟩:=h.footN l i a (x.ctl+1-lvD a y x.ctl 0) (x.ctl+1) hI;exact h1.headN y _ _ h2
theorem LA.rows(x:CM)(l:List RM):∀i,LA x (VM.rows x l i VM.ini)∧InvV x (VM.rows x l i VM.ini)
 | 0=>⟨LA.ini x,fun _=>by simp[VM.rows,VM.ini]⟩
 | i + 1 => by
  have ih:=LA.rows x l i
  cases hy:l[i]? with
  | none=>simp only[VM.rows,hy];exact ih
  | some y =>
   rw[Uc x l hy]
   have hp:LA x (VM.pre x l i y)∧InvV x (VM.pre x l i y):=by
    unfold VM.pre
    cases i with
    | zero=>exact LA.fst x y
    | succ j =>
     simp only;split
     ·
      exact ih.1.nxt ih.2 l j _ y
     exact ih
   exact hp.1.det hp.2 y
theorem LA.all(x:CM)(l:List RM):LA x (VM.all x l true):=by
 obtain⟨h1,h2⟩:=LA.rows x l l.length;unfold VM.all;rw[if_pos rfl];split
 ·
  rename_i y _;obtain⟨f1,f2⟩:=h1.footN l (l.length-1) y (x.ctl+1-0) (x.ctl+1) h2
  have g:LA x (VM.fin2 x (VM.fin1 x (VM.rows x l l.length VM.ini) l y))∧InvV x (VM.fin2 x (VM.fin1 x (VM.rows x l l.length VM.ini) l y)):=by
   unfold VM.fin2;split
   ·
    exact⟨f1.body f2 1 (by omega) (by omega) _ (fun c h=>by simp at h;rcases h with rfl | rfl<;>decide) ⟨by decide,by decide,by decide⟩,Ul _ fun hp=>Jw f2 1 (by omega) _ hp⟩
   exact⟨f1,f2⟩
  unfold VM.fin;split
  ·
   rename_i hp;exact (g.1.bot g.2 hp).1
  exact g.1
 exact h1
theorem lin_chn(x:CM)(l:List RM):chn x o0 (Gj x l true)∧∀o,(Gj x l true).head?=some o→o.1=1:=by
 unfold Gj;split
 ·
  exact⟨trivial,fun o h=>(by cases h)⟩
 exact⟨(LA.all x l).ch,(LA.all x l).hd⟩
def piece (q o:Ln):List UInt8:=(if o.1=q.1 then List.replicate (o.2.1-q.2.1-1) 10 else 12::List.replicate (o.2.1-1) 10)++(o.2.2++[10])
def Vz:Ln→List Ln→List UInt8
 | _,[]=>[]
 | q,o::r=>piece q o++Vz o r
inductive PS (x:CM):List Ln→Nat→Nat→List UInt8→List UInt8→Prop
 | done {pg ln:Nat}:PS x [] pg ln [] []
 | mid {pg ln:Nat} (o:Ln) (r:List Ln) (t u:List UInt8) (hp:o.1=pg) (hl:ln≤o.2.1) (ht:o.2.2=t++u) (h0:ln<o.2.1→t=[]) (ok:Jo o.2.2) (hc:chn x o r):PS x (o::r) pg ln t (List.replicate (o.2.1-ln) 10++(u++10::Vz o r))
 | brk {pg ln:Nat} (o:Ln) (r:List Ln) (hp:o.1=pg+1) (hl:1≤o.2.1) (ok:Jo o.2.2) (hc:chn x o r):PS x (o::r) pg ln [] (12::(List.replicate (o.2.1-1) 10++(o.2.2++10::Vz o r)))
theorem PS.start{x:CM}{L:List Ln}(hc:chn x o0 L)(hd:∀o,L.head?=some o→o.1=1):PS x L 1 1 [] (Vz o0 L):=by
 cases L with
 | nil=>exact .done
 | cons o r =>
  have h1:=hd o rfl;obtain⟨⟨h2,h3,_⟩,h4⟩:=hc
  have h5:1≤o.2.1:=by
   rcases h2 with⟨_,h,_⟩ | ⟨_,h,_⟩
   ·
    have:o0.2.1=0:=rfl;omega
   exact h
  have e:Vz o0 (o::r)=List.replicate (o.2.1-1) 10++(o.2.2++10::Vz o r):=by
   simp[Vz,piece,h1,o0]
  rw[e];exact .mid o r [] o.2.2 h1 h5 rfl (fun _=>rfl) h3 h4
theorem PS.fin{x:CM}{L:List Ln}{pg ln:Nat}{t:List UInt8}(h:PS x L pg ln t []):L=[]∧t=[]:=by
 generalize hb:([]:List UInt8)=b at h
 cases h with
 | done=>exact⟨rfl,rfl⟩
 | mid o r t u=>simp at hb
 | brk o r=>cases hb
theorem PS.next{x:CM}{o:Ln}{r:List Ln}(hc:chn x o r):PS x r o.1 (o.2.1+1) [] (Vz o r):=by
 cases r with
 | nil=>exact .done
 | cons o' r =>
  obtain⟨⟨h2,h3,_⟩,h4⟩:=hc;rcases h2 with⟨a,b,_⟩ | ⟨a,b,_⟩
  ·
   have e:Vz o (o'::r)=List.replicate (o'.2.1-(o.2.1+1)) 10++(o'.2.2++10::Vz o' r):=by
    simp[Vz,piece,a,Nat.sub_sub]
   rw[e];exact .mid o' r [] o'.2.2 a (by omega) rfl (fun _=>rfl) h3 h4
  have e:Vz o (o'::r)=12::(List.replicate (o'.2.1-1) 10++(o'.2.2++10::Vz o' r)):=by
   simp[Vz,piece,a]
  rw[e];exact .brk o' r a b h3 h4
theorem PS.step{x:CM}{L:List Ln}{pg ln:Nat}{t rest:List UInt8}{c:UInt8}(h:PS x L pg ln t (c::rest)) :
  (c=12∧t=[]∧PS x L (pg+1) 1 [] rest) ∨
  (c=10∧∃o r,L=o::r∧o.1=pg∧o.2.1=ln∧o.2.2=t∧PS x r pg (ln+1) [] rest) ∨
  (c=10∧t=[]∧(∃o r,L=o::r∧o.1=pg∧o.2.1≠ln)∧PS x L pg (ln+1) [] rest) ∨
  (c≠10∧c≠12∧PS x L pg ln (t++[c]) rest):=by
 generalize hb:c::rest=b at h
 cases h with
 | done=>cases hb
 | mid o r t u hp hl ht h0 ok hc =>
  by_cases xO:ln<o.2.1
  ·
   have e:o.2.1-ln=(o.2.1-(ln+1))+1:=by omega
   rw[e,List.replicate_succ]at hb;injection hb with h1 h2;have ht0:=h0 xO;subst ht0;subst h1;refine .inr (.inr (.inl ⟨rfl,rfl,⟨o,r,rfl,hp,by omega⟩,?_⟩));rw[h2];exact .mid o r [] u hp (by omega) ht (fun _=>rfl) ok hc
  have e:o.2.1=ln:=by omega
  rw[show o.2.1-ln=0 by omega]at hb
  cases u with
  | nil =>
   injection hb with h1 h2;subst h1;refine .inr (.inl ⟨rfl,o,r,rfl,hp,e,by simpa using ht,?_⟩);rw[h2,←hp,←e];exact PS.next hc
  | cons a u =>
   injection hb with h1 h2;subst h1;have hm:c∈o.2.2:=by rw[ht];simp
   obtain⟨n1,n2⟩:=ok c hm;refine .inr (.inr (.inr ⟨n1,n2,?_⟩));have:=PS.mid (x:=x) (ln:=ln) o r (t++[c]) u hp hl (by rw[ht];simp) (fun h=>absurd h xO) ok hc;rw[show o.2.1-ln=0 by omega]at this;rw[h2];exact this
 | brk o r hp hl ok hc =>
  injection hb with h1 h2;subst h1;refine .inl ⟨rfl,rfl,?_⟩;rw[h2];exact .mid o r [] o.2.2 hp hl rfl (fun _=>rfl) ok hc
theorem all_ne(x:CM){l:List RM}(h8:x.has 8=true)(hp:x.paged=true)(hl:l≠[]):Gj x l true≠[]:=by
 unfold Gj;rw[if_neg hl];unfold VM.all;rw[if_pos rfl]
 cases e:l[l.length-1]? with
 | none =>
  exact absurd (List.getElem?_eq_none_iff.1 e) (by have:=List.length_pos_iff.2 hl;omega)
 | some y =>
  simp only;unfold VM.fin;rw[if_pos hp];unfold VM.bot;rw[if_pos h8];simp[VM.put]
def bO (a bd:D):Z7:=⟨115,2,[[a,bd]],0,0,false⟩
def BS (H:List Z7) (g:Nat) (b:List UInt8):Prop:=∃a bd,H[g]?=some (bO a bd)∧(a=.nilp∨a=.ptr g 0 0 0)∧AppAt 5 1 (bR b) H bd
def KeepB (g:Nat) (H H':List Z7):Prop:=H.length≤H'.length∧∀(j:Nat) (o:Z7),H[j]?=some o→o.kind=0∧j≠g→H'[j]?=some o
theorem KeepB.refl(g:Nat)(H:List Z7):KeepB g H H:=⟨Nat.le_refl _,fun _ _ h _=>h⟩
theorem KeepB.trans{g:Nat}{H H' H'':List Z7}(h:KeepB g H H')(h':KeepB g H' H''):KeepB g H H'':=⟨Nat.le_trans h.1 h'.1,fun j o h1 h2=>h'.2 j o (h.2 j o h1 h2) h2⟩
theorem KeepB.set(g:Nat)(H:List Z7)(o:Z7):KeepB g H (H.set g o):=⟨by simp,fun j o' h1 h2=>by rw[Ln_ (Ne.symm h2.2)];exact h1⟩
theorem BS.lt{H:List Z7}{g:Nat}{b:List UInt8}(h:BS H g b):g<H.length:=by
 obtain⟨a,bd,h1,_⟩:=h;exact Gx h1
theorem BS.app{H:List Z7}{g:Nat}{b:List UInt8}(h:BS H g b)(l:List Z7):BS (H++l) g b:=by
 obtain⟨a,bd,h1,h2,h3⟩:=h;exact⟨a,bd,C9 h1 l,h2,h3.keep fun j o hj _ _=>C9 hj l⟩
def BF (d f:Nat) (args:List D) (r:D) (g:Nat) (b b':List UInt8):Prop:=∀(H:List Z7) (low:Nat),BS H g b→∃z,(∃T wr,z=(r,T,wr)∧BS T.heap g b'∧KeepB g H T.heap∧T.low≤low)∧Bc LP NN d f (.ptr g 0 0 0::args) ⟨H,low⟩=some z
theorem BF.go{d f:Nat}{args:List D}{r:D}{g:Nat}{b b':List UInt8}(h:BF d f args r g b b'){H:List Z7}(low:Nat)(hW:BS H g b):∃H' lo' wr,Bc LP NN d f (.ptr g 0 0 0::args) ⟨H,low⟩=some (r,⟨H',lo'⟩,wr)∧BS H' g b'∧KeepB g H H'∧lo'≤low:=by
 obtain⟨z,⟨T,wr,rfl,h1,h2,h3⟩,h4⟩:=h H low hW;exact⟨T.heap,T.low,wr,h4,h1,h2,h3⟩
theorem chn_at{x:CM}{L:List Ln}(hc:chn x o0 L)(hd:∀o,L.head?=some o→o.1=1){i:Nat}{o:Ln}(ho:L[i]?=some o):stp x (Et (L.take i)) o∧(i=0→o.1=1):=by
 have key:∀(i:Nat) (l:List Ln) (q:Ln),chn x q l→l[i]?=some o→stp x ((l.take i).getLast?.getD q) o:=by
  intro i
  induction i with
  | zero =>
   intro l q hc ho
   cases l with
   | nil=>cases ho
   | cons a r=>cases ho;exact hc.1
  | succ i ih =>
   intro l q hc ho
   cases l with
   | nil=>cases ho
   | cons a r =>
    have:=ih r a hc.2 ho;rwa [List.take_succ_cons,List.getLast?_cons,Option.getD_some]
 refine⟨key i L o0 hc ho,fun h=>?_⟩;subst h;exact hd o (by rw[List.head?_eq_getElem?];exact ho)
def short (v:VM):Prop:=∀o∈v.lines,o.2.2.length≤20
theorem short.put{v:VM}(h:short v)(p:Nat){s:List UInt8}(hs:s.length≤20):short (v.put p s):=fun o ho=>by
 rcases List.mem_append.1 (show o∈v.lines++[(v.page,v.line+p,s)] from ho) with h1 | h1
 ·
  exact h o h1
 obtain rfl:=List.mem_singleton.1 h1;exact hs
theorem short.top{v:VM}(h:short v)(x:CM):short (VM.top x v):=by
 unfold VM.top;split
 ·
  exact h.put 1 (by simp[Ci])
 exact h
theorem short.bot{v:VM}(h:short v)(x:CM):short (VM.bot x v):=by
 unfold VM.bot;split
 ·
  exact short.put (v:={ v with line:=x.last }) h 2 (by simp[Ci])
 exact h
theorem short.newp{v:VM}(h:short v)(x:CM):short (VM.newp x v):=short.top (v:={ VM.bot x v with page:=(VM.bot x v).page+1,line:=0 }) (h.bot x) x
theorem short.room{v:VM}(h:short v)(x:CM)(n:Nat)(f:Bool):short (v.room x n f):=by
 unfold VM.room;split
 ·
  split
  ·
   exact h.newp x
  exact h
 exact h
theorem short.headI{v:VM}(h:short v)(x:CM)(y:RM)(i:Nat):short (v.headI x y i):=by
 unfold VM.headI;split
 ·
  exact (h.room x _ _).put 1 (by simp[hTxt,Ci])
 exact h
theorem short.footI{v:VM}(h:short v)(x:CM)(l:List RM)(last:Nat)(y:RM)(i:Nat):short (v.footI x l last y i):=by
 unfold VM.footI;split
 ·
  split
  ·
   exact ((h.room x _ _).put 1 (by simp[Xg,Ci])).put 1 (by simp)
  exact (h.room x _ _).put 1 (by simp[Xg,Ci])
 exact h
theorem short.headN(x:CM)(y:RM):∀(k i:Nat) {v:VM},short v→short (VM.headN x y i k v)
 | 0,_,_,h=>h
 | k+1,i,v,h=>short.headN x y k (i+1) (h.headI x y i)
theorem short.footN(x:CM)(l:List RM)(last:Nat)(y:RM):∀(k i:Nat) {v:VM},short v→short (VM.footN x l last y i k v)
 | 0,_,_,h=>h
 | k+1,i,v,h=>short.footN x l last y k (i-1) (h.footI x l last y (i-1))
theorem short.det{v:VM}(h:short v)(x:CM)(y:RM):short (VM.det x v y):=by
 unfold VM.det;split
 ·
  exact (h.room x _ _).put 1 (by simp[U3,Ci])
 split
 ·
  exact (h.room x _ _).put 2 (by simp[U2,Ci])
 exact h
theorem short.rows(x:CM)(l:List RM):∀i,short (VM.rows x l i VM.ini)
 | 0=>fun o h=>by cases h
 | i + 1 => by
  have ih:=short.rows x l i
  cases hy:l[i]? with
  | none=>simp only[VM.rows,hy];exact ih
  | some y =>
   rw[Uc x l hy];refine short.det ?_ x y;unfold VM.pre
   cases i with
   | zero =>
    refine short.headN x y _ _ (short.top ?_ x);split
    ·
     exact short.put (fun o h=>by cases h) 1 (by simp)
    exact fun o h=>by cases h
   | succ j =>
    simp only;split
    ·
     unfold VM.nxt;split
     ·
      exact ih
     exact short.headN x y _ _ (short.footN x l j _ _ _ ih)
    exact ih
structure GT0 (x:CM) (l:List RM) (i:Nat) (w:WM):Prop where
 wb:∀y,WB (setRow w y) (20+310*i)
 q:(i=0∧w=w0 x)∨(i≠0∧TQ x l i w)
theorem GT0.start(x:CM)(l:List RM):GT0 x l 0 (w0 x):=⟨(GQ.start x l).wb,.inl ⟨rfl,rfl⟩⟩
theorem GT0.pr{x:CM}{l:List RM}{i:Nat}{w:WM}(h:GT0 x l i w):w.page≠0→w.row≠none:=by
 rcases h.q with⟨_,rfl⟩ | ⟨_,h1⟩
 ·
  intro h;exact absurd rfl h
 obtain⟨a,_,hr⟩:=h1.row;intro _;rw[hr];simp
theorem GT0.en{x:CM}{l:List RM}{i:Nat}{w:WM}(h:GT0 x l i w):w.ended=false:=by
 rcases h.q with⟨_,rfl⟩ | ⟨_,h1⟩
 ·
  rfl
 exact h1.ended
theorem GT0.len{x:CM}{l:List RM}{i:Nat}{w:WM}(h:GT0 x l i w):w.tot.length=x.ctl+1:=by
 rcases h.q with⟨_,rfl⟩ | ⟨_,h1⟩
 ·
  simp[w0]
 exact h1.len
theorem GT0.wbp{x:CM}{l:List RM}{i:Nat}{w:WM}(h:GT0 x l i w)(hp:w.page≠0):WB w (20+310*i):=by
 obtain⟨y,hy⟩:=Option.ne_none_iff_exists'.1 (h.pr hp);have:=h.wb y;exact⟨h.pr hp,this.page,this.line,this.lines,this.tot⟩
theorem GT0.next{x:CM}{l:List RM}{i:Nat}{w:WM}(h:GT0 x l i w){y:RM}(hy:l[i]?=some y)(hi:i<90:=by omega):GT0 x l (i+1) (Na x w y (-1)):=by
 refine⟨fun y'=>?_,.inr ⟨by omega,?_⟩⟩
 ·
  have:=((h.wb y).gen h.pr (by omega) (by omega) h.len (-1)).1.setRow y';rwa [show 20+310*i+310=20+310*(i+1) by omega]at this
 rcases h.q with⟨rfl,rfl⟩ | ⟨h0,h1⟩
 ·
  exact TQ.first x hy _
 obtain⟨j,rfl⟩:∃j,i=j+1:=⟨i-1,by omega⟩;exact h1.next x hy _
theorem term_tot(x:CM)(w:WM)(hl:w.tot.length=x.ctl+1)(h0:w.page=0→w=w0 x):(∀j,j≤x.ctl→(G9 x w).tot.getD j 0=0)∧(G9 x w).tot.length=x.ctl+1:=by
 unfold G9;split
 ·
  rename_i hp;rw[h0 hp];exact⟨fun j hj=>by simp[w0,List.getElem?_replicate];split<;>rfl,by simp[w0]⟩
 have h1:(Hw x w 0).tot.length=x.ctl+1:=(foot_len x _ _ w).trans hl
 have h2:∀j,j≤x.ctl→(Hw x w 0).tot.getD j 0=0:=fun j hj=>by
  rw[Hw,Yb x _ _ w (by omega) j,if_pos (by omega)]
 split
 ·
  show (∀j,j≤x.ctl→(Dt x (Hw x w 0) _).tot.getD j 0=0)∧(Dt x (Hw x w 0) _).tot.length=_;rw[(H5 x _ _).2.1];exact⟨h2,h1⟩
 rw[(Pv x _).2.2.1];show (∀j,j≤x.ctl→(Dt x (Hw x w 0) _).tot.getD j 0=0)∧(Dt x (Hw x w 0) _).tot.length=_;rw[(H5 x _ _).2.1];exact⟨h2,h1⟩
theorem GT0.fin{x:CM}{l:List RM}{w:WM}(h:GT0 x l l.length w):(∀j,j≤x.ctl→(endW (G9 x w)).tot.getD j 0=0)∧(endW (G9 x w)).tot.length=x.ctl+1:=by
 refine term_tot x w h.len fun hp=>?_;rcases h.q with⟨_,h1⟩ | ⟨_,h1⟩
 ·
  exact h1
 exact absurd hp h1.page
theorem eq_self(a:ByteArray):Dl [2,1,0] [.bool false,.str a,.int .i64 0] [.bool false,.str a,.int .i64 0]=some true:=by
 have h:(a==a)=true:=by
  cases a with
  | mk d=>exact beq_self_eq_true d
 simp[Dl,isKey,G7,h]
theorem or_lt{a b n:Nat}(ha:a<2 ^ n)(hb:b<2 ^ n):a ||| b<2 ^ n:=Nat.or_lt_two_pow ha hb
def CM.pg2 (x:CM):CM:={ x with p0:=x.p0 ||| 1,gr:=x.gr ||| 258,h:=⟨x.h.1,or_lt (n:=16) x.h.2.1 (by decide),x.h.2.2.1,x.h.2.2.2.1,or_lt (n:=8) x.h.2.2.2.2.1 (by decide),x.h.2.2.2.2.2⟩ }
theorem bit_at(a k:Nat):(a / 2 ^ k % 2==1)=a.testBit k:=by rw[Nat.testBit_eq_decide_div_mod_eq,Bool.eq_iff_iff];simp
theorem CM.pg2_has(x:CM)(k:Nat):x.pg2.has k=(x.gr.testBit k||(258:Nat).testBit k):=by
 show ((x.gr ||| 258) / 2 ^ k % 2==1)=_;rw[bit_at,Nat.testBit_or]
theorem CM.pg2_8(x:CM):x.pg2.has 8=true:=by rw[x.pg2_has 8,show (258:Nat).testBit 8=true by decide,Bool.or_true]
theorem CM.pg2_p(x:CM):x.pg2.paged=true:=by
 have h:=bit_at (x.p0 ||| 1) 0;show ((x.p0 ||| 1) % 2==1)=true;rw[Nat.pow_zero,Nat.div_one,Nat.testBit_or,show (1:Nat).testBit 0=true by decide,Bool.or_true]at h;exact h
theorem binD_or8(m:Nat)(hm:m<256):Bd .or (.int .u8 (m:Nat)) (.int .u8 1)=some (.int .u8 ((m ||| 1:Nat):Int)):=by
 have h:(BitVec.ofInt 8 (m:Int) ||| BitVec.ofInt 8 1).toNat=m ||| 1:=by
  rw[BitVec.toNat_or,show (BitVec.ofInt 8 (m:Int)).toNat=m by simp[];omega,show (BitVec.ofInt 8 1).toNat=1 from rfl]
 have hl:m ||| 1<2 ^ 8:=or_lt hm (by decide);simp only[Bd,if_true];rw[show IntKind.u8.bits=8 from rfl,h];apply congrArg (fun n=>some (D.int .u8 n));simp[IntKind.wrap,IntKind.bits,IntKind.signed]<;>omega
theorem binD_or16(m:Nat)(hm:m<65536):Bd .or (.int .u16 (m:Nat)) (.int .u16 258)=some (.int .u16 ((m ||| 258:Nat):Int)):=by
 have h:(BitVec.ofInt 16 (m:Int) ||| BitVec.ofInt 16 258).toNat=m ||| 258:=by
  rw[BitVec.toNat_or,show (BitVec.ofInt 16 (m:Int)).toNat=m by simp[];omega,show (BitVec.ofInt 16 258).toNat=258 from rfl]
 have hl:m ||| 258<2 ^ 16:=or_lt hm (by decide);simp only[Bd,if_true];rw[show IntKind.u16.bits=16 from rfl,h];apply congrArg (fun n=>some (D.int .u16 n));simp[IntKind.wrap,IntKind.bits,IntKind.signed]<;>omega
theorem law4_run{d:Nat}(hd:61≤d)(S:St)(x:CM)(l:List RM)(ls:D)(qJ:LsD ls l)(hl:l.length≤60)(hLv:∀d S,60≤d→Bc LP NN d 8 [] S=some (.bool true,S,false)):Bc LP NN d 4 [.agg x.row,ls] S=some (.bool true,S,false):=by
 obtain⟨d0,rfl⟩:∃e,d=e+1:=⟨d-1,by omega⟩;have xk:=qJ.len;have vF:∀m H,Aaa m H ls=some ls:=fun m H=>by rcases qJ with⟨_,rfl⟩ | ⟨c,rfl⟩<;>rfl
 have qQ:ls.freeV=true:=by rcases qJ with⟨_,rfl⟩ | ⟨c,rfl⟩<;>rfl
 have hgtF:(((l.length:Nat):Int)>60)=False:=eq_false (by omega);have hRH:(⟨#[82,72]⟩:ByteArray).toList=[82,72]:=Df [82,72];have hor8:=binD_or8 x.p0 x.h.2.2.2.2.1;have hor16:=binD_or16 x.gr x.h.2.1;have hof:∀d S,18≤d→Bc LP NN d 10 [.agg (CM.pg2 x).row] S=some (.agg ((CM.pg2 x).rep false),S,false):=fun d S h=>of_run h S (CM.pg2 x);obtain⟨rN,⟨SN,g,gm,gt,rfl,hW0,hKN,_⟩,hcN⟩:=new_run (d:=d0) (by omega) [⟨25,7,[(CM.pg2 x).row],0,0,false⟩] 0 (CM.pg2 x);have hbN:=hKN.2 0 _ rfl (.inl ⟨rfl,by simp⟩);obtain⟨HN,loN⟩:=SN;rw[←CM.rep_b (CM.pg2 x) false]at hcN;refine run_pure (F:=F4) rfl (by simp only[LP,snapVs,Bh,zs,zm,CM.row,vF]<;>exact rfl) rfl (by simp only[LP,zf,zm,qQ];try rfl) (by simp only[F4,zv]<;>exact rfl) (by omega) ?_;intro d he;obtain rfl:=Nat.succ.inj he;refine Ad (Zl ?_);refine Az (Aa (Ae ?_));refine Aj (Ad (Af rfl (Ac (by simp only[zo,xk]<;>exact rfl) ?_)));apply Ac (by simp only[zo,Bd,hgtF,decide_false]<;>exact rfl);refine Aa (Ae ?_);refine D5 ?_;refine Ak (Bl rfl (Ad (xo1 ?_)));apply Ac (by simp only[zo,Ot]<;>exact rfl);apply Ac (by simp only[zl,zm,zd,Au]<;>exact rfl);apply Ac (by simp only[opd,zv,Ap,aop,LOp.loud,pop,Bool.false_eq_true,if_false];rw[hor8];exact rfl);refine xo1 ?_;apply Ac (by simp only[zo,Ot]<;>exact rfl);apply Ac (by simp only[zl,zm,Bi,overlay,zs,zc,zf]<;>exact rfl);refine Aa (Ae ?_);refine Ad (xo1 ?_);apply Ac (by simp only[zl,zm,zd,Au]<;>exact rfl);apply Ac (by simp only[opd,zv,Ap,aop,LOp.loud,pop,Bool.false_eq_true,if_false];rw[hor16];exact rfl);refine xo1 ?_;apply Ac (by simp only[zl,zm,Bi,overlay,zs,zc,zf]<;>exact rfl);refine Aa (Ae ?_);refine Ad (Ac (by simp only[zl,zm,zd,Au,List.drop]<;>exact rfl) ?_);apply Ac (by simp only[zo];exact hof _ _ (by omega));apply Ac (by simp only[zo];exact hcN);refine Ag rfl (Lh ?_);refine Jm ?_;refine Ag rfl (Ag rfl (Aa (Ae ?_)));refine Aj (Ad (Af rfl (xo2 ?_)));refine Aa (Ae ?_);refine D5 ?_;refine Ak (Bl rfl (Aj (Ad (Az (Aa (Ae ?_))))));refine Ar (Em (fun n env S'=>∃(i:Nat) (K:List Z7) (lo:Nat) (w:WM) (u3 u5 u7 u8 u9 u10 u11 u12 u13 u14 u15 u16 u17 u18 u19 u20 u21 u22 u23 u24:D),i≤l.length∧WS K g gm gt (CM.pg2 x) w∧GQ (CM.pg2 x) l i w∧K[0]?=some ⟨25,7,[(CM.pg2 x).row],0,0,false⟩∧n=l.length-i∧S'=⟨K,lo⟩∧env=[.agg x.row,ls,.ptr 0 0 0 0,u3,.ptr g 0 0 0,u5,.int .i64 (i:Nat),u7,u8,u9,u10,u11,u12,u13,u14,u15,u16,u17,u18,u19,u20,u21,u22,u23,u24]) (l.length) (by omega) (⟨0,_,_,w0 (CM.pg2 x),_,_,_,_,_,_,_,_,_,_,_,_,_,_,_,_,_,_,_,_,by omega,hW0,.start (CM.pg2 x) l,hbN,by omega,rfl,rfl⟩) ?_);rintro n env S' ⟨i,K,lo,w,u3,u5,u7,u8,u9,u10,u11,u12,u13,u14,u15,u16,u17,u18,u19,u20,u21,u22,u23,u24,hi,yI,hQ,hbx,hnA,rfl,rfl⟩;have hB:=hQ.wb;refine Aj (Ad (Af rfl (Af rfl (Ac (by simp only[zo,xk]<;>exact rfl) ?_))));refine xo2 ?_;refine Aa (Ae ?_);refine Dc (by simp only[opd,zv]<;>exact rfl) (fun yx=>?_) (fun yx=>?_)
 ·
  have yA:i<l.length:=by have:=of_decide_eq_true yx;omega
  obtain⟨c,rfl⟩:=qJ.sl (by omega);obtain⟨y,hy⟩:∃y,l[i]?=some y:=⟨_,Lg yA⟩;have uq:((0:Int)≤((i:Nat):Int))=True:=eq_true (by omega);have yR:=Eb i (by omega);have hlr:(l.map RM.row)[i]?=some y.row:=by rw[Lp_,hy];rfl
  have hp4:=part4 y.row_len;obtain⟨rG,⟨T,rfl,hWT,hKT,hlT⟩,hcG⟩:=gen_run (d:=d0) (by omega) lo yI (hB y) hQ.pr (by omega) (by omega) hQ.en y.det y.det_le (some 3);obtain⟨HT,loT⟩:=T;have hQn:=hQ.next hy
  have hBn:=hQn.wb y;refine Ak (Bl rfl (Aj (Ar (Aj (D9 ?_)))));refine Bf rfl rfl (Bf rfl rfl (Bf rfl rfl (Be (by simp only[zl,zm,Dk,Int.toNat_natCast,uq,hlr]<;>exact rfl) rfl ?_)));refine Be (by simp only[zl,zm,Qe,hp4]<;>exact rfl) rfl ?_;refine Be (by simp only[zo];exact rdet_run (by omega) _ y) rfl ?_;refine Bf rfl rfl (Bf rfl rfl (Be (by simp only[zl,zm,Dk,Int.toNat_natCast,uq,hlr]<;>exact rfl) rfl ?_));refine Be (by simp only[zl,zm,Qe,hp4]<;>exact rfl) rfl ?_;refine Be (by simp only[zo];exact rof_run (by omega) _ y) rfl ?_;refine Be (by simp only[zo];exact hcG) rfl ?_;refine xo42 rfl rfl ?_;refine Bz (Ae ?_);refine D5 ?_;refine Ak (Ej (Bl rfl (Am (Af rfl (Ac (by simp only[zo,Bd,yR]<;>exact rfl) ?_)))));refine Ag rfl (Aa (Hl (by simp only[ze]<;>exact rfl) ?_));exact⟨l.length-(i+1),by omega,i+1,_,_,Na (CM.pg2 x) w y y.det,_,_,_,_,_,_,_,_,_,_,_,_,_,_,_,_,_,_,_,_,by omega,hWT,hQn,hKT.2 _ _ hbx (.inl ⟨rfl,by simp⟩),rfl,rfl,rfl⟩
 have zG:i=l.length:=by have:=of_decide_eq_false yx;omega
 subst zG;obtain⟨rT,⟨T,rfl,hWT,hKT,hlT⟩,hcT⟩:=term_run (d:=d0) (by omega) lo yI hQ.wbp (by omega) hQ.en;obtain⟨HT,loT⟩:=T;have hbT:=hKT.2 _ _ hbx (.inl ⟨rfl,by simp⟩);have hfl:(endW (G9 (CM.pg2 x) w)).lines=(Gj (CM.pg2 x) l true):=hQ.fin;have hll:=hQ.flen;have hLn:=lines_run (d:=d0) (by omega) loT hWT (by show (G9 (CM.pg2 x) w).lines.length≤_;omega);rw[hfl]at hLn;have hLL:(Gj (CM.pg2 x) l true).length≤50000:=by rw[←hfl];exact hll
 obtain⟨hch,hhd⟩:=lin_chn (CM.pg2 x) l;have hlG:lenD false (L9 ((Gj (CM.pg2 x) l true).map lnR))=some (.int .i64 ((Gj (CM.pg2 x) l true).length:Nat)):=by rw[len_clipR,List.length_map]
 obtain⟨B,hb1,hb2⟩:∃B,((((Gj (CM.pg2 x) l true).length:Nat):Int)==0)=B∧(((l.length:Nat):Int)==0)=B:=by
  by_cases h0:l=[]
  ·
   exact⟨true,by subst h0;rfl,by subst h0;rfl⟩
  have h1:=all_ne (CM.pg2 x) x.pg2_8 x.pg2_p h0;refine⟨false,?_,?_⟩<;>rw[beq_eq_false_iff_ne]
  ·
   have:=List.length_pos_iff.2 h1;omega
  have:=List.length_pos_iff.2 h0;omega
 have hbb:(B==B)=true:=by cases B<;>rfl
 have xu:=aI hb1 (aI hb2 (aI hbb (hlG)));refine Dq (Hq (Jb (Hy (Bl rfl (Ad (Af rfl (Ac (by simp only[zo];exact hcT) ?_)))))));refine Ag rfl (Aa (Ae ?_));refine Ad (Af rfl (Ac (by simp only[zo];exact hLn) ?_));refine Ag rfl (Aa (Ae ?_));refine Aj (Ad (Af rfl (xo2 ?_)));refine Ag rfl (Ey 0 (b:=false) ?_);refine Aq rfl (Af rfl (Aq rfl (Ac (by simp only[zo,xu]<;>exact rfl) ?_)));refine Aq rfl (Zo ?_);refine Aq rfl (Af rfl (Aq rfl (Ac (by simp only[zo,xk]<;>exact rfl) ?_)));refine Aq rfl (Zo ?_);refine Aq rfl (Ac (by simp only[zo,xu]<;>exact rfl) ?_);refine xo3 ?_;refine Aa (Ae ?_);refine D5 ?_;refine Ak (Bl rfl (Ad (Az (Az (Aa (Ae ?_))))));refine Aj (Ad (Az (Aa (Ae ?_))));refine Ar (Em (fun n env S'=>∃(i:Nat) (K:List Z7) (lo:Nat) (u3 u5 u6 u7 u12 u13 u14 u15 u16 u17 u18 u19 u20 u21 u22 u23 u24:D),i≤(Gj (CM.pg2 x) l true).length∧K[0]?=some ⟨25,7,[(CM.pg2 x).row],0,0,false⟩∧(Et ((Gj (CM.pg2 x) l true).take i)).1≤i+1∧n=(Gj (CM.pg2 x) l true).length-i∧S'=⟨K,lo⟩∧env=[.agg x.row,ls,.ptr 0 0 0 0,u3,.ptr g 0 0 0,u5,u6,u7,L9 ((Gj (CM.pg2 x) l true).map lnR),.int .i64 ((Et ((Gj (CM.pg2 x) l true).take i)).1:Nat),.int .i64 ((Et ((Gj (CM.pg2 x) l true).take i)).2.1:Nat),.int .i64 (i:Nat),u12,u13,u14,u15,u16,u17,u18,u19,u20,u21,u22,u23,u24]) ((Gj (CM.pg2 x) l true).length) (by omega) (⟨0,_,_,_,_,_,_,_,_,_,_,_,_,_,_,_,_,_,_,_,by omega,hbT,Nat.le_refl _,by omega,rfl,rfl⟩) ?_);rintro n env S' ⟨i,K,lo,u3,u5,u6,u7,u12,u13,u14,u15,u16,u17,u18,u19,u20,u21,u22,u23,u24,yL,hbx,zJ,hnB,rfl,rfl⟩;refine Aj (Ad (Af rfl (Af rfl (Ac (by simp only[zo,hlG]<;>exact rfl) ?_))));refine xo2 ?_;refine Aa (Ae ?_);refine Dc (by simp only[opd,zv]<;>exact rfl) (fun wu=>?_) (fun wu=>?_)
 ·
  have yA:i<(Gj (CM.pg2 x) l true).length:=by have:=of_decide_eq_true wu;omega
  obtain⟨o,ho⟩:∃o,(Gj (CM.pg2 x) l true)[i]?=some o:=⟨_,Lg yA⟩;have xQ:=chn_at hch hhd ho;obtain⟨uS,hs2,hs3⟩:=xQ.1;obtain⟨hs4,yC⟩:=hs3 x.pg2_p;have hx0:=x.pg2.last_le;have hGs:L9 ((Gj (CM.pg2 x) l true).map lnR)=.sl 3 ((Gj (CM.pg2 x) l true).map lnR) (some ((Gj (CM.pg2 x) l true).map lnR).length):=clipR_ne (fun e=>by rw[List.map_eq_nil_iff]at e;rw[e]at yA;simp at yA);have hor:((Gj (CM.pg2 x) l true).map lnR)[i]?=some (lnR o):=by rw[Lp_,ho];rfl
  have uq:((0:Int)≤((i:Nat):Int))=True:=eq_true (by omega);have yR:=Eb i (by omega);have hqN:Et ((Gj (CM.pg2 x) l true).take (i+1))=o:=by rw[List.take_add_one,ho];exact Kt _ _
  have hpo:o.1≤i+2:=by rcases uS with⟨a,_⟩ | ⟨a,_⟩<;>omega
  have hb0:∀l,(K++l)[0]?=_:=fun l=>C9 hbx l;have hwq:IntKind.i64.wrap ((((Et ((Gj (CM.pg2 x) l true).take i)).1:Nat):Int)+1)=(((Et ((Gj (CM.pg2 x) l true).take i)).1+1:Nat):Int):=Eb _ (by omega);have hwl:IntKind.i64.wrap (((x.pg2.last:Nat):Int)+2)=((x.pg2.last+2:Nat):Int):=by rw[IntKind.wrap_i64]<;>omega
  have xq:=aI hGs (aI hor (aI uq (aI yR (aI hb0 (aI hwq (hwl))))));refine Ak (Bl rfl (Aj (Ar (Ad (Af rfl (Af rfl (Ac (by simp only[zl,zm,Dk,Int.toNat_natCast,lnR,xq]<;>exact rfl) ?_)))))));refine Ou ?_;refine xo45 ?_;refine xo73 ?_;refine Aa (Ae ?_);refine Kv (fun env S'=>∃(ln0:Nat) (u3 u5 u6 u7 u13 u14 u15 u16 u17 u18 u19 u20 u21 u22 u23 u24:D),ln0<o.2.1∧S'=⟨K++[⟨52,3,[lnR o],0,0,false⟩],min lo K.length⟩∧env=[.agg x.row,ls,.ptr 0 0 0 0,u3,.ptr g 0 0 0,u5,u6,u7,L9 ((Gj (CM.pg2 x) l true).map lnR),.int .i64 (o.1:Nat),.int .i64 (ln0:Nat),.int .i64 (i:Nat),.ptr K.length 0 0 0,u13,u14,u15,u16,u17,u18,u19,u20,u21,u22,u23,u24]) ?_ ?_
  ·
   rcases Decidable.em (o.1=(Et ((Gj (CM.pg2 x) l true).take i)).1) with hpq | hpq
   ·
    have hpq2:(((o.1:Nat):Int) != (((Et ((Gj (CM.pg2 x) l true).take i)).1:Nat):Int))=false:=by rw[bne_eq_false_iff_eq];omega
    have hrg:(Et ((Gj (CM.pg2 x) l true).take i)).2.1<o.2.1:=by rcases uS with⟨_,a,b⟩ | ⟨a,_⟩<;>omega
    refine Ad (Zn ?_);refine Ou ?_;refine Af rfl (Ac (by simp only[zo,Bd,xq,hpq2]<;>exact rfl) ?_);refine Aa (Ae ?_);apply A7 (by simp only[opd,zv,xq]<;>rfl);refine Ak (Je rfl ?_);exact⟨(Et ((Gj (CM.pg2 x) l true).take i)).2.1,_,_,_,_,_,_,_,_,_,_,_,_,_,_,_,_,by omega,rfl,by rw[hpq]⟩
   have hpq2:(((o.1:Nat):Int) != (((Et ((Gj (CM.pg2 x) l true).take i)).1:Nat):Int))=true:=by rw[bne_iff_ne];omega
   have hrg:o.1=(Et ((Gj (CM.pg2 x) l true).take i)).1+1∧1≤o.2.1∧(Et ((Gj (CM.pg2 x) l true).take i)).2.2=fB (Et ((Gj (CM.pg2 x) l true).take i)).1:=by
    rcases uS with⟨a,_⟩ | ⟨a,b,_,e⟩
    ·
     exact absurd a hpq
    exact⟨a,b,e x.pg2_8⟩
   have wH:i≠0:=fun h=>by
    have:=xQ.2 h;rw[h]at hpq;exact hpq this
   obtain⟨j,rfl⟩:∃j,i=j+1:=⟨i-1,by omega⟩;obtain⟨q,hq⟩:∃q,(Gj (CM.pg2 x) l true)[j]?=some q:=⟨_,Lg (by omega)⟩;have hqq:Et ((Gj (CM.pg2 x) l true).take (j+1))=q:=by rw[List.take_add_one,hq];exact Kt _ _
   rw[hqq]at hrg hpq2 hwq zJ;have hqr:((Gj (CM.pg2 x) l true).map lnR)[j]?=some (lnR q):=by rw[Lp_,hq];rfl
   have hz1:(((o.1:Nat):Int) != ((q.1+1:Nat):Int))=false:=by rw[bne_eq_false_iff_eq];omega
   have hz2:(((j+1:Nat):Int)==0)=false:=by rw[beq_eq_false_iff_ne];omega
   have hz3:(q.2.2==[66,32]++Bq q.1 2)=true:=by rw[beq_iff_eq];exact hrg.2.2
   have hwj:IntKind.i64.wrap (((j+1:Nat):Int)-1)=((j:Nat):Int):=by rw[IntKind.wrap_i64]<;>omega
   have hgj:((0:Int)≤((j:Nat):Int))=True:=eq_true (by omega);have xK:=aI hqq (aI hpq2 (aI hwq (aI hqr (aI hz1 (aI hz2 (aI hz3 (aI hwj (hgj))))))));refine Ad (Ac (by simp only[zo,Ce,zm,xq,xK]<;>exact rfl) ?_);apply Ac (by simp only[zl,zm,zd,Au,List.take,List.drop,xq,xK]<;>exact rfl);refine Af rfl (Ac (by simp only[zo,Bd,xq,xK]<;>exact rfl) ?_);refine Aa (Ae ?_);apply Ew (by simp only[opd,zv,xq,xK]<;>rfl);refine Aj (Aj (Eu (by simp only[newsVals,zw,Nat.reduceAdd]<;>exact rfl) (by simp only[zw]<;>exact rfl) ?_));apply Ah (by simp only[zo,Ce,zm,xq,xK]<;>exact rfl) rfl rfl;apply Cj (by simp only[zl,zm,zd,Au,List.take,List.drop,xq,xK]<;>exact rfl) (by simp only[fpHere,zo,zq,hGs]<;>exact rfl) rfl;refine Bf rfl rfl (Ah (by simp only[zo,Bd,xq,xK]<;>exact rfl) rfl rfl ?_);apply Ah (by simp only[zo,Bd,xq,xK]<;>exact rfl) rfl rfl;refine Dh rfl rfl (dw_know 0 (b:=false) (by simp only[zv,xK]<;>rfl) (by simp only[zn]<;>exact rfl) ?_);refine Aw rfl (Bf rfl rfl (Aw rfl (Ah (by simp only[zo,Bd,xq,xK]<;>exact rfl) rfl rfl ?_)));apply Ah (by simp only[zo,xq,xK]<;>exact rfl) rfl rfl;refine Dh rfl rfl (dw_know 0 (b:=false) (by simp only[zv,xK]<;>rfl) (by simp only[zn]<;>exact rfl) ?_);refine Aw rfl (Bf rfl rfl (Aw rfl (Bf rfl rfl (Aw rfl (Ah (by simp only[zo,Bd,xq,xK]<;>exact rfl) rfl rfl ?_)))));refine Aw rfl (Cj (by simp only[zl,zm,Dk,Int.toNat_natCast,lnR,xq,xK]<;>exact rfl) (by simp only[fpHere,zo,zq,hGs]<;>exact rfl) rfl ?_);refine Aw rfl (Ah (by simp only[zo,Eh,zm,xq,xK]<;>exact rfl) rfl rfl ?_);refine Aw rfl (Cj (by simp only[zl,zm,zd,Au,List.take,List.drop,xq,xK]<;>exact rfl) (by simp only[fpHere,zo,zq,hGs]<;>exact rfl) rfl ?_);refine Aw rfl (Bf rfl rfl (Aw rfl (Cj (by simp only[zo,xq,xK];exact Jz (by omega) _ q.1 2 (by omega) (by omega)) (by simp only[fpHere,zo,zq,hGs]<;>exact rfl) rfl ?_)));refine Aw rfl (Ah (by simp only[opd,zv,Ap,aop,LOp.loud,if_false,Bool.false_eq_true];exact congrArg (Option.map fun r=>(r,_,false)) (sadd [66,32] (Bq q.1 2) (by simp[Ci]))) rfl rfl ?_);refine Aw rfl (Ah (by simp only[zo,Bd,Df,xq,xK]<;>exact rfl) rfl rfl ?_);apply Ah (by simp only[zo,xq,xK]<;>exact rfl) rfl rfl;refine Bz (Ae ?_);apply A7 (by simp only[opd,zv,xq,xK]<;>rfl);refine Ak (Bl rfl (Ad (Ac (by simp only[zo,Ce,zm,xq,xK]<;>exact rfl) ?_)));apply Ac (by simp only[zl,zm,zd,Au,List.take,List.drop,xq,xK]<;>exact rfl);refine Ag rfl (Aa (Ae ?_));refine Am (Az (Aa (Je (by simp only[ze]<;>exact rfl) ?_)));exact⟨0,_,_,_,_,_,_,_,_,_,_,_,_,_,_,_,_,by omega,rfl,rfl⟩
  rintro env S' ⟨ln0,u3,u5,u6,u7,u13,u14,u15,u16,u17,u18,u19,u20,u21,u22,u23,u24,hln0,rfl,rfl⟩;have d1:(((o.2.1:Nat):Int)≤((ln0:Nat):Int))=False:=eq_false (by omega);have d2:(((o.2.1:Nat):Int)>((x.pg2.last+2:Nat):Int))=False:=eq_false (by omega);rcases yC with⟨yg,yK | yK⟩ | ⟨yg,yK⟩ | ⟨yg,yK,hc3,hc4,hc5⟩
  ·
   have t1:(o.2.2==[82,72])=true:=by rw[beq_iff_eq];exact yK
   have t3:(o.2.2==([66,32]++Bq o.1 2))=false:=by rw[beq_eq_false_iff_ne];intro e;rw[yK]at e;simp at e
   have c1:((((o.2.1):Nat):Int)≥(((x.pg2.first):Nat):Int))=False:=eq_false (by omega);have c2:((((o.2.1):Nat):Int)≤(((x.pg2.last):Nat):Int))=True:=eq_true (by omega);have c3:((((o.2.1):Nat):Int)<(((x.pg2.first):Nat):Int))=True:=eq_true (by omega);have c4:((((o.2.1):Nat):Int)>(((x.pg2.last):Nat):Int))=False:=eq_false (by omega);refine Aj (Aj (D9 ?_));apply Ah (by simp only[zo,Ce,zm,lnR,xq]<;>exact rfl) rfl rfl;refine Jn rfl ?_;refine Bf rfl rfl (Ah (by simp only[zo,Bd,decide_false,xq,d1]<;>exact rfl) rfl rfl ?_);refine Dh rfl rfl (Gy 0 (b:=false) ?_);refine Aw rfl (Mc rfl rfl ?_);refine Aw rfl (Jn rfl ?_);refine Aw rfl (xo41 rfl ?_);refine Aw rfl (Be (by simp only[zo,xq];exact Jl (by omega) _ x.pg2) rfl ?_);refine Aw rfl (Ah (by simp only[zo,Bd,xq]<;>exact rfl) rfl rfl ?_);refine Aw rfl (Ah (by simp only[zo,Bd,decide_false,xq,d2]<;>exact rfl) rfl rfl ?_);refine Ib rfl rfl ?_;refine Bz (Ae ?_);apply A7 (by simp only[opd,zv,xq]<;>rfl);refine Ak (Bl rfl (Ad (Zn ?_)));refine Ou ?_;refine Ag rfl (Aa (Ae ?_));refine Aj (D9 ?_);refine Mc rfl rfl ?_;refine Jn rfl ?_;apply Ah (by simp only[zo,Bd,Df,hRH,xq,t1]<;>exact rfl) rfl rfl;refine Dh rfl rfl (Gy 0 (b:=true) ?_);refine A8 rfl rfl (A8 rfl rfl (A8 rfl rfl (A8 rfl rfl (A8 rfl rfl (A8 rfl rfl (Ib rfl rfl ?_))))));refine Dh rfl rfl (Bz (Ae ?_));refine Aj (D9 ?_);refine Mc rfl rfl ?_;refine Jn rfl ?_;refine Bf rfl rfl (Be (by simp only[zo,xq];exact Jz (by omega) _ o.1 2 (by omega) (by omega)) rfl ?_);apply Ah (by simp only[opd,zv,Ap,aop,LOp.loud,if_false,Bool.false_eq_true];exact congrArg (Option.map fun r=>(r,_,false)) (sadd [66,32] (Bq o.1 2) (by simp[Ci]))) rfl rfl;apply Ah (by simp only[zo,Bd,Df,xq,t3]<;>exact rfl) rfl rfl;refine Dh rfl rfl (Bz (Ae ?_));refine Aj (D9 ?_);refine Bf rfl rfl (Dh rfl rfl (Aw rfl (Mc rfl rfl ?_)));refine Aw rfl (Jn rfl ?_);refine Aw rfl (xo41 rfl ?_);refine Aw rfl (Be (by simp only[zo,xq];exact Tf (by omega) _ x.pg2) rfl ?_);refine Aw rfl (Ah (by simp only[zo,Bd,decide_false,xq,c1]<;>exact rfl) rfl rfl ?_);refine Ib rfl rfl ?_;refine Dh rfl rfl (Gy 0 (b:=false) ?_);refine Aw rfl (Bf rfl rfl (Aw rfl (Dh rfl rfl (Gy 0 (b:=false) ?_))));refine A8 rfl rfl (A8 rfl rfl (A8 rfl rfl (A8 rfl rfl (A8 rfl rfl (Aw rfl (Ib rfl rfl ?_))))));refine Ib rfl rfl ?_;refine Dh rfl rfl (Aw rfl (Bf rfl rfl (Aw rfl (Ah (by simp only[zo,unD,xq]<;>exact rfl) rfl rfl ?_))));refine Aw rfl (Dh rfl rfl (Gy 0 (b:=false) ?_));refine A8 rfl rfl (A8 rfl rfl (Aw rfl (Ib rfl rfl ?_)));refine Aw rfl (Dh rfl rfl (A8 rfl rfl (A8 rfl rfl (A8 rfl rfl (A8 rfl rfl (A8 rfl rfl (A8 rfl rfl (Du rfl (Du rfl (Du rfl (Du rfl (Du rfl (A8 rfl rfl (Aw rfl (Ib rfl rfl ?_)))))))))))))));refine Ib rfl rfl ?_;refine Bz (Ae ?_);apply A7 (by simp only[opd,zv,xq]);refine Ak (Ej (Bl rfl (Am (Af rfl (Zm ?_)))));refine Ag rfl (Aa (Hl (by simp only[ze]<;>exact rfl) ?_));exact⟨(Gj (CM.pg2 x) l true).length-(i+1),by omega,i+1,_,_,_,_,_,_,_,_,_,_,_,_,_,_,_,_,_,_,_,by omega,C9 hbx _,by rw[hqN];omega,rfl,rfl,by rw[hqN]⟩
  ·
   have t1:(o.2.2==[82,72])=false:=by rw[beq_eq_false_iff_ne];intro e;rw[yK]at e;simp[fP]at e
   have t2:(o.2.2==([80,32]++Bq o.1 2))=true:=by rw[beq_iff_eq];exact yK
   have t3:(o.2.2==([66,32]++Bq o.1 2))=false:=by rw[beq_eq_false_iff_ne];intro e;rw[yK]at e;simp[fP]at e
   have c1:((((o.2.1):Nat):Int)≥(((x.pg2.first):Nat):Int))=False:=eq_false (by omega);have c2:((((o.2.1):Nat):Int)≤(((x.pg2.last):Nat):Int))=True:=eq_true (by omega);have c3:((((o.2.1):Nat):Int)<(((x.pg2.first):Nat):Int))=True:=eq_true (by omega);have c4:((((o.2.1):Nat):Int)>(((x.pg2.last):Nat):Int))=False:=eq_false (by omega);refine Aj (Aj (D9 ?_));apply Ah (by simp only[zo,Ce,zm,lnR,xq]<;>exact rfl) rfl rfl;refine Jn rfl ?_;refine Bf rfl rfl (Ah (by simp only[zo,Bd,decide_false,xq,d1]<;>exact rfl) rfl rfl ?_);refine Dh rfl rfl (Gy 0 (b:=false) ?_);refine Aw rfl (Mc rfl rfl ?_);refine Aw rfl (Jn rfl ?_);refine Aw rfl (xo41 rfl ?_);refine Aw rfl (Be (by simp only[zo,xq];exact Jl (by omega) _ x.pg2) rfl ?_);refine Aw rfl (Ah (by simp only[zo,Bd,xq]<;>exact rfl) rfl rfl ?_);refine Aw rfl (Ah (by simp only[zo,Bd,decide_false,xq,d2]<;>exact rfl) rfl rfl ?_);refine Ib rfl rfl ?_;refine Bz (Ae ?_);apply A7 (by simp only[opd,zv,xq]<;>rfl);refine Ak (Bl rfl (Ad (Zn ?_)));refine Ou ?_;refine Ag rfl (Aa (Ae ?_));refine Aj (D9 ?_);refine Mc rfl rfl ?_;refine Jn rfl ?_;apply Ah (by simp only[zo,Bd,Df,hRH,xq,t1]<;>exact rfl) rfl rfl;refine Dh rfl rfl (Gy 0 (b:=false) ?_);refine Aw rfl (Mc rfl rfl ?_);refine Aw rfl (Jn rfl ?_);refine Aw rfl (Bf rfl rfl (Aw rfl (Be (by simp only[zo,xq];exact Jz (by omega) _ o.1 2 (by omega) (by omega)) rfl ?_)));refine Aw rfl (Ah (by simp only[opd,zv,Ap,aop,LOp.loud,if_false,Bool.false_eq_true];exact congrArg (Option.map fun r=>(r,_,false)) (sadd [80,32] (Bq o.1 2) (by simp[Ci]))) rfl rfl ?_);refine Aw rfl (Ah (by simp only[zo,Bd,Df,xq,t2]<;>exact rfl) rfl rfl ?_);refine Ib rfl rfl ?_;refine Dh rfl rfl (Bz (Ae ?_));refine Aj (D9 ?_);refine Mc rfl rfl ?_;refine Jn rfl ?_;refine Bf rfl rfl (Be (by simp only[zo,xq];exact Jz (by omega) _ o.1 2 (by omega) (by omega)) rfl ?_);apply Ah (by simp only[opd,zv,Ap,aop,LOp.loud,if_false,Bool.false_eq_true];exact congrArg (Option.map fun r=>(r,_,false)) (sadd [66,32] (Bq o.1 2) (by simp[Ci]))) rfl rfl;apply Ah (by simp only[zo,Bd,Df,xq,t3]<;>exact rfl) rfl rfl;refine Dh rfl rfl (Bz (Ae ?_));refine Aj (D9 ?_);refine Bf rfl rfl (Dh rfl rfl (Gy 0 (b:=true) ?_));refine Aw rfl (Mc rfl rfl ?_);refine Aw rfl (Jn rfl ?_);refine Aw rfl (xo41 rfl ?_);refine Aw rfl (Be (by simp only[zo,xq];exact Tf (by omega) _ x.pg2) rfl ?_);refine Aw rfl (Ah (by simp only[zo,Bd,decide_false,xq,c1]<;>exact rfl) rfl rfl ?_);refine Ib rfl rfl ?_;refine Dh rfl rfl (Gy 0 (b:=false) ?_);refine Aw rfl (Bf rfl rfl (Aw rfl (Dh rfl rfl (Gy 0 (b:=false) ?_))));refine A8 rfl rfl (A8 rfl rfl (A8 rfl rfl (A8 rfl rfl (A8 rfl rfl (Aw rfl (Ib rfl rfl ?_))))));refine Ib rfl rfl ?_;refine Dh rfl rfl (Aw rfl (Bf rfl rfl (Aw rfl (Ah (by simp only[zo,unD,xq]<;>exact rfl) rfl rfl ?_))));refine Aw rfl (Dh rfl rfl (Gy 0 (b:=false) ?_));refine A8 rfl rfl (A8 rfl rfl (Aw rfl (Ib rfl rfl ?_)));refine Aw rfl (Dh rfl rfl (A8 rfl rfl (A8 rfl rfl (A8 rfl rfl (A8 rfl rfl (A8 rfl rfl (A8 rfl rfl (Du rfl (Du rfl (Du rfl (Du rfl (Du rfl (A8 rfl rfl (Aw rfl (Ib rfl rfl ?_)))))))))))))));refine Ib rfl rfl ?_;refine Bz (Ae ?_);apply A7 (by simp only[opd,zv,xq]);refine Ak (Ej (Bl rfl (Am (Af rfl (Zm ?_)))));refine Ag rfl (Aa (Hl (by simp only[ze]<;>exact rfl) ?_));exact⟨(Gj (CM.pg2 x) l true).length-(i+1),by omega,i+1,_,_,_,_,_,_,_,_,_,_,_,_,_,_,_,_,_,_,_,by omega,C9 hbx _,by rw[hqN];omega,rfl,rfl,by rw[hqN]⟩
  ·
   have t1:(o.2.2==[82,72])=false:=by rw[beq_eq_false_iff_ne];intro e;rw[yK]at e;simp[fB]at e
   have t2:(o.2.2==([80,32]++Bq o.1 2))=false:=by rw[beq_eq_false_iff_ne];intro e;rw[yK]at e;simp[fB]at e
   have t3:(o.2.2==([66,32]++Bq o.1 2))=true:=by rw[beq_iff_eq];exact yK
   have c1:((((o.2.1):Nat):Int)≥(((x.pg2.first):Nat):Int))=True:=eq_true (by omega);have c2:((((o.2.1):Nat):Int)≤(((x.pg2.last):Nat):Int))=False:=eq_false (by omega);have c3:((((o.2.1):Nat):Int)<(((x.pg2.first):Nat):Int))=False:=eq_false (by omega);have c4:((((o.2.1):Nat):Int)>(((x.pg2.last):Nat):Int))=True:=eq_true (by omega);refine Aj (Aj (D9 ?_));apply Ah (by simp only[zo,Ce,zm,lnR,xq]<;>exact rfl) rfl rfl;refine Jn rfl ?_;refine Bf rfl rfl (Ah (by simp only[zo,Bd,decide_false,xq,d1]<;>exact rfl) rfl rfl ?_);refine Dh rfl rfl (Gy 0 (b:=false) ?_);refine Aw rfl (Mc rfl rfl ?_);refine Aw rfl (Jn rfl ?_);refine Aw rfl (xo41 rfl ?_);refine Aw rfl (Be (by simp only[zo,xq];exact Jl (by omega) _ x.pg2) rfl ?_);refine Aw rfl (Ah (by simp only[zo,Bd,xq]<;>exact rfl) rfl rfl ?_);refine Aw rfl (Ah (by simp only[zo,Bd,decide_false,xq,d2]<;>exact rfl) rfl rfl ?_);refine Ib rfl rfl ?_;refine Bz (Ae ?_);apply A7 (by simp only[opd,zv,xq]<;>rfl);refine Ak (Bl rfl (Ad (Zn ?_)));refine Ou ?_;refine Ag rfl (Aa (Ae ?_));refine Aj (D9 ?_);refine Mc rfl rfl ?_;refine Jn rfl ?_;apply Ah (by simp only[zo,Bd,Df,hRH,xq,t1]<;>exact rfl) rfl rfl;refine Dh rfl rfl (Gy 0 (b:=false) ?_);refine Aw rfl (Mc rfl rfl ?_);refine Aw rfl (Jn rfl ?_);refine Aw rfl (Bf rfl rfl (Aw rfl (Be (by simp only[zo,xq];exact Jz (by omega) _ o.1 2 (by omega) (by omega)) rfl ?_)));refine Aw rfl (Ah (by simp only[opd,zv,Ap,aop,LOp.loud,if_false,Bool.false_eq_true];exact congrArg (Option.map fun r=>(r,_,false)) (sadd [80,32] (Bq o.1 2) (by simp[Ci]))) rfl rfl ?_);refine Aw rfl (Ah (by simp only[zo,Bd,Df,xq,t2]<;>exact rfl) rfl rfl ?_);refine Ib rfl rfl ?_;refine Dh rfl rfl (Bz (Ae ?_));refine Aj (D9 ?_);refine Mc rfl rfl ?_;refine Jn rfl ?_;refine Bf rfl rfl (Be (by simp only[zo,xq];exact Jz (by omega) _ o.1 2 (by omega) (by omega)) rfl ?_);apply Ah (by simp only[opd,zv,Ap,aop,LOp.loud,if_false,Bool.false_eq_true];exact congrArg (Option.map fun r=>(r,_,false)) (sadd [66,32] (Bq o.1 2) (by simp[Ci]))) rfl rfl;apply Ah (by simp only[zo,Bd,Df,xq,t3]<;>exact rfl) rfl rfl;refine Dh rfl rfl (Bz (Ae ?_));refine Aj (D9 ?_);refine Bf rfl rfl (Dh rfl rfl (Gy 0 (b:=false) ?_));refine A8 rfl rfl (A8 rfl rfl (A8 rfl rfl (A8 rfl rfl (A8 rfl rfl (Ib rfl rfl ?_)))));refine Dh rfl rfl (Aw rfl (Bf rfl rfl (Aw rfl (Dh rfl rfl (Gy 0 (b:=true) ?_)))));refine Aw rfl (Mc rfl rfl ?_);refine Aw rfl (Jn rfl ?_);refine Aw rfl (xo41 rfl ?_);refine Aw rfl (Be (by simp only[zo,xq];exact Jl (by omega) _ x.pg2) rfl ?_);refine Aw rfl (Ah (by simp only[zo,Bd,decide_false,xq,c2]<;>exact rfl) rfl rfl ?_);refine Aw rfl (Ib rfl rfl ?_);refine Ib rfl rfl ?_;refine Dh rfl rfl (Gy 0 (b:=false) ?_);refine Aw rfl (Bf rfl rfl (Aw rfl (Ah (by simp only[zo,unD,xq]<;>exact rfl) rfl rfl ?_)));refine Aw rfl (Dh rfl rfl (Gy 0 (b:=true) ?_));refine Aw rfl (Bf rfl rfl (Aw rfl (Ah (by simp only[zo,unD,xq]<;>exact rfl) rfl rfl ?_)));refine Aw rfl (Ib rfl rfl ?_);refine Aw rfl (Dh rfl rfl (Gy 0 (b:=false) ?_));refine A8 rfl rfl (A8 rfl rfl (A8 rfl rfl (A8 rfl rfl (A8 rfl rfl (A8 rfl rfl (Du rfl (Du rfl (Du rfl (Du rfl (Du rfl (A8 rfl rfl (Aw rfl (Ib rfl rfl ?_)))))))))))));refine Ib rfl rfl ?_;refine Bz (Ae ?_);apply A7 (by simp only[opd,zv,xq]);refine Ak (Ej (Bl rfl (Am (Af rfl (Zm ?_)))));refine Ag rfl (Aa (Hl (by simp only[ze]<;>exact rfl) ?_));exact⟨(Gj (CM.pg2 x) l true).length-(i+1),by omega,i+1,_,_,_,_,_,_,_,_,_,_,_,_,_,_,_,_,_,_,_,by omega,C9 hbx _,by rw[hqN];omega,rfl,rfl,by rw[hqN]⟩
  have t1:(o.2.2==[82,72])=false:=by rw[beq_eq_false_iff_ne];intro e;exact hc3 e
  have t2:(o.2.2==([80,32]++Bq o.1 2))=false:=by rw[beq_eq_false_iff_ne];intro e;rw[e]at hc4;exact hc4 rfl
  have t3:(o.2.2==([66,32]++Bq o.1 2))=false:=by rw[beq_eq_false_iff_ne];intro e;rw[e]at hc5;exact hc5 rfl
  have c1:((((o.2.1):Nat):Int)≥(((x.pg2.first):Nat):Int))=True:=eq_true (by omega);have c2:((((o.2.1):Nat):Int)≤(((x.pg2.last):Nat):Int))=True:=eq_true (by omega);have c3:((((o.2.1):Nat):Int)<(((x.pg2.first):Nat):Int))=False:=eq_false (by omega);have c4:((((o.2.1):Nat):Int)>(((x.pg2.last):Nat):Int))=False:=eq_false (by omega);refine Aj (Aj (D9 ?_));apply Ah (by simp only[zo,Ce,zm,lnR,xq]<;>exact rfl) rfl rfl;refine Jn rfl ?_;refine Bf rfl rfl (Ah (by simp only[zo,Bd,decide_false,xq,d1]<;>exact rfl) rfl rfl ?_);refine Dh rfl rfl (Gy 0 (b:=false) ?_);refine Aw rfl (Mc rfl rfl ?_);refine Aw rfl (Jn rfl ?_);refine Aw rfl (xo41 rfl ?_);refine Aw rfl (Be (by simp only[zo,xq];exact Jl (by omega) _ x.pg2) rfl ?_);refine Aw rfl (Ah (by simp only[zo,Bd,xq]<;>exact rfl) rfl rfl ?_);refine Aw rfl (Ah (by simp only[zo,Bd,decide_false,xq,d2]<;>exact rfl) rfl rfl ?_);refine Ib rfl rfl ?_;refine Bz (Ae ?_);apply A7 (by simp only[opd,zv,xq]<;>rfl);refine Ak (Bl rfl (Ad (Zn ?_)));refine Ou ?_;refine Ag rfl (Aa (Ae ?_));refine Aj (D9 ?_);refine Mc rfl rfl ?_;refine Jn rfl ?_;apply Ah (by simp only[zo,Bd,Df,hRH,xq,t1]<;>exact rfl) rfl rfl;refine Dh rfl rfl (Gy 0 (b:=false) ?_);refine Aw rfl (Mc rfl rfl ?_);refine Aw rfl (Jn rfl ?_);refine Aw rfl (Bf rfl rfl (Aw rfl (Be (by simp only[zo,xq];exact Jz (by omega) _ o.1 2 (by omega) (by omega)) rfl ?_)));refine Aw rfl (Ah (by simp only[opd,zv,Ap,aop,LOp.loud,if_false,Bool.false_eq_true];exact congrArg (Option.map fun r=>(r,_,false)) (sadd [80,32] (Bq o.1 2) (by simp[Ci]))) rfl rfl ?_);refine Aw rfl (Ah (by simp only[zo,Bd,Df,xq,t2]<;>exact rfl) rfl rfl ?_);refine Ib rfl rfl ?_;refine Dh rfl rfl (Bz (Ae ?_));refine Aj (D9 ?_);refine Mc rfl rfl ?_;refine Jn rfl ?_;refine Bf rfl rfl (Be (by simp only[zo,xq];exact Jz (by omega) _ o.1 2 (by omega) (by omega)) rfl ?_);apply Ah (by simp only[opd,zv,Ap,aop,LOp.loud,if_false,Bool.false_eq_true];exact congrArg (Option.map fun r=>(r,_,false)) (sadd [66,32] (Bq o.1 2) (by simp[Ci]))) rfl rfl;apply Ah (by simp only[zo,Bd,Df,xq,t3]<;>exact rfl) rfl rfl;refine Dh rfl rfl (Bz (Ae ?_));refine Aj (D9 ?_);refine Bf rfl rfl (Dh rfl rfl (Gy 0 (b:=false) ?_));refine A8 rfl rfl (A8 rfl rfl (A8 rfl rfl (A8 rfl rfl (A8 rfl rfl (Ib rfl rfl ?_)))));refine Dh rfl rfl (Aw rfl (Bf rfl rfl (Aw rfl (Dh rfl rfl (Gy 0 (b:=false) ?_)))));refine A8 rfl rfl (A8 rfl rfl (A8 rfl rfl (A8 rfl rfl (A8 rfl rfl (Aw rfl (Ib rfl rfl ?_))))));refine Ib rfl rfl ?_;refine Dh rfl rfl (Aw rfl (Bf rfl rfl (Aw rfl (Ah (by simp only[zo,unD,xq]<;>exact rfl) rfl rfl ?_))));refine Aw rfl (Dh rfl rfl (Gy 0 (b:=true) ?_));refine Aw rfl (Bf rfl rfl (Aw rfl (Ah (by simp only[zo,unD,xq]<;>exact rfl) rfl rfl ?_)));refine Aw rfl (Ib rfl rfl ?_);refine Aw rfl (Dh rfl rfl (Gy 0 (b:=true) ?_));refine Aw rfl (Mc rfl rfl ?_);refine Aw rfl (Jn rfl ?_);refine Aw rfl (xo41 rfl ?_);refine Aw rfl (Be (by simp only[zo,xq];exact Tf (by omega) _ x.pg2) rfl ?_);refine Aw rfl (Ah (by simp only[zo,Bd,decide_false,xq,c3]<;>exact rfl) rfl rfl ?_);refine Aw rfl (Dh rfl rfl (Gy 0 (b:=false) ?_));refine Aw rfl (Mc rfl rfl ?_);refine Aw rfl (Jn rfl ?_);refine Aw rfl (xo41 rfl ?_);refine Aw rfl (Be (by simp only[zo,xq];exact Jl (by omega) _ x.pg2) rfl ?_);refine Aw rfl (Ah (by simp only[zo,Bd,decide_false,xq,c4]<;>exact rfl) rfl rfl ?_);refine Aw rfl (Ib rfl rfl ?_);refine Aw rfl (Ib rfl rfl ?_);refine Ib rfl rfl ?_;refine Bz (Ae ?_);apply A7 (by simp only[opd,zv,xq]<;>rfl);refine Ak (Ej (Bl rfl (Am (Af rfl (Zm ?_)))));refine Ag rfl (Aa (Hl (by simp only[ze]<;>exact rfl) ?_));exact⟨(Gj (CM.pg2 x) l true).length-(i+1),by omega,i+1,_,_,_,_,_,_,_,_,_,_,_,_,_,_,_,_,_,_,_,by omega,C9 hbx _,by rw[hqN];omega,rfl,rfl,by rw[hqN]⟩
 have hlv:=hLv d0 ⟨K,lo⟩ (by omega);refine Dq (Hq (Jb (Hy (Bl rfl (Ad (Ac (by simp only[zo];exact hlv) ?_))))));refine Ag rfl (Aa (Ae ?_));apply Ba;refine⟨_,by simp only[F4,resultD,Bg,resD,zg]<;>exact rfl,?_⟩;rfl
theorem law4_big{d:Nat}(hd:61≤d)(S:St)(x:CM)(l:List RM)(ls:D)(qJ:LsD ls l)(hl:60<l.length):Bc LP NN d 4 [.agg x.row,ls] S=some (.bool true,S,false):=by
 have xk:=qJ.len;have vF:∀m H,Aaa m H ls=some ls:=fun m H=>by rcases qJ with⟨_,rfl⟩ | ⟨c,rfl⟩<;>rfl
 have qQ:ls.freeV=true:=by rcases qJ with⟨_,rfl⟩ | ⟨c,rfl⟩<;>rfl
 have hgtT:(((l.length:Nat):Int)>60)=True:=eq_true (by omega);refine run_pure (F:=F4) rfl (by simp only[LP,snapVs,Bh,zs,zm,CM.row,vF]<;>exact rfl) rfl (by simp only[LP,zf,zm,qQ];try rfl) (by simp only[F4,zv]<;>exact rfl) (by omega) ?_;rintro d rfl;refine Ad (Zl ?_);refine Az (Aa (Ae ?_));refine Aj (Ad (Af rfl (Ac (by simp only[zo,xk]<;>exact rfl) ?_)));apply Ac (by simp only[zo,Bd,hgtT,decide_true]<;>exact rfl);refine Aa (Ae ?_);refine Jk ?_;refine Ad (Ac (by simp only[zo];exact lives_run _ _ (by omega)) ?_);refine Ag rfl (Aa (Ae ?_));refine Ba (Oo ?_);refine⟨_,by simp only[F4,resultD,Bg,resD,zg]<;>exact rfl,?_⟩;rfl
theorem law4{d:Nat}(hd:61≤d)(S:St)(x:CM)(l:List RM)(ls:D)(qJ:LsD ls l):Bc LP NN d 4 [.agg x.row,ls] S=some (.bool true,S,false):=by
 by_cases h:l.length≤60
 ·
  exact law4_run hd S x l ls qJ h lives_run
 exact law4_big hd S x l ls qJ (by omega)
open Go.ChangeShapes Go.WideShapes Go.ChangeAt Go.RowKit
set_option maxRecDepth 100000
theorem own:ownKnob Tryz.prog.godebug=none:=by kernel_rfl
theorem laidOut:laidOutB Tryz.prog=true:=by kernel_rfl
theorem ty4:Tryz.prog.underlying 4=some .bool:=by kernel_rfl
theorem ty5:Tryz.prog.underlying 5=some (.int .u8):=by kernel_rfl
theorem ty22:Tryz.prog.underlying 22=some (.int .u16):=by kernel_rfl
theorem ty23:Tryz.prog.underlying 23=some (.array 3 5):=by kernel_rfl
theorem ty26:Tryz.prog.underlying 26=some (.slice 43):=by kernel_rfl
noncomputable def fs43:Array Field:=match Tryz.prog.underlying 43 with
  | some (.struct fs)=>fs
  | _=>#[]
theorem ty43:∃fs:Array Field,Tryz.prog.underlying 43=some (.struct fs)∧fs.size=4∧fs.toList.map (·.type)=[5,5,22,5]:=⟨fs43,by kernel_rfl,by kernel_rfl,by kernel_rfl⟩
noncomputable def fs25:Array Field:=match Tryz.prog.underlying 25 with
  | some (.struct fs)=>fs
  | _=>#[]
theorem ty25:Tryz.prog.underlying 25=some (.struct fs25):=by kernel_rfl
theorem ty25':fs25.size=5∧fs25.toList.map (·.type)=[5,22,5,5,23]:=⟨by kernel_rfl,by kernel_rfl⟩
theorem J3{fs:Array Field}{ts:List TypeId}(ht:fs.toList.map (·.type)=ts){j:Nat}{t:TypeId}(hj:ts[j]?=some t):∃f:Field,fs[j]?=some f∧f.type=t:=by
  rw[←ht,Lp_]at hj;rw[←Array.getElem?_toList]
  cases e:fs.toList[j]? with
  | none=>rw[e]at hj;cases hj
  | some f=>rw[e]at hj;exact⟨f,rfl,Option.some.inj hj⟩
theorem u16_nat{n:Int}(h:(Lit.int .u16 n).wf=true):∃m:Nat,n=m∧m<65536:=by
  have b:0≤n∧n≤65535:=by simpa [Lit.wf,IntKind.min,IntKind.max,IntKind.signed,IntKind.bits] using h
  exact⟨n.toNat,by omega,by omega⟩
def U1:List (String × DataW Unit):=Rows.reportsLinesRow.laid
theorem door_met(os:Os)(args:Array Value):laidMetH Tryz.prog U1 ((World.laidAll Tryz.prog os U1).forCall (fun _ _=>0) ⟨#[],args,[]⟩).memory:=by
  rw[MakeChecks.laidMetH_plain _ _ _ (by kernel_rfl)];exact laidMet_laidAll _ (by kernel_rfl) (by kernel_rfl)
theorem vr_agg{w:World}{ρ:Z8}{H:List Z7}{ds:List D}{cs:Array Value}(h:VL w ρ H ds cs.toList)(hc:ds.all D.Aae=true):VR w ρ H (.agg ds) (.agg cs):=by
  have:=VR.agg (w:=w) (ρ:=ρ) (H:=H) ds cs.toList h.len hc fun j d v hd hv=>h.get hd hv;simpa using this
theorem caseArg{ds:List D}(h:Sh Tryz.prog 3 25 ds):∃x:CM,ds=x.row:=by
  obtain⟨hn,ht⟩:=ty25';obtain⟨parts,rfl,hp,hf⟩:=Sh.struct ty25 h;obtain⟨f0,g0,t0⟩:=J3 ht (j:=0) rfl;obtain⟨f1,g1,t1⟩:=J3 ht (j:=1) rfl;obtain⟨f2,g2,t2⟩:=J3 ht (j:=2) rfl;obtain⟨f3,g3,t3⟩:=J3 ht (j:=3) rfl;obtain⟨f4,g4,t4⟩:=J3 ht (j:=4) rfl;obtain⟨r0,h0,s0⟩:=hf 0 _ g0;obtain⟨r1,h1,s1⟩:=hf 1 _ g1;obtain⟨r2,h2,s2⟩:=hf 2 _ g2;obtain⟨r3,h3,s3⟩:=hf 3 _ g3;obtain⟨r4,h4,s4⟩:=hf 4 _ g4;rw[t0]at s0;rw[t1]at s1;rw[t2]at s2;rw[t3]at s3;rw[t4]at s4;obtain⟨n0,rfl,w0⟩:=Sh.int ty5 s0;obtain⟨n1,rfl,w1⟩:=Sh.int ty22 s1;obtain⟨n2,rfl,w2⟩:=Sh.int ty5 s2;obtain⟨n3,rfl,w3⟩:=Sh.int ty5 s3;obtain⟨ps,rfl,hl,ha⟩:=Sh.array ty23 s4
  match ps,hl,ha with
  | [a0, a1, a2], _, ha =>
    obtain⟨n4,rfl,w4⟩:=Sh.int ty5 (ha a0 (by simp));obtain⟨n5,rfl,w5⟩:=Sh.int ty5 (ha a1 (by simp));obtain⟨n6,rfl,w6⟩:=Sh.int ty5 (ha a2 (by simp));obtain⟨m0,rfl,k0⟩:=Py w0;obtain⟨m1,rfl,k1⟩:=u16_nat w1;obtain⟨m2,rfl,k2⟩:=Py w2;obtain⟨m3,rfl,k3⟩:=Py w3;obtain⟨m4,rfl,k4⟩:=Py w4;obtain⟨m5,rfl,k5⟩:=Py w5;obtain⟨m6,rfl,k6⟩:=Py w6;rw[hn]at hp
    match parts,hp,h0,h1,h2,h3,h4 with
    | [p0, p1, p2, p3, p4], _, h0, h1, h2, h3, h4 =>
      simp at h0 h1 h2 h3 h4;subst h0 h1 h2 h3 h4;exact⟨⟨m0,m1,m2,m3,m4,m5,m6,k0,k1,k2,k3,k4,k5,k6⟩,rfl⟩
theorem rowsArg{ds:List D}(h:Sh Tryz.prog 3 26 ds):∃(x:D) (l:List RM),ds=[x]∧LsD x l:=by
  have e1:Tryz.prog.cellsOf 43=4:=by kernel_rfl
  obtain⟨fs,hu,hn,ht⟩:=ty43;obtain⟨x,rows,rfl,hS,_,hr⟩:=Sh.slice ty26 h;rw[e1]at hS
  obtain⟨l,rfl⟩:=rows_of (f:=RM.row) (rows:=rows) (fun r hr'=>by
    obtain⟨parts,rfl,hp,hf⟩:=Sh.struct hu (hr r hr');obtain⟨f0,g0,t0⟩:=J3 ht (j:=0) rfl;obtain⟨f1,g1,t1⟩:=J3 ht (j:=1) rfl;obtain⟨f2,g2,t2⟩:=J3 ht (j:=2) rfl;obtain⟨f3,g3,t3⟩:=J3 ht (j:=3) rfl;obtain⟨r0,h0,s0⟩:=hf 0 _ g0;obtain⟨r1,h1,s1⟩:=hf 1 _ g1;obtain⟨r2,h2,s2⟩:=hf 2 _ g2;obtain⟨r3,h3,s3⟩:=hf 3 _ g3;rw[t0]at s0;rw[t1]at s1;rw[t2]at s2;rw[t3]at s3;obtain⟨n0,rfl,w0⟩:=Sh.int ty5 s0;obtain⟨n1,rfl,w1⟩:=Sh.int ty5 s1;obtain⟨n2,rfl,w2⟩:=Sh.int ty22 s2;obtain⟨n3,rfl,w3⟩:=Sh.int ty5 s3;obtain⟨m0,rfl,k0⟩:=Py w0;obtain⟨m1,rfl,k1⟩:=Py w1;obtain⟨m2,rfl,k2⟩:=u16_nat w2;obtain⟨m3,rfl,k3⟩:=Py w3;rw[hn]at hp
    match parts,hp,h0,h1,h2,h3 with
    | [p0, p1, p2, p3], _, h0, h1, h2, h3 =>
      simp at h0 h1 h2 h3;subst h0 h1 h2 h3
      exact⟨⟨m0,m1,m2,m3,k0,k1,k2,k3⟩,rfl⟩)
  refine⟨x,l,rfl,?_⟩;rcases hS with⟨h1,h2⟩ | ⟨c,h1⟩
  · exact .inl ⟨List.map_eq_nil_iff.1 h2,h1⟩
  exact .inr ⟨c,h1⟩
theorem CM.cells(x:CM):x.row.all D.Aae=true:=rfl
theorem glob_ok{W:World}(h:laidMetH Tryz.prog U1 W):GlobOK GT W:=by
  rw[MakeChecks.laidMetH_plain _ _ _ (by kernel_rfl)]at h;intro g row hg;unfold GT at hg;split at hg
  · cases hg;exact Zy h (x:=(U1[2]'(by decide))) (List.getElem_mem _) (n:=3) (t:=((Tryz.prog.globals[1]?).map (·.type)).getD 0) (by kernel_rfl) (by kernel_rfl) (by kernel_rfl) (by kernel_rfl)
  · cases hg;exact Zy h (x:=(U1[6]'(by decide))) (List.getElem_mem _) (n:=3) (t:=((Tryz.prog.globals[2]?).map (·.type)).getD 0) (by kernel_rfl) (by kernel_rfl) (by kernel_rfl) (by kernel_rfl)
  · cases hg;exact Zy h (x:=(U1[8]'(by decide))) (List.getElem_mem _) (n:=3) (t:=((Tryz.prog.globals[3]?).map (·.type)).getD 0) (by kernel_rfl) (by kernel_rfl) (by kernel_rfl) (by kernel_rfl)
  · cases hg;exact Zy h (x:=(U1[7]'(by decide))) (List.getElem_mem _) (n:=3) (t:=((Tryz.prog.globals[4]?).map (·.type)).getD 0) (by kernel_rfl) (by kernel_rfl) (by kernel_rfl) (by kernel_rfl)
  cases hg
end Go.Proofs.YtbhnlppboegmjaaGreatDoor
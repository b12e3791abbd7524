/- Proved here: parts of the proof, joined (K85, K86, K87, K88, K89, K90, K91, K92, K93, K94, K95, K96, K97, K98, K99, K100, K101, K102, K103, K104, K105, K106, K107, K108, K109, K110, K111, K112, K114, K113, K115, K116, K117, RpP): an abstract machine, its soundness, what functions of the program compute in it; no condition. -/
import Derived.Test.YtbhnlppboegmjaaGreatDoorTie
import Derived.WalkKit
import Derived.ProofKit
import Derived.OpenShut
import Derived.ShutString
import Derived.ChangeOld
import Derived.Below
import Derived.LaidMore
import Derived.Lay
import Derived.SevenTiedAt
import Derived.Stop.Joined
import Derived.Test.YtbhnlppboegmjaaGreatDoorTX5
namespace Go.Proofs.YtbhnlppboegmjaaGreatDoor
set_option linter.unusedSimpArgs false
set_option linter.unusedVariables false
set_option maxRecDepth 100000
set_option maxHeartbeats 4000000
theorem store_tot{H:List Zx}{gt v lo i m:Nat}{rows:List (List D)}(h:H[gt]?=some ⟨57,3,rows,v,2,true⟩)(hi:rows[i]?=some (dcR m))(n:Nat):Bf 3 ⟨H,lo⟩ (.ptr gt v i 0) (dcD n)=some ⟨H.set gt ⟨57,3,rows.set i (dcR n),v,2,true⟩,min lo gt⟩:=by
 have e1:Z4 H.length H (.agg [.bool false,.str (mkS (dgs n)),.int .i64 0])=some (.agg [.bool false,.str (mkS (dgs n)),.int .i64 0]):=rfl;simp only[Bf,rowsOf,h,if_true,hi,dcR];simp[e1,dcD,D.val,D.cells,D.Z9,overlay,setAt,D.free,D.Aaa]
theorem pres_tot(x:CM)(w:WM)(t:TG)(h:w.tot.length=x.ctl+1):(D7 x w t).tot.length=x.ctl+1:=by rw[(Iz x w t).2.1];exact h
theorem footN_f(x:CM):∀(k i:Nat) (w:WM),(footN x i k w).row=w.row∧(footN x i k w).ended=w.ended
 | 0,_,_=>⟨rfl,rfl⟩
 | k+1,i,w=>by
  have h:=footN_f x k (i-1) ((D7 x w (x.tg 5 (i-1))).clr (i-1));have h2:=Iz x w (x.tg 5 (i-1));exact⟨h.1.trans h2.1,h.2.trans h2.2.2⟩
theorem WB.foot{x:CM}:∀(k i:Nat) {w:WM} {n:Nat},WB w n→n+44*k≤50000→w.tot.length=x.ctl+1→i≤x.ctl+1→k≤i→WB (footN x i k w) (n+44*k)∧(footN x i k w).tot.length=x.ctl+1
 | 0,_,_,_,h,_,ht,_,_=>⟨h,ht⟩
 | k+1,i,w,n,h,hn,ht,hi,hk=>by
  have h1:=(h.pres (x:=x) (by omega) ht (Ku (x:=x) h (by omega) ht (k:=5) (lv:=i-1) (by omega))).clr (i-1);have h2:=pres_tot x w (x.tg 5 (i-1)) ht;have:=WB.foot k (i-1) h1 (by omega) (by simpa [WM.clr] using h2) (by omega) (by omega);rw[show n+44+44*k=n+44*(k+1) by omega]at this;exact this
theorem foot_run{d:Nat}(hd:31≤d){g gm gt:Nat}{x:CM}{w:WM}{b:Nat}(wQ:WB w b)(hn:b≤40000){l:Nat}(hl:l≤x.ctl+1):WF d 46 [.int .i64 (l:Nat)] g gm gt x w (Ko x w l):=by
 intro H low hW;obtain⟨d0,rfl⟩:∃e,d=e+1:=⟨d-1,by omega⟩;have hct:=x.ctl_lt;obtain⟨lin,hw,yx⟩:=hW.hw;have hTl:(G8 (x.ctl+1)).length=x.ctl+1:=by simp[G8]
 have qR:lenD false (slB true 1 (x.ctlR x.ctl) none)=some (.int .i64 (x.ctl:Nat)):=by rw[Le];simp[CM.ctlR]
 refine Gf (F:=F46) rfl (by simp only[LP,snapVs,zs,zm]<;>exact rfl) rfl (by simp only[LP,zf,zm];try rfl) (by simp only[F46,zv]<;>exact rfl) (by omega) ?_;intro d he;obtain rfl:=Nat.succ.inj he;refine Ad (Ae rfl (xo3 ?_));refine xo1 ?_;refine xo1 ?_;apply Ac (by simp only[zl,zm,zd,Au,List.take,List.drop,hw,wO,wRow]<;>exact rfl);apply Ac (by simp only[zo,qR]<;>exact rfl);refine Ag rfl (Aa (Af ?_));refine Aq (Eh (fun n env S'=>∃(j:Nat) (m:Int) (K:List Zx) (lo:Nat) (w1:WM) (u3 u4 u5 u6 u7 u8 u9 u10:D),l≤j∧j≤x.ctl+1∧m=(j:Nat)-1∧WS K g gm gt x w1∧Keep H K∧WB w1 (b+44*(x.ctl+1-j))∧footN x j (j-l) w1=Ko x w l∧(lo≤max g gt∨w1=w)∧n=j∧S'=⟨K,lo⟩∧env=[.ptr g 0 0 0,.int .i64 (l:Nat),.int .i64 m,u3,u4,u5,u6,u7,u8,u9,u10]) (x.ctl+1) (by omega) (⟨x.ctl+1,_,_,_,w,_,_,_,_,_,_,_,_,hl,Nat.le_refl _,by omega,hW,Keep.refl _,by rw[Nat.sub_self];exact wQ,rfl,.inr rfl,by omega,rfl,rfl⟩) ?_);rintro n env S' ⟨j,m,K,lo,w1,u3,u4,u5,u6,u7,u8,u9,u10,hlj,hjc1,hm,yJ,wX,wo,he,xW,hnA,rfl,rfl⟩;obtain⟨linK,hwK,kP⟩:=yJ.hw;refine Ai (Ad (Ae rfl (Ae rfl (xo2 ?_))));refine Aa (Af ?_);refine Cc (by simp only[opd,zv]<;>exact rfl) (fun yj=>?_) (fun yj=>?_)
 ·
  have yK:l<j:=by have:=of_decide_eq_true yj;omega
  obtain⟨i0,rfl⟩:∃i0,j=i0+1:=⟨j-1,by omega⟩;obtain rfl:m=((i0:Nat):Int):=by omega
  have qG:i0<x.ctl+1:=by omega
  have hws:=wrap_sub ((i0:Nat):Int) (by omega) (by omega);have hT:=Ku (x:=x) wo (by omega) yJ.hn (k:=5) (lv:=i0) qG;obtain⟨H',lo',wr,h48,hW',hK',yP,hlm'⟩:=(Wj (d:=d0) (by omega) wo (by omega) yJ.hn hT (x.tg_all (by omega))).go lo yJ;obtain⟨linP,hwP,hlinP⟩:=hW'.hw
  have hBn:WB ((D7 x w1 (x.tg 5 i0)).clr i0) (b+44*(x.ctl+1-i0)):=by
   have:=(wo.pres (x:=x) (by omega) yJ.hn hT).clr i0;rwa [show b+44*(x.ctl+1-(i0+1))+44=b+44*(x.ctl+1-i0) by omega]at this
  have hen:footN x i0 (i0-l) ((D7 x w1 (x.tg 5 i0)).clr i0)=Ko x w l:=by
   rw[←he,show i0+1-l=(i0-l)+1 by omega];rfl
  have hln:lo'≤max g gt∨D7 x w1 (x.tg 5 i0)=w:=by
   rcases xW with h | h
   ·
    exact .inl (Nat.le_trans hlm' h)
   exact yP.imp_right fun h'=>h'.trans h
  refine Ak (Bh rfl (Ai (Aq (Ad (Ae rfl (Ae rfl (xo3 ?_)))))));refine xo1 ?_;apply Ac (by simp only[zl,zm,zd,Au,List.take,List.drop,wO,wRow,hwK]<;>exact rfl);refine Ae rfl (Qq ?_);apply Ac (by simp only[opd,zv,Ar,aop,LOp.loud,lop,if_true];exact congrArg (Option.map fun r=>(r,_,false)) (Rn yJ _ (.inr ⟨qG,.inr rfl⟩)));apply Ac (by simp only[zo];exact h48);refine Aa (Af ?_);refine Ad (Ae rfl (xo3 ?_));refine xo1 ?_;refine xo1 ?_;apply Ac (by simp only[zl,zm,zd,Au,List.take,List.drop,wO,wRow,hwP]<;>exact rfl);apply Ac (by simp only[zo,Ey,hTl]<;>exact rfl);refine Aw (Aa (Af ?_));refine Aq (Eh (fun n env S'=>∃(i:Nat) (K2:List Zx) (lo2:Nat) (u3 u4 u5 u9 u10:D),i≤x.ctl+1∧WS K2 g gm gt x (if i0<i then (D7 x w1 (x.tg 5 i0)).clr i0 else D7 x w1 (x.tg 5 i0))∧Keep H' K2∧(lo2≤max g gt∨(if i0<i then (D7 x w1 (x.tg 5 i0)).clr i0 else D7 x w1 (x.tg 5 i0))=w)∧n=x.ctl+1-i∧S'=⟨K2,lo2⟩∧env=[.ptr g 0 0 0,.int .i64 (l:Nat),.int .i64 (i0:Nat),u3,u4,u5,.sl 2 (G8 (x.ctl+1)) none,.int .i64 (x.ctl+1:Nat),.int .i64 (i:Nat),u9,u10]) (x.ctl+1) (by omega) (⟨0,_,_,_,_,_,_,_,by omega,by rw[if_neg (by omega)];exact hW',Keep.refl _,by rw[if_neg (by omega)];exact hln,by omega,rfl,rfl⟩) ?_);rintro n env S' ⟨i,K2,lo2,u3,u4,u5,u9,u10,hi,hWI,hKI,hloI,hnB,rfl,rfl⟩;obtain⟨linI,hwI,hlinI⟩:=hWI.hw;have hwI1:∀l,(K2++l)[g]?=_:=fun l=>Dc hwI l;have htI1:∀l,(K2++l)[gt]?=_:=fun l=>Dc hWI.ht l;have hslt:=trivial;have xq:=aI hwI (aI hwI1 (aI htI1 (hslt)));refine Ad (xo2 ?_);refine Aa (Af ?_);apply Ai;refine Cc (by simp only[opd,zv]<;>exact rfl) (fun zB=>?_) (fun zB=>?_)
  ·
   have hiT0:i<x.ctl+1:=by have:=of_decide_eq_true zB;omega
   have hiT:(((i:Nat):Int)<((x.ctl+1:Nat):Int))=True:=eq_true (by omega);have zU:((0:Int)≤((i:Nat):Int))=True:=eq_true (by omega);have yN:=D5 i (by omega);have hti:(G8 (x.ctl+1))[i]?=some [.int .i64 2,.int .i64 (i:Nat)]:=by simp[G8,hiT0]
   have xC:=aI hiT (aI zU (aI yN (hti)));refine Ak (Bh rfl (Ai (Aq (Ad (Ae rfl (Ac (by simp only[zl,zm,Ci,Int.toNat_natCast,xC]<;>exact rfl) ?_))))));refine Qo ?_;apply Ac (by simp only[zl,zm,xC]<;>exact rfl);refine Ag rfl (Ac (by simp only[zl,zm,Bf,overlay,Bc,zs,zc,zf,List.take,List.drop,xC]<;>exact rfl) ?_);refine Aa (Af ?_);refine Ad (xo41 ?_);refine Qo ?_;refine Ae rfl (xo36 ?_);refine Aa (Af ?_);refine Cc (by simp only[opd,zv,xC]<;>exact rfl) (fun rV=>?_) (fun rV=>?_)
   ·
    have hii:i=i0:=by have:=eq_of_beq rV;omega
    subst hii;rw[if_neg (by omega)]at hWI hloI;have vP:i<(D7 x w1 (x.tg 5 i)).tot.length:=by rw[hWI.hn];omega
    have hir:((D7 x w1 (x.tg 5 i)).tot.map dcR)[i]?=some (dcR (D7 x w1 (x.tg 5 i)).tot[i]):=by rw[Lp_,Lg vP];rfl
    rw[if_neg (by omega)]at htI1;have xP:=fun lo l=>store_tot (lo:=lo) (htI1 l) hir 0;have hWn:=(hWI.app [⟨67,2,[[.int .i64 2,.int .i64 (i:Nat)]],0,0,false⟩]).tot ((D7 x w1 (x.tg 5 i)).tot.set i 0) (by rw[List.length_set];exact hWI.hn);rw[List.map_set]at hWn;apply Fa (by simp only[newsVals,zw,Nat.reduceAdd]<;>exact rfl) (by simp only[zw]<;>exact rfl);refine Bq rfl rfl (Aj (by simp only[zo,xC]<;>exact rfl) rfl rfl ?_);apply Aj (by simp only[zo,Bz,zm,xC]<;>exact rfl) rfl rfl;apply Aj (by simp only[zo,Bz,zm,xC]<;>exact rfl) rfl rfl;refine Be (by simp only[zl,zm,zd,Au,List.take,List.drop,wO,wRow,xq,xC]<;>exact rfl) rfl ?_;refine Bq rfl rfl (Be (by simp only[zo,xC];exact Zr (by omega) _ 0 (by omega)) rfl ?_);refine Be (by simp only[zl,zm,Ez,Int.toNat_natCast,xq,xC]<;>exact rfl) rfl ?_;refine Be (by simp only[opd,zv,Ar,aop,LOp.loud,lop,if_true];exact congrArg (Option.map fun S'=>(D.undef,S',true)) (xP _ _)) rfl ?_;refine Cj (Ed (Af ?_));refine Am (xo36 ?_);refine Ag rfl (Aa (G6 (by simp only[ze]<;>exact rfl) ?_));exact⟨x.ctl+1-(i+1),by omega,i+1,_,_,_,_,_,_,_,by omega,by rw[if_pos (by omega)];exact hWn.1,hKI.trans ((Keep.app _ _).trans hWn.2),.inl (by omega),rfl,rfl,rfl⟩
   have hii:i≠i0:=by have:=ne_of_beq_false rV;omega
   have uX:(if i0<i+1 then (D7 x w1 (x.tg 5 i0)).clr i0 else D7 x w1 (x.tg 5 i0))=(if i0<i then (D7 x w1 (x.tg 5 i0)).clr i0 else D7 x w1 (x.tg 5 i0)):=by
    by_cases h:i0<i
    ·
     rw[if_pos h,if_pos (by omega)]
    rw[if_neg h,if_neg (by omega)]
   have hloI':=fun k=>hloI.imp_left fun h=>Nat.le_trans (Nat.min_le_left _ k) h;refine Ak (Ed (Bh rfl (Am (xo36 ?_))));refine Ag rfl (Aa (G6 (by simp only[ze]<;>exact rfl) ?_));exact⟨x.ctl+1-(i+1),by omega,i+1,_,_,_,_,_,_,_,by omega,by rw[uX];exact hWI.app _,hKI.trans (Keep.app _ _),by rw[uX];exact hloI' _,rfl,rfl,rfl⟩
  have yX:i=x.ctl+1:=by have:=of_decide_eq_false zB;omega
  subst yX;rw[if_pos qG]at hWI hloI;refine Dk (Hl (Jb (Ht (Ed (Bh rfl (Am (Ae rfl (Ac (by simp only[zo,Bd,hws]<;>exact rfl) ?_))))))));refine Ag rfl (Aa (G6 (by simp only[ze]<;>exact rfl) ?_));exact⟨i0,by omega,i0,_,_,_,(D7 x w1 (x.tg 5 i0)).clr i0,_,_,_,_,_,_,_,_,by omega,by omega,by omega,hWI,wX.trans (hK'.trans hKI),hBn,hen,hloI,rfl,rfl,rfl⟩
 have yX:j=l:=by have:=of_decide_eq_false yj;omega
 subst yX;rw[Nat.sub_self]at he;have he2:w1=Ko x w j:=he;subst he2;refine Dk (Hl (Jb (Ht ?_)));obtain⟨r,zK,y5⟩:=Jt (S:=⟨H,low⟩) (S':=⟨K,lo⟩) hW yJ wX xW;refine⟨r,zK,?_⟩;refine⟨_,by simp only[F46,resultD,Ba]<;>exact rfl,?_⟩;exact y5
theorem none_run{d:Nat}(hd:1≤d){H:List Zx}(low:Nat){g gm gt:Nat}{x:CM}{w:WM}(hW:WS H g gm gt x w):A7 LP NN d 36 [.ptr g 0 0 0] ⟨H,low⟩=some (.bool false,⟨H,low⟩,false):=by
 obtain⟨lin,hw,yx⟩:=hW.hw;refine Gm (F:=F36) rfl (by simp only[LP,snapVs,zs,zm]<;>exact rfl) rfl (by simp only[LP,zf,zm];try rfl) (by simp only[F36,zv]<;>exact rfl) (by omega) ?_;rintro d rfl;refine Ad (Aw (Aa (Af ?_)));refine Ad (Ae rfl (Ac (by simp only[zl,zm,eqpD]<;>exact rfl) ?_));refine Ag rfl (Ep 0 (b:=false) ?_);refine Ap rfl (Ae rfl (Ap rfl (xo3 ?_)));refine Ap rfl (xo1 ?_);refine Ap rfl (Ac (by simp only[zl,zm,zd,Au,List.take,List.drop,hw,wO,wRow]<;>exact rfl) ?_);refine Ap rfl (Xp ?_);refine xo3 ?_;refine Ag rfl (Aa (Af ?_));apply Az;refine⟨_,by simp only[F36,resultD,Ba,resD,zg]<;>exact rfl,?_⟩;exact Fh _ _ _ _ (Nat.le_refl _) rfl (fun _ _=>rfl)
theorem copied_tab(d:Nat)(S:St)(a b n0 n1 n2:Int)(c:Option Nat):E8 LP NN (d+4) 42 [.sl 12 [shT 1++[.sl 1 [[.int .u8 a]] none],shT 1++[.sl 1 [[.int .u8 b]] none],shN 3++[.sl 1 [[.int .u8 n0],[.int .u8 n1],[.int .u8 n2]] none]] c] S=some (.sl 12 [shT 1++[.sl 1 [[.int .u8 a]] none],shT 1++[.sl 1 [[.int .u8 b]] none],shN 3++[.sl 1 [[.int .u8 n0],[.int .u8 n1],[.int .u8 n2]] none]] (some 3),S,false):=by kernel_rfl
theorem Vs{d:Nat}(hd:4≤d)(S:St)(y:RM)(c:Option Nat):A7 LP NN d 42 [.sl 12 y.fld c] S=some (.sl 12 y.fld (some 3),S,false):=by
 obtain⟨d,rfl⟩:∃e,d=e+4:=⟨d-4,by omega⟩
 obtain⟨n0,n1,n2,e⟩:∃a b c,Bv y.N 3=[a,b,c]:=by
  have:=Cm y.N 3
  match h:Bv y.N 3,this with
  | [a,b,c],_=>exact⟨a,b,c,rfl⟩
 apply fast_ok;rw[RM.fld,e];exact copied_tab d S _ _ _ _ _ c
theorem equal_run{d:Nat}(hd:1≤d)(S:St)(a b:List UInt8)(c c':Option Nat):A7 LP NN d 79 [.sl 1 (bR a) c,.sl 1 (bR b) c'] S=some (.bool (decide (a=b)),S,false):=by
 refine rq (F:=F79) rfl (by simp only[LP,snapVs,zs,zm]<;>exact rfl) (by simp only[F79,zv]<;>exact rfl) ?_;rintro d rfl;refine Ad (Aw (Aa (Af ?_)));refine Ad (Ae rfl (Ac (by simp only[zl,zm,Eu,Hr,zm,Hr]<;>exact rfl) ?_));refine Ae rfl (Ac (by simp only[zl,zm,Eu,Hr,zm,Hr]<;>exact rfl) ?_);refine xo2 ?_;refine Ag rfl (Aa (Af ?_));apply Az;refine⟨_,by simp only[F79,resultD,Ba,resD,zg]<;>exact rfl,?_⟩;show leaveP _ (D.bool ((mkS a).toList==(mkS b).toList)) _=_;rw[Dz,Dz,show (a==b)=decide (a=b) by rw[Bool.eq_iff_iff];simp];rfl
theorem wcheck_run{d:Nat}(hd:20≤d){H:List Zx}(low:Nat){g gm gt:Nat}{x:CM}{w:WM}(hW:WS H g gm gt x w)(y:RM)(c:Option Nat):A7 LP NN d 39 [.ptr g 0 0 0,.sl 12 y.fld c] ⟨H,low⟩=some (.int .i64 0,⟨H,low⟩,false):=by
 obtain⟨lin,hw,yx⟩:=hW.hw;have hy3:((y.fld.length:Nat):Int)=3:=rfl;have hF3:lenD false (Gx true)=some (.int .i64 3):=rfl;refine Gm (F:=F39) rfl (by simp only[LP,snapVs,zs,zm]<;>exact rfl) rfl (by simp only[LP,zf,zm];try rfl) (by simp only[F39,zv]<;>exact rfl) (by omega) ?_;rintro d rfl;refine Ad (Aw (Aa (Af ?_)));refine Ai (Ad (Ae rfl (Ac (by simp only[zo,Ey,hy3]<;>exact rfl) ?_)));refine Ae rfl (xo3 ?_);refine xo1 ?_;refine xo1 ?_;apply Ac (by simp only[zl,zm,zd,Au,List.take,List.drop,hw,wO,wRow]<;>exact rfl);apply Ac (by simp only[zo,hF3]<;>exact rfl);refine xo2 ?_;refine Aa (Af ?_);refine Dx ?_;refine Ak (Bh rfl (Ai (Ad (Ae rfl (Ac (by simp only[zo,Ey,hy3]<;>exact rfl) ?_)))));refine Aw (Aa (Af ?_));refine Aq (Eh (fun n env S'=>∃(i:Nat) (K:List Zx) (lo:Nat) (u2 u3 u4 u5 u9 u10 u11:D),i≤3∧K[g]?=some (wO x gm (.int .i64 (w.page:Nat)) (.int .i64 (w.line:Nat)) w.body (Jd w.row) (.msl gt x.ctl 0 (x.ctl+1) none) lin w.ended)∧H.length≤K.length∧H.length≤lo∧n=3-i∧S'=⟨K,lo⟩∧env=[.ptr g 0 0 0,.sl 12 y.fld c,u2,u3,u4,u5,.sl 12 y.fld c,.int .i64 3,.int .i64 (i:Nat),u9,u10,u11]) (3) (by omega) (⟨0,_,_,_,_,_,_,_,_,_,by omega,hw,Nat.le_refl _,Nat.le_refl _,by omega,rfl,rfl⟩) ?_);rintro n env S' ⟨i,K,lo,u2,u3,u4,u5,u9,u10,u11,hi,vY,hKl,xW,hnA,rfl,rfl⟩;have hKw1:∀l,(K++l)[g]?=_:=fun l=>Dc vY l;refine Ad (xo2 ?_);refine Aa (Af ?_);apply Ai;refine Cc (by simp only[opd,zv]<;>exact rfl) (fun yj=>?_) (fun yj=>?_)
 ·
  have hi3:i<3:=by have:=of_decide_eq_true yj;omega
  have zU:((0:Int)≤((i:Nat):Int))=True:=eq_true (by omega);have yN:=D5 i (by omega);rcases (by omega:i<2∨i=2) with h2 | rfl
  ·
   have hfi:y.fld[i]?=some (shT 1++[.sl 1 (bR [if i=0 then y.A else y.B]) none]):=by
    rcases (by omega:i=0∨i=1) with rfl | rfl<;>rfl
   have hFi:∀S,Je S 11 (Gx true) (.int .i64 (i:Nat))=some (.cptr (shT 1) 0):=fun S=>by
    rcases (by omega:i=0∨i=1) with rfl | rfl<;>rfl
   have hEQ:Dj [0,0,1,0,0,2,2,2,2,2,0] (shT 1) (shT 1)=some true:=by decide +kernel
   refine Ak (Bh rfl (Ai (Aq (Ad (Ae rfl (Ac (by simp only[zl,zm,Ci,Int.toNat_natCast,zU,hfi,shT]<;>exact rfl) ?_))))));refine xo0 ?_;refine Kt ?_;refine Ag rfl (Uo ?_);refine Aa (Af ?_);refine Ai (Ai (Fa (by simp only[newsVals,zw,Nat.reduceAdd]<;>exact rfl) (by simp only[zw]<;>exact rfl) ?_));refine xo4 rfl rfl ?_;refine xo6 rfl ?_;refine Bq rfl rfl (xo8 rfl rfl ?_);refine xo4 rfl rfl ?_;refine xo4 rfl rfl ?_;refine Be (by simp only[zl,zm,zd,Au,List.take,List.drop,wO,wRow,hKw1]<;>exact rfl) rfl ?_;refine Bq rfl rfl (Ce (by simp only[zl,zm,hFi,shT]<;>exact rfl) (by simp only[fpHere,zo]<;>exact rfl) rfl ?_);refine xo6 rfl ?_;apply Aj (by simp only[zo];exact congrArg (Option.map fun b=>(D.bool (b != true),_,false)) hEQ) rfl rfl;refine Cj (Af ?_);refine Dx ?_;refine Ak (Bh rfl (Ad (xo1 ?_)));refine xo0 ?_;apply Ac (by simp only[zo,Ey,Nb]<;>exact rfl);refine xo1 ?_;refine xo1 ?_;refine xo0 ?_;refine xo2 ?_;refine Ag rfl (Ep 0 (b:=false) ?_);refine Ap rfl (xo1 ?_);refine Ap rfl (xo1 ?_);refine Ap rfl (xo0 ?_);refine Ap rfl (xo2 ?_);refine Ap rfl (Ag rfl (Ep 0 (b:=false) ?_));refine Dh rfl rfl (Dh rfl rfl (Dh rfl rfl (Ap rfl (xo3 ?_))));refine xo3 ?_;refine Aa (Af ?_);apply A8 (by simp only[opd,zv]);refine Ak (Ed (Bh rfl (Am (Ac (by simp only[zo,Bd,yN]<;>exact rfl) ?_))));refine Ag rfl (Aa (G6 (by simp only[ze]<;>exact rfl) ?_));exact⟨3-(i+1),by omega,i+1,_,_,_,_,_,_,_,_,_,by omega,Dc vY _,by simp;omega,by omega,rfl,rfl,rfl⟩
  have hfi:y.fld[2]?=some (shN 3++[.sl 1 (bR (Bv y.N 3)) none]):=rfl;have hFi:∀S,Je S 11 (Gx true) (.int .i64 (2:Nat))=some (.cptr (shN 3) 0):=fun S=>rfl;have hEQ:Dj [0,0,1,0,0,2,2,2,2,2,0] (shN 3) (shN 3)=some true:=by decide +kernel
  refine Ak (Bh rfl (Ai (Aq (Ad (Ae rfl (Ac (by simp only[zl,zm,Ci,Int.toNat_natCast,zU,hfi,shN]<;>exact rfl) ?_))))));refine xo0 ?_;refine Kt ?_;refine Ag rfl (Uo ?_);refine Aa (Af ?_);refine Ai (Ai (Fa (by simp only[newsVals,zw,Nat.reduceAdd]<;>exact rfl) (by simp only[zw]<;>exact rfl) ?_));refine xo4 rfl rfl ?_;refine xo6 rfl ?_;refine Bq rfl rfl (xo8 rfl rfl ?_);refine xo4 rfl rfl ?_;refine xo4 rfl rfl ?_;refine Be (by simp only[zl,zm,zd,Au,List.take,List.drop,wO,wRow,hKw1]<;>exact rfl) rfl ?_;refine Bq rfl rfl (Ce (by simp only[zl,zm,hFi,shN]<;>exact rfl) (by simp only[fpHere,zo]<;>exact rfl) rfl ?_);refine xo6 rfl ?_;apply Aj (by simp only[zo];exact congrArg (Option.map fun b=>(D.bool (b != true),_,false)) hEQ) rfl rfl;refine Cj (Af ?_);refine Dx ?_;refine Ak (Bh rfl (Ad (xo1 ?_)));refine xo0 ?_;apply Ac (by simp only[zo,Ey,Nb,Cm]<;>exact rfl);refine xo1 ?_;refine xo1 ?_;refine xo0 ?_;refine xo2 ?_;refine Ag rfl (Ep 0 (b:=false) ?_);refine Ap rfl (xo1 ?_);refine Ap rfl (xo1 ?_);refine Ap rfl (xo0 ?_);refine Ap rfl (xo2 ?_);refine Ap rfl (Ag rfl (Ep 0 (b:=true) ?_));refine Ap rfl (xo0 ?_);refine Ap rfl (Ac (by simp only[zo];exact ucheck_run (n:=3) (by omega) _ (by omega) (by omega) (Xd _ (by omega)) (Cm _ _) none) ?_);refine Ap rfl (xo2 ?_);refine Ap rfl (xo3 ?_);refine xo3 ?_;refine Aa (Af ?_);refine Dx ?_;refine Ak (Ed (Bh rfl (Am (Ac (by simp only[zo,Bd,yN]<;>exact rfl) ?_))));refine Ag rfl (Aa (G6 (by simp only[ze]<;>exact rfl) ?_));exact⟨3-(2+1),by omega,2+1,_,_,_,_,_,_,_,_,_,by omega,Dc vY _,by simp;omega,by omega,rfl,rfl,rfl⟩
 refine Dk (Hl (Jb (Ht (Bh rfl (Ad (Aw (Aa (Af ?_))))))));apply Az;refine⟨_,by simp only[F39,resultD,Ba,resD,zg]<;>exact rfl,?_⟩;exact Fh _ _ _ _ xW rfl (fun _ _=>rfl)
def RM.key (y:RM) (i:Nat):UInt8:=if i=0 then y.A else y.B
def Xl (y0 y:RM) (c:Nat):Int:=if 1≤c∧y0.A≠y.A then 1 else if 2≤c∧y0.B≠y.B then 2 else -1
theorem broken_run{d:Nat}(hd:2≤d){H:List Zx}(low:Nat){g gm gt:Nat}{x:CM}{w:WM}(hW:WS H g gm gt x w){y0:RM}(xU:w.row=some y0)(y:RM)(c:Option Nat):A7 LP NN d 45 [.ptr g 0 0 0,.sl 12 y.fld c] ⟨H,low⟩=some (.int .i64 (Xl y0 y x.ctl),⟨H,low⟩,false):=by
 obtain⟨lin,hw,yx⟩:=hW.hw;have hct:=x.ctl_lt;have qR:lenD false (slB true 1 (x.ctlR x.ctl) none)=some (.int .i64 (x.ctl:Nat)):=by rw[Le];simp[CM.ctlR]
 refine Gm (F:=F45) rfl (by simp only[LP,snapVs,zs,zm]<;>exact rfl) rfl (by simp only[LP,zf,zm];try rfl) (by simp only[F45,zv]<;>exact rfl) (by omega) ?_;rintro d rfl;refine Ad (Aw (Aa (Af ?_)));refine Ai (Ad (Ae rfl (xo3 ?_)));refine xo1 ?_;refine xo1 ?_;apply Ac (by simp only[zl,zm,zd,Au,List.take,List.drop,hw,wO,wRow,xU,Jd]<;>exact rfl);apply Ac (by simp only[zo,qR]<;>exact rfl);refine Aw (Aa (Af ?_));refine Aq (Eh (fun n env S'=>∃(i:Nat) (u2 u3 u4 u8 u9:D),i≤x.ctl∧(∀k,k<i→y0.key k=y.key k)∧n=x.ctl-i∧S'=⟨H,H.length⟩∧env=[.ptr g 0 0 0,.sl 12 y.fld c,u2,u3,u4,slB true 1 (x.ctlR x.ctl) none,.int .i64 (x.ctl:Nat),.int .i64 (i:Nat),u8,u9]) (x.ctl) (by omega) (⟨0,_,_,_,_,_,by omega,fun k h=>by omega,by omega,rfl,rfl⟩) ?_);rintro n env S' ⟨i,u2,u3,u4,u8,u9,hi,hks,hnA,rfl,rfl⟩;refine Ad (xo2 ?_);refine Aa (Af ?_);apply Ai;refine Cc (by simp only[opd,zv]<;>exact rfl) (fun yj=>?_) (fun yj=>?_)
 ·
  have qG:i<x.ctl:=by have:=of_decide_eq_true yj;omega
  have hiT:(((i:Nat):Int)<((x.ctl:Nat):Int))=True:=eq_true (by omega);have zU:((0:Int)≤((i:Nat):Int))=True:=eq_true (by omega);have yN:=D5 i (by omega);have hCe:slB true 1 (x.ctlR x.ctl) none=.sl 1 (x.ctlR x.ctl) none:=Gq (by simp[CM.ctlR];omega);have hci:(x.ctlR x.ctl)[i]?=some [.int .i64 (i:Nat)]:=by simp[CM.ctlR,qG]
  have hfi:∀z:RM,z.fld[i]?=some (shT 1++[.sl 1 (bR [z.key i]) none]):=fun z=>by
   rcases (by omega:i=0∨i=1) with rfl | rfl<;>rfl
  have xq:=aI hiT (aI zU (aI yN (aI hCe (aI hci (hfi)))));refine Ak (Bh rfl (Ai (Aq (Ad (Ae rfl (Ac (by simp only[zl,zm,Ci,Int.toNat_natCast,xq]<;>exact rfl) ?_))))));refine Kq ?_;refine Ag rfl (Ag rfl (Aa (Af ?_)));refine Ai (Fb ?_);refine Bq rfl rfl (Bq rfl rfl (Be (by simp only[zl,zm,Ci,Int.toNat_natCast,shT,xq]<;>exact rfl) rfl ?_));apply Aj (by simp only[zo,Dw,zm,xq]<;>exact rfl) rfl rfl;refine xo44 rfl ?_;refine Bq rfl rfl (Aj (by simp only[zo,xq]<;>exact rfl) rfl rfl ?_);refine U2 rfl rfl ?_;refine U2 rfl rfl ?_;refine Be (by simp only[zl,zm,zd,Au,List.take,List.drop,hw,wO,wRow,xU,Jd,xq]<;>exact rfl) rfl ?_;refine Bq rfl rfl (Be (by simp only[zl,zm,Ci,Int.toNat_natCast,shT,xq]<;>exact rfl) rfl ?_);apply Aj (by simp only[zo,Dw,zm,xq]<;>exact rfl) rfl rfl;refine xo44 rfl ?_;refine Be (by simp only[zo,xq];exact equal_run (by omega) _ [y.key i] [y0.key i] none none) rfl ?_;apply Aj (by simp only[zo,unD,xq]<;>exact rfl) rfl rfl;refine Cj (Af ?_);refine Cc (by simp only[opd,zv,xq]<;>exact rfl) (fun xZ=>?_) (fun xZ=>?_)
  ·
   have xu:y0.key i≠y.key i:=fun h=>by rw[h]at xZ;simp at xZ
   refine Ad (Ae rfl (Qw ?_));refine Ag rfl (Aa (Af ?_));refine Az (bk_r (Oq (lk_r (bk_r (Oq ?_)))))
   have e:Xl y0 y x.ctl=((i+1:Nat):Int):=by
    unfold Xl;rcases (by omega:i=0∨i=1) with rfl | rfl
    ·
     rw[if_pos ⟨by omega,xu⟩];rfl
    have h0:=hks 0 (by omega);rw[if_neg (fun h=>h.2 h0),if_pos ⟨by omega,xu⟩];rfl
   rw[e];refine⟨_,by simp only[F45,resultD,Ba,resD,zg]<;>exact rfl,?_⟩;exact Fh _ _ _ _ (Nat.le_refl _) rfl (fun _ _=>rfl)
  have hke:y0.key i=y.key i:=by simp at xZ;exact xZ.symm
  have hks':∀k,k<i+1→y0.key k=y.key k:=fun k h=>by
   rcases (by omega:k<i∨k=i) with h1 | h1
   ·
    exact hks k h1
   exact h1▸hke
  refine Ak (Ed (Bh rfl (Am (Qw ?_))));refine Ag rfl (Aa (G6 (by simp only[ze]<;>exact rfl) ?_));exact⟨x.ctl-(i+1),by omega,i+1,_,_,_,_,_,by omega,hks',rfl,rfl,rfl⟩
 have yX:i=x.ctl:=by have:=of_decide_eq_false yj;omega
 subst yX;refine Dk (Hl (Jb (Ht (Bh rfl (Ad (Aw (Aa (Af ?_))))))));apply Az
 have e:Xl y0 y x.ctl=-1:=by
  unfold Xl;rw[if_neg (fun h=>h.2 (hks 0 (by omega))),if_neg (fun h=>h.2 (hks 1 (by omega)))]
 rw[e];refine⟨_,by simp only[F45,resultD,Ba,resD,zg]<;>exact rfl,?_⟩;exact Fh _ _ _ _ (Nat.le_refl _) rfl (fun _ _=>rfl)
def Uu (w:WM) (N i:Nat):WM:={ w with tot:=(w.tot.take i).map (·+N)++w.tot.drop i }
def addW (w:WM) (N:Nat):WM:={ w with tot:=w.tot.map (·+N) }
theorem addP_get(w:WM)(N i:Nat)(h:i<w.tot.length):(Uu w N i).tot[i]?=some w.tot[i]:=by
 simp only[Uu];rw[Lr_ (by simp;omega)];simp[List.getElem?_drop,h,Nat.min_eq_left (Nat.le_of_lt h)]
theorem addP_step(w:WM)(N i:Nat)(h:i<w.tot.length):(Uu w N i).tot.set i (w.tot[i]+N)=(Uu w N (i+1)).tot:=by
 have h1:((w.tot.take i).map (·+N)).length=i:=by simp;omega
 show ((w.tot.take i).map (·+N)++w.tot.drop i).set i _=(w.tot.take (i+1)).map (·+N)++w.tot.drop (i+1);rw[List.set_append_right _ _ (by omega),h1,Nat.sub_self,List.drop_eq_getElem_cons h,List.set_cons_zero,List.take_add_one,Lg h];simp only[Option.toList_some,List.map_append,List.map_cons,List.map_nil,Lo_,List.cons_append,List.nil_append]
theorem wadd_run{d:Nat}(hd:21≤d){g gm gt:Nat}{x:CM}{w:WM}{y:RM}(xU:w.row=some y)(hn:w.tot.length=x.ctl+1)(htot:∀m∈w.tot,m<10 ^ 14):WF d 47 [] g gm gt x w (addW w y.N):=by
 intro H low hW;obtain⟨d0,rfl⟩:∃e,d=e+1:=⟨d-1,by omega⟩;have hct:=x.ctl_lt;have hN:y.N<1000:=Nat.mod_lt _ (by decide);obtain⟨lin,hw,yx⟩:=hW.hw;have hTl:(G8 (x.ctl+1)).length=x.ctl+1:=by simp[G8]
 have hW0:WS H g gm gt x (Uu w y.N 0):=by
  have:Uu w y.N 0=w:=by simp[Uu]
  rw[this];exact hW
 have hrowP:∀N i,(Uu w N i).row=some y:=fun _ _=>xU
 have yc:∀S,A7 LP NN d0 80 [.agg (shN 3++[.sl 1 (bR (Bv y.N 3)) none])] S=some (.tup [dcD y.N,.int .i64 0],S,false):=fun S=>by
  have:=uget_run (d:=d0) (n:=3) (by omega) S (by omega) (by omega) (Xd y.N (by omega)) (Cm y.N 3) none;rw[Ib (n:=y.N) (k:=3) (by omega) (by omega) (by omega)]at this;exact this
 refine Gf (F:=F47) rfl (by simp only[LP,snapVs,zs,zm]<;>exact rfl) rfl (by simp only[LP,zf,zm];try rfl) (by simp only[F47,zv]<;>exact rfl) (by omega) ?_;intro d he;obtain rfl:=Nat.succ.inj he;have xC:=aI hw (aI xU (aI hrowP (hTl)));refine Ad (Ae rfl (xo3 ?_));refine xo1 ?_;refine xo1 ?_;apply Ac (by simp only[zl,zm,zd,Au,List.take,List.drop,wO,wRow,Jd,xC]<;>exact rfl);apply Ac (by simp only[zo,Ey,xC]<;>exact rfl);refine Aw (Aa (Af ?_));refine Aq (Eh (fun n env S'=>∃(i:Nat) (K:List Zx) (lo:Nat) (u1 u2 u3 u7:D),i≤x.ctl+1∧WS K g gm gt x (Uu w y.N i)∧Keep H K∧(lo≤max g gt∨i=0)∧n=x.ctl+1-i∧S'=⟨K,lo⟩∧env=[.ptr g 0 0 0,u1,u2,u3,.sl 2 (G8 (x.ctl+1)) none,.int .i64 (x.ctl+1:Nat),.int .i64 (i:Nat),u7]) (x.ctl+1) (by omega) (⟨0,_,_,_,_,_,_,by omega,hW0,Keep.refl _,.inr rfl,by omega,rfl,rfl⟩) ?_);rintro n env S' ⟨i,K,lo,u1,u2,u3,u7,hi,yJ,wX,xW,hnA,rfl,rfl⟩;obtain⟨linK,hwK,kP⟩:=yJ.hw;have hwK1:∀l,(K++l)[g]?=_:=fun l=>Dc hwK l;have htK1:∀l,(K++l)[gt]?=_:=fun l=>Dc yJ.ht l;refine Ad (xo2 ?_);refine Aa (Af ?_);apply Ai;refine Cc (by simp only[opd,zv]<;>exact rfl) (fun yj=>?_) (fun yj=>?_)
 ·
  have qG:i<x.ctl+1:=by have:=of_decide_eq_true yj;omega
  have hiT:(((i:Nat):Int)<((x.ctl+1:Nat):Int))=True:=eq_true (by omega);have zU:((0:Int)≤((i:Nat):Int))=True:=eq_true (by omega);have yN:=D5 i (by omega);have hti:(G8 (x.ctl+1))[i]?=some [.int .i64 2,.int .i64 (i:Nat)]:=by simp[G8,qG]
  have vP:i<w.tot.length:=by rw[hn];omega
  have hf2:y.fld[2]?=some (shN 3++[.sl 1 (bR (Bv y.N 3)) none]):=rfl;have hir:((Uu w y.N i).tot.map dcR)[i]?=some (dcR w.tot[i]):=by rw[Lp_,addP_get w y.N i vP];rfl
  have hm1:w.tot[i]<10 ^ 14:=htot _ (List.getElem_mem vP);have xP:=fun lo l=>store_tot (lo:=lo) (htK1 l) hir (w.tot[i]+y.N);have hWn:=(yJ.app [⟨67,2,[[.int .i64 2,.int .i64 (i:Nat)]],0,0,false⟩,⟨57,3,[dcR y.N],0,0,false⟩]).tot ((Uu w y.N i).tot.set i (w.tot[i]+y.N)) (by rw[List.length_set];exact yJ.hn);rw[List.map_set]at hWn;have hWn1:=hWn.1;have hst1:({ Uu w y.N i with tot:=(Uu w y.N i).tot.set i (w.tot[i]+y.N) }:WM)=Uu w y.N (i+1):=by rw[addP_step w y.N i vP];rfl
  rw[hst1]at hWn1;have xM:=aI hiT (aI zU (aI yN (aI hti (aI hf2 (hir)))));refine Ak (Bh rfl (Ai (Aq (Ad (Ae rfl (Ac (by simp only[zl,zm,Ci,Int.toNat_natCast,xM]<;>exact rfl) ?_))))));refine xo64 ?_;apply Ac (by simp only[zl,zm,xM]<;>exact rfl);refine Ag rfl (Ac (by simp only[zl,zm,Bf,overlay,Bc,zs,zc,zf,List.take,List.drop,xM]<;>exact rfl) ?_);refine Aa (Af ?_);refine Ai (Fa (by simp only[newsVals,zw,Nat.reduceAdd]<;>exact rfl) (by simp only[zw,newsObj]<;>exact rfl) ?_);refine Bq rfl rfl (Aj (by simp only[zo,xM]<;>exact rfl) rfl rfl ?_);refine xo27 rfl rfl ?_;refine xo27 rfl rfl ?_;refine Be (by simp only[zl,zm,zd,Au,List.take,List.drop,wO,wRow,Jd,xC,hwK1,xM]<;>exact rfl) rfl ?_;refine xo27 rfl rfl ?_;refine Be (by simp only[zl,zm,zd,Au,List.take,List.drop,xM]<;>exact rfl) rfl ?_;refine Be (by simp only[zl,zm,Ci,xM]<;>exact rfl) rfl ?_;refine Be (by simp only[zl,zm,zd,Au,List.take,List.drop,shN,xM]<;>exact rfl) rfl ?_;refine Be (by simp only[zo,shN,List.cons_append,List.nil_append,xM];exact yc _) rfl ?_;refine Ew rfl rfl (Aj (by simp only[zo,Lz,shN,List.cons_append,List.nil_append,xM]<;>exact rfl) rfl rfl ?_);apply Aj (by simp only[zo,Lz,Ls_,shN,List.cons_append,List.nil_append,xM]<;>exact rfl) rfl rfl;apply Ce (by simp only[zo]<;>exact rfl) (by simp only[fpHere]<;>exact rfl) rfl;refine Be (by simp only[zl,zm,Bf,overlay,List.take,shN,xM]<;>exact rfl) rfl ?_;refine Ew rfl rfl (Cj (Af ?_));apply Fa (by simp only[newsVals,zw,Nat.reduceAdd]<;>exact rfl) (by simp only[zw]<;>exact rfl);refine Bq rfl rfl (Aj (by simp only[zo,xM]<;>exact rfl) rfl rfl ?_);refine xo27 rfl rfl ?_;refine xo27 rfl rfl ?_;refine Be (by simp only[zl,zm,zd,Au,List.take,List.drop,wO,wRow,Jd,xC,hwK1,xM]<;>exact rfl) rfl ?_;refine Bq rfl rfl (Bq rfl rfl (Aj (by simp only[zo,xM]<;>exact rfl) rfl rfl ?_));refine xo27 rfl rfl ?_;refine xo27 rfl rfl ?_;refine Be (by simp only[zl,zm,zd,Au,List.take,List.drop,wO,wRow,Jd,xC,hwK1,xM]<;>exact rfl) rfl ?_;refine Bq rfl rfl (Be (by simp only[zl,zm,Ez,Int.toNat_natCast,htK1,xM]<;>exact rfl) rfl ?_);refine Be (by simp only[zl,zm,zd,Au,List.take,List.drop,dcR,htK1,xM]<;>exact rfl) rfl ?_;refine Be (by simp only[zl,zm,zd,Au,List.drop,xM]<;>exact rfl) rfl ?_;refine Be (by simp only[zo,xM];exact add_run (by omega) _ (by omega) (by omega)) rfl ?_;refine Ew rfl rfl (Aj (by simp only[zo,Lz,xM]<;>exact rfl) rfl rfl ?_);apply Aj (by simp only[zo,Lz,Ls_,xM]<;>exact rfl) rfl rfl;refine Be (by simp only[zl,zm,Ez,Int.toNat_natCast,htK1,xM]<;>exact rfl) rfl ?_;refine Be (by simp only[opd,zv,Ar,aop,LOp.loud,lop,if_true];exact congrArg (Option.map fun S'=>(D.undef,S',true)) (xP _ _)) rfl ?_;refine Cj (Ed (Af ?_));refine Am (Ac (by simp only[zo,Bd,dcR,xM]<;>exact rfl) ?_);refine Ag rfl (Aa (G6 (by simp only[ze]<;>exact rfl) ?_));exact⟨x.ctl+1-(i+1),by omega,i+1,_,_,_,_,_,_,by omega,hWn1,wX.trans ((Keep.app _ _).trans hWn.2),.inl (by omega),rfl,rfl,rfl⟩
 have yX:i=x.ctl+1:=by have:=of_decide_eq_false yj;omega
 subst yX;have hae:Uu w y.N (x.ctl+1)=addW w y.N:=by simp[Uu,addW,List.take_of_length_le,List.drop_eq_nil_of_le,hn]
 rw[hae]at yJ;refine Dk (Hl (Jb (Ht ?_)));obtain⟨r,zK,y5⟩:=Jt (S:=⟨H,low⟩) (S':=⟨K,lo⟩) hW yJ wX (xW.imp_right fun h=>by omega);refine⟨r,zK,?_⟩;refine⟨_,by simp only[F47,resultD,Ba]<;>exact rfl,?_⟩;exact y5
theorem slice_full(S:St)(rows:List (List D))(c:Option Nat):Nu S 3 (.sl 3 rows c) none (some (.int .i64 (rows.length:Nat))) (some (.int .i64 (rows.length:Nat)))=some (.sl 3 rows (some rows.length)):=by
 simp[Nu,Fv,J7,Ig]
theorem clip_nil(d:Nat)(S:St):E8 LP NN (d+1) 37 [.nils] S=some (.nils,S,false):=by kernel_rfl
theorem oclone_nil(d:Nat)(S:St):E8 LP NN (d+1) 38 [.nils] S=some (.nils,S,false):=by kernel_rfl
theorem clip_sl{d:Nat}(hd:1≤d)(S:St)(rows:List (List D))(c:Option Nat):A7 LP NN d 37 [.sl 3 rows c] S=some (.sl 3 rows (some rows.length),S,false):=by
 refine rq (F:=F37) rfl (by simp only[LP,snapVs,zs,zm]<;>exact rfl) (by simp only[F37,zv]<;>exact rfl) ?_;rintro d rfl;refine Ad (Aw (Aa (Af ?_)));refine Ad (Ae rfl (Ae rfl (Ac (by simp only[zo,Ey]<;>exact rfl) ?_)));refine Ae rfl (Ac (by simp only[zo,Ey]<;>exact rfl) ?_);apply Ac (by simp only[opd,zv,Ar,aop,LOp.loud,lop,if_true,Eg];rw[slice_full];exact rfl);refine Ag rfl (Aa (Af ?_));apply Az;refine⟨_,by simp only[F37,resultD,Ba,resD,zg]<;>exact rfl,?_⟩;rfl
theorem oclone_sl{d:Nat}(hd:1≤d)(S:St)(rows:List (List D))(hr:rows.length≠0)(y5:rows.length≤100000)(c:Option Nat):A7 LP NN d 38 [.sl 3 rows c] S=some (.sl 3 rows none,S,false):=by
 refine rq (F:=F38) rfl (by simp only[LP,snapVs,zs,zm]<;>exact rfl) (by simp only[F38,zv]<;>exact rfl) ?_;rintro d rfl;refine Ad (Aw (Aa (Af ?_)));refine Ai (Ad (Ae rfl (Xp ?_)));refine Aa (Af ?_);refine Dx ?_;refine Ak (Bh rfl (Ad (xo47 ?_)));refine Ae rfl (Ac (by simp only[opd,zv,Ar,aop,LOp.loud,lop,if_true];exact Xn 52 3 32 1 (by decide) hr (by omega) c _) ?_);refine Ag rfl (Aa (Af ?_));apply Az;refine⟨_,by simp only[F38,resultD,Ba,resD,zg,zm]<;>exact rfl,?_⟩;simp[leaveP,leave,Z7,Z4,snap,newAt,D.Z5,D.freeV,D.free];rfl
def J3 (rows:List (List D)):D:=if rows.isEmpty then .nils else .sl 3 rows (some rows.length)
theorem clipR_ne{rows:List (List D)}(h:rows≠[]):J3 rows=.sl 3 rows (some rows.length):=by cases rows<;>simp_all [J3]
theorem LinAt.snapA{H:List Zx}{d:D}{rows:List (List D)}(h:LinAt H d rows)(m:Nat):∃y,snapVs m H [d]=some [y]∧snapVs m H [y]=some [y]∧((rows=[]∧y=.nils)∨(rows≠[]∧∃c,y=.sl 3 rows c)):=by
 rcases h with⟨h1,rfl⟩ | ⟨h1,rfl | ⟨g,v,rfl,h3⟩⟩
 ·
  exact⟨.nils,rfl,rfl,.inl ⟨h1,rfl⟩⟩
 ·
  exact⟨_,rfl,rfl,.inr ⟨h1,_,rfl⟩⟩
 exact⟨.sl 3 rows none,by simp[snapVs,Nq,Ls,h3],rfl,.inr ⟨h1,_,rfl⟩⟩
theorem clip_run{d:Nat}(hd:1≤d){H:List Zx}(low:Nat){l:D}{rows:List (List D)}(h:LinAt H l rows):A7 LP NN d 37 [l] ⟨H,low⟩=some (J3 rows,⟨H,low⟩,false):=by
 obtain⟨y,h1,h2,⟨rfl,rfl⟩ | ⟨h3,c,rfl⟩⟩:=h.snapA H.length
 ·
  rw[Wh rfl h1 h2];obtain⟨d,rfl⟩:∃e,d=e+1:=⟨d-1,by omega⟩;exact fast_ok (clip_nil d _)
 rw[Wh rfl h1 h2,clipR_ne h3];exact clip_sl hd _ _ _
theorem oclone_run{d:Nat}(hd:1≤d){H:List Zx}(low:Nat){l:D}{rows:List (List D)}(h:LinAt H l rows)(hl:rows.length≤100000):A7 LP NN d 38 [l] ⟨H,low⟩=some (slB true 3 rows none,⟨H,low⟩,false):=by
 obtain⟨y,h1,h2,⟨rfl,rfl⟩ | ⟨h3,c,rfl⟩⟩:=h.snapA H.length
 ·
  rw[Wh rfl h1 h2];obtain⟨d,rfl⟩:∃e,d=e+1:=⟨d-1,by omega⟩;exact fast_ok (oclone_nil d _)
 have h4:rows.length≠0:=fun e=>h3 (List.length_eq_zero_iff.1 e);rw[Wh rfl h1 h2,Gq h4];exact oclone_sl hd _ _ h4 hl _
theorem clipR_lin(H:List Zx)(rows:List (List D)):LinAt H (J3 rows) rows:=by
 cases rows with
 | nil=>exact .inl ⟨rfl,rfl⟩
 | cons a l=>exact .inr ⟨by simp,.inl rfl⟩
theorem plainV_sl(sz:Nat)(rows:List (List D))(c:Option Nat):Zz (.sl sz rows c)=true:=rfl
theorem clipR_pv(rows:List (List D)):Zz (J3 rows)=true:=by cases rows<;>rfl
theorem app_tot{H:List Zx}{gt v lo n:Nat}{rows:List (List D)}(h:H[gt]?=some ⟨57,3,rows,v,2,true⟩)(hn:n=rows.length)(hl:n≤1000):C9 57 3 32 2 (.msl H.length 0 0 0 none) (.msl gt v 0 n none) ⟨H++[⟨57,3,[],0,2,false⟩],lo⟩=some (.msl H.length 1 0 n none,⟨H++[⟨57,3,rows,1,2,true⟩],min lo H.length⟩,true):=by
 have e2:rows.length*32≤140737488355328:=by omega
 subst hn;simp[C9,rowsOf,Dc h,Di,Bg,e2,setAt]
theorem Zq{S S':St}(r:D)(hl:S'.low<S.heap.length)(hs:∀m H,Z7 m H r=some r):leave false S r S'=some (r,⟨S'.heap,min S.low S'.low⟩,true):=by
 have h:¬S.heap.length≤S'.low:=by omega
 simp[leave,h,hs]
def CF (d:Nat) (f:FuncId) (caps:List D) (H:List Zx) (g gm gt:Nat) (x:CM) (w w':WM):Prop:=∀(H1:List Zx) (lo1:Nat),WS H1 g gm gt x w→Keep H H1→∃H2 lo2 wr,A7 LP NN d f caps ⟨H1,lo1⟩=some (.tup [],⟨H2,lo2⟩,wr)∧WS H2 g gm gt x w'∧Keep H1 H2∧lo2≤lo1
theorem rowO_cl(r:Option RM):Cl (Jd r):=by cases r<;>exact⟨rfl,rfl,rfl,rfl⟩
theorem tclone_run{d:Nat}(hd:1≤d){H:List Zx}(low:Nat){gt v n:Nat}{rows:List (List D)}(h:H[gt]?=some ⟨57,3,rows,v,2,true⟩)(hr:rows≠[])(hn:n=rows.length)(hl:n≤1000):A7 LP NN d 76 [.msl gt v 0 n none] ⟨H,low⟩=some (.sl 3 rows none,⟨H,low⟩,false):=by
 have hg:=Gn h;have htA:∀l,(H++l)[gt]?=_:=fun l=>Dc h l;refine Gm (F:=F76) rfl (by simp only[LP,snapVs,zs,zm,h,Nat.not_le.2 hg]<;>exact rfl) rfl (by simp only[LP,zf,zm];try rfl) (by simp only[F76,zv]<;>exact rfl) (by omega) ?_;rintro d rfl;refine Ad (Aw (Aa (Af ?_)));refine Ai (Ad (Ae rfl (Xp ?_)));refine Aa (Af ?_);refine Dx ?_;refine Ak (Bh rfl (Ad (xo47 ?_)));refine Ae rfl (Ac (by simp only[opd,zv,Ar,aop,LOp.loud,lop,if_true];exact app_tot h hn hl) ?_);refine Ag rfl (Aa (Af ?_));apply Az;refine⟨_,by simp only[F76,resultD,Ba,resD,zg]<;>exact rfl,?_⟩;show leave false _ _ _=_;subst hn;simp[leave,Tv,Nq,Ls,D.Z5,D.freeV,D.free,D.Aaa]
theorem try_run{d:Nat}(hd:3≤d){H:List Zx}(low:Nat){g gm gt:Nat}{x:CM}{w w':WM}(hW:WS H g gm gt x w){f:FuncId}{caps:List D}(hcv:∀H,Z4 H.length H (.fn f caps)=some (.fn f caps))(hC:CF (d-1) f caps H g gm gt x w w'):∃r,(∃T,r=(.int .i64 0,T,true)∧WS T.heap g gm gt x w'∧Keep H T.heap∧T.low≤g)∧A7 LP NN d 40 [.ptr g 0 0 0,.fn f caps] ⟨H,low⟩=some r:=by
 obtain⟨lin,hw,yx⟩:=hW.hw;have hct:=x.ctl_lt;have ⟨qR0,qR1,qR2,qR3⟩:=rowO_cl w.row;have qL0:=yx.Z9;have qL1:=yx.cells;have qL2:=yx.val;have qC:=clipR_lin H (w.lines.map lnR);have qC0:=qC.Z9;have qC1:=qC.cells;have qC2:=qC.val;have hrn:w.tot.map dcR≠[]:=by intro h;have:=congrArg List.length h;rw[List.length_map,hW.hn]at this;simp at this
 have qI:∀l,(H++l)[g]?=_:=fun l=>Dc hw l;have vI:∀o,(H.set g o)[g]?=some o:=fun o=>Bl hw o;have hsgA:∀o l,(H.set g o++l)[g]?=some o:=fun o l=>Dc (vI o) l;have hsL:∀o l,(H++l).set g o=H.set g o++l:=fun o l=>List.set_append_left _ _ hW.lt;have zJ:=hW.set w.page w.line w.body w.row (J3 (w.lines.map lnR)) w.lines w.ended qC;obtain⟨d0,rfl⟩:∃e,d=e+1:=⟨d-1,by omega⟩;rw[Nat.add_sub_cancel]at hC;refine Gf (F:=F40) rfl (by simp only[LP,snapVs,zs,zm]<;>exact rfl) rfl (by simp only[LP,zf,zm];try rfl) (by simp only[F40,zv]<;>exact rfl) (by omega) ?_;intro d he;obtain rfl:=Nat.succ.inj he;have xq:=aI hw (aI qI (aI hsL (aI vI (hsgA))));refine Ad (Aw (Aa (Af ?_)));refine Ad (Ae rfl (xo3 ?_));refine xo1 ?_;refine xo50 ?_;refine Kt ?_;apply Ac (by simp only[zl,zm,Bf,overlay,Bc,zs,zc,zf,List.take,List.drop,qR0,qL0]<;>exact rfl);refine Aa (Af ?_);refine Ai (Fa (by simp only[newsVals,zw,Nat.reduceAdd]<;>exact rfl) (by simp only[zw]<;>exact rfl) ?_);refine Bq rfl rfl (xo8 rfl rfl ?_);refine xo4 rfl rfl ?_;refine xo4 rfl rfl ?_;refine xo62 rfl ?_;refine Be (by simp only[zo];exact tclone_run (by omega) _ (Dc hW.ht _) hrn (by rw[List.length_map,hW.hn]) (by omega)) rfl ?_;refine Bq rfl rfl (xo8 rfl rfl ?_);refine xo4 rfl rfl ?_;refine xo4 rfl rfl ?_;refine xo62 rfl ?_;refine Be (by simp only[zo];exact clip_run (by omega) _ (yx.keep fun j o h1 _=>Dc h1 _)) rfl ?_;refine xo4 rfl rfl ?_;refine Be (by simp only[zl,zm,Bf,overlay,zs,zc,zf,List.take,List.drop]<;>exact rfl) rfl ?_;refine xo4 rfl rfl ?_;refine dw_g (by simp only[zl,zm,Bf,overlay,List.take,List.drop,qC1,qC2]<;>exact rfl) (hok:=by simp[show ob 32767 15=[true,true,true,true,true,true,true,true,true,true,true,true,true,true,true] from rfl,plainV_sl,clipR_pv,okHere,Ky,Ff,J9,dj,D9,fpQuiet]) (h:=?_);refine Cj (Af ?_);refine Ad (Ae rfl (Ae rfl (xo3 ?_)));refine xo1 ?_;refine xo1 ?_;refine xo50 ?_;apply Ac (by simp only[zo];exact clip_run (by omega) _ (yx.keep fun j o h1 _=>Dc h1 _));refine xo3 ?_;refine xo1 ?_;refine xo1 ?_;apply Ac (by simp only[zl,zm,Bf,overlay,List.take,List.drop,wO,wRow,qC1,qC2,xq]<;>exact rfl);refine Aa (Af ?_);refine Ad (Ae rfl ?_);obtain⟨H2,lo2,wr2,yD,hW2,hK2,zM⟩:=hC _ _ (zJ.app [⟨89,7,[[.int .i64 (w.page:Nat),.int .i64 (w.line:Nat),.bool w.body,Jd w.row,.sl 3 (w.tot.map dcR) none,J3 (w.lines.map lnR),.bool false]],0,0,false⟩]) ((Keep.set hW _).trans (Keep.app _ _));obtain⟨lin2,uJ,hlin2⟩:=hW2.hw;apply Ac (by simp only[zo];exact yD);refine Aa (Af ?_);refine Ai (Ad (Ae rfl (xo3 ?_)));refine xo1 ?_;refine xo1 ?_;apply Ac (by simp only[zl,zm,zd,Au,List.take,List.drop,wO,wRow,uJ]<;>exact rfl);refine Aa (Af ?_);refine Dx ?_;refine Ak (Bh rfl (Ad (Aw (Aa (Af ?_)))));apply Az;refine⟨_,⟨⟨H2,min low lo2⟩,rfl,hW2,((Keep.set hW _).trans (Keep.app _ _)).trans hK2,by show min low lo2≤g;omega⟩,?_⟩;refine⟨_,by simp only[F40,resultD,Ba,resD,zg]<;>exact rfl,?_⟩;exact Zq (S:=⟨H,low⟩) (S':=⟨H2,lo2⟩) _ (by show lo2<H.length;have:=hW.lt;omega) (fun _ _=>rfl)
def setRow (w:WM) (y:RM):WM:={ w with row:=some y }
def stA (w:WM) (y:RM):WM:={ w with page:=1,row:=some y }
def Qz (x:CM) (w:WM) (y:RM):WM:=headW x (((stA w y).write (x.tg 1 0).tl).write (x.tg 2 0).tl) 0
def Td (x:CM) (w:WM) (y:RM) (b:Nat):WM:=headW x (setRow (Ko x w b) y) b
def Yj (w:WM) (y:RM) (c:Nat):Nat:=match w.row with
 | some y0=>(Xl y0 y c).toNat
 | none=>0
def Ec (x:CM) (w:WM) (y:RM):WM:=if w.page=0 then Qz x w y else if Yj w y x.ctl=0 then w else Td x w y (Yj w y x.ctl)
def genA (x:CM) (w:WM) (y:RM):WM:=addW (setRow (Ec x w y) y) y.N
def Nl (x:CM) (w:WM) (y:RM) (det:Int):WM:=if det=0 then D7 x (genA x w y) (tD1 (x.nps 0)) else if det=1 then D7 x (genA x w y) tD2 else genA x w y
theorem WB.mono{w:WM}{n n':Nat}(h:WB w n)(hn:n≤n'):WB w n':=⟨h.row,by have:=h.page;omega,by have:=h.line;omega,by have:=h.lines;omega,h.totM hn⟩
theorem WB.setRow{w:WM}{n:Nat}(h:WB w n)(y:RM):WB (setRow w y) n:=⟨by simp[YtbhnlppboegmjaaGreatDoor.setRow],h.page,h.line,h.lines,h.tot⟩
theorem brkI_le(y0 y:RM)(c:Nat):Xl y0 y c=-1∨(1≤Xl y0 y c∧Xl y0 y c≤c):=by
 unfold Xl;split
 ·
  rename_i h;exact .inr ⟨by omega,by omega⟩
 split
 ·
  rename_i h;exact .inr ⟨by omega,by omega⟩
 exact .inl rfl
theorem WB.start{w:WM}{n:Nat}{y:RM}(h:WB (YtbhnlppboegmjaaGreatDoor.setRow w y) n)(h20:20≤n)(hn:n≤30000){x:CM}(ht:w.tot.length=x.ctl+1):WB (stA w y) n∧TOK (stA w y) (x.tg 1 0)∧WB ((stA w y).write (x.tg 1 0).tl) (n+4)∧TOK ((stA w y).write (x.tg 1 0).tl) (x.tg 2 0)∧WB (((stA w y).write (x.tg 1 0).tl).write (x.tg 2 0).tl) (n+8)∧(((stA w y).write (x.tg 1 0).tl).write (x.tg 2 0).tl).tot.length=x.ctl+1∧WB (Qz x w y) (n+140):=by
 have hc:=x.ctl_lt;have h1:WB (stA w y) n:=⟨by simp[stA],by show 1≤n;omega,h.line,h.lines,h.tot⟩;have t1:=Ku (x:=x) h1 (by omega) ht (k:=1) (lv:=0) (by omega);have h2:=h1.write t1;have e1:=Gz (stA w y) (x.tg 1 0).tl;have ht1:((stA w y).write (x.tg 1 0).tl).tot.length=x.ctl+1:=by rw[e1.2.2.1];exact ht
 have t2:=Ku (x:=x) h2 (by omega) ht1 (k:=2) (lv:=0) (by omega);have h3:=h2.write t2;have e2:=Gz ((stA w y).write (x.tg 1 0).tl) (x.tg 2 0).tl;have ht2:(((stA w y).write (x.tg 1 0).tl).write (x.tg 2 0).tl).tot.length=x.ctl+1:=by rw[e2.2.2.1];exact ht1
 exact⟨h1,t1,h2,t2,h3,ht2,(WB.head (x:=x) (x.ctl+1-0) 0 h3 (by omega) ht2 (by omega)).mono (by omega)⟩
theorem WB.brk{w:WM}{n:Nat}(h:WB w n)(hn:n≤30000){x:CM}(ht:w.tot.length=x.ctl+1)(y:RM){b:Nat}(hb:b≤x.ctl+1):WB (Ko x w b) (n+132)∧(Ko x w b).tot.length=x.ctl+1∧WB (YtbhnlppboegmjaaGreatDoor.setRow (Ko x w b) y) (n+132)∧WB (Td x w y b) (n+264):=by
 have hc:=x.ctl_lt;obtain⟨h1,h2⟩:=WB.foot (x:=x) (x.ctl+1-b) (x.ctl+1) h (by omega) ht (Nat.le_refl _) (by omega);have h3:=h1.mono (n':=n+132) (by omega);exact⟨h3,h2,h3.setRow y,(WB.head (x:=x) (x.ctl+1-b) b (h3.setRow y) (by omega) h2 (by omega)).mono (by omega)⟩
theorem WB.first{w:WM}{n:Nat}{y:RM}(h:WB (YtbhnlppboegmjaaGreatDoor.setRow w y) n)(hr:w.page≠0→w.row≠none)(h20:20≤n)(hn:n≤30000){x:CM}(ht:w.tot.length=x.ctl+1):WB (Ec x w y) (n+264)∧(Ec x w y).tot.length=x.ctl+1:=by
 have hc:=x.ctl_lt;unfold Ec;split
 ·
  have:=h.start h20 hn ht;refine⟨this.2.2.2.2.2.2.mono (by omega),?_⟩;show (headN x 0 _ _).tot.length=_;rw[(Qe x _ _ _).2.1];exact this.2.2.2.2.2.1
 rename_i hp;have hw:WB w n:=⟨hr hp,h.page,h.line,h.lines,h.tot⟩;split
 ·
  exact⟨hw.mono (by omega),ht⟩
 have hb:Yj w y x.ctl≤x.ctl+1:=by
  unfold Yj;split
  ·
   rename_i y0 _;have:=brkI_le y0 y x.ctl;omega
  omega
 have:=hw.brk hn ht y hb;refine⟨this.2.2.2,?_⟩;show (headN x _ _ _).tot.length=_;rw[(Qe x _ _ _).2.1];exact this.2.1
theorem WB.genA{w:WM}{n:Nat}{y:RM}(h:WB (YtbhnlppboegmjaaGreatDoor.setRow w y) n)(hr:w.page≠0→w.row≠none)(h20:20≤n)(hn:n≤30000){x:CM}(ht:w.tot.length=x.ctl+1):WB (YtbhnlppboegmjaaGreatDoor.setRow (Ec x w y) y) (n+264)∧WB (YtbhnlppboegmjaaGreatDoor.genA x w y) (n+265)∧(YtbhnlppboegmjaaGreatDoor.genA x w y).tot.length=x.ctl+1:=by
 obtain⟨h1,h2⟩:=h.first hr h20 hn ht
 have hN:y.N<1000:=Nat.mod_lt _ (by decide);have h3:=h1.setRow y;refine⟨h3,⟨by simp[YtbhnlppboegmjaaGreatDoor.genA,addW,YtbhnlppboegmjaaGreatDoor.setRow],by have:=h3.page;show (Ec x w y).page≤_;exact Nat.le_succ_of_le this,by have:=h3.line;show (Ec x w y).line≤_;exact Nat.le_succ_of_le this,by have:=h3.lines;show (Ec x w y).lines.length≤_;exact Nat.le_succ_of_le this,fun m hm=>?_⟩,by simp[YtbhnlppboegmjaaGreatDoor.genA,addW,YtbhnlppboegmjaaGreatDoor.setRow,h2]⟩;obtain⟨m',hm',rfl⟩:=List.mem_map.1 hm;have:=h3.tot m' hm';omega
theorem WB.gen{w:WM}{n:Nat}{y:RM}(h:WB (YtbhnlppboegmjaaGreatDoor.setRow w y) n)(hr:w.page≠0→w.row≠none)(h20:20≤n)(hn:n≤30000){x:CM}(ht:w.tot.length=x.ctl+1)(det:Int):WB (Nl x w y det) (n+310)∧(Nl x w y det).tot.length=x.ctl+1:=by
 obtain⟨_,h1,h2⟩:=h.genA hr h20 hn ht;unfold Nl;split
 ·
  exact⟨(h1.pres (by omega) h2 (tok_D1 h1 _)).mono (by omega),pres_tot x _ _ h2⟩
 split
 ·
  exact⟨(h1.pres (by omega) h2 (tok_D2 h1)).mono (by omega),pres_tot x _ _ h2⟩
 exact⟨h1.mono (by omega),h2⟩
theorem gen_cl{d:Nat}(hd:33≤d){H:List Zx}{g gm gt:Nat}{x:CM}{w:WM}{y:RM}{n:Nat}(zi:WB (setRow w y) n)(uH:w.page≠0→w.row≠none)(h20:20≤n)(hn:n≤30000)(ht:w.tot.length=x.ctl+1)(det:Int)(hdet:-1≤det∧det≤1){c:Option Nat}{pw pr pg:Nat}(hpw:H[pw]?=some ⟨28,1,[[.ptr g 0 0 0]],0,0,false⟩)(uV:H[pr]?=some ⟨45,1,[[.sl 12 y.fld c]],0,0,false⟩)(zT:H[pg]?=some ⟨3,1,[[.int .i64 det]],0,0,false⟩):CF d 41 [.ptr pw 0 0 0,.ptr pr 0 0 0,.ptr pg 0 0 0] H g gm gt x w (Nl x w y det):=by
 intro H1 low1 zJ wY
 have xu:∀{p:Nat} {o:Zx},H[p]?=some o→o.kind=0→o.elem≠91→g≠p:=fun h1 h2 h3 e=>by
  subst e;obtain⟨l,h4,_⟩:=zJ.hw;have:=(wY.2 _ _ h1 (.inl ⟨h2,h3⟩)).symm.trans h4;obtain rfl:=Option.some.inj this;exact h3 rfl
 have uP:=xu hpw rfl (by simp);have hgpr:=xu uV rfl (by simp);have hgpg:=xu zT rfl (by simp);have hct:=x.ctl_lt;have hgH1:=zJ.lt;obtain⟨d0,rfl⟩:∃e,d=e+1:=⟨d-1,by omega⟩;obtain⟨lin1,wR,hlin1⟩:=zJ.hw;have hsg1:∀o,(H1.set g o)[g]?=some o:=fun o=>Bl wR o;have hpw1:=wY.2 _ _ hpw (.inl ⟨rfl,by simp⟩);have hpwS1:∀o,(H1.set g o)[pw]?=_:=fun o=>Bj hpw1 uP o;have hpr1:=wY.2 _ _ uV (.inl ⟨rfl,by simp⟩);have hprS1:∀o,(H1.set g o)[pr]?=_:=fun o=>Bj hpr1 hgpr o;have hpg1:=wY.2 _ _ zT (.inl ⟨rfl,by simp⟩);have hpgS1:∀o,(H1.set g o)[pg]?=_:=fun o=>Bj hpg1 hgpg o
 suffices h:∃r,(∃T wr,r=(.tup [],T,wr)∧Ef ⟨H1,low1⟩ T g gm gt x w (Nl x w y det))∧A7 LP NN (d0+1) 41 [.ptr pw 0 0 0,.ptr pr 0 0 0,.ptr pg 0 0 0] ⟨H1,low1⟩=some r by
  obtain⟨r,⟨T,wr,rfl,h1⟩,h2⟩:=h;exact⟨T.heap,T.low,wr,h2,h1.ws,h1.kp,h1.lm⟩
 refine Gf (F:=F41) rfl (by simp only[LP,snapVs,zs,zm]<;>exact rfl) rfl (by simp only[LP,zf,zm];try rfl) (by simp only[F41,zv]<;>exact rfl) (by omega) ?_;intro d he;obtain rfl:=Nat.succ.inj he;have xq:=aI wR (aI hsg1 (aI hpw1 (aI hpwS1 (aI hpr1 (aI hprS1 (aI hpg1 (aI hpgS1 (@List.set_set.{0}))))))));refine Na (fun env S'=>∃(K:List Zx) (lo:Nat) (u3 u4 u5 u6:D),WS K g gm gt x (Ec x w y)∧Keep H1 K∧lo≤H1.length∧S'=⟨K,lo⟩∧env=[.ptr pw 0 0 0,.ptr pr 0 0 0,.ptr pg 0 0 0,u3,u4,u5,u6]) ?_ ?_
 ·
  refine Ad (Kq ?_);refine xo3 ?_;refine xo1 ?_;refine xo1 ?_;apply Ac (by simp only[zl,zm,zd,Au,List.take,List.drop,wO,wRow,Jd,xq]<;>exact rfl);refine xo2 ?_;refine Aa (Af ?_);refine Cc (by simp only[opd,zv]<;>exact rfl) (fun hc=>?_) (fun hc=>?_)
  ·
   have hp0:w.page=0:=by have:=eq_of_beq hc;omega
   have hBs:=zi.start h20 hn ht;have hWa:=zJ.set 1 w.line w.body (some y) lin1 w.lines w.ended hlin1;refine Ad (Kq ?_);refine xo3 ?_;refine xo1 ?_;refine xo1 ?_;apply Ac (by simp only[zl,zm,Bf,overlay,zs,zc,zf,List.take,List.drop,wO,wRow,Jd,xq]<;>exact rfl);refine Aa (Af ?_);refine Ai (Fb ?_);refine xo44 rfl ?_;refine xo44 rfl ?_;refine Be (by simp only[zo];exact Vs (by omega) _ y c) rfl ?_;refine xo8 rfl rfl ?_;refine xo4 rfl rfl ?_;refine xo4 rfl rfl ?_;refine Be (by simp only[zl,zm,Bf,overlay,zs,zc,zf,List.take,List.drop,xq]<;>exact rfl) rfl ?_;refine Cj (Af ?_);refine Ai (Fb ?_);refine xo44 rfl ?_;refine xo44 rfl ?_;refine xo8 rfl rfl ?_;refine xo4 rfl rfl ?_;refine xo44 rfl ?_;refine xo55 rfl rfl ?_;apply Ce (by simp only[opd,zv,Ar,aop,LOp.loud,lop,if_true];exact congrArg (Option.map fun r=>(r,_,false)) (Rn hWa _ (.inl ⟨rfl,.inl rfl⟩))) (by simp only[fpHere,zo]<;>exact rfl) rfl;obtain⟨H43,lo43,wr43,hc43,hW43,kC,hlo43,hlm43⟩:=(Tn (d:=d0) (by omega) (n:=n) (by omega) hBs.1.lines (by have:=hBs.1.line;omega) hBs.2.1).go (min (min H1.length g) g) hWa;obtain⟨linb,qc,kN⟩:=hW43.hw;have hsgb:∀o,(H43.set g o)[g]?=some o:=fun o=>Bl qc o;have hpwb:=(wY.trans ((Keep.set zJ _).trans kC)).2 _ _ hpw (.inl ⟨rfl,by simp⟩);have hpwSb:∀o,(H43.set g o)[pw]?=_:=fun o=>Bj hpwb uP o;have hprb:=(wY.trans ((Keep.set zJ _).trans kC)).2 _ _ uV (.inl ⟨rfl,by simp⟩);have hprSb:∀o,(H43.set g o)[pr]?=_:=fun o=>Bj hprb hgpr o;have hpgb:=(wY.trans ((Keep.set zJ _).trans kC)).2 _ _ zT (.inl ⟨rfl,by simp⟩);have hpgSb:∀o,(H43.set g o)[pg]?=_:=fun o=>Bj hpgb hgpg o;apply Ce (by simp only[zo];exact hc43) (by simp only[fpHere,zo,zq]<;>exact rfl) (by cases wr43<;>first | rfl | (simp[show ob 127 7=[true,true,true,true,true,true,true] from rfl,Zz,Me,okHere,Ky,Ff,J9,dj,D9,fpQuiet,Oa,Et,Vj,Hu,E5];done));refine Cj (Af ?_);refine Ai (Fb ?_);refine Be (by simp only[zl,zm,zd,Au,List.take,List.drop,hpwb]<;>exact rfl) rfl ?_;refine Be (by simp only[zl,zm,zd,Au,List.take,List.drop,hpwb]<;>exact rfl) rfl ?_;refine xo8 rfl rfl ?_;refine xo4 rfl rfl ?_;refine Be (by simp only[zl,zm,zd,Au,List.take,List.drop,wO,wRow,Jd,qc]<;>exact rfl) rfl ?_;refine xo55 rfl rfl ?_;apply Ce (by simp only[opd,zv,Ar,aop,LOp.loud,lop,if_true];exact congrArg (Option.map fun r=>(r,_,false)) (Rn hW43 _ (.inl ⟨rfl,.inr (.inl rfl)⟩))) (by simp only[fpHere,zo]<;>exact rfl) rfl;obtain⟨H43b,lo43b,wr43b,hc43b,hW43b,kX,hlo43b,hlm43b⟩:=(Tn (d:=d0) (by omega) (n:=n+4) (by omega) hBs.2.2.1.lines (by have:=hBs.2.2.1.line;omega) hBs.2.2.2.1).go lo43 hW43;obtain⟨linc,hwc,hlinc⟩:=hW43b.hw;have hsgc:∀o,(H43b.set g o)[g]?=some o:=fun o=>Bl hwc o;have hpwc:=(wY.trans (((Keep.set zJ _).trans kC).trans kX)).2 _ _ hpw (.inl ⟨rfl,by simp⟩);have hpwSc:∀o,(H43b.set g o)[pw]?=_:=fun o=>Bj hpwc uP o;have hprc:=(wY.trans (((Keep.set zJ _).trans kC).trans kX)).2 _ _ uV (.inl ⟨rfl,by simp⟩);have hprSc:∀o,(H43b.set g o)[pr]?=_:=fun o=>Bj hprc hgpr o;have hpgc:=(wY.trans (((Keep.set zJ _).trans kC).trans kX)).2 _ _ zT (.inl ⟨rfl,by simp⟩);have hpgSc:∀o,(H43b.set g o)[pg]?=_:=fun o=>Bj hpgc hgpg o;apply Ce (by simp only[zo];exact hc43b) (by simp only[fpHere,zo,zq]<;>exact rfl) (by cases wr43b<;>first | rfl | (simp[show ob 127 7=[true,true,true,true,true,true,true] from rfl,Zz,Me,okHere,Ky,Ff,J9,dj,D9,fpQuiet,Oa,Et,Vj,Hu,E5];done));refine Cj (Af ?_);refine Am (Ac (by simp only[zl,zm,zd,Au,List.take,List.drop,hpwc]<;>exact rfl) ?_);obtain⟨H44,lo44,wr44,hc44,hW44,hK44,hlo44,hlm44⟩:=(head_run (d:=d0) (by omega) hBs.2.2.2.2.1 (by omega) (l:=0) (Nat.zero_le _)).go lo43b hW43b;apply Ac (by simp only[zo];exact hc44);refine Aa (J4 (by simp only[ze]<;>exact rfl) ?_);have e:Ec x w y=Qz x w y:=by unfold Ec;rw[if_pos hp0]
   rw[e];exact⟨_,_,_,_,_,_,hW44,(((Keep.set zJ _).trans kC).trans kX).trans hK44,by omega,rfl,rfl⟩
  have hp0:w.page≠0:=by have:=ne_of_beq_false hc;intro h;rw[h]at this;exact this rfl
  obtain⟨y0,hy0⟩:=Option.ne_none_iff_exists'.1 (uH hp0);have wQ:WB w n:=⟨uH hp0,zi.page,zi.line,zi.lines,zi.tot⟩;have h45:=broken_run (d:=d0) (by omega) H1.length zJ hy0 y c;refine Ad (Kq ?_);refine Kq ?_;apply Ac (by simp only[zo];exact h45);refine Ag rfl (Aa (Af ?_));refine Ad (Ae rfl (xo2 ?_));refine Aa (Af ?_);refine Cc (by simp only[opd,zv]<;>exact rfl) (fun hcF=>?_) (fun hcF=>?_)
  ·
   obtain⟨b,hbe,hb1,hble⟩:∃b:Nat,Xl y0 y x.ctl=(b:Nat)∧1≤b∧b≤x.ctl+1:=by
    have h1:=of_decide_eq_true hcF;rcases brkI_le y0 y x.ctl with h2 | h2
    ·
     omega
    exact⟨(Xl y0 y x.ctl).toNat,by omega,by omega,by omega⟩
   have hbb:Yj w y x.ctl=b:=by simp only[Yj,hy0,hbe,Int.toNat_natCast]
   have hb0:Yj w y x.ctl≠0:=by omega
   have hBb:=wQ.brk hn ht y hble;refine Ad (Ac (by simp only[zl,zm,zd,Au,List.take,List.drop,xq,hbe]<;>exact rfl) ?_);apply Ae rfl;obtain⟨H46,lo46,wr46,hc46,rX,vZ,hlo46,hlm46⟩:=(foot_run (d:=d0) (by omega) wQ (by omega) hble).go H1.length zJ;obtain⟨linf,hwf,hlinf⟩:=rX.hw;have hsgf:∀o,(H46.set g o)[g]?=some o:=fun o=>Bl hwf o;have kZ:=(wY.trans vZ).2 _ _ hpw (.inl ⟨rfl,by simp⟩);have hpwSf:∀o,(H46.set g o)[pw]?=_:=fun o=>Bj kZ uP o;have hprf:=(wY.trans vZ).2 _ _ uV (.inl ⟨rfl,by simp⟩);have hprSf:∀o,(H46.set g o)[pr]?=_:=fun o=>Bj hprf hgpr o;have hpgf:=(wY.trans vZ).2 _ _ zT (.inl ⟨rfl,by simp⟩);have hpgSf:∀o,(H46.set g o)[pg]?=_:=fun o=>Bj hpgf hgpg o;have hWr6:=rX.set (Ko x w b).page (Ko x w b).line (Ko x w b).body (some y) linf (Ko x w b).lines (Ko x w b).ended hlinf;apply Ac (by simp only[zo,hbe];exact hc46);refine Aa (Af ?_);refine Ai (Fb ?_);refine Be (by simp only[zl,zm,zd,Au,List.take,List.drop,hbe,kZ]<;>exact rfl) rfl ?_;refine Be (by simp only[zl,zm,zd,Au,List.take,List.drop,hbe,hprf]<;>exact rfl) rfl ?_;refine Be (by simp only[zo,hbe];exact Vs (by omega) _ y c) rfl ?_;apply Aj (by simp only[zo,hbe]<;>exact rfl) rfl rfl;apply Aj (by simp only[zo,Bz,zm,hbe]<;>exact rfl) rfl rfl;apply Aj (by simp only[zo,Bz,zm,hbe]<;>exact rfl) rfl rfl;refine Be (by simp only[zl,zm,Bf,overlay,zs,zc,zf,List.take,List.drop,wO,wRow,Jd,hbe,hwf]<;>exact rfl) rfl ?_;refine Cj (Af ?_);refine Am (Ac (by simp only[zl,zm,zd,Au,List.take,List.drop,hbe,hpwSf]<;>exact rfl) ?_);apply Ae rfl;obtain⟨H44,lo44,wr44,hc44,hW44,hK44,hlo44,hlm44⟩:=(head_run (d:=d0) (by omega) hBb.2.2.1 (by omega) hble).go (min lo46 g) hWr6;apply Ac (by simp only[zo,hbe];exact hc44);refine Aa (J4 (by simp only[ze]<;>exact rfl) ?_);have e:Ec x w y=Td x w y b:=by unfold Ec;rw[if_neg hp0,if_neg hb0,hbb]
   rw[e];exact⟨_,_,_,_,_,_,hW44,(vZ.trans (Keep.set rX _)).trans hK44,by omega,rfl,rfl⟩
  have hb0:Yj w y x.ctl=0:=by
   have h1:=of_decide_eq_false hcF;simp only[Yj,hy0];omega
  refine Ak (J4 rfl ?_);have e:Ec x w y=w:=by unfold Ec;rw[if_neg hp0,if_pos hb0]
  rw[e];exact⟨_,_,_,_,_,_,zJ,Keep.refl _,Nat.le_refl _,rfl,rfl⟩
 rintro env S' ⟨K,lo,u3,u4,u5,u6,yJ,wX,xW,rfl,rfl⟩;obtain⟨link,hwk,hlink⟩:=yJ.hw;have hsgk:∀o,(K.set g o)[g]?=some o:=fun o=>Bl hwk o;have hpwk:=(wY.trans wX).2 _ _ hpw (.inl ⟨rfl,by simp⟩);have hpwSk:∀o,(K.set g o)[pw]?=_:=fun o=>Bj hpwk uP o;have hprk:=(wY.trans wX).2 _ _ uV (.inl ⟨rfl,by simp⟩);have hprSk:∀o,(K.set g o)[pr]?=_:=fun o=>Bj hprk hgpr o;have hpgk:=(wY.trans wX).2 _ _ zT (.inl ⟨rfl,by simp⟩);have hpgSk:∀o,(K.set g o)[pg]?=_:=fun o=>Bj hpgk hgpg o;obtain⟨hB3,hB4,hn4⟩:=zi.genA uH h20 hn ht;have hWr:=yJ.set (Ec x w y).page (Ec x w y).line (Ec x w y).body (some y) link (Ec x w y).lines (Ec x w y).ended hlink;have hlg:=yJ.lt;have xC:=aI hwk (aI hsgk (aI hpwk (aI hpwSk (aI hprk (aI hprSk (aI hpgk (hpgSk)))))));refine Ai (Fb ?_);refine xo51 rfl ?_;refine xo51 rfl ?_;refine Be (by simp only[zo];exact Vs (by omega) _ y c) rfl ?_;refine xo8 rfl rfl ?_;refine xo4 rfl rfl ?_;refine xo4 rfl rfl ?_;refine Be (by simp only[zl,zm,Bf,overlay,zs,zc,zf,List.take,List.drop,wO,wRow,Jd,xC]<;>exact rfl) rfl ?_;refine Cj (Af ?_);refine Ad (Qo ?_);obtain⟨H47,lo47,wr47,hc47,hW47,hK47,hlo47,hlm47⟩:=(wadd_run (d:=d0) (by omega) (x:=x) (w:=setRow (Ec x w y) y) (y:=y) rfl (zi.first uH h20 hn ht).2 (fun m hm=>by have:=hB3.tot m hm;omega)).go (min lo g) hWr;obtain⟨lind,hwd,hlind⟩:=hW47.hw;have hsgd:∀o,(H47.set g o)[g]?=some o:=fun o=>Bl hwd o;have hpwd:=(wY.trans (wX.trans ((Keep.set yJ _).trans hK47))).2 _ _ hpw (.inl ⟨rfl,by simp⟩);have hpwSd:∀o,(H47.set g o)[pw]?=_:=fun o=>Bj hpwd uP o;have hprd:=(wY.trans (wX.trans ((Keep.set yJ _).trans hK47))).2 _ _ uV (.inl ⟨rfl,by simp⟩);have hprSd:∀o,(H47.set g o)[pr]?=_:=fun o=>Bj hprd hgpr o;have hpgd:=(wY.trans (wX.trans ((Keep.set yJ _).trans hK47))).2 _ _ zT (.inl ⟨rfl,by simp⟩);have hpgSd:∀o,(H47.set g o)[pg]?=_:=fun o=>Bj hpgd hgpg o;apply Ac (by simp only[zo];exact hc47);refine Aa (Af ?_);refine Ad (Ac (by simp only[zl,zm,zd,Au,List.take,List.drop,hpgd]<;>exact rfl) ?_);refine xo2 ?_;refine Aa (Af ?_);refine Cc (by simp only[opd,zv]<;>exact rfl) (fun uS=>?_) (fun uS=>?_)
 ·
  have hdt:det=0∨det=1:=by have:=of_decide_eq_true uS;omega
  obtain⟨td,hTd,hTa,htd,qU⟩:∃td:TG,TOK (genA x w y) td∧td∈allT∧Nl x w y det=D7 x (genA x w y) td∧(x.grps.map (GrM.row true))[det.toNat]?=some [.int .u8 (td.kind:Nat),.int .i64 (td.level:Nat),.bool td.np,slB true 2 (td.tl.map Jo) none]:=by
   rcases hdt with rfl | rfl
   ·
    refine⟨tD1 (x.nps 0),tok_D1 hB4 _,by cases x.nps 0<;>simp[allT],by simp[Nl],rfl⟩
   refine⟨tD2,tok_D2 hB4,by simp[allT],by simp[Nl],rfl⟩
  have yH:((0:Int)≤det)=True:=eq_true (by omega);refine Fb ?_;refine Be (by simp only[zl,zm,zd,Au,List.take,List.drop,hpwd,yH]<;>exact rfl) rfl ?_;refine Be (by simp only[zl,zm,zd,Au,List.take,List.drop,hpwd,yH]<;>exact rfl) rfl ?_;apply Aj (by simp only[zo,yH]<;>exact rfl) rfl rfl;apply Aj (by simp only[zo,Bz,zm,yH]<;>exact rfl) rfl rfl;apply Aj (by simp only[zo,Bz,zm,yH]<;>exact rfl) rfl rfl;refine Be (by simp only[zl,zm,zd,Au,List.take,List.drop,wO,wRow,Jd,hwd,yH]<;>exact rfl) rfl ?_;refine Be (by simp only[zl,zm,zd,Au,List.take,List.drop,hpgd,yH]<;>exact rfl) rfl ?_;refine Be (by simp only[zl,zm,Ci,qU,yH]<;>exact rfl) rfl ?_;refine Be (by simp only[zl,zm,zd,Au,List.take,List.drop,yH]<;>exact rfl) rfl ?_;obtain⟨H48,lo48,wr48,hc48,hW48,hK48,hlo48,hlm48⟩:=(Wj (d:=d0) (by omega) hB4 (by omega) hn4 hTd hTa).go lo47 hW47;apply Ce (by simp only[zo,yH];exact hc48) (by simp only[fpHere,zo,zq]<;>exact rfl) (by cases wr48<;>first | rfl | (simp[show ob 511 9=[true,true,true,true,true,true,true,true,true] from rfl,Zz,Me,okHere,Ky,Ff,J9,dj,D9,fpQuiet,Oa,Et,Vj,Hu,E5];done));apply Cj;simp only[ze];rw[htd];obtain⟨r,zK,y5⟩:=Jt (S:=⟨H1,low1⟩) (S':=⟨H48,lo48⟩) zJ hW48 (wX.trans (((Keep.set yJ _).trans hK47).trans hK48)) (.inl (by show lo48≤_;omega));refine⟨r,zK,?_⟩;refine⟨_,by simp only[F41,resultD,Ba]<;>exact rfl,?_⟩;exact y5
 have hgw:Nl x w y det=genA x w y:=by have:=of_decide_eq_false uS;unfold Nl;rw[if_neg (by omega),if_neg (by omega)]
 apply Ak;rw[hgw];obtain⟨r,zK,y5⟩:=Jt (S:=⟨H1,low1⟩) (S':=⟨H47,lo47⟩) zJ hW47 (wX.trans ((Keep.set yJ _).trans hK47)) (.inl (by show lo47≤_;omega));refine⟨r,zK,?_⟩;refine⟨_,by simp only[F41,resultD,Ba]<;>exact rfl,?_⟩;exact y5
def V3 (x:CM) (w:WM):WM:=D7 x (Ko x w 0) (x.tg 7 0)
def I7 (x:CM) (w:WM):WM:=if w.page=0 then w else if x.P=0 then V3 x w else Df x (V3 x w)
theorem term_cl{d:Nat}(hd:33≤d){H:List Zx}{g gm gt:Nat}{x:CM}{w:WM}{n:Nat}(zi:w.page≠0→WB w n)(hn:n≤30000)(ht:w.tot.length=x.ctl+1){pw:Nat}(hpw:H[pw]?=some ⟨28,1,[[.ptr g 0 0 0]],0,0,false⟩):CF d 58 [.ptr pw 0 0 0] H g gm gt x w (I7 x w):=by
 intro H1 low1 zJ wY
 have uP:g≠pw:=fun e=>by
  subst e;obtain⟨l,h4,_⟩:=zJ.hw;have:=(wY.2 _ _ hpw (.inl ⟨rfl,by simp⟩)).symm.trans h4;simp[wO]at this
 have hct:=x.ctl_lt;have hgH1:=zJ.lt;obtain⟨d0,rfl⟩:∃e,d=e+1:=⟨d-1,by omega⟩;obtain⟨lin1,wR,hlin1⟩:=zJ.hw;have hsg1:∀o,(H1.set g o)[g]?=some o:=fun o=>Bl wR o;have hpw1:=wY.2 _ _ hpw (.inl ⟨rfl,by simp⟩);have hpwS1:∀o,(H1.set g o)[pw]?=_:=fun o=>Bj hpw1 uP o
 suffices h:∃r,(∃T wr,r=(.tup [],T,wr)∧Ef ⟨H1,low1⟩ T g gm gt x w (I7 x w))∧A7 LP NN (d0+1) 58 [.ptr pw 0 0 0] ⟨H1,low1⟩=some r by
  obtain⟨r,⟨T,wr,rfl,h1⟩,h2⟩:=h;exact⟨T.heap,T.low,wr,h2,h1.ws,h1.kp,h1.lm⟩
 refine Gf (F:=F58) rfl (by simp only[LP,snapVs,zs,zm]<;>exact rfl) rfl (by simp only[LP,zf,zm];try rfl) (by simp only[F58,zv]<;>exact rfl) (by omega) ?_;intro d he;obtain rfl:=Nat.succ.inj he;have xq:=aI wR (aI hsg1 (aI hpw1 (aI hpwS1 (@List.set_set.{0}))));refine Ai (Ad (Kq ?_));refine xo3 ?_;refine xo1 ?_;refine xo1 ?_;apply Ac (by simp only[zl,zm,zd,Au,List.take,List.drop,wO,wRow,Jd,xq]<;>exact rfl);refine xo2 ?_;refine Aa (Af ?_);refine Cc (by simp only[opd,zv]<;>exact rfl) (fun hc=>?_) (fun hc=>?_)
 ·
  have hp0:w.page=0:=by have:=eq_of_beq hc;omega
  refine Az (Oq ?_);have e:I7 x w=w:=by unfold I7;rw[if_pos hp0]
  rw[e];obtain⟨r,zK,y5⟩:=Jt (S:=⟨H1,low1⟩) (S':=⟨H1,H1.length⟩) zJ zJ (Keep.refl _) (.inr rfl);refine⟨r,zK,?_⟩;refine⟨_,by simp only[F58,resultD,Ba]<;>exact rfl,?_⟩;exact y5
 have hp0:w.page≠0:=by have:=ne_of_beq_false hc;intro h;rw[h]at this;exact this rfl
 have wQ:=zi hp0;obtain⟨hBf0,hnf⟩:=WB.foot (x:=x) (x.ctl+1-0) (x.ctl+1) wQ (by omega) ht (Nat.le_refl _) (by omega);have hBf:=hBf0.mono (n':=n+132) (by omega);have hT7:=Ku (x:=x) hBf (by omega) hnf (k:=7) (lv:=0) (by omega);have hBp:=hBf.pres (x:=x) (by omega) hnf hT7;refine Ak (Bh rfl (Ad (Kq ?_)));obtain⟨H46,lo46,wr46,hc46,rX,vZ,hlo46,hlm46⟩:=(foot_run (d:=d0) (by omega) wQ (by omega) (l:=0) (Nat.zero_le _)).go H1.length zJ;obtain⟨linf,hwf,hlinf⟩:=rX.hw;have hsgf:∀o,(H46.set g o)[g]?=some o:=fun o=>Bl hwf o;have kZ:=(wY.trans vZ).2 _ _ hpw (.inl ⟨rfl,by simp⟩);have hpwSf:∀o,(H46.set g o)[pw]?=_:=fun o=>Bj kZ uP o;apply Ac (by simp only[zo];exact hc46);refine Aa (Af ?_);refine Ai (Fb ?_);refine Be (by simp only[zl,zm,zd,Au,List.take,List.drop,kZ]<;>exact rfl) rfl ?_;refine Be (by simp only[zl,zm,zd,Au,List.take,List.drop,kZ]<;>exact rfl) rfl ?_;refine xo8 rfl rfl ?_;refine xo4 rfl rfl ?_;refine Be (by simp only[zl,zm,zd,Au,List.take,List.drop,wO,wRow,Jd,hwf]<;>exact rfl) rfl ?_;refine xo55 rfl rfl ?_;apply Ce (by simp only[opd,zv,Ar,aop,LOp.loud,lop,if_true];exact congrArg (Option.map fun r=>(r,_,false)) (Rn rX _ (.inl ⟨rfl,.inr (.inr (.inr rfl))⟩))) (by simp only[fpHere,zo]<;>exact rfl) rfl;obtain⟨H48,lo48,wr48,hc48,hW48,hK48,hlo48,hlm48⟩:=(Wj (d:=d0) (by omega) hBf (by omega) hnf hT7 (x.tg_all (by omega))).go lo46 rX;obtain⟨linp,hwp,hlinp⟩:=hW48.hw;have hsgp:∀o,(H48.set g o)[g]?=some o:=fun o=>Bl hwp o;have hpwp:=(wY.trans (vZ.trans hK48)).2 _ _ hpw (.inl ⟨rfl,by simp⟩);have hpwSp:∀o,(H48.set g o)[pw]?=_:=fun o=>Bj hpwp uP o;apply Ce (by simp only[zo];exact hc48) (by simp only[fpHere,zo,zq]<;>exact rfl) (by cases wr48<;>first | rfl | (simp[show ob 127 7=[true,true,true,true,true,true,true] from rfl,Zz,Me,okHere,Ky,Ff,J9,dj,D9,fpQuiet,Oa,Et,Vj,Hu,E5];done));refine Cj (Af ?_);refine Ad (Ac (by simp only[zl,zm,zd,Au,List.take,List.drop,hpwp]<;>exact rfl) ?_);refine xo3 ?_;refine xo1 ?_;refine xo1 ?_;apply Ac (by simp only[zl,zm,zd,Au,List.take,List.drop,wO,wRow,Jd,hwp]<;>exact rfl);refine xo2 ?_;refine Aa (Af ?_);refine Cc (by simp only[opd,zv]<;>exact rfl) (fun hcF=>?_) (fun hcF=>?_)
 ·
  have hP:x.P≠0:=by have:=of_decide_eq_true hcF;omega
  have e:I7 x w=Df x (V3 x w):=by unfold I7;rw[if_neg hp0,if_neg hP]
  refine Am (Ac (by simp only[zl,zm,zd,Au,List.take,List.drop,hpwp]<;>exact rfl) ?_);obtain⟨H59,lo59,wr59,hc59,hW59,hK59,hlo59,hlm59⟩:=(Vw (d:=d0) (by omega) hBp (by omega)).go lo48 hW48;apply Ac (by simp only[zo];exact hc59);apply Aa;simp only[ze];rw[e]
  have zM:lo48≤max g gt∨V3 x w=w:=by
   rcases hlo46 with h | h
   ·
    exact .inl (Nat.le_trans hlm48 h)
   exact hlo48.imp_right fun h'=>h'.trans h
  have hl3:lo59≤max g gt∨Df x (V3 x w)=w:=by
   rcases zM with h | h
   ·
    exact .inl (Nat.le_trans hlm59 h)
   exact hlo59.imp_right fun h'=>h'.trans h
  obtain⟨r,zK,y5⟩:=Jt (S:=⟨H1,low1⟩) (S':=⟨H59,lo59⟩) zJ hW59 ((vZ.trans hK48).trans hK59) hl3;refine⟨r,zK,?_⟩;refine⟨_,by simp only[F58,resultD,Ba]<;>exact rfl,?_⟩;exact y5
 have hP:x.P=0:=by have:=of_decide_eq_false hcF;omega
 have e:I7 x w=V3 x w:=by unfold I7;rw[if_neg hp0,if_pos hP]
 apply Ak;rw[e]
 have zM:lo48≤max g gt∨V3 x w=w:=by
  rcases hlo46 with h | h
  ·
   exact .inl (Nat.le_trans hlm48 h)
  exact hlo48.imp_right fun h'=>h'.trans h
 obtain⟨r,zK,y5⟩:=Jt (S:=⟨H1,low1⟩) (S':=⟨H48,lo48⟩) zJ hW48 (vZ.trans hK48) zM;refine⟨r,zK,?_⟩;refine⟨_,by simp only[F58,resultD,Ba]<;>exact rfl,?_⟩;exact y5
theorem gen_run{d:Nat}(hd:35≤d){H:List Zx}(low:Nat){g gm gt:Nat}{x:CM}{w:WM}{y:RM}{n:Nat}(hW:WS H g gm gt x w)(zi:WB (setRow w y) n)(uH:w.page≠0→w.row≠none)(h20:20≤n)(hn:n≤30000)(hen:w.ended=false)(det:Int)(hdet:-1≤det∧det≤1)(c:Option Nat):∃r,(∃T,r=(.int .i64 0,T,true)∧WS T.heap g gm gt x (Nl x w y det)∧Keep H T.heap∧T.low≤g)∧A7 LP NN d 12 [.ptr g 0 0 0,.int .i64 det,.sl 12 y.fld c] ⟨H,low⟩=some r:=by
 obtain⟨lin,hw,yx⟩:=hW.hw;have hgH:=hW.lt;have hgl:=x.grps_len;have qI:∀l,(H++l)[g]?=_:=fun l=>Dc hw l;have hd1:(det < -1)=False:=eq_false (by omega);have hd2:(det≥((x.grps.length:Nat):Int))=False:=eq_false (by omega);have rW:=hW.app [⟨28,1,[[.ptr g 0 0 0]],0,0,false⟩,⟨3,1,[[.int .i64 det]],0,0,false⟩,⟨45,1,[[.sl 12 y.fld c]],0,0,false⟩];obtain⟨d0,rfl⟩:∃e,d=e+1:=⟨d-1,by omega⟩;obtain⟨rT,hrT,hcT⟩:=try_run (d:=d0) (by omega) H.length rW (f:=41) (caps:=[.ptr H.length 0 0 0,.ptr (H.length+2) 0 0 0,.ptr (H.length+1) 0 0 0]) (fun _=>rfl) (gen_cl (d:=d0-1) (by omega) zi uH h20 hn hW.hn det hdet (c:=c) (pw:=H.length) (pr:=H.length+2) (pg:=H.length+1) (Ia _ _) (at_app _ _ 2) (at_app _ _ 1));refine Gf (F:=F12) rfl (by simp only[LP,snapVs,zs,zm]<;>exact rfl) rfl (by simp only[LP,zf,zm];try rfl) (by simp only[F12,zv]<;>exact rfl) (by omega) ?_;intro d he;obtain rfl:=Nat.succ.inj he;have xq:=aI hw (aI qI (aI hd1 (aI hd2 (hen))));refine Ad (xo33 ?_);refine xo33 ?_;refine xo33 ?_;refine Aw (Aa (Af ?_));refine Ai (Aq (Ad (xo0 ?_)));apply Ac (by simp only[zo];exact none_run (by omega) _ rW);refine Ag rfl (Aa (Af ?_));refine Dx ?_;refine Ad (xo0 ?_);refine xo3 ?_;refine xo1 ?_;refine xo50 ?_;refine Ag rfl (Aa (Af ?_));refine Dx ?_;refine Ai (Fb ?_);refine xo6 rfl ?_;apply Aj (by simp only[zo,Bd,decide_false,xq]<;>exact rfl) rfl rfl;refine Ew rfl rfl (dw_kq 0 (b:=false) ?_);refine Dt rfl (xo6 rfl ?_);refine Dt rfl (xo6 rfl ?_);refine Dt rfl (xo8 rfl rfl ?_);refine Dt rfl (xo4 rfl rfl ?_);refine Dt rfl (xo4 rfl rfl ?_);refine Dt rfl (xo62 rfl ?_);refine Dt rfl (Aj (by simp only[zo,Ey,List.length_map]<;>exact rfl) rfl rfl ?_);refine Dt rfl (Aj (by simp only[zo,Bd,decide_false,xq]<;>exact rfl) rfl rfl ?_);refine xo8 rfl rfl ?_;refine Ew rfl rfl (dw_kq 0 (b:=false) ?_);refine Dt rfl (xo6 rfl ?_);refine Dt rfl (Aj (by simp only[zo,Bd]<;>exact rfl) rfl rfl ?_);refine Dt rfl (Ew rfl rfl ?_);refine Sz 0 (by simp only[zv]<;>exact rfl) (by simp only[zn]<;>exact rfl) (by simp only[zn]<;>exact rfl) (fun hg=>?_) (fun hg=>?_)
 ·
  have hdt:det=0∨det=1:=by have:=of_decide_eq_true hg;omega
  obtain⟨r4,hr4,hr5⟩:∃r4,(x.grps.map (GrM.row true))[det.toNat]?=some (.int .u8 4::r4)∧r4.length=3:=by
   rcases hdt with rfl | rfl
   ·
    exact⟨_,rfl,rfl⟩
   exact⟨_,rfl,rfl⟩
  have yH:((0:Int)≤det)=True:=eq_true (by omega);refine Dt rfl (Be (by simp only[zl,zm,zd,Au,List.take,List.drop,yH]<;>exact rfl) rfl ?_);refine Dt rfl (Aj (by simp only[zo,yH]<;>exact rfl) rfl rfl ?_);refine Dt rfl (Aj (by simp only[zo,Bz,zm,yH]<;>exact rfl) rfl rfl ?_);refine Dt rfl (Aj (by simp only[zo,Bz,zm,yH]<;>exact rfl) rfl rfl ?_);refine Dt rfl (Be (by simp only[zl,zm,zd,Au,List.take,List.drop,wO,wRow,xq,yH]<;>exact rfl) rfl ?_);refine Dt rfl (Be (by simp only[zl,zm,zd,Au,List.take,List.drop,yH]<;>exact rfl) rfl ?_);refine Dt rfl (Be (by simp only[zl,zm,Ci,hr4,yH]<;>exact rfl) rfl ?_);refine Dt rfl (Aj (by simp only[zo,Dw,zm,yH]<;>exact rfl) rfl rfl ?_);refine Dt rfl (Be (by simp only[zl,zm,zd,Au,List.take,List.drop,yH]<;>exact rfl) rfl ?_);refine Dt rfl (Aj (by simp only[zo,Bd,yH]<;>exact rfl) rfl rfl ?_);refine Dt rfl (Aj (by simp only[zo,yH]<;>exact rfl) rfl rfl ?_);apply Aj (by simp only[zo,yH]<;>exact rfl) rfl rfl;refine Ew rfl rfl (Cj (Af ?_));refine Dx ?_;refine Ak (Ed (Bh rfl (Ai (Ad (xo0 ?_)))));refine xo0 ?_;apply Ac (by simp only[zo];exact wcheck_run (by omega) _ rW y c);refine Ag rfl (Aa (Af ?_));refine Ad (Ae rfl (xo2 ?_));refine Aa (Af ?_);refine Dx ?_;refine Ak (Bh rfl (Ad (xo0 ?_)));refine xo3 ?_;obtain⟨T,rfl,hWT,hKT,hlT⟩:=hrT;apply Ac (by simp only[zo];exact hcT);refine Ag rfl (Aa (Af ?_));apply Az;refine⟨_,⟨⟨T.heap,min low T.low⟩,rfl,hWT,(Keep.app _ _).trans hKT,by show min low T.low≤g;omega⟩,?_⟩;refine⟨_,by simp only[F12,resultD,Ba,resD,zg]<;>exact rfl,?_⟩;exact Zq (S:=⟨H,low⟩) (S':=T) _ (by show T.low<H.length;omega) (fun _ _=>rfl)
 refine Dl rfl rfl (Dl rfl rfl (Dl rfl rfl (Dl rfl rfl (Dl rfl rfl (Dl rfl rfl (Dl rfl rfl (Dl rfl rfl (Dl rfl rfl (Dl rfl rfl (Dt rfl (xo8 rfl rfl ?_)))))))))));refine xo8 rfl rfl ?_;refine Ew rfl rfl (Cj (Af ?_));apply A8 (by simp only[opd,zv]);refine Ak (Ed (Bh rfl (Ai (Ad (xo0 ?_)))));refine xo0 ?_;apply Ac (by simp only[zo];exact wcheck_run (by omega) _ rW y c);refine Ag rfl (Aa (Af ?_));refine Ad (Ae rfl (xo2 ?_));refine Aa (Af ?_);refine Dx ?_;refine Ak (Bh rfl (Ad (xo0 ?_)));refine xo3 ?_;obtain⟨T,rfl,hWT,hKT,hlT⟩:=hrT;apply Ac (by simp only[zo];exact hcT);refine Ag rfl (Aa (Af ?_));apply Az;refine⟨_,⟨⟨T.heap,min low T.low⟩,rfl,hWT,(Keep.app _ _).trans hKT,by show min low T.low≤g;omega⟩,?_⟩;refine⟨_,by simp only[F12,resultD,Ba,resD,zg]<;>exact rfl,?_⟩;exact Zq (S:=⟨H,low⟩) (S':=T) _ (by show T.low<H.length;omega) (fun _ _=>rfl)
def endW (w:WM):WM:={ w with ended:=true }
theorem clip_slB{d:Nat}(hd:1≤d)(S:St)(rows:List (List D)):A7 LP NN d 37 [slB true 3 rows none] S=some (J3 rows,S,false):=by
 cases rows with
 | nil =>
  obtain⟨d,rfl⟩:∃e,d=e+1:=⟨d-1,by omega⟩;exact fast_ok (clip_nil d S)
 | cons r l=>exact clip_sl hd S (r::l) none
theorem clipR_free(rows:List (List D)):(J3 rows).Z5=true:=by cases rows<;>rfl
theorem clipR_snap(rows:List (List D)):∀m H,Z7 m H (J3 rows)=some (J3 rows):=fun m H=>by cases rows<;>rfl
theorem lines_run{d:Nat}(hd:2≤d){H:List Zx}(low:Nat){g gm gt:Nat}{x:CM}{w:WM}(hW:WS H g gm gt x w)(hl:w.lines.length≤100000):A7 LP NN d 11 [.ptr g 0 0 0] ⟨H,low⟩=some (J3 (w.lines.map lnR),⟨H,low⟩,false):=by
 obtain⟨lin,hw,yx⟩:=hW.hw;refine Gm (F:=F11) rfl (by simp only[LP,snapVs,zs,zm]<;>exact rfl) rfl (by simp only[LP,zf,zm];try rfl) (by simp only[F11,zv]<;>exact rfl) (by omega) ?_;rintro d rfl;refine Ad (Aw (Aa (Af ?_)));refine Ai (Ad (Ae rfl (Ac (by simp only[zo];exact none_run (by omega) _ hW) ?_)));refine Aa (Af ?_);refine Dx ?_;refine Ak (Bh rfl (Ad (Ae rfl (xo3 ?_))));refine xo1 ?_;refine xo1 ?_;apply Ac (by simp only[zl,zm,zd,Au,List.take,List.drop,hw,wO,wRow]<;>exact rfl);apply Ac (by simp only[zo];exact oclone_run (by omega) _ yx (by rw[List.length_map];exact hl));apply Ac (by simp only[zo];exact clip_slB (by omega) _ _);refine Ag rfl (Aa (Af ?_));apply Az;refine⟨_,by simp only[F11,resultD,Ba,resD,zg]<;>exact rfl,?_⟩;exact Fh _ _ _ _ (Nat.le_refl _) (clipR_free _) (clipR_snap _)
theorem term_run{d:Nat}(hd:35≤d){H:List Zx}(low:Nat){g gm gt:Nat}{x:CM}{w:WM}{n:Nat}(hW:WS H g gm gt x w)(zi:w.page≠0→WB w n)(hn:n≤30000)(hen:w.ended=false):∃r,(∃T,r=(.int .i64 0,T,true)∧WS T.heap g gm gt x (endW (I7 x w))∧Keep H T.heap∧T.low≤g)∧A7 LP NN d 17 [.ptr g 0 0 0] ⟨H,low⟩=some r:=by
 obtain⟨lin,hw,yx⟩:=hW.hw;have hgH:=hW.lt;have qI:∀l,(H++l)[g]?=_:=fun l=>Dc hw l;have rW:=hW.app [⟨28,1,[[.ptr g 0 0 0]],0,0,false⟩];obtain⟨d0,rfl⟩:∃e,d=e+1:=⟨d-1,by omega⟩;obtain⟨rT,hrT,hcT⟩:=try_run (d:=d0) (by omega) H.length rW (f:=58) (caps:=[.ptr H.length 0 0 0]) (fun _=>rfl) (term_cl (d:=d0-1) (by omega) zi hn hW.hn (pw:=H.length) (Ia _ _));refine Gf (F:=F17) rfl (by simp only[LP,snapVs,zs,zm]<;>exact rfl) rfl (by simp only[LP,zf,zm];try rfl) (by simp only[F17,zv]<;>exact rfl) (by omega) ?_;intro d he;obtain rfl:=Nat.succ.inj he;refine Ad (xo33 ?_);refine Aw (Aa (Af ?_));refine Ai (Aq (Ad (xo0 ?_)));apply Ac (by simp only[zo];exact none_run (by omega) _ rW);refine Ag rfl (Aa (Af ?_));refine Dx ?_;refine Ad (xo0 ?_);refine xo3 ?_;refine xo1 ?_;apply Ac (by simp only[zl,zm,zd,Au,List.take,List.drop,qI,wO,wRow,hen]<;>exact rfl);refine Ag rfl (Aa (Af ?_));refine Dx ?_;refine Ak (Ed (Bh rfl (Ad (xo0 ?_))));refine xo3 ?_;obtain⟨T,rfl,hWT,hKT,hlT⟩:=hrT;obtain⟨linT,hwT,hlinT⟩:=hWT.hw;have hpT:=hKT.2 _ _ (Ia H [⟨28,1,[[.ptr g 0 0 0]],0,0,false⟩]) (.inl ⟨rfl,by simp⟩);apply Ac (by simp only[zo];exact hcT);refine Ag rfl (Aa (Af ?_));refine Ad (Ac (by simp only[zl,zm,zd,Au,List.take,List.drop,hpT]<;>exact rfl) ?_);refine Ae rfl (xo2 ?_);refine xo3 ?_;refine xo1 ?_;apply Ac (by simp only[zl,zm,Bf,overlay,zs,zc,zf,List.take,List.drop,wO,wRow,hwT]<;>exact rfl);refine Aa (Af ?_);refine Ad (Ae rfl (Ag rfl (Aa (Af ?_))));apply Az;have hWe:=hWT.set (I7 x w).page (I7 x w).line (I7 x w).body (I7 x w).row linT (I7 x w).lines true hlinT;refine⟨_,⟨⟨_,min low (min T.low g)⟩,rfl,hWe,((Keep.app _ _).trans hKT).trans (Keep.set hWT _),by show min low (min T.low g)≤g;omega⟩,?_⟩;refine⟨_,by simp only[F17,resultD,Ba,resD,zg]<;>exact rfl,?_⟩;exact Zq (S:=⟨H,low⟩) (S':=⟨_,min T.low g⟩) _ (by show min T.low g<H.length;omega) (fun _ _=>rfl)
theorem sadd(a b:List UInt8)(h:a.length+b.length≤100000):pop (.bin .add) [.str (mkS a),.str (mkS b)]=some (.str (mkS (a++b))):=by
 simp only[pop,Bd,Oh,Dp];rw[if_neg (by rw[show IntKind.i64.max=9223372036854775807 from rfl];omega)]
def chgB (a b:RM) (lv:Nat):Bool:=(decide (1≤lv)&&a.A != b.A)||(decide (2≤lv)&&a.B != b.B)
def chgAt (l:List RM) (r lv:Nat):Bool:=match l[r]?,l[r+1]? with
 | some a,some b=>chgB a b lv
 | _,_=>false
def begF (l:List RM) (lv:Nat):Nat→Nat
 | 0=>0
 | r+1=>if chgAt l r lv then r+1 else begF l lv r
theorem RM.row_len(y:RM):y.row.length=4:=rfl
theorem part4{r:List D}(h:r.length=4):Au r 0 4 true=some (.agg r):=by
 simp only[Au,if_true,h,Nat.zero_add,Nat.le_refl,List.drop_zero];rw[←h,List.take_length]
structure VM where
 page:Nat
 line:Nat
 body:Bool
 lines:List (Nat × Nat × List UInt8)
def vRow (x:CM) (pg ln:D) (bo:Bool) (lin:D):List D:=[.int .u8 (x.co:Nat),.int .u16 (x.gr:Nat),.int .u8 (x.bl:Nat),.int .u8 (x.np:Nat),.int .u8 (x.p0:Nat),.int .u8 (x.p1:Nat),.int .u8 (x.p2:Nat),pg,ln,.bool bo,lin]
def vO (x:CM) (pg ln:D) (bo:Bool) (lin:D):Zx:=⟨107,11,[vRow x pg ln bo lin],0,0,false⟩
def VS (H:List Zx) (g:Nat) (x:CM) (v:VM):Prop:=∃lin,H[g]?=some (vO x (.int .i64 (v.page:Nat)) (.int .i64 (v.line:Nat)) v.body lin)∧LinAt H lin (v.lines.map lnR)
def KeepV (H H':List Zx):Prop:=H.length≤H'.length∧∀(j:Nat) (o:Zx),H[j]?=some o→o.kind=0∧o.elem≠107→H'[j]?=some o
theorem KeepV.refl(H:List Zx):KeepV H H:=⟨Nat.le_refl _,fun _ _ h _=>h⟩
theorem KeepV.trans{H H' H'':List Zx}(h:KeepV H H')(h':KeepV H' H''):KeepV H H'':=⟨Nat.le_trans h.1 h'.1,fun j o h1 h2=>h'.2 j o (h.2 j o h1 h2) h2⟩
theorem KeepV.app(H l:List Zx):KeepV H (H++l):=⟨by simp,fun j o h _=>Dc h l⟩
theorem VS.lt{H:List Zx}{g:Nat}{x:CM}{v:VM}(h:VS H g x v):g<H.length:=by
 obtain⟨lin,hw,_⟩:=h;exact Gn hw
theorem VS.app{H:List Zx}{g:Nat}{x:CM}{v:VM}(h:VS H g x v)(l:List Zx):VS (H++l) g x v:=by
 obtain⟨lin,hw,hl⟩:=h;exact⟨lin,Dc hw l,hl.keep fun j o hj _=>Dc hj l⟩
theorem VS.set{H:List Zx}{g:Nat}{x:CM}{v:VM}(h:VS H g x v)(pg ln:Nat)(bo:Bool)(lin:D)(lines:List (Nat × Nat × List UInt8))(hl:LinAt H lin (lines.map lnR)):VS (H.set g (vO x (.int .i64 (pg:Nat)) (.int .i64 (ln:Nat)) bo lin)) g x ⟨pg,ln,bo,lines⟩:=by
 obtain⟨lin0,hw,_⟩:=h;refine⟨lin,Bl hw _,hl.keep fun j o hj he=>Bj hj (fun e=>?_) _⟩;subst e;rw[hw]at hj;obtain rfl:=Option.some.inj hj;simp[vO]at he
theorem KeepV.set{H:List Zx}{g:Nat}{x:CM}{v:VM}(h:VS H g x v)(o':Zx):KeepV H (H.set g o'):=by
 obtain⟨lin0,hw,_⟩:=h;refine⟨by simp,fun j o hj hk=>Bj hj (fun e=>?_) _⟩;subst e;rw[hw]at hj;obtain rfl:=Option.some.inj hj;simp[vO]at hk
structure VE (S T:St) (g:Nat) (x:CM) (v v':VM):Prop where
 ws:VS T.heap g x v'
 kp:KeepV S.heap T.heap
 lo:T.low≤g∨v'=v
 lm:T.low≤S.low
def VF (d f:Nat) (args:List D) (g:Nat) (x:CM) (v v':VM):Prop:=∀(H:List Zx) (low:Nat),VS H g x v→∃r,(∃T wr,r=(.tup [],T,wr)∧VE ⟨H,low⟩ T g x v v')∧A7 LP NN d f (.ptr g 0 0 0::args) ⟨H,low⟩=some r
theorem VF.go{d f:Nat}{args:List D}{g:Nat}{x:CM}{v v':VM}(h:VF d f args g x v v'){H:List Zx}(low:Nat)(hW:VS H g x v):∃H' lo' wr,A7 LP NN d f (.ptr g 0 0 0::args) ⟨H,low⟩=some (.tup [],⟨H',lo'⟩,wr)∧VS H' g x v'∧KeepV H H'∧(lo'≤g∨v'=v)∧lo'≤low:=by
 obtain⟨r,⟨T,wr,rfl,h1⟩,h2⟩:=h H low hW;exact⟨T.heap,T.low,wr,h2,h1.ws,h1.kp,h1.lo,h1.lm⟩
def VM.put (v:VM) (p:Nat) (s:List UInt8):VM:={ v with line:=v.line+p,lines:=v.lines++[(v.page,v.line+p,s)] }
theorem VS.put{K H':List Zx}{g:Nat}{x:CM}{v:VM}(h:VS K g x v){o:Zx}(ho:o.kind=0∧o.elem=107)(xO:(K.set g o).length≤H'.length)(hf:∀(j:Nat) (o':Zx),(K.set g o)[j]?=some o'→(o'.kind=0∨o'.elem≠52)→H'[j]?=some o'){g' v':Nat}(p:Nat)(s:List UInt8)(hg':H'[g']?=some ⟨52,3,v.lines.map lnR++[lnR (v.page,v.line+p,s)],v',1,true⟩) :
  VS (H'.set g (vO x (.int .i64 (v.page:Nat)) (.int .i64 (v.line+p:Nat)) v.body (.msl g' v' 0 (v.lines.length+1) none))) g x (v.put p s)∧KeepV K (H'.set g (vO x (.int .i64 (v.page:Nat)) (.int .i64 (v.line+p:Nat)) v.body (.msl g' v' 0 (v.lines.length+1) none))):=by
 obtain⟨lin0,hw,_⟩:=h;have hg:H'[g]?=some o:=hf g o (Bl hw _) (.inl ho.1)
 have qZ:g≠g':=fun e=>by
  subst e;have:=hg.symm.trans hg';obtain rfl:=Option.some.inj this;simp at ho
 refine⟨⟨_,Bl hg _,.inr ⟨by simp[VM.put],.inr ⟨g',v',by simp[VM.put],?_⟩⟩⟩,?_,fun j o' hj hk=>?_⟩
 ·
  rw[Ln_ qZ,hg'];simp[VM.put]
 ·
  simpa using xO
 have hj2:j≠g:=fun e=>by
  subst e;rw[hw]at hj;obtain rfl:=Option.some.inj hj;simp[vO]at hk
 rw[Ln_ (Ne.symm hj2)];exact hf j o' (by rw[Ln_ (Ne.symm hj2)];exact hj) (.inl hk.1)
def VM.top (x:CM) (v:VM):VM:=if x.paged&&x.has 1 then v.put 1 ([80,32]++Bv v.page 2) else v
def VM.bot (x:CM) (v:VM):VM:=if x.has 8 then ({ v with line:=x.last }:VM).put 2 ([66,32]++Bv v.page 2) else { v with line:=x.last }
def VM.brk (x:CM) (v:VM) (h:Nat) (fresh:Bool):Bool:=v.body&&(fresh||decide (x.last<max v.line (x.first-1)+h))
def VM.newp (x:CM) (v:VM):VM:=VM.top x { VM.bot x v with page:=(VM.bot x v).page+1,line:=0 }
def VM.room (x:CM) (v:VM) (h:Nat) (fresh:Bool):VM:=if x.paged then (if v.brk x h fresh then { VM.newp x v with line:=max (VM.newp x v).line (x.first-1),body:=true } else { v with line:=max v.line (x.first-1),body:=true }) else v
structure VB (v:VM) (n:Nat):Prop where
 page:v.page≤n
 line:v.line≤n
 lines:v.lines.length≤n
theorem VB.mono{v:VM}{n n':Nat}(h:VB v n)(hn:n≤n'):VB v n':=⟨by have:=h.page;omega,by have:=h.line;omega,by have:=h.lines;omega⟩
theorem VB.put{v:VM}{n:Nat}(h:VB v n)(p:Nat)(hp:p≤2)(s:List UInt8):VB (v.put p s) (n+2):=⟨by have:=h.page;show v.page≤_;omega,by have:=h.line;show v.line+p≤_;omega,by have:=h.lines;simp[VM.put];omega⟩
theorem VB.top{v:VM}{n:Nat}(h:VB v n)(x:CM):VB (VM.top x v) (n+2):=by
 unfold VM.top;split
 ·
  exact h.put 1 (by omega) _
 exact h.mono (by omega)
theorem CM.last_le(x:CM):x.last≤12∧3≤x.first∧x.first≤5∧x.first+3≤x.last:=by
 have h1:x.p1 % 3<3:=Nat.mod_lt _ (by decide);have h2:x.p2 % 4<4:=Nat.mod_lt _ (by decide)
 unfold CM.last CM.first
 omega
theorem VB.bot{v:VM}{n:Nat}(h:VB v n)(x:CM)(hn:12≤n):VB (VM.bot x v) (n+2):=by
 have h0:=x.last_le;have h1:VB ({ v with line:=x.last }:VM) n:=⟨h.page,by show x.last≤n;omega,h.lines⟩;unfold VM.bot;split
 ·
  exact h1.put 2 (by omega) _
 exact h1.mono (by omega)
theorem VB.newp{v:VM}{n:Nat}(h:VB v n)(x:CM)(hn:12≤n):VB ({ VM.bot x v with page:=(VM.bot x v).page+1,line:=0 }:VM) (n+3)∧VB (VM.newp x v) (n+5):=by
 have h1:=h.bot x hn;have h2:VB ({ VM.bot x v with page:=(VM.bot x v).page+1,line:=0 }:VM) (n+3):=⟨by have:=h1.page;show (VM.bot x v).page+1≤_;omega,Nat.zero_le _,by have:=h1.lines;show (VM.bot x v).lines.length≤_;omega⟩;exact⟨h2,h2.top x⟩
theorem VB.room{v:VM}{n:Nat}(hv:VB v n)(x:CM)(hn:12≤n)(h:Nat)(f:Bool):VB (v.room x h f) (n+5):=by
 have h0:=x.last_le;unfold VM.room;split
 ·
  split
  ·
   have h1:=(hv.newp x hn).2;exact⟨h1.page,by have:=h1.line;show max (VM.newp x v).line (x.first-1)≤_;omega,h1.lines⟩
  exact⟨by have:=hv.page;show v.page≤_;omega,by have:=hv.line;show max v.line (x.first-1)≤_;omega,by have:=hv.lines;show v.lines.length≤_;omega⟩
 exact hv.mono (by omega)
def CM.npb (x:CM) (k:Nat):Bool:=x.np / 2 ^ k % 2==1
def hTxt (y:RM) (i:Nat):List UInt8:=[72]++Bv i 1++[32]++[y.A]++[y.B]
def VM.headI (x:CM) (y:RM) (i:Nat) (v:VM):VM:=if x.has (2+i) then (v.room x 1 (x.npb (1+i))).put 1 (hTxt y i) else v
def VM.headN (x:CM) (y:RM):Nat→Nat→VM→VM
 | _,0,v=>v
 | i,k+1,v=>VM.headN x y (i+1) k (v.headI x y i)
def VM.head (x:CM) (v:VM) (l:Nat) (y:RM):VM:=VM.headN x y l (x.ctl+1-l) v
theorem VB.headI{v:VM}{n:Nat}(h:VB v n)(kY:12≤n)(x:CM)(y:RM)(i:Nat):VB (v.headI x y i) (n+7):=by
 unfold VM.headI;split
 ·
  exact (h.room x kY _ _).put 1 (by omega) _
 exact h.mono (by omega)
theorem VB.head(x:CM)(y:RM):∀(k i:Nat) {v:VM} {n:Nat},VB v n→12≤n→VB (VM.headN x y i k v) (n+7*k)
 | 0,_,_,_,h,_=>h
 | k+1,i,v,n,h,kY=>by
  have:=VB.head x y k (i+1) (h.headI kY x y i) (by omega);rwa [show n+7+7*k=n+7*(k+1) by omega]at this
def sumN (l:List RM) (b k:Nat):Nat:=(((l.drop b).take k).map RM.N).sum
def Xf (l:List RM) (last i:Nat) (y:RM) (s:Nat):List UInt8:=[70]++Bv i 1++[32]++[y.A]++[y.B]++[32]++Bv s 6
def fSum (x:CM) (l:List RM) (last i:Nat):Nat:=sumN l (begF l (min i x.ctl) last) (last+1-begF l (min i x.ctl) last)
def VM.footI (x:CM) (l:List RM) (last:Nat) (y:RM) (i:Nat) (v:VM):VM :=
 if x.has (5+i) then (if x.blk i then ((v.room x 2 false).put 1 (Xf l last i y (fSum x l last i))).put 1 [] else (v.room x 1 false).put 1 (Xf l last i y (fSum x l last i))) else v
def VM.footN (x:CM) (l:List RM) (last:Nat) (y:RM):Nat→Nat→VM→VM
 | _,0,v=>v
 | i,k+1,v=>VM.footN x l last y (i-1) k (v.footI x l last y (i-1))
def VM.foot (x:CM) (v:VM) (lv:Nat) (l:List RM) (last:Nat) (y:RM):VM:=VM.footN x l last y (x.ctl+1) (x.ctl+1-lv) v
theorem VB.footI{v:VM}{n:Nat}(h:VB v n)(kY:12≤n)(x:CM)(l:List RM)(last:Nat)(y:RM)(i:Nat):VB (v.footI x l last y i) (n+9):=by
 unfold VM.footI;split
 ·
  split
  ·
   exact ((h.room x kY _ _).put 1 (by omega) _).put 1 (by omega) _
  exact ((h.room x kY _ _).put 1 (by omega) _).mono (by omega)
 exact h.mono (by omega)
theorem VB.foot(x:CM)(l:List RM)(last:Nat)(y:RM):∀(k i:Nat) {v:VM} {n:Nat},VB v n→12≤n→VB (VM.footN x l last y i k v) (n+9*k)
 | 0,_,_,_,h,_=>h
 | k+1,i,v,n,h,kY=>by
  have:=VB.foot x l last y k (i-1) (h.footI kY x l last y (i-1)) (by omega);rwa [show n+9+9*k=n+9*(k+1) by omega]at this
theorem begF_le(l:List RM)(lv:Nat):∀r,begF l lv r≤r
 | 0=>Nat.le_refl _
 | r + 1 => by
  rw[begF];split
  ·
   exact Nat.le_refl _
  have:=begF_le l lv r;omega
theorem Xu(l:List RM)(b k:Nat){y:RM}(h:l[b+k]?=some y):sumN l b (k+1)=sumN l b k+y.N:=by
 unfold sumN;rw[List.take_add_one,List.getElem?_drop,h];simp
def LinZ (z:D) (rows:List (List D)):Prop:=(rows=[]∧z=.nils)∨(rows≠[]∧∃c,z=.sl 3 rows c)
theorem LinAt.leaveP{H:List Zx}{d:D}{rows:List (List D)}(h:LinAt H d rows)(lo:Nat):∃z,LinZ z rows∧leaveP ⟨[],0⟩ d ⟨H,lo⟩=some (z,⟨[],0⟩,false):=by
 rcases h with⟨h1,rfl⟩ | ⟨h1,rfl | ⟨g,v,rfl,h3⟩⟩
 ·
  exact⟨.nils,.inl ⟨h1,rfl⟩,rfl⟩
 ·
  exact⟨_,.inr ⟨h1,_,rfl⟩,rfl⟩
 refine⟨.sl 3 rows none,.inr ⟨h1,_,rfl⟩,?_⟩;simp[YtbhnlppboegmjaaGreatDoor.leaveP,leave,Tv,Nq,Ls,h3,D.Z5,D.freeV,D.free,D.Aaa]
def VM.ini:VM:=⟨1,0,false,[]⟩
def lvD (a b:RM):Nat→Nat→Nat
 | 0,_=>0
 | n+1,k=>if chgB a b (k+1) then k+1 else lvD a b n (k+1)
def VM.fst (x:CM) (v:VM) (y:RM):VM:=VM.head x (VM.top x (if x.has 0 then v.put 1 [82,72] else v)) 0 y
def VM.nxt (x:CM) (v:VM) (l:List RM) (i:Nat) (a y:RM):VM:=if lvD a y x.ctl 0=0 then v else VM.head x (VM.foot x v (lvD a y x.ctl 0) l i a) (lvD a y x.ctl 0) y
def U1 (y:RM):List UInt8:=[y.A]++[y.B]++[32]++Bv y.N 3
def U0 (y:RM):List UInt8:=[32,32,32,32,32,32,32,32,32]++Bv y.N 3
def VM.det (x:CM) (v:VM) (y:RM):VM:=if y.det=0 then (v.room x 1 (x.npb 0)).put 1 (U1 y) else if y.det=1 then (v.room x 2 false).put 2 (U0 y) else v
def VM.rows (x : CM) (l : List RM) : Nat → VM → VM
 | 0,v=>v
 | i + 1, v => match l[i]? with
  | none=>VM.rows x l i v
  | some y => VM.det x (match i with
   | 0=>VM.fst x (VM.rows x l 0 v) y
   | j+1=>match l[j]? with
    | some a=>VM.nxt x (VM.rows x l (j+1) v) l j a y
    | none=>VM.rows x l (j+1) v) y
def VM.fin1 (x:CM) (v:VM) (l:List RM) (y:RM):VM:=VM.foot x v 0 l (l.length-1) y
def VM.fin2 (x:CM) (v:VM):VM:=if x.has 9 then (v.room x 1 false).put 1 [82,70] else v
def VM.fin (x:CM) (v:VM) (l:List RM) (y:RM):VM:=if x.paged then VM.bot x (VM.fin2 x (VM.fin1 x v l y)) else VM.fin2 x (VM.fin1 x v l y)
def VM.all (x:CM) (l:List RM) (e:Bool):VM:=if e then (match l[l.length-1]? with
 | some y=>VM.fin x (VM.rows x l l.length VM.ini) l y
 | none=>VM.rows x l l.length VM.ini) else VM.rows x l l.length VM.ini
theorem lvD_le(a b:RM):∀n k,lvD a b n k≤k+n
 | 0,k=>Nat.zero_le _
 | n + 1, k => by
  rw[lvD];split
  ·
   omega
  have:=lvD_le a b n (k+1);omega
theorem VB.fst{v:VM}{n:Nat}(h:VB v n)(kY:12≤n)(x:CM)(y:RM):VB (if x.has 0 then v.put 1 [82,72] else v) (n+2)∧VB (VM.top x (if x.has 0 then v.put 1 [82,72] else v)) (n+4)∧VB (VM.fst x v y) (n+25):=by
 have hc:=x.ctl_lt
 have h1:VB (if x.has 0 then v.put 1 [82,72] else v) (n+2):=by
  split
  ·
   exact h.put 1 (by omega) _
  exact h.mono (by omega)
 have h2:=h1.top x;exact⟨h1,h2,(VB.head x y (x.ctl+1-0) 0 h2 (by omega)).mono (by omega)⟩
theorem VB.nxt{v:VM}{n:Nat}(h:VB v n)(kY:12≤n)(x:CM)(l:List RM)(i:Nat)(a y:RM)(lv:Nat):VB (VM.foot x v lv l i a) (n+27)∧VB (VM.nxt x v l i a y) (n+48):=by
 have hc:=x.ctl_lt;have h1:∀lv,VB (VM.foot x v lv l i a) (n+27):=fun lv=>(VB.foot x l i a (x.ctl+1-lv) (x.ctl+1) h kY).mono (by omega);refine⟨h1 lv,?_⟩;unfold VM.nxt;split
 ·
  exact h.mono (by omega)
 exact (VB.head x y (x.ctl+1-_) _ (h1 _) (by omega)).mono (by omega)
theorem VB.det{v:VM}{n:Nat}(h:VB v n)(kY:12≤n)(x:CM)(y:RM):VB (VM.det x v y) (n+7):=by
 unfold VM.det;split
 ·
  exact (h.room x kY _ _).put 1 (by omega) _
 split
 ·
  exact (h.room x kY _ _).put 2 (by omega) _
 exact h.mono (by omega)
theorem VB.rows(x:CM)(l:List RM):∀i,VB (VM.rows x l i VM.ini) (12+55*i)
 | 0=>⟨by show 1≤_;omega,Nat.zero_le _,Nat.zero_le _⟩
 | i + 1 => by
  have ih:=VB.rows x l i;rw[VM.rows];split
  ·
   exact ih.mono (by omega)
  rename_i y _
  cases i with
  | zero =>
   have h1:=(ih.fst (by omega) x y).2.2;have h2:=h1.det (by omega) x y;exact VB.mono h2 (by omega)
  | succ j =>
   cases hj:l[j]? with
   | none =>
    have h2:=ih.det (by omega) x y;simp only[hj];exact VB.mono h2 (by omega)
   | some a =>
    have h1:=(ih.nxt (by omega) x l j a y 0).2;have h2:=h1.det (by omega) x y;simp only[hj];exact VB.mono h2 (by omega)
def VM.pre (x:CM) (l:List RM) (i:Nat) (y:RM):VM:=match i with
 | 0=>VM.fst x (VM.rows x l 0 VM.ini) y
 | j+1=>match l[j]? with
  | some a=>VM.nxt x (VM.rows x l (j+1) VM.ini) l j a y
  | none=>VM.rows x l (j+1) VM.ini
theorem Ua(x:CM)(l:List RM){i:Nat}{y:RM}(h:l[i]?=some y):VM.rows x l (i+1) VM.ini=VM.det x (VM.pre x l i y) y:=by
 rw[VM.rows,h];cases i<;>rfl
theorem VB.pre(x:CM)(l:List RM){i:Nat}{y:RM}(h:l[i]?=some y):VB (VM.pre x l i y) (12+55*i+48):=by
 have ih:=VB.rows x l i;unfold VM.pre
 cases i with
 | zero=>exact VB.mono (ih.fst (by omega) x y).2.2 (by omega)
 | succ j =>
  cases hj:l[j]? with
  | none=>simp only[hj];exact VB.mono ih (by omega)
  | some a=>simp only[hj];exact (ih.nxt (by omega) x l j a y 0).2
def toV (w:WM):VM:=⟨w.page,w.line,w.body,w.lines⟩
theorem CM.P_iff(x:CM):x.P=0↔x.paged=false:=by
 unfold CM.P;cases x.paged<;>simp
theorem CM.L_eq(x:CM)(h:x.paged=true):x.L=x.last∧x.F=x.first:=by simp[CM.L,CM.F,h]
theorem toV_put(w:WM)(p:Nat)(s:List UInt8):toV (w.put p s)=(toV w).put p s:=rfl
theorem Xr(w:WM)(p:Nat)(its:List It):w.write [(p,its)]=w.put p (Ee w its):=rfl
theorem fillL1(i:Nat)(h:i<10):Bv i 1=[dgt i]:=by
 simp[Bv,dgt,Nat.mod_eq_of_lt h]
theorem rend_L2(w:WM)(a b:UInt8):Ee w [.lit 1 [a,b]]=[a,b]:=by simp[Ee,O4,It.col,It.txt]
theorem rend_LP(w:WM)(a:UInt8):Ee w [.lit 1 [a],.pag]=[a,32]++Bv w.page 2:=by simp[Ee,O4,It.col,It.txt]
theorem rend_H(w:WM)(y:RM)(hr:w.row=some y)(i:Nat)(hi:i<10):Ee w [.lit 1 [72,dgt i],.key 4 0,.key 5 1]=hTxt y i:=by simp[Ee,O4,It.col,It.txt,hr,hTxt,fillL1 i hi]
theorem rend_F(w:WM)(y:RM)(hr:w.row=some y)(i:Nat)(hi:i<10)(l:List RM)(last:Nat):Ee w [.lit 1 [70,dgt i],.key 4 0,.key 5 1,.tot i]=Xf l last i y (w.tot.getD i 0):=by simp[Ee,O4,It.col,It.txt,hr,Xf,fillL1 i hi]
theorem rend_D1(w:WM)(y:RM)(hr:w.row=some y):Ee w [.key 1 0,.key 2 1,.num 4]=U1 y:=by simp[Ee,O4,It.col,It.txt,hr,U1]
theorem rend_D2(w:WM)(y:RM)(hr:w.row=some y):Ee w [.num 10]=U0 y:=by simp[Ee,O4,It.col,It.txt,hr,U0,List.replicate]
theorem bot_eq(x:CM)(hp:x.paged=true)(w:WM):toV (Df x w)=VM.bot x (toV w):=by
 have hL:=(x.L_eq hp).1;have e:x.tg 6 0=if x.has 8 then tPF else tZ:=by simp[CM.tg,hp]
 unfold Df VM.bot;rw[e,hL];split
 ·
  show toV (WM.write _ [(2,[.lit 1 [66],.pag])])=_;rw[Xr,rend_LP];rfl
 rfl
theorem top_eq(x:CM)(w:WM):toV (w.write (x.tg 2 0).tl)=VM.top x (toV w):=by
 have e:x.tg 2 0=if x.paged&&x.has 1 then tPH else tZ:=by simp[CM.tg,Bool.and_comm]
 unfold VM.top;rw[e];split
 ·
  show toV (WM.write _ [(1,[.lit 1 [80],.pag])])=_;rw[Xr,rend_LP];rfl
 rfl
theorem top_body(x:CM)(v:VM)(b:Bool):VM.top x { v with body:=b }={ VM.top x v with body:=b }:=by
 unfold VM.top;split<;>rfl
theorem newp_eq(x:CM)(hp:x.paged=true)(w:WM):toV (Em x w)={ VM.newp x (toV w) with body:=false }:=by
 unfold Em VM.newp;rw[top_eq,←top_body,←bot_eq x hp w];rfl
theorem room_eq(x:CM)(w:WM)(t:TG)(f:Bool)(ht:t.tl≠[])(hf:x.paged=true→t.np=f):toV (Gu x w t)=(toV w).room x t.h f:=by
 unfold Gu VM.room
 cases hp:x.paged with
 | false=>rw[if_pos (x.P_iff.2 hp)];simp
 | true =>
  have h1:=x.L_eq hp;rw[if_neg (by rw[x.P_iff,hp];simp),if_neg ht]
  have hb:Gy x w t=(toV w).brk x t.h f:=by
   unfold Gy VM.brk;rw[h1.1,h1.2,hf hp,Nat.add_comm];rfl
  rw[hb];simp only[if_true]
  cases (toV w).brk x t.h f with
  | false=>simp only[Bool.false_eq_true,if_false];rw[h1.2];rfl
  | true =>
   simp only[if_true];have h2:=newp_eq x hp w;have h3:(Em x w).line=(VM.newp x (toV w)).line:=congrArg VM.line h2;have h4:(Em x w).page=(VM.newp x (toV w)).page:=congrArg VM.page h2;have h5:(Em x w).lines=(VM.newp x (toV w)).lines:=congrArg VM.lines h2;show (⟨(Em x w).page,max (Em x w).line (x.F-1),true,(Em x w).lines⟩:VM)=_;rw[h3,h4,h5,h1.2]
def InvV (x:CM) (v:VM):Prop:=x.paged=true→if v.body then v.line≤x.last else v.line≤2
theorem Ju{x:CM}{v:VM}(h:InvV x v)(n:Nat)(hn:n≤2)(f:Bool)(hp:x.paged=true):(v.room x n f).line+n≤x.last∧(v.room x n f).body=true:=by
 have hl:=x.last_le;have h0:=h hp;unfold VM.room;rw[if_pos hp]
 cases hb:v.brk x n f with
 | true =>
  simp only[if_true];refine⟨?_,trivial⟩
  have:(VM.newp x v).line≤1:=by
   unfold VM.newp VM.top;split
   ·
    simp[VM.put]
   simp
  show max (VM.newp x v).line (x.first-1)+n≤x.last;omega
 | false =>
  simp only[Bool.false_eq_true,if_false];refine⟨?_,trivial⟩;show max v.line (x.first-1)+n≤x.last
  cases hv:v.body with
  | true =>
   rw[hv,if_pos rfl]at h0
   have:¬(x.last<max v.line (x.first-1)+n):=fun h'=>by
    have:v.brk x n f=true:=by simp[VM.brk,hv,h']
    rw[hb]at this;simp at this
   omega
  | false =>
   rw[hv]at h0;simp at h0;omega
theorem Uj{x:CM}{v:VM}{p:Nat}(s:List UInt8)(h:x.paged=true→v.line+p≤x.last∧v.body=true):InvV x (v.put p s):=fun hp=>by
 obtain⟨h1,h2⟩:=h hp;show if v.body then v.line+p≤x.last else _
 rw[h2,if_pos rfl];exact h1
theorem inv_ub{x:CM}{v:VM}(h:InvV x v)(hp:x.paged=true):max v.line (x.first-1)≤x.last:=by
 have hl:=x.last_le;have h0:=h hp;split at h0<;>omega
theorem X3{x:CM}{w:WM}(h:InvV x (toV w)):D7 x w tZ=w:=by
 unfold D7 Gu;show (if x.P=0 then w else if tZ.tl=[] then (if Gy x w tZ then Em x w else w) else _:WM).write []=w;split
 ·
  rfl
 rename_i hP
 have hp:x.paged=true:=by
  cases h:x.paged with
  | true=>rfl
  | false=>exact absurd (x.P_iff.2 h) hP
 have h1:=inv_ub h hp;have h2:=x.L_eq hp
 have hb:Gy x w tZ=false:=by
  simp only[Gy,tZ,TG.h,Bool.false_or,Bool.and_eq_false_imp,decide_eq_false_iff_not,h2.1,h2.2,List.map_nil,List.sum_nil];intro _;have:(toV w).line=w.line:=rfl;rw[this]at h1;omega
 rw[if_pos (show tZ.tl=[] from rfl),hb];rfl
theorem pres1(x:CM)(w:WM)(t:TG)(f:Bool){p:Nat}{its:List It}(ht:t.tl=[(p,its)])(hf:x.paged=true→t.np=f):toV (D7 x w t)=((toV w).room x t.h f).put p (Ee (Gu x w t) its):=by
 unfold D7;rw[ht,Xr,toV_put,room_eq x w t f (by rw[ht];simp) hf]
theorem Q9(x:CM)(w:WM)(t:TG):(Gu x w t).row=w.row:=(room_f x w t).1
theorem pres_H{x:CM}{w:WM}{y:RM}(hr:w.row=some y){i:Nat}(hi:i<3){b f:Bool}(hf:x.paged=true→b=f):toV (D7 x w (tH i b))=((toV w).room x 1 f).put 1 (hTxt y i):=by
 rw[pres1 x w (tH i b) f rfl hf,rend_H _ y ((Q9 _ _ _).trans hr) i (by omega)];rfl
theorem pres_D1{x:CM}{w:WM}{y:RM}(hr:w.row=some y){b f:Bool}(hf:x.paged=true→b=f):toV (D7 x w (tD1 b))=((toV w).room x 1 f).put 1 (U1 y):=by
 rw[pres1 x w (tD1 b) f rfl hf,rend_D1 _ y ((Q9 _ _ _).trans hr)];rfl
theorem pres_D2{x:CM}{w:WM}{y:RM}(hr:w.row=some y):toV (D7 x w tD2)=((toV w).room x 2 false).put 2 (U0 y):=by
 rw[pres1 x w tD2 false rfl (fun _=>rfl),rend_D2 _ y ((Q9 _ _ _).trans hr)];rfl
theorem pres_RF{x:CM}{w:WM}:toV (D7 x w tRF)=((toV w).room x 1 false).put 1 [82,70]:=by
 rw[pres1 x w tRF false rfl (fun _=>rfl),rend_L2];rfl
theorem pres_F{x:CM}{w:WM}{y:RM}(hr:w.row=some y){i:Nat}(hi:i<3)(b:Bool)(l:List RM)(last:Nat):toV (D7 x w (tF i b))=if b then (((toV w).room x 2 false).put 1 (Xf l last i y (w.tot.getD i 0))).put 1 [] else ((toV w).room x 1 false).put 1 (Xf l last i y (w.tot.getD i 0)):=by
 have ht:∀b,(Gu x w (tF i b)).tot=w.tot:=fun b=>(room_f x w (tF i b)).2.1
 cases b with
 | false =>
  rw[pres1 x w (tF i false) false rfl (fun _=>rfl),rend_F _ y ((Q9 _ _ _).trans hr) i (by omega) l last,ht];rfl
 | true =>
  unfold D7;show toV (WM.write (WM.write _ [(1,[.lit 1 [70,dgt i],.key 4 0,.key 5 1,.tot i])]) [(1,[])])=_;rw[Xr,Xr,toV_put,toV_put,rend_F _ y ((Q9 _ _ _).trans hr) i (by omega) l last,room_eq x w (tF i true) false (by simp[tF]) (fun _=>rfl),ht];rfl
theorem inv_headI{x:CM}{v:VM}(h:InvV x v)(y:RM)(i:Nat):InvV x (v.headI x y i):=by
 unfold VM.headI;split
 ·
  exact Uj _ fun hp=>Ju h 1 (by omega) _ hp
 exact h
theorem inv_footI{x:CM}{v:VM}(h:InvV x v)(l:List RM)(last:Nat)(y:RM)(i:Nat):InvV x (v.footI x l last y i):=by
 unfold VM.footI;split
 ·
  split
  ·
   refine Uj _ fun hp=>?_;have:=Ju h 2 (by omega) false hp;exact⟨by show (v.room x 2 false).line+1+1≤_;omega,this.2⟩
  exact Uj _ fun hp=>Ju h 1 (by omega) _ hp
 exact h
theorem nps_npb{x:CM}(hp:x.paged=true)(k:Nat):x.nps k=x.npb k:=by simp[CM.nps,CM.npb,hp]
theorem headI_eq{x:CM}{w:WM}{y:RM}(hr:w.row=some y)(hI:InvV x (toV w)){i:Nat}(hi:i<3):toV (D7 x w (x.tg 3 i))=(toV w).headI x y i:=by
 unfold VM.headI;have e:x.tg 3 i=if x.has (2+i) then tH i (x.nps (1+i)) else tZ:=rfl
 rw[e];split
 ·
  exact pres_H hr hi (fun hp=>nps_npb hp _)
 rw[X3 hI]
theorem headN_eq{x:CM}{y:RM}:∀(k i:Nat) {w:WM},w.row=some y→InvV x (toV w)→i+k≤3→toV (headN x i k w)=VM.headN x y i k (toV w)∧InvV x (toV (headN x i k w))
 | 0,_,_,_,hI,_=>⟨rfl,hI⟩
 | k+1,i,w,hr,hI,hk=>by
  have h1:=headI_eq hr hI (i:=i) (by omega);have h2:=headN_eq k (i+1) (w:=D7 x w (x.tg 3 i)) ((Iz x w _).1.trans hr) (by rw[h1];exact inv_headI hI y i) (by omega);rw[h1]at h2;exact h2
theorem toV_clr(w:WM)(i:Nat):toV (w.clr i)=toV w:=rfl
theorem getD_set(l:List Nat)(i j:Nat):(l.set i 0).getD j 0=if i=j then 0 else l.getD j 0:=by
 rw[List.getD_eq_getElem?_getD,List.getD_eq_getElem?_getD,List.getElem?_set];split
 ·
  split<;>rfl
 rfl
theorem footI_eq{x:CM}{w:WM}{a:RM}(hr:w.row=some a)(hI:InvV x (toV w)){i:Nat}(hi:i<3)(l:List RM)(last:Nat)(ht:w.tot.getD i 0=fSum x l last i):toV ((D7 x w (x.tg 5 i)).clr i)=(toV w).footI x l last a i:=by
 rw[toV_clr];unfold VM.footI;have e:x.tg 5 i=if x.has (5+i) then tF i (x.blk i) else tZ:=rfl
 rw[e];split
 ·
  rw[pres_F hr hi (x.blk i) l last,ht]
 rw[X3 hI]
theorem footN_eq{x:CM}{a:RM}(l:List RM)(last:Nat):∀(k i:Nat) {w:WM},w.row=some a→InvV x (toV w)→i≤3→k≤i→(∀j,j<i→w.tot.getD j 0=fSum x l last j)→toV (footN x i k w)=VM.footN x l last a i k (toV w)∧InvV x (toV (footN x i k w))
 | 0,_,_,_,hI,_,_,_=>⟨rfl,hI⟩
 | k + 1, i, w, hr, hI, hi, hk, ht => by
  have h1:=footI_eq hr hI (i:=i-1) (by omega) l last (ht (i-1) (by omega))
  have h2:=footN_eq l last k (i-1) (w:=(D7 x w (x.tg 5 (i-1))).clr (i-1)) ((Iz x w _).1.trans hr) (by rw[h1];exact inv_footI hI l last a (i-1)) (by omega) (by omega) (fun j hj=>by
   show ((D7 x w (x.tg 5 (i-1))).tot.set (i-1) 0).getD j 0=_;rw[getD_set,if_neg (by omega),(Iz x w _).2.1]
   exact ht j (by omega))
  rw[h1]at h2;exact h2
theorem footN_tot(x:CM):∀(k i:Nat) (w:WM),k≤i→∀j,(footN x i k w).tot.getD j 0=if i-k≤j∧j<i then 0 else w.tot.getD j 0
 | 0,i,w,_,j=>by rw[if_neg (by omega)];rfl
 | k + 1, i, w, hk, j => by
  have h:=footN_tot x k (i-1) ((D7 x w (x.tg 5 (i-1))).clr (i-1)) (by omega) j;rw[footN,h];show (if _ then 0 else ((D7 x w (x.tg 5 (i-1))).tot.set (i-1) 0).getD j 0)=_;rw[getD_set,(Iz x w _).2.1];by_cases h1:i-1=j
  ·
   rw[if_pos h1,ite_self,if_pos (by omega)]
  rw[if_neg h1];by_cases h2:i-1-k≤j∧j<i-1
  ·
   rw[if_pos h2,if_pos (by omega)]
  rw[if_neg h2,if_neg (by omega)]
theorem write_page(w:WM)(tl:List (Nat × List It)):(w.write tl).page=w.page:=(Gz w tl).2.1
theorem Ub(x:CM)(w:WM)(t:TG):w.page≤(D7 x w t).page:=by
 have h0:w.page≤(if Gy x w t then Em x w else w).page:=by
  split
  ·
   unfold Em;rw[write_page];show w.page≤(Df x w).page+1;rw[(Tf x w).2.1];omega
  exact Nat.le_refl _
 unfold D7;rw[write_page];unfold Gu;split
 ·
  exact Nat.le_refl _
 split<;>exact h0
theorem Vg(x:CM):∀(k i:Nat) (w:WM),w.page≤(headN x i k w).page
 | 0,_,_=>Nat.le_refl _
 | k+1,i,w=>Nat.le_trans (Ub x w _) (Vg x k (i+1) _)
theorem footN_page(x:CM):∀(k i:Nat) (w:WM),w.page≤(footN x i k w).page
 | 0,_,_=>Nat.le_refl _
 | k+1,i,w=>Nat.le_trans (Ub x w (x.tg 5 (i-1))) (footN_page x k (i-1) ((D7 x w (x.tg 5 (i-1))).clr (i-1)))
theorem lvD_brk(a y:RM)(c:Nat)(hc:c<3):(Xl a y c).toNat=lvD a y c 0:=by
 have h:∀p q:UInt8,(p != q)=!decide (p=q):=fun p q=>by rw[bne,Bool.eq_iff_iff];simp
 rcases (by omega:c=0∨c=1∨c=2) with rfl | rfl | rfl<;>by_cases h1:a.A=y.A<;>by_cases h2:a.B=y.B<;>simp[Xl,lvD,chgB,h1,h2]
theorem chg_lvD(a y:RM)(c j:Nat)(hc:c<3)(hj:j≤c):chgB a y j=decide (lvD a y c 0≠0∧lvD a y c 0≤j):=by
 rcases (by omega:c=0∨c=1∨c=2) with rfl | rfl | rfl<;>rcases (by omega:j=0∨j=1∨j=2) with rfl | rfl | rfl<;>first | omega | (by_cases h1:a.A=y.A<;>by_cases h2:a.B=y.B<;>simp[lvD,chgB,h1,h2])
theorem fSum_first(x:CM)(l:List RM){y:RM}(h:l[0]?=some y)(j:Nat):fSum x l 0 j=y.N:=by
 show sumN l 0 1=_;have:=Xu l 0 0 (y:=y) (by simpa using h);rw[this];simp[sumN]
theorem fSum_step(x:CM)(l:List RM){i:Nat}{a y:RM}(ha:l[i]?=some a)(hy:l[i+1]?=some y)(j:Nat):fSum x l (i+1) j=if chgB a y (min j x.ctl) then y.N else fSum x l i j+y.N:=by
 have e:chgAt l i (min j x.ctl)=chgB a y (min j x.ctl):=by simp[chgAt,ha,hy]
 unfold fSum;rw[begF,e];split
 ·
  have:=Xu l (i+1) 0 (y:=y) (by simpa using hy);rw[show i+1+1-(i+1)=0+1 by omega,this];simp[sumN]
 have hb:=begF_le l (min j x.ctl) i;rw[show i+1+1-begF l (min j x.ctl) i=(i+1-begF l (min j x.ctl) i)+1 by omega,Xu l _ _ (y:=y)];rw[show begF l (min j x.ctl) i+(i+1-begF l (min j x.ctl) i)=i+1 by omega];exact hy
structure TQ (x:CM) (l:List RM) (i:Nat) (w:WM):Prop where
 row:∃a,l[i-1]?=some a∧w.row=some a
 tot:∀j,j≤x.ctl→w.tot.getD j 0=fSum x l (i-1) j
 len:w.tot.length=x.ctl+1
 page:w.page≠0
 ended:w.ended=false
def w0 (x:CM):WM:=⟨0,0,false,none,List.replicate (x.ctl+1) 0,[],false⟩
theorem gen_keep(x:CM)(w:WM)(y:RM)(det:Int):(Nl x w y det).row=(genA x w y).row∧(Nl x w y det).tot=(genA x w y).tot∧(Nl x w y det).ended=(genA x w y).ended∧(genA x w y).page≤(Nl x w y det).page:=by
 unfold Nl;split
 ·
  exact⟨(Iz x _ _).1,(Iz x _ _).2.1,(Iz x _ _).2.2,Ub x _ _⟩
 split
 ·
  exact⟨(Iz x _ _).1,(Iz x _ _).2.1,(Iz x _ _).2.2,Ub x _ _⟩
 exact⟨rfl,rfl,rfl,Nat.le_refl _⟩
theorem genA_f(x:CM)(w:WM)(y:RM):(genA x w y).row=some y∧(genA x w y).tot=(Ec x w y).tot.map (·+y.N)∧(genA x w y).ended=(Ec x w y).ended∧(genA x w y).page=(Ec x w y).page:=⟨rfl,rfl,rfl,rfl⟩
theorem getD_map(l:List Nat)(N j:Nat)(h:j<l.length):(l.map (·+N)).getD j 0=l.getD j 0+N:=by
 simp[h]
theorem start_f(x:CM)(w:WM)(y:RM):(Qz x w y).tot=w.tot∧(Qz x w y).ended=w.ended∧1≤(Qz x w y).page:=by
 have h1:=Gz (stA w y) (x.tg 1 0).tl;have h2:=Gz ((stA w y).write (x.tg 1 0).tl) (x.tg 2 0).tl;have h3:=Qe x (x.ctl+1-0) 0 (((stA w y).write (x.tg 1 0).tl).write (x.tg 2 0).tl);have h4:=Vg x (x.ctl+1-0) 0 (((stA w y).write (x.tg 1 0).tl).write (x.tg 2 0).tl);rw[h2.2.1,h1.2.1]at h4;exact⟨h3.2.1.trans (h2.2.2.1.trans h1.2.2.1),h3.2.2.trans (h2.2.2.2.2.trans h1.2.2.2.2),h4⟩
theorem TQ.first(x:CM){l:List RM}{y:RM}(hy:l[0]?=some y)(det:Int):TQ x l 1 (Nl x (w0 x) y det):=by
 obtain⟨k1,k2,k3,k4⟩:=gen_keep x (w0 x) y det;obtain⟨a1,a2,a3,a4⟩:=genA_f x (w0 x) y;have e:Ec x (w0 x) y=Qz x (w0 x) y:=if_pos rfl;obtain⟨s1,s2,s3⟩:=start_f x (w0 x) y;refine⟨⟨y,hy,k1.trans a1⟩,fun j hj=>?_,?_,?_,?_⟩
 ·
  rw[k2,a2,e,s1,getD_map _ _ _ (by simp[w0];omega),fSum_first x l hy];simp[w0,List.getElem?_replicate];split<;>rfl
 ·
  rw[k2,a2,e,s1];simp[w0]
 ·
  rw[a4,e]at k4;omega
 rw[k3,a3,e,s2];rfl
theorem foot_len(x:CM):∀(k i:Nat) (w:WM),(footN x i k w).tot.length=w.tot.length
 | 0,_,_=>rfl
 | k+1,i,w=>by
  rw[footN,foot_len x k (i-1)];show ((D7 x w _).tot.set _ _).length=_;rw[List.length_set,(Iz x w _).2.1]
theorem TQ.next(x:CM){l:List RM}{i:Nat}{w:WM}(h:TQ x l (i+1) w){y:RM}(hy:l[i+1]?=some y)(det:Int):TQ x l (i+2) (Nl x w y det):=by
 obtain⟨a,ha,hr⟩:=h.row;have ha:l[i]?=some a:=ha;have hc:=x.ctl_lt;obtain⟨k1,k2,k3,k4⟩:=gen_keep x w y det;obtain⟨a1,a2,a3,a4⟩:=genA_f x w y;have hb:Yj w y x.ctl=lvD a y x.ctl 0:=by simp only[Yj,hr];exact lvD_brk a y x.ctl hc
 have hlv:=lvD_le a y x.ctl 0;have e:Ec x w y=if lvD a y x.ctl 0=0 then w else Td x w y (lvD a y x.ctl 0):=by rw[Ec,if_neg h.page,hb]
 have xg:(Ec x w y).tot.length=x.ctl+1:=by
  rw[e];split
  ·
   exact h.len
  rw[Td,headW,(Qe x _ _ _).2.1];exact (foot_len x _ _ w).trans h.len
 have htot:∀j,j≤x.ctl→(Ec x w y).tot.getD j 0=if chgB a y j then 0 else w.tot.getD j 0:=fun j hj=>by
  rw[chg_lvD a y x.ctl j hc hj,e];by_cases h0:lvD a y x.ctl 0=0
  ·
   rw[if_pos h0,if_neg (by simp[h0])]
  rw[if_neg h0,Td,headW,(Qe x _ _ _).2.1];show (footN x (x.ctl+1) (x.ctl+1-lvD a y x.ctl 0) w).tot.getD j 0=_;rw[footN_tot x _ _ w (by omega) j];by_cases h1:lvD a y x.ctl 0≤j
  ·
   rw[if_pos (by omega),if_pos (by simp[h0,h1])]
  rw[if_neg (by omega),if_neg (by simp[h1])]
 refine⟨⟨y,hy,k1.trans a1⟩,fun j hj=>?_,by rw[k2,a2,List.length_map];exact xg,?_,?_⟩
 ·
  rw[k2,a2,getD_map _ _ _ (by omega),htot j hj];show _=fSum x l (i+1) j;rw[fSum_step x l ha hy j,Nat.min_eq_left hj];split
  ·
   omega
  rw[h.tot j hj];rfl
 ·
  have:w.page≤(Ec x w y).page:=by
   rw[e];split
   ·
    exact Nat.le_refl _
   exact Nat.le_trans (footN_page x _ _ w) (Vg x _ _ (setRow (Ko x w _) y))
  have:=h.page;omega
 rw[k3,a3,e];split
 ·
  exact h.ended
 rw[Td,headW,(Qe x _ _ _).2.2];exact (footN_f x _ _ w).2.trans h.ended
def RQ (x:CM) (l:List RM) (i:Nat) (w:WM):Prop:=toV w=VM.rows x l i VM.ini∧InvV x (toV w)
theorem inv_det{x:CM}{v:VM}(h:InvV x v)(y:RM):InvV x (VM.det x v y):=by
 unfold VM.det;split
 ·
  exact Uj _ fun hp=>Ju h 1 (by omega) _ hp
 split
 ·
  exact Uj _ fun hp=>Ju h 2 (by omega) _ hp
 exact h
theorem det_eq{x:CM}{w:WM}{y:RM}:toV (Nl x w y y.det)=VM.det x (toV (Ec x w y)) y:=by
 have h:toV (genA x w y)=toV (Ec x w y):=rfl;have hr:(genA x w y).row=some y:=rfl;unfold Nl VM.det;split
 ·
  rw[pres_D1 hr (fun hp=>nps_npb hp 0),h]
 split
 ·
  rw[pres_D2 hr,h]
 rfl
theorem RQ.first(x:CM){l:List RM}{y:RM}(hy:l[0]?=some y):RQ x l 1 (Nl x (w0 x) y y.det):=by
 have hc:=x.ctl_lt;have e:Ec x (w0 x) y=Qz x (w0 x) y:=if_pos rfl
 have e1:toV ((stA (w0 x) y).write (x.tg 1 0).tl)=if x.has 0 then VM.ini.put 1 [82,72] else VM.ini:=by
  have e0:x.tg 1 0=if x.has 0 then tRH else tZ:=rfl
  rw[e0];split
  ·
   show toV (WM.write _ [(1,[.lit 1 [82,72]])])=_;rw[Xr,rend_L2];rfl
  rfl
 have e2:toV (((stA (w0 x) y).write (x.tg 1 0).tl).write (x.tg 2 0).tl)=VM.top x (if x.has 0 then VM.ini.put 1 [82,72] else VM.ini):=by rw[top_eq,e1]
 have hr:(((stA (w0 x) y).write (x.tg 1 0).tl).write (x.tg 2 0).tl).row=some y:=(Gz _ _).1.trans (Gz _ _).1
 have hI:InvV x (toV (((stA (w0 x) y).write (x.tg 1 0).tl).write (x.tg 2 0).tl)):=fun _=>by
  rw[e2];unfold VM.top;split<;>split<;>simp[VM.put,VM.ini]
 obtain⟨h1,h2⟩:=headN_eq (x:=x) (y:=y) (x.ctl+1-0) 0 hr hI (by omega);have h3:toV (Ec x (w0 x) y)=VM.fst x VM.ini y:=by rw[e];exact h1.trans (by rw[e2];rfl)
 have h4:VM.rows x l 1 VM.ini=VM.det x (VM.fst x VM.ini y) y:=by
  rw[Ua x l hy];rfl
 unfold RQ;rw[det_eq,h3,h4];exact⟨rfl,inv_det (by rw[←h3,e];exact h2) y⟩
theorem RQ.next(x:CM){l:List RM}{i:Nat}{w:WM}(hT:TQ x l (i+1) w)(h:RQ x l (i+1) w){y:RM}(hy:l[i+1]?=some y):RQ x l (i+2) (Nl x w y y.det):=by
 have hc:=x.ctl_lt;obtain⟨a,ha,hr⟩:=hT.row;have ha:l[i]?=some a:=ha;obtain⟨hv,hI⟩:=h;have hb:Yj w y x.ctl=lvD a y x.ctl 0:=by simp only[Yj,hr];exact lvD_brk a y x.ctl hc
 have hlv:=lvD_le a y x.ctl 0;have e:Ec x w y=if lvD a y x.ctl 0=0 then w else Td x w y (lvD a y x.ctl 0):=by rw[Ec,if_neg hT.page,hb]
 have h4:VM.rows x l (i+2) VM.ini=VM.det x (VM.nxt x (VM.rows x l (i+1) VM.ini) l i a y) y:=by
  rw[Ua x l hy,VM.pre];simp only[ha]
 have h3:toV (Ec x w y)=VM.nxt x (VM.rows x l (i+1) VM.ini) l i a y∧InvV x (toV (Ec x w y)):=by
  rw[e,VM.nxt,←hv];split
  ·
   exact⟨rfl,hI⟩
  obtain⟨f1,f2⟩:=footN_eq (x:=x) l i (x.ctl+1-lvD a y x.ctl 0) (x.ctl+1) hr hI (by omega) (by omega) (fun j hj=>hT.tot j (by omega));obtain⟨g1,g2⟩:=headN_eq (x:=x) (y:=y) (x.ctl+1-lvD a y x.ctl 0) (lvD a y x.ctl 0) (w:=setRow (Ko x w (lvD a y x.ctl 0)) y) rfl f2 (by omega);exact⟨g1.trans (by show VM.headN x y _ _ (toV (footN x _ _ w))=_;rw[f1];rfl),g2⟩
 unfold RQ;rw[det_eq,h4,h3.1];exact⟨rfl,inv_det (by rw[←h3.1];exact h3.2) y⟩
theorem term_eq(x:CM){l:List RM}{i:Nat}{w:WM}(hT:TQ x l (i+1) w)(h:RQ x l (i+1) w)(hl:l.length=i+1):toV (I7 x w)=VM.all x l true:=by
 have hc:=x.ctl_lt;obtain⟨a,ha,hr⟩:=hT.row;have ha:l[i]?=some a:=ha;obtain⟨hv,hI⟩:=h;obtain⟨f1,f2⟩:=footN_eq (x:=x) l i (x.ctl+1-0) (x.ctl+1) hr hI (by omega) (by omega) (fun j hj=>hT.tot j (by omega));have e7:x.tg 7 0=if x.has 9 then tRF else tZ:=rfl
 have e1:toV (Ko x w 0)=VM.fin1 x (VM.rows x l l.length VM.ini) l a:=by
  rw[VM.fin1,hl,Nat.add_sub_cancel,←hv];exact f1
 have e2:toV (V3 x w)=VM.fin2 x (VM.fin1 x (VM.rows x l l.length VM.ini) l a):=by
  unfold V3 VM.fin2;rw[e7,←e1];split
  ·
   rw[pres_RF]
  rw[X3 (show InvV x (toV (Ko x w 0)) from f2)]
 have e3:VM.all x l true=VM.fin x (VM.rows x l l.length VM.ini) l a:=by
  rw[VM.all,if_pos rfl,hl,Nat.add_sub_cancel,ha]
 rw[e3,I7,if_neg hT.page,VM.fin]
 cases hp:x.paged with
 | false=>rw[if_pos (x.P_iff.2 hp)];simpa using e2
 | true =>
  rw[if_neg (by rw[x.P_iff,hp];simp),if_pos rfl,bot_eq x hp,e2]
theorem clipR_Z(rows:List (List D)):LinZ (J3 rows) rows:=by
 cases rows with
 | nil=>exact .inl ⟨rfl,rfl⟩
 | cons a l=>exact .inr ⟨by simp,some _,rfl⟩
theorem len_clipR(rows:List (List D)):lenD false (J3 rows)=some (.int .i64 (rows.length:Nat)):=by cases rows<;>rfl
def LsD (ls:D) (l:List RM):Prop:=(l=[]∧ls=.nils)∨∃c,ls=.sl 4 (l.map RM.row) c
theorem LsD.len{ls:D}{l:List RM}(h:LsD ls l):lenD false ls=some (.int .i64 (l.length:Nat)):=by
 rcases h with⟨rfl,rfl⟩ | ⟨c,rfl⟩
 ·
  rfl
 show some (D.int .i64 ((l.map RM.row).length:Nat))=_;rw[List.length_map]
theorem LsD.sl{ls:D}{l:List RM}(h:LsD ls l)(hl:l.length≠0):∃c,ls=.sl 4 (l.map RM.row) c:=by
 rcases h with⟨rfl,rfl⟩ | h
 ·
  simp at hl
 exact h
def F7 (x:CM) (l:List RM) (e:Bool):List (Nat × Nat × List UInt8):=if l=[] then [] else (VM.all x l e).lines
theorem RM.det_le(y:RM):-1≤y.det∧y.det≤1:=by
 unfold RM.det;have:y.e % 3<3:=Nat.mod_lt _ (by decide);split<;>omega
structure GQ (x:CM) (l:List RM) (i:Nat) (w:WM):Prop where
 wb:∀y,WB (setRow w y) (20+310*i)
 q:(i=0∧w=w0 x)∨(i≠0∧TQ x l i w∧RQ x l i w)
theorem GQ.start(x:CM)(l:List RM):GQ x l 0 (w0 x):=⟨fun y=>⟨by simp[setRow],by show 0≤_;omega,by show 0≤_;omega,by show 0≤_;omega,fun m hm=>by
 have:m=0:=(List.mem_replicate.1 (show m∈List.replicate (x.ctl+1) 0 from hm)).2
 omega⟩,.inl ⟨rfl,rfl⟩⟩
theorem GQ.pr{x:CM}{l:List RM}{i:Nat}{w:WM}(h:GQ x l i w):w.page≠0→w.row≠none:=by
 rcases h.q with⟨_,rfl⟩ | ⟨_,h1,_⟩
 ·
  intro h;exact absurd rfl h
 obtain⟨a,_,hr⟩:=h1.row;intro _;rw[hr];simp
theorem GQ.en{x:CM}{l:List RM}{i:Nat}{w:WM}(h:GQ x l i w):w.ended=false:=by
 rcases h.q with⟨_,rfl⟩ | ⟨_,h1,_⟩
 ·
  rfl
 exact h1.ended
theorem GQ.len{x:CM}{l:List RM}{i:Nat}{w:WM}(h:GQ x l i w):w.tot.length=x.ctl+1:=by
 rcases h.q with⟨_,rfl⟩ | ⟨_,h1,_⟩
 ·
  simp[w0]
 exact h1.len
theorem GQ.wbp{x:CM}{l:List RM}{i:Nat}{w:WM}(h:GQ x l i w)(hp:w.page≠0):WB w (20+310*i):=by
 obtain⟨y,hy⟩:=Option.ne_none_iff_exists'.1 (h.pr hp);have:=h.wb y;exact⟨h.pr hp,this.page,this.line,this.lines,this.tot⟩
theorem GQ.next{x:CM}{l:List RM}{i:Nat}{w:WM}(h:GQ x l i w){y:RM}(hy:l[i]?=some y)(hi:i<90:=by omega):GQ x l (i+1) (Nl x w y y.det):=by
 refine⟨fun y'=>?_,.inr ⟨by omega,?_⟩⟩
 ·
  have:=((h.wb y).gen h.pr (by omega) (by omega) h.len y.det).1.setRow y';rwa [show 20+310*i+310=20+310*(i+1) by omega]at this
 rcases h.q with⟨rfl,rfl⟩ | ⟨h0,h1,h2⟩
 ·
  exact⟨TQ.first x hy _,RQ.first x hy⟩
 obtain⟨j,rfl⟩:∃j,i=j+1:=⟨i-1,by omega⟩;exact⟨h1.next x hy _,RQ.next x h1 h2 hy⟩
theorem GQ.fin{x:CM}{l:List RM}{w:WM}(h:GQ x l l.length w):(I7 x w).lines=F7 x l true:=by
 rcases h.q with⟨h0,rfl⟩ | ⟨h0,h1,h2⟩
 ·
  have hl:l=[]:=List.length_eq_zero_iff.1 h0;rw[F7,if_pos hl];rfl
 have hl:l≠[]:=fun e=>h0 (by rw[e];rfl);obtain⟨i,hi⟩:∃i,l.length=i+1:=⟨l.length-1,by omega⟩;rw[hi]at h1 h2;rw[F7,if_neg hl,←term_eq x h1 h2 hi];rfl
theorem GQ.flen{x:CM}{l:List RM}{i:Nat}{w:WM}(h:GQ x l i w)(hi:i≤90:=by omega):(I7 x w).lines.length≤50000:=by
 unfold I7;split
 ·
  rcases h.q with⟨_,rfl⟩ | ⟨_,h1,_⟩
  ·
   show 0≤_;omega
  exact absurd ‹_› h1.page
 rename_i hp;have hw:=h.wbp hp;have hct:=x.ctl_lt;obtain⟨hBf0,hnf⟩:=WB.foot (x:=x) (x.ctl+1-0) (x.ctl+1) hw (by omega) h.len (Nat.le_refl _) (by omega);have hT7:=Ku (x:=x) hBf0 (by omega) hnf (k:=7) (lv:=0) (by omega);have hBp:=hBf0.pres (x:=x) (by omega) hnf hT7;have hBb:=(hBp.bottom (x:=x) (by omega) (by rw[(Iz x _ _).2.1];exact hnf)).2;split
 ·
  have:=hBp.lines;show (D7 x _ _).lines.length≤_;exact Nat.le_trans this (by omega)
 have:=hBb.lines;exact Nat.le_trans this (by omega)
set_option maxRecDepth 1000000
def lvX (r:List D):List D:=.int .u8 2::.int .u8 0::.str ⟨#[88]⟩::.int .i64 0::.int .i64 0::.bool false::.bool false::.bool false::.bool false::.bool false::.int .i64 1::r
def lvN (r:List D):List D:=.int .u8 4::.int .u8 0::.str ⟨#[57,57]⟩::.int .i64 2::.int .i64 0::.bool false::.bool false::.bool false::.bool false::.bool false::.int .i64 2::r
def lvE (r:List D):List D:=.int .u8 5::.int .u8 0::.str ⟨#[90,57]⟩::.int .i64 2::.int .i64 0::.bool false::.bool false::.bool false::.bool false::.bool false::.int .i64 2::r
def lvZ (r:List D):List D:=.int .u8 5::.int .u8 0::.str ⟨#[90,90,57]⟩::.int .i64 3::.int .i64 0::.bool false::.bool false::.bool false::.bool false::.bool false::.int .i64 3::r
def lvP0:List (List D):=[[.sl 11 [(lvX []),(lvN [])] (some 2),.sl 1 [[.int .i64 0]] (some 1),.int .i64 0,.int .i64 0,.int .i64 0,.sl 4 [[.int .u8 4,.int .i64 0,.bool false,.sl 2 [[.int .i64 1,.sl 15 [(.int .i64 3::lvE [.int .u8 2,.nils,.int .i64 1])] (some 1)]] (some 1)],[.int .u8 5,.int .i64 1,.bool false,.sl 2 [[.int .i64 1,.sl 15 [(.int .i64 1::lvX [.int .u8 2,.nils,.int .i64 0]),(.int .i64 3::lvZ [.int .u8 3,.nils,.int .i64 0])] (some 2)]] (some 1)],[.int .u8 5,.int .i64 0,.bool false,.sl 2 [[.int .i64 1,.sl 15 [(.int .i64 3::lvZ [.int .u8 3,.nils,.int .i64 1])] (some 1)]] (some 1)]] (some 3),.sl 2 [[.int .i64 1,.int .i64 1],[.int .i64 1,.int .i64 0]] (some 2)]]
def lvP11:List (List D):=[(.int .i64 1::lvX [.int .u8 2,.nils,.int .i64 0])]
def lvR:List D:=lvP0.headD []
def lvH0:List Zx:=[⟨64,11,[(lvZ [])],0,0,false⟩,⟨64,11,[(lvE [])],0,0,false⟩,⟨37,7,lvP0,0,0,false⟩,⟨82,15,lvP11,0,0,false⟩]
def ch (x:Option (D × St × Bool)) (k:St→Option (List (D × Bool))):Option (List (D × Bool)):=match x with
 | some (d,S,w)=>(k S).map ((d,w)::·)
 | none=>none
theorem ch_ok{x:Option (D × St × Bool)}{k:St→Option (List (D × Bool))}{d:D}{w:Bool}{l:List (D × Bool)}(h:ch x k=some ((d,w)::l)):∃S,x=some (d,S,w)∧k S=some l:=by
 unfold ch at h;split at h
 ·
  rename_i d' S w'
  cases hk:k S with
  | none=>rw[hk]at h;cases h
  | some l'=>rw[hk]at h;cases h;exact⟨S,rfl,hk⟩
 cases h
theorem lv_zz9(d:Nat)(S:St):E8 LP NN (d+59) 28 [.str ⟨#[90,90,57]⟩] S=some (.agg (lvZ []),S,false):=by kernel_rfl
theorem lv_z9(d:Nat)(S:St):E8 LP NN (d+59) 28 [.str ⟨#[90,57]⟩] S=some (.agg (lvE []),S,false):=by kernel_rfl
theorem lv_chain(d:Nat):(ch (E8 LP NN (d+59) 9 [.agg lvR] ⟨lvH0,0⟩) fun S1=>ch (E8 LP NN (d+59) 12 [.ptr 6 0 0 0,.int .i64 0,.sl 12 [lvX [.sl 1 (bR [65]) none],lvN [.sl 1 (bR [48,53]) none]] (some 2)] S1) fun S2=>ch (E8 LP NN (d+59) 12 [.ptr 6 0 0 0,.int .i64 0,.sl 12 [lvX [.sl 1 (bR [65]) none],lvN [.sl 1 (bR [49,48]) none]] (some 2)] S2) fun S3=>ch (E8 LP NN (d+59) 12 [.ptr 6 0 0 0,.int .i64 0,.sl 12 [lvX [.sl 1 (bR [66]) none],lvN [.sl 1 (bR [48,55]) none]] (some 2)] S3) fun S4=>ch (E8 LP NN (d+59) 17 [.ptr 6 0 0 0] S4) fun S5=>ch (E8 LP NN (d+59) 11 [.ptr 6 0 0 0] S5) fun S6=>some [])=some [(.tup [.ptr 6 0 0 0,.int .i64 0],true),(.int .i64 0,true),(.int .i64 0,true),(.int .i64 0,true),(.int .i64 0,true),(.sl 3 ([(1,1,[32,32,32,53]),(1,2,[32,32,49,48]),(1,3,[65,32,32,49,53]),(1,4,[32,32,32,55]),(1,5,[66,32,32,32,55]),(1,6,[32,32,32,50,50])].map lnR) (some 6),false)]:=by kernel_rfl
theorem lv_x1(d:Nat)(S:St):E8 LP NN (d+59) 21 [.sl 3 ([(1,1,[32,32,32,53]),(1,2,[32,32,49,48]),(1,3,[65,32,32,49,53]),(1,4,[32,32,32,55]),(1,5,[66,32,32,32,55]),(1,6,[32,32,32,50,50])].map lnR) (some 6)] S=some (.str ⟨#[32,32,32,53,10,32,32,49,48,10,65,32,32,49,53,10,32,32,32,55,10,66,32,32,32,55,10,32,32,32,50,50,10]⟩,S,false):=by kernel_rfl
theorem lives_run:∀(d:Nat) (S:St),60≤d→A7 LP NN d 8 [] S=some (.bool true,S,false):=by
 intro d S hd;obtain⟨e,rfl⟩:∃e,d=e+60:=⟨d-60,by omega⟩;obtain⟨S1,hg0,yg⟩:=ch_ok (lv_chain e);obtain⟨S2,yZ,zH⟩:=ch_ok yg;obtain⟨S3,uw,hc3⟩:=ch_ok zH;obtain⟨S4,hg3,hc4⟩:=ch_ok hc3;obtain⟨S5,hg4,hc5⟩:=ch_ok hc4;obtain⟨S6,hg5,hc6⟩:=ch_ok hc5;have wR:IntKind.i64.wrap (0+1)=1:=by decide
 have uJ:IntKind.i64.wrap (1+1)=2:=by decide
 have hw3:IntKind.i64.wrap (2+1)=3:=by decide
 refine run_pure (F:=F8) rfl (by simp only[LP,snapVs,zm]<;>exact rfl) rfl (by simp only[LP,zm];try rfl) (by simp only[F8,zv]<;>exact rfl) (by omega) ?_;intro d he;obtain rfl:d=e+59:=by omega
 refine Ad (Aw (Aa (Af ?_)));refine Ad (Ac (by simp only[zo];exact fast_ok (lv_zz9 e _)) ?_);apply Ac (by simp only[zl,zm,lvZ]<;>exact rfl);apply Ac (by simp only[zl,zm,Bf,overlay,Bc,zs,zc,zf,List.take,List.drop,lvZ]<;>exact rfl);refine Aa (Af ?_);refine Ad (Ac (by simp only[zo];exact fast_ok (lv_z9 e _)) ?_);apply Ac (by simp only[zl,zm,lvE]<;>exact rfl);apply Ac (by simp only[zl,zm,Bf,overlay,Bc,zs,zc,zf,List.take,List.drop,lvE]<;>exact rfl);refine Aa (Af ?_);refine Ad (Ac (by simp only[zo];exact G7 (by omega) _ (n:=1) (by omega) (by omega)) ?_);apply Ac (by simp only[zo,shT];exact Jq (by omega) _ (n:=2) (by omega) (by omega));apply Ac (by simp only[zl,zm,Cb,List.replicate,snapVs,Bc,zs,zc,zf,shT,shN]<;>exact rfl);apply Ac (by simp only[zl,zm,Cb,List.replicate,snapVs,zs,zc,zf,shT,shN]<;>exact rfl);refine xo72 ?_;refine xo72 ?_;apply Ac (by simp only[zl,zm,Cb,List.replicate,snapVs,Bc,zs,zc,zf,shT,shN]<;>exact rfl);refine xo72 ?_;apply Ac (by simp only[zl,zm,shT,shN]<;>exact rfl);apply Ac (by simp only[zl,zm,Bf,overlay,Bc,zs,zc,zf,List.take,List.drop,shT,shN]<;>exact rfl);refine Aa (Af ?_);refine Ad (Ac (by simp only[zo];exact G7 (by omega) _ (n:=1) (by omega) (by omega)) ?_);refine xo56 ?_;apply Ac (by simp only[zl,zm,shT]<;>exact rfl);apply Ac (by simp only[zl,zm,Bf,overlay,Bc,zs,zc,zf,List.take,List.drop,shT]<;>exact rfl);refine Aa (Af ?_);refine Ad (xo0 ?_);refine Qq ?_;refine xo45 ?_;refine Qq ?_;refine xo45 ?_;refine Qq ?_;refine xo0 ?_;refine xo0 ?_;refine Qq ?_;refine xo45 ?_;refine Qq ?_;refine xo45 ?_;refine Qq ?_;refine xo0 ?_;refine Qq ?_;refine xo45 ?_;refine Qq ?_;refine xo45 ?_;refine Qq ?_;refine xo45 ?_;refine xo1 ?_;apply Ac (by simp only[zl,zm,Bf,overlay,zs,zc,zf,List.take,List.drop]<;>exact rfl);refine Aa (Af ?_);refine Ad (xo0 ?_);apply Ac (by simp only[zo];exact fast_ok hg0);refine Ag rfl (Ll ?_);refine Jl ?_;refine Ag rfl (Ag rfl (Aa (Af ?_)));refine Ad (Ac (by simp only[zl,zm,Cb,List.replicate,snapVs,zs,zc,zf]<;>exact rfl) ?_);refine Ag rfl (Aa (Af ?_));refine Ai (Ad (Aw (Aa (Af ?_))));refine Aq (Kz (Gi (Ai (Ad (Ae rfl (xo46 ?_))))));refine Aa (Af ?_);refine Iy ?_;refine Ak (Bh rfl (Ai (Aq (Ai (Fa (by simp only[newsVals,zw]<;>exact rfl) (by simp only[zw,St.eta]<;>exact rfl) ?_)))));refine Bq rfl rfl (Be (by simp only[zo];exact G7 (by omega) _ (n:=1) (by omega) (by omega)) rfl ?_);refine Bq rfl rfl (Bq rfl rfl (Be (by simp only[zl,zm,Ci,Int.toNat_zero,Int.le_refl,shT]<;>exact rfl) rfl ?_));refine xo49 rfl ?_;apply Aj (by simp only[opd,zv,Ar,aop,LOp.loud,if_false,Bool.false_eq_true];exact congrArg (Option.map fun r=>(r,_,false)) (show pop (.slice true 0 false true false) [.str ⟨#[65,48,53]⟩,.int .i64 1]=some (.str (mkS [65])) from rfl)) rfl rfl;refine Be (by simp only[zl,zm,shT,Fj]<;>exact rfl) rfl ?_;refine xo48 rfl rfl ?_;refine Be (by simp only[zo,shT];exact Jq (by omega) _ (n:=2) (by omega) (by omega)) rfl ?_;refine Bq rfl rfl (Bq rfl rfl (Be (by simp only[zl,zm,Ci,Int.toNat_zero,Int.le_refl,shT,shN]<;>exact rfl) rfl ?_));refine xo53 rfl ?_;apply Aj (by simp only[opd,zv,Ar,aop,LOp.loud,if_false,Bool.false_eq_true];exact congrArg (Option.map fun r=>(r,_,false)) (show pop (.slice true 0 true false false) [.str ⟨#[65,48,53]⟩,.int .i64 1]=some (.str (mkS [48,53])) from rfl)) rfl rfl;refine Be (by simp only[zl,zm,shT,shN,Fj]<;>exact rfl) rfl ?_;refine xo52 rfl rfl ?_;refine xo54 rfl ?_;refine Be (by simp only[zo,shT,shN];exact fast_ok yZ) rfl ?_;apply Aj (by simp only[zo,Bd,shT,shN]<;>exact rfl) rfl rfl;refine Cj (Af ?_);refine Dx ?_;refine Ak (Ed (Bh rfl (Am (Ae rfl (Ac (by simp only[zo,Bd,wR]<;>exact rfl) ?_)))));refine Ag rfl (Aa (Zk (by simp only[ze]<;>exact rfl) ?_));refine Gi (Ai (Ad (Ae rfl (xo46 ?_))));refine Aa (Af ?_);refine Iy ?_;refine Ak (Bh rfl (Ai (Aq (Ai (Fa (by simp only[newsVals,zw]<;>exact rfl) (by simp only[zw,St.eta]<;>exact rfl) ?_)))));refine Bq rfl rfl (Be (by simp only[zo];exact G7 (by omega) _ (n:=1) (by omega) (by omega)) rfl ?_);refine Bq rfl rfl (Bq rfl rfl (Be (by simp only[zl,zm,Ci,shT]<;>exact rfl) rfl ?_));refine xo49 rfl ?_;apply Aj (by simp only[opd,zv,Ar,aop,LOp.loud,if_false,Bool.false_eq_true];exact congrArg (Option.map fun r=>(r,_,false)) (show pop (.slice true 0 false true false) [.str ⟨#[65,49,48]⟩,.int .i64 1]=some (.str (mkS [65])) from rfl)) rfl rfl;refine Be (by simp only[zl,zm,shT,Fj]<;>exact rfl) rfl ?_;refine xo48 rfl rfl ?_;refine Be (by simp only[zo,shT];exact Jq (by omega) _ (n:=2) (by omega) (by omega)) rfl ?_;refine Bq rfl rfl (Bq rfl rfl (Be (by simp only[zl,zm,Ci,shT,shN]<;>exact rfl) rfl ?_));refine xo53 rfl ?_;apply Aj (by simp only[opd,zv,Ar,aop,LOp.loud,if_false,Bool.false_eq_true];exact congrArg (Option.map fun r=>(r,_,false)) (show pop (.slice true 0 true false false) [.str ⟨#[65,49,48]⟩,.int .i64 1]=some (.str (mkS [49,48])) from rfl)) rfl rfl;refine Be (by simp only[zl,zm,shT,shN,Fj]<;>exact rfl) rfl ?_;refine xo52 rfl rfl ?_;refine xo54 rfl ?_;refine Be (by simp only[zo,shT,shN];exact fast_ok uw) rfl ?_;apply Aj (by simp only[zo,Bd,shT,shN]<;>exact rfl) rfl rfl;refine Cj (Af ?_);refine Dx ?_;refine Ak (Ed (Bh rfl (Am (Ae rfl (Ac (by simp only[zo,Bd,uJ]<;>exact rfl) ?_)))));refine Ag rfl (Aa (Zk (by simp only[ze]<;>exact rfl) ?_));refine Gi (Ai (Ad (Ae rfl (xo46 ?_))));refine Aa (Af ?_);refine Iy ?_;refine Ak (Bh rfl (Ai (Aq (Ai (Fa (by simp only[newsVals,zw]<;>exact rfl) (by simp only[zw,St.eta]<;>exact rfl) ?_)))));refine Bq rfl rfl (Be (by simp only[zo];exact G7 (by omega) _ (n:=1) (by omega) (by omega)) rfl ?_);refine Bq rfl rfl (Bq rfl rfl (Be (by simp only[zl,zm,Ci,shT]<;>exact rfl) rfl ?_));refine xo49 rfl ?_;apply Aj (by simp only[opd,zv,Ar,aop,LOp.loud,if_false,Bool.false_eq_true];exact congrArg (Option.map fun r=>(r,_,false)) (show pop (.slice true 0 false true false) [.str ⟨#[66,48,55]⟩,.int .i64 1]=some (.str (mkS [66])) from rfl)) rfl rfl;refine Be (by simp only[zl,zm,shT,Fj]<;>exact rfl) rfl ?_;refine xo48 rfl rfl ?_;refine Be (by simp only[zo,shT];exact Jq (by omega) _ (n:=2) (by omega) (by omega)) rfl ?_;refine Bq rfl rfl (Bq rfl rfl (Be (by simp only[zl,zm,Ci,shT,shN]<;>exact rfl) rfl ?_));refine xo53 rfl ?_;apply Aj (by simp only[opd,zv,Ar,aop,LOp.loud,if_false,Bool.false_eq_true];exact congrArg (Option.map fun r=>(r,_,false)) (show pop (.slice true 0 true false false) [.str ⟨#[66,48,55]⟩,.int .i64 1]=some (.str (mkS [48,55])) from rfl)) rfl rfl;refine Be (by simp only[zl,zm,shT,shN,Fj]<;>exact rfl) rfl ?_;refine xo52 rfl rfl ?_;refine xo54 rfl ?_;refine Be (by simp only[zo,shT,shN];exact fast_ok hg3) rfl ?_;apply Aj (by simp only[zo,Bd,shT,shN]<;>exact rfl) rfl rfl;refine Cj (Af ?_);refine Dx ?_;refine Ak (Ed (Bh rfl (Am (Ae rfl (Ac (by simp only[zo,Bd,hw3]<;>exact rfl) ?_)))));refine Ag rfl (Aa (Zk (by simp only[ze]<;>exact rfl) ?_));refine Gi (Ai (Ad (Ae rfl (xo46 ?_))));refine Aa (Af ?_);refine Dx ?_;refine Dk (Hl (lu_e (Ht (Bh rfl (Ad (Ae rfl (Ac (by simp only[zo];exact fast_ok hg4) ?_)))))));refine Ag rfl (Aa (Af ?_));refine Ad (Ae rfl (xo2 ?_));refine Ag rfl (Ep 0 (b:=true) ?_);refine Ap rfl (Ae rfl (Ap rfl (xo2 ?_)));refine xo3 ?_;refine Ag rfl (Ep 0 (b:=true) ?_);refine Ap rfl (Ae rfl (Ap rfl (Ac (by simp only[zo];exact fast_ok hg5) ?_)));refine Ap rfl (Ac (by simp only[zo];exact fast_ok (lv_x1 e _)) ?_);refine Ap rfl (Ac (by simp only[zo,Bd,beq_self_eq_true]<;>exact rfl) ?_);refine xo3 ?_;refine Ag rfl (Aa (Af ?_));apply Az;refine⟨_,by simp only[F8,resultD,Ba,resD,zg]<;>exact rfl,?_⟩;rfl
def Jm (s:List UInt8):Prop:=∀c∈s,c≠10∧c≠12
theorem Hz:Jm []:=fun c h=>by cases h
theorem Fz{c:UInt8}{s:List UInt8}(h:c≠10∧c≠12)(hs:Jm s):Jm (c::s):=fun d hd=>by
 rcases List.mem_cons.1 hd with rfl | h'
 ·
  exact h
 exact hs d h'
theorem H5{s t:List UInt8}(hs:Jm s)(ht:Jm t):Jm (s++t):=fun d hd=>by
 rcases List.mem_append.1 hd with h | h
 ·
  exact hs d h
 exact ht d h
theorem u8_ne{n:Nat}(h:13≤n)(h2:n<256):UInt8.ofNat n≠10∧UInt8.ofNat n≠12:=by
 constructor<;>(intro e;have:=congrArg UInt8.toNat e;simp[UInt8.toNat_ofNat,Nat.mod_eq_of_lt h2]at this;omega)
theorem Lp(n:Nat):∀k,Jm (Bv n k)
 | 0=>Hz
 | k+1=>Fz (u8_ne (by omega) (by have:n / 10 ^ k % 10<10:=Nat.mod_lt _ (by decide);omega)) (Lp n k)
theorem RM.A_ne(y:RM):y.A≠10∧y.A≠12:=u8_ne (by omega) (by have:y.a % 3<3:=Nat.mod_lt _ (by decide);omega)
theorem RM.B_ne(y:RM):y.B≠10∧y.B≠12:=u8_ne (by omega) (by have:y.b % 3<3:=Nat.mod_lt _ (by decide);omega)
def fB (p:Nat):List UInt8:=[66,32]++Bv p 2
def fP (p:Nat):List UInt8:=[80,32]++Bv p 2
theorem txt_B(p:Nat):Jm (fB p):=Fz (by decide) (Fz (by decide) (Lp p 2))
theorem txt_P(p:Nat):Jm (fP p):=Fz (by decide) (Fz (by decide) (Lp p 2))
theorem txt_H(y:RM)(i:Nat):Jm (hTxt y i):=H5 (H5 (H5 (H5 (Fz (by decide) Hz) (Lp _ _)) (Fz (by decide) Hz)) (Fz y.A_ne Hz)) (Fz y.B_ne Hz)
theorem txt_F(l:List RM)(last i:Nat)(y:RM)(s:Nat):Jm (Xf l last i y s):=H5 (H5 (H5 (H5 (H5 (H5 (Fz (by decide) Hz) (Lp _ _)) (Fz (by decide) Hz)) (Fz y.A_ne Hz)) (Fz y.B_ne Hz)) (Fz (by decide) Hz)) (Lp _ _)
theorem txt_0(y:RM):Jm (U1 y):=H5 (H5 (H5 (Fz y.A_ne Hz) (Fz y.B_ne Hz)) (Fz (by decide) Hz)) (Lp _ _)
theorem txt_1(y:RM):Jm (U0 y):=H5 (fun c h=>by simp at h;subst h;decide) (Lp _ _)
def bodT (s:List UInt8):Prop:=s≠[82,72]∧s.head?≠some 80∧s.head?≠some 66
theorem bod_H(y:RM)(i:Nat):bodT (hTxt y i):=⟨by simp[hTxt],by simp[hTxt],by simp[hTxt]⟩
theorem bod_F(l:List RM)(last i:Nat)(y:RM)(s:Nat):bodT (Xf l last i y s):=⟨by simp[Xf],by simp[Xf],by simp[Xf]⟩
theorem RM.A_b(y:RM):y.A≠82∧y.A≠80∧y.A≠66:=by
 have h:y.a % 3=0∨y.a % 3=1∨y.a % 3=2:=by omega
 unfold RM.A;rcases h with h | h | h<;>rw[h]<;>decide
theorem bod_0(y:RM):bodT (U1 y):=by
 obtain⟨h1,h2,h3⟩:=y.A_b;exact⟨fun h=>by simp[U1]at h,by simpa [U1] using h2,by simpa [U1] using h3⟩
theorem bod_1(y:RM):bodT (U0 y):=⟨by simp[U0],by simp[U0],by simp[U0]⟩
def cls (x:CM) (p n:Nat) (s:List UInt8):Prop:=(n<x.first∧(s=[82,72]∨s=fP p))∨(x.last<n∧s=fB p)∨(x.first≤n∧n≤x.last∧bodT s)
abbrev Ln:=Nat × Nat × List UInt8
def stp (x:CM) (q o:Ln):Prop:=((o.1=q.1∧q.2.1<o.2.1∧o.2.1≤q.2.1+20)∨(o.1=q.1+1∧1≤o.2.1∧o.2.1≤20∧(x.has 8=true→q.2.2=fB q.1)))∧Jm o.2.2∧(x.paged=true→o.2.1≤x.last+2∧cls x o.1 o.2.1 o.2.2)
def chn (x:CM):Ln→List Ln→Prop
 | _,[]=>True
 | q,o::r=>stp x q o∧chn x o r
def o0:Ln:=(1,0,[])
def Dq (l:List Ln):Ln:=l.getLast?.getD o0
theorem chn_snoc(x:CM){o:Ln}:∀{l:List Ln} {q:Ln},chn x q l→stp x (l.getLast?.getD q) o→chn x q (l++[o])
 | [],q,h,hs=>⟨hs,trivial⟩
 | a::l,q,h,hs=>⟨h.1,chn_snoc x h.2 (by rwa [List.getLast?_cons,Option.getD_some]at hs)⟩
structure LA (x:CM) (v:VM):Prop where
 ch:chn x o0 v.lines
 hd:∀o,v.lines.head?=some o→o.1=1
 pg:(Dq v.lines).1=v.page
 le:(Dq v.lines).2.1≤v.line
 ub:v.line≤(Dq v.lines).2.1+15
 bd:v.body=true→v.lines≠[]
structure LB (x:CM) (v:VM):Prop where
 ch:chn x o0 v.lines
 hd:∀o,v.lines.head?=some o→o.1=1
 st:((Dq v.lines).1=v.page∧(Dq v.lines).2.1≤v.line∧v.line≤(Dq v.lines).2.1+15)∨((Dq v.lines).1+1=v.page∧v.line≤17∧v.lines≠[]∧(x.has 8=true→(Dq v.lines).2.2=fB (Dq v.lines).1))
theorem LA.b{x:CM}{v:VM}(h:LA x v):LB x v:=⟨h.ch,h.hd,.inl ⟨h.pg,h.le,h.ub⟩⟩
theorem Ny(l:List Ln)(o:Ln):Dq (l++[o])=o:=by simp[Dq]
theorem LB.put{x:CM}{v:VM}(h:LB x v){p:Nat}{s:List UInt8}(hp1:1≤p)(hp2:p≤2)(hs:Jm s)(hc:x.paged=true→v.line+p≤x.last+2∧cls x v.page (v.line+p) s):LA x (v.put p s):=by
 refine⟨?_,?_,?_,?_,?_,?_⟩
 ·
  refine chn_snoc x h.ch ⟨?_,hs,hc⟩;show (v.page=(Dq v.lines).1∧_)∨_;rcases h.st with⟨h1,h2,h3⟩ | ⟨h1,h2,h3,h4⟩
  ·
   exact .inl ⟨h1.symm,by show (Dq v.lines).2.1<v.line+p;omega,by show v.line+p≤(Dq v.lines).2.1+20;omega⟩
  exact .inr ⟨h1.symm,by show 1≤v.line+p;omega,by show v.line+p≤20;omega,h4⟩
 ·
  intro o ho
  cases hl:v.lines with
  | nil =>
   have ho:(v.lines++[(v.page,v.line+p,s)]).head?=some o:=ho;rw[hl]at ho;cases ho;rcases h.st with⟨h1,_⟩ | ⟨_,_,h3,_⟩
   ·
    rw[hl]at h1;exact h1.symm
   exact absurd hl h3
  | cons a r =>
   have ho:(v.lines++[(v.page,v.line+p,s)]).head?=some o:=ho;rw[hl]at ho;exact h.hd o (by rw[hl];exact ho)
 ·
  show (Dq (v.lines++[(v.page,v.line+p,s)])).1=v.page;rw[Ny]
 ·
  show (Dq (v.lines++[(v.page,v.line+p,s)])).2.1≤v.line+p;rw[Ny];exact Nat.le_refl _
 ·
  show v.line+p≤(Dq (v.lines++[(v.page,v.line+p,s)])).2.1+15;rw[Ny];show v.line+p≤v.line+p+15;omega
 intro _;show v.lines++[(v.page,v.line+p,s)]≠[];simp
theorem LA.put{x:CM}{v:VM}(h:LA x v){p:Nat}{s:List UInt8}(hp1:1≤p)(hp2:p≤2)(hs:Jm s)(hc:x.paged=true→v.line+p≤x.last+2∧cls x v.page (v.line+p) s):LA x (v.put p s):=h.b.put hp1 hp2 hs hc
theorem inv_line{x:CM}{v:VM}(hI:InvV x v)(hp:x.paged=true):v.line≤x.last:=by
 have:=inv_ub hI hp;omega
theorem LA.bot{x:CM}{v:VM}(h:LA x v)(hI:InvV x v)(hp:x.paged=true):LA x (VM.bot x v)∧(VM.bot x v).page=v.page∧(VM.bot x v).body=v.body∧(x.has 8=true→(Dq (VM.bot x v).lines).2.2=fB v.page):=by
 have hl:=x.last_le;have hu:=inv_line hI hp;have h1:LA x ({ v with line:=x.last }:VM):=⟨h.ch,h.hd,h.pg,Nat.le_trans h.le hu,by show x.last≤(Dq v.lines).2.1+15;omega,h.bd⟩;unfold VM.bot;split
 ·
  refine⟨h1.put (by omega) (by omega) (txt_B _) fun _=>⟨Nat.le_refl _,.inr (.inl ⟨by show x.last<x.last+2;omega,rfl⟩)⟩,rfl,rfl,fun _=>?_⟩;show (Dq (v.lines++[_])).2.2=_;rw[Ny];rfl
 rename_i h8;exact⟨h1,rfl,rfl,fun h=>absurd h h8⟩
theorem LB.top{x:CM}{v:VM}(h:LB x v)(hn:x.paged=true→v.line≤1):LB x (VM.top x v):=by
 unfold VM.top;split
 ·
  rename_i hp;have hp:x.paged=true:=by simp at hp;exact hp.1
  have hl:=x.last_le;have:=hn hp;exact (h.put (by omega) (by omega) (txt_P _) fun _=>⟨by omega,.inl ⟨by omega,.inr rfl⟩⟩).b
 exact h
theorem LB.lift{x:CM}{v:VM}(h:LB x v)(hv:v.line≤12){n:Nat}(hn:n≤12):LB x ({ v with line:=max v.line n,body:=true }:VM):=by
 refine⟨h.ch,h.hd,?_⟩;rcases h.st with⟨h1,h2,h3⟩ | ⟨h1,h2,h3,h4⟩
 ·
  exact .inl ⟨h1,by show (Dq v.lines).2.1≤max v.line n;omega,by show max v.line n≤(Dq v.lines).2.1+15;omega⟩
 exact .inr ⟨h1,by show max v.line n≤17;omega,h3,h4⟩
theorem LA.room{x:CM}{v:VM}(h:LA x v)(hI:InvV x v)(n:Nat)(f:Bool):LB x (v.room x n f):=by
 unfold VM.room
 cases hp:x.paged with
 | false=>rw[if_neg (by simp)];exact h.b
 | true =>
  have hl:=x.last_le;rw[if_pos rfl]
  cases hb:v.brk x n f with
  | true =>
   rw[if_pos rfl]
   have hv:v.body=true:=by
    unfold VM.brk at hb;simp at hb;exact hb.1
   obtain⟨b1,b2,b3,b4⟩:=h.bot hI hp
   have h1:LB x ({ VM.bot x v with page:=(VM.bot x v).page+1,line:=0 }:VM):=⟨b1.ch,b1.hd,.inr ⟨by show (Dq (VM.bot x v).lines).1+1=(VM.bot x v).page+1;rw[b1.pg],Nat.zero_le _,b1.bd (b3.trans hv),fun h8=>by
    show (Dq (VM.bot x v).lines).2.2=fB (Dq (VM.bot x v).lines).1
    rw[b4 h8,b1.pg,b2]⟩⟩
   have h2:LB x (VM.newp x v):=h1.top fun _=>Nat.zero_le _
   have h3:(VM.newp x v).line≤1:=by
    unfold VM.newp VM.top;split
    ·
     simp[VM.put]
    simp
   exact h2.lift (by omega) (by omega)
  | false =>
   rw[if_neg (by simp)];have:=inv_line hI hp;exact h.b.lift (by omega) (by omega)
theorem U4{x:CM}{v:VM}(n:Nat)(f:Bool)(hp:x.paged=true):x.first≤(v.room x n f).line+1:=by
 have hl:=x.last_le;unfold VM.room;rw[if_pos hp];split
 ·
  show x.first≤max (VM.newp x v).line (x.first-1)+1;omega
 show x.first≤max v.line (x.first-1)+1;omega
theorem LA.body{x:CM}{v:VM}(h:LA x v)(hI:InvV x v)(p:Nat)(hp1:1≤p)(hp2:p≤2)(f:Bool){s:List UInt8}(hs:Jm s)(hb:bodT s):LA x ((v.room x p f).put p s):=by
 refine (h.room hI p f).put hp1 hp2 hs fun hp=>?_;have h1:=(Ju hI p hp2 f hp).1;have h2:=U4 (x:=x) (v:=v) p f hp;exact⟨by omega,.inr (.inr ⟨by omega,h1,hb⟩)⟩
theorem LA.headI{x:CM}{v:VM}(h:LA x v)(hI:InvV x v)(y:RM)(i:Nat):LA x (v.headI x y i):=by
 unfold VM.headI;split
 ·
  exact h.body hI 1 (by omega) (by omega) _ (txt_H y i) (bod_H y i)
 exact h
theorem LA.footI{x:CM}{v:VM}(h:LA x v)(hI:InvV x v)(l:List RM)(last:Nat)(y:RM)(i:Nat):LA x (v.footI x l last y i):=by
 unfold VM.footI;split
 ·
  split
  ·
   have h0:LA x ((v.room x 2 false).put 1 (Xf l last i y (fSum x l last i))):=(h.room hI 2 false).put (by omega) (by omega) (txt_F _ _ _ _ _) fun hp=>by
    have h1:=(Ju hI 2 (by omega) false hp).1;have h2:=U4 (x:=x) (v:=v) 2 false hp;exact⟨by omega,.inr (.inr ⟨by omega,by omega,bod_F _ _ _ _ _⟩)⟩
   refine h0.put (by omega) (by omega) Hz fun hp=>?_;have h1:=(Ju hI 2 (by omega) false hp).1;have h2:=U4 (x:=x) (v:=v) 2 false hp;exact⟨by show (v.room x 2 false).line+1+1≤_;omega,.inr (.inr ⟨by show x.first≤(v.room x 2 false).line+1+1;omega,by show (v.room x 2 false).line+1+1≤_;omega,by simp[bodT]⟩)⟩
  exact h.body hI 1 (by omega) (by omega) _ (txt_F _ _ _ _ _) (bod_F _ _ _ _ _)
 exact h
theorem LA.headN{x:CM}(y:RM):∀(k i:Nat) {v:VM},LA x v→InvV x v→LA x (VM.headN x y i k v)∧InvV x (VM.headN x y i k v)
 | 0,_,_,h,hI=>⟨h,hI⟩
 | k+1,i,v,h,hI=>LA.headN y k (i+1) (h.headI hI y i) (inv_headI hI y i)
theorem LA.footN{x:CM}(l:List RM)(last:Nat)(y:RM):∀(k i:Nat) {v:VM},LA x v→InvV x v→LA x (VM.footN x l last y i k v)∧InvV x (VM.footN x l last y i k v)
 | 0,_,_,h,hI=>⟨h,hI⟩
 | k+1,i,v,h,hI=>LA.footN l last y k (i-1) (h.footI hI l last y (i-1)) (inv_footI hI l last y (i-1))
theorem LA.det{x:CM}{v:VM}(h:LA x v)(hI:InvV x v)(y:RM):LA x (VM.det x v y)∧InvV x (VM.det x v y):=by
 refine⟨?_,inv_det hI y⟩;unfold VM.det;split
 ·
  exact h.body hI 1 (by omega) (by omega) _ (txt_0 y) (bod_0 y)
 split
 ·
  exact h.body hI 2 (by omega) (by omega) _ (txt_1 y) (bod_1 y)
 exact h
theorem LA.ini(x:CM):LA x VM.ini:=⟨trivial,fun o h=>(by cases h),rfl,Nat.le_refl _,Nat.zero_le _,fun h=>(by cases h)⟩
theorem LA.fst(x:CM)(y:RM):LA x (VM.fst x VM.ini y)∧InvV x (VM.fst x VM.ini y):=by
 have hl:=x.last_le
 have h1:LA x (if x.has 0 then VM.ini.put 1 [82,72] else VM.ini):=by
  split
  ·
   exact (LA.ini x).put (by omega) (by omega) (fun c h=>by simp at h;rcases h with rfl | rfl<;>decide) fun _=>⟨by show 0+1≤_;omega,.inl ⟨by show 0+1<_;omega,.inl rfl⟩⟩
  exact LA.ini x
 have e1:(if x.has 0 then VM.ini.put 1 [82,72] else VM.ini).line≤1:=by split<;>simp[VM.put,VM.ini]
 have h2:LA x (VM.top x (if x.has 0 then VM.ini.put 1 [82,72] else VM.ini)):=by
  unfold VM.top;split
  ·
   exact h1.put (by omega) (by omega) (txt_P _) fun _=>⟨by omega,.inl ⟨by omega,.inr rfl⟩⟩
  exact h1
 have hI:InvV x (VM.top x (if x.has 0 then VM.ini.put 1 [82,72] else VM.ini)):=fun _=>by
  unfold VM.top;split<;>split<;>simp[VM.put,VM.ini]
 exact h2.headN y _ _ hI
theorem LA.nxt{x:CM}{v:VM}(h:LA x v)(hI:InvV x v)(l:List RM)(i:Nat)(a y:RM):LA x (VM.nxt x v l i a y)∧InvV x (VM.nxt x v l i a y):=by
 unfold VM.nxt;split
 ·
  exact⟨h,hI⟩
 obtain⟨h1,h2⟩:=h.footN l i a (x.ctl+1-lvD a y x.ctl 0) (x.ctl+1) hI;exact h1.headN y _ _ h2
theorem LA.rows(x:CM)(l:List RM):∀i,LA x (VM.rows x l i VM.ini)∧InvV x (VM.rows x l i VM.ini)
 | 0=>⟨LA.ini x,fun _=>by simp[VM.rows,VM.ini]⟩
 | i + 1 => by
  have ih:=LA.rows x l i
  cases hy:l[i]? with
  | none=>simp only[VM.rows,hy];exact ih
  | some y =>
   rw[Ua x l hy]
   have hp:LA x (VM.pre x l i y)∧InvV x (VM.pre x l i y):=by
    unfold VM.pre
    cases i with
    | zero=>exact LA.fst x y
    | succ j =>
     simp only;split
     ·
      exact ih.1.nxt ih.2 l j _ y
     exact ih
   exact hp.1.det hp.2 y
theorem LA.all(x:CM)(l:List RM):LA x (VM.all x l true):=by
 obtain⟨h1,h2⟩:=LA.rows x l l.length;unfold VM.all;rw[if_pos rfl];split
 ·
  rename_i y _;obtain⟨f1,f2⟩:=h1.footN l (l.length-1) y (x.ctl+1-0) (x.ctl+1) h2
  have g:LA x (VM.fin2 x (VM.fin1 x (VM.rows x l l.length VM.ini) l y))∧InvV x (VM.fin2 x (VM.fin1 x (VM.rows x l l.length VM.ini) l y)):=by
   unfold VM.fin2;split
   ·
    exact⟨f1.body f2 1 (by omega) (by omega) _ (fun c h=>by simp at h;rcases h with rfl | rfl<;>decide) ⟨by decide,by decide,by decide⟩,Uj _ fun hp=>Ju f2 1 (by omega) _ hp⟩
   exact⟨f1,f2⟩
  unfold VM.fin;split
  ·
   rename_i hp;exact (g.1.bot g.2 hp).1
  exact g.1
 exact h1
theorem lin_chn(x:CM)(l:List RM):chn x o0 (F7 x l true)∧∀o,(F7 x l true).head?=some o→o.1=1:=by
 unfold F7;split
 ·
  exact⟨trivial,fun o h=>(by cases h)⟩
 exact⟨(LA.all x l).ch,(LA.all x l).hd⟩
def piece (q o:Ln):List UInt8:=(if o.1=q.1 then List.replicate (o.2.1-q.2.1-1) 10 else 12::List.replicate (o.2.1-1) 10)++(o.2.2++[10])
def Fe:Ln→List Ln→List UInt8
 | _,[]=>[]
 | q,o::r=>piece q o++Fe o r
theorem txtL_snoc{o:Ln}:∀{l:List Ln} {q:Ln},Fe q (l++[o])=Fe q l++piece (l.getLast?.getD q) o
 | [],q=>by simp[Fe]
 | a::l,q=>by
  show piece q a++Fe a (l++[o])=(piece q a++Fe a l)++_;rw[txtL_snoc (l:=l) (q:=a),List.getLast?_cons,Option.getD_some,Lo_]
inductive PS (x:CM):List Ln→Nat→Nat→List UInt8→List UInt8→Prop
 | done {pg ln:Nat}:PS x [] pg ln [] []
 | mid {pg ln:Nat} (o:Ln) (r:List Ln) (t u:List UInt8) (hp:o.1=pg) (hl:ln≤o.2.1) (ht:o.2.2=t++u) (h0:ln<o.2.1→t=[]) (ok:Jm o.2.2) (hc:chn x o r):PS x (o::r) pg ln t (List.replicate (o.2.1-ln) 10++(u++10::Fe o r))
 | brk {pg ln:Nat} (o:Ln) (r:List Ln) (hp:o.1=pg+1) (hl:1≤o.2.1) (ok:Jm o.2.2) (hc:chn x o r):PS x (o::r) pg ln [] (12::(List.replicate (o.2.1-1) 10++(o.2.2++10::Fe o r)))
theorem PS.start{x:CM}{L:List Ln}(hc:chn x o0 L)(hd:∀o,L.head?=some o→o.1=1):PS x L 1 1 [] (Fe o0 L):=by
 cases L with
 | nil=>exact .done
 | cons o r =>
  have h1:=hd o rfl;obtain⟨⟨h2,h3,_⟩,h4⟩:=hc
  have h5:1≤o.2.1:=by
   rcases h2 with⟨_,h,_⟩ | ⟨_,h,_⟩
   ·
    have:o0.2.1=0:=rfl;omega
   exact h
  have e:Fe o0 (o::r)=List.replicate (o.2.1-1) 10++(o.2.2++10::Fe o r):=by
   simp[Fe,piece,h1,o0]
  rw[e];exact .mid o r [] o.2.2 h1 h5 rfl (fun _=>rfl) h3 h4
theorem PS.fin{x:CM}{L:List Ln}{pg ln:Nat}{t:List UInt8}(h:PS x L pg ln t []):L=[]∧t=[]:=by
 generalize hb:([]:List UInt8)=b at h
 cases h with
 | done=>exact⟨rfl,rfl⟩
 | mid o r t u=>simp at hb
 | brk o r=>cases hb
theorem PS.next{x:CM}{o:Ln}{r:List Ln}(hc:chn x o r):PS x r o.1 (o.2.1+1) [] (Fe o r):=by
 cases r with
 | nil=>exact .done
 | cons o' r =>
  obtain⟨⟨h2,h3,_⟩,h4⟩:=hc;rcases h2 with⟨a,b,_⟩ | ⟨a,b,_⟩
  ·
   have e:Fe o (o'::r)=List.replicate (o'.2.1-(o.2.1+1)) 10++(o'.2.2++10::Fe o' r):=by
    simp[Fe,piece,a,Nat.sub_sub]
   rw[e];exact .mid o' r [] o'.2.2 a (by omega) rfl (fun _=>rfl) h3 h4
  have e:Fe o (o'::r)=12::(List.replicate (o'.2.1-1) 10++(o'.2.2++10::Fe o' r)):=by
   simp[Fe,piece,a]
  rw[e];exact .brk o' r a b h3 h4
theorem PS.step{x:CM}{L:List Ln}{pg ln:Nat}{t rest:List UInt8}{c:UInt8}(h:PS x L pg ln t (c::rest)) :
  (c=12∧t=[]∧PS x L (pg+1) 1 [] rest) ∨
  (c=10∧∃o r,L=o::r∧o.1=pg∧o.2.1=ln∧o.2.2=t∧PS x r pg (ln+1) [] rest) ∨
  (c=10∧t=[]∧(∃o r,L=o::r∧o.1=pg∧o.2.1≠ln)∧PS x L pg (ln+1) [] rest) ∨
  (c≠10∧c≠12∧PS x L pg ln (t++[c]) rest):=by
 generalize hb:c::rest=b at h
 cases h with
 | done=>cases hb
 | mid o r t u hp hl ht h0 ok hc =>
  by_cases xO:ln<o.2.1
  ·
   have e:o.2.1-ln=(o.2.1-(ln+1))+1:=by omega
   rw[e,List.replicate_succ]at hb;injection hb with h1 h2;have ht0:=h0 xO;subst ht0;subst h1;refine .inr (.inr (.inl ⟨rfl,rfl,⟨o,r,rfl,hp,by omega⟩,?_⟩));rw[h2];exact .mid o r [] u hp (by omega) ht (fun _=>rfl) ok hc
  have e:o.2.1=ln:=by omega
  rw[show o.2.1-ln=0 by omega]at hb
  cases u with
  | nil =>
   injection hb with h1 h2;subst h1;refine .inr (.inl ⟨rfl,o,r,rfl,hp,e,by simpa using ht,?_⟩);rw[h2,←hp,←e];exact PS.next hc
  | cons a u =>
   injection hb with h1 h2;subst h1;have hm:c∈o.2.2:=by rw[ht];simp
   obtain⟨n1,n2⟩:=ok c hm;refine .inr (.inr (.inr ⟨n1,n2,?_⟩));have:=PS.mid (x:=x) (ln:=ln) o r (t++[c]) u hp hl (by rw[ht];simp) (fun h=>absurd h xO) ok hc;rw[show o.2.1-ln=0 by omega]at this;rw[h2];exact this
 | brk o r hp hl ok hc =>
  injection hb with h1 h2;subst h1;refine .inl ⟨rfl,rfl,?_⟩;rw[h2];exact .mid o r [] o.2.2 hp hl rfl (fun _=>rfl) ok hc
theorem Zh:∀l:List UInt8,J5 (bR l)=some l
 | []=>rfl
 | a::l=>by
  have h:=a.toNat_lt;have e:J5 (bR (a::l))=if 0≤((a.toNat:Nat):Int)∧((a.toNat:Nat):Int)<256 then (J5 (bR l)).map (UInt8.ofNat ((a.toNat:Nat):Int).toNat::·) else none:=rfl
  rw[e,if_pos ⟨by omega,by omega⟩,Zh l,Int.toNat_natCast];simp
def bO (a bd:D):Zx:=⟨115,2,[[a,bd]],0,0,false⟩
def BS (H:List Zx) (g:Nat) (b:List UInt8):Prop:=∃a bd,H[g]?=some (bO a bd)∧(a=.nilp∨a=.ptr g 0 0 0)∧AppAt 5 1 (bR b) H bd
def KeepB (g:Nat) (H H':List Zx):Prop:=H.length≤H'.length∧∀(j:Nat) (o:Zx),H[j]?=some o→o.kind=0∧j≠g→H'[j]?=some o
theorem KeepB.refl(g:Nat)(H:List Zx):KeepB g H H:=⟨Nat.le_refl _,fun _ _ h _=>h⟩
theorem KeepB.trans{g:Nat}{H H' H'':List Zx}(h:KeepB g H H')(h':KeepB g H' H''):KeepB g H H'':=⟨Nat.le_trans h.1 h'.1,fun j o h1 h2=>h'.2 j o (h.2 j o h1 h2) h2⟩
theorem KeepB.set(g:Nat)(H:List Zx)(o:Zx):KeepB g H (H.set g o):=⟨by simp,fun j o' h1 h2=>by rw[Ln_ (Ne.symm h2.2)];exact h1⟩
theorem BS.lt{H:List Zx}{g:Nat}{b:List UInt8}(h:BS H g b):g<H.length:=by
 obtain⟨a,bd,h1,_⟩:=h;exact Gn h1
theorem BS.app{H:List Zx}{g:Nat}{b:List UInt8}(h:BS H g b)(l:List Zx):BS (H++l) g b:=by
 obtain⟨a,bd,h1,h2,h3⟩:=h;exact⟨a,bd,Dc h1 l,h2,h3.keep fun j o hj _ _=>Dc hj l⟩
theorem BS.self{H:List Zx}{g:Nat}{a bd0 bd:D}{b:List UInt8}(h1:H[g]?=some (bO a bd0))(h3:AppAt 5 1 (bR b) H bd)(a' bd':D):AppAt 5 1 (bR b) (H.set g (bO a' bd')) bd:=h3.keep fun j o hj hk _=>Bj hj (fun e=>by
 subst e;rw[h1]at hj;obtain rfl:=Option.some.inj hj
 simp[bO]at hk) _
theorem app_rows{H:List Zx}{bd:D}{new:List UInt8}{c:Option Nat}{lo:Nat}:C9 5 1 1 1 bd (.sl 1 (bR new) c) ⟨H,lo⟩=Bg 5 1 1 1 bd (bR new) ⟨H,lo⟩:=by simp[C9,Di]
theorem leave_o(S S':St)(r:D){lo:Nat}(hl:S'.low<S.heap.length)(hs:∀m H,Z7 m H r=some r)(xW:min S.low S'.low=lo)(hf:r.Z5=true):leave false S r S'=some (r,⟨S'.heap,lo⟩,true):=by
 have h:¬S.heap.length≤S'.low:=by omega
 subst xW;simp[leave,h,hs]
theorem fp_sd(ds:List D)(r:D)(wr:Bool):Gg .sdata ds r wr=Et wr:=rfl
theorem fp_us(e:TypeId)(ds:List D)(r:D)(wr:Bool):Gg (.ustr e) ds r wr=Et wr:=rfl
def BF (d f:Nat) (args:List D) (r:D) (g:Nat) (b b':List UInt8):Prop:=∀(H:List Zx) (low:Nat),BS H g b→∃z,(∃T wr,z=(r,T,wr)∧BS T.heap g b'∧KeepB g H T.heap∧T.low≤low)∧A7 LP NN d f (.ptr g 0 0 0::args) ⟨H,low⟩=some z
theorem BF.go{d f:Nat}{args:List D}{r:D}{g:Nat}{b b':List UInt8}(h:BF d f args r g b b'){H:List Zx}(low:Nat)(hW:BS H g b):∃H' lo' wr,A7 LP NN d f (.ptr g 0 0 0::args) ⟨H,low⟩=some (r,⟨H',lo'⟩,wr)∧BS H' g b'∧KeepB g H H'∧lo'≤low:=by
 obtain⟨z,⟨T,wr,rfl,h1,h2,h3⟩,h4⟩:=h H low hW;exact⟨T.heap,T.low,wr,h4,h1,h2,h3⟩
theorem leave_b{S S':St}{r:D}{g:Nat}{b':List UInt8}(hr:∀m H,Z7 m H r=some r)(hf:r.Z5=true)(hg:g<S.heap.length)(hl:S'.low≤g)(hW:BS S'.heap g b')(hk:KeepB g S.heap S'.heap):∃z,(∃T wr,z=(r,T,wr)∧BS T.heap g b'∧KeepB g S.heap T.heap∧T.low≤S.low)∧leave false S r S'=some z:=by
 have h:¬S.heap.length≤S'.low:=by omega
 exact⟨(r,⟨S'.heap,min S.low S'.low⟩,true),⟨_,_,rfl,hW,hk,Nat.min_le_left _ _⟩,by simp[leave,h,hr]⟩
theorem cc_nil{d:Nat}(hd:1≤d){g:Nat}{H:List Zx}{bd:D}(low:Nat)(hp:H[g]?=some (bO .nilp bd)):A7 LP NN d 83 [.ptr g 0 0 0] ⟨H,low⟩=some (.tup [],⟨H.set g (bO (.ptr g 0 0 0) bd),min low g⟩,true):=by
 have hgH:=Gn hp;refine Gm (F:=F83) rfl (by simp only[LP,snapVs,zs,zm]<;>exact rfl) rfl (by simp only[LP,zf,zm];try rfl) (by simp only[F83,zv]<;>exact rfl) (by omega) ?_;rintro d rfl;refine Ad (Ae rfl (xo3 ?_));refine xo1 ?_;apply Ac (by simp only[zl,zm,zd,Au,List.take,List.drop,bO,hp]<;>exact rfl);apply Ac (by simp only[zl,zm,eqpD,eqpD]<;>exact rfl);refine Aa (Af ?_);refine Iy ?_;refine Am (Ae rfl (Ae rfl (Ac (by simp only[zl,zm,Md,bO,hp,Md]<;>exact rfl) ?_)));refine Ag rfl (Ac (by simp only[zl,zm,Md,bO,hp,Md]<;>exact rfl) ?_);refine xo3 ?_;refine xo1 ?_;apply Ac (by simp only[zl,zm,Bf,overlay,zs,zc,zf,List.take,List.drop,bO,hp]<;>exact rfl);apply Aa;simp only[ze];refine⟨_,by simp only[F83,resultD,Ba]<;>exact rfl,?_⟩;exact leave_o _ _ _ (by show min H.length g<H.length;omega) (fun m H=>by simp[Kw,snapVs]) (by show min low (min H.length g)=min low g;omega) rfl
theorem cc_set{d:Nat}(hd:1≤d){g:Nat}{H:List Zx}{bd:D}(low:Nat)(hp:H[g]?=some (bO (.ptr g 0 0 0) bd)):A7 LP NN d 83 [.ptr g 0 0 0] ⟨H,low⟩=some (.tup [],⟨H,low⟩,false):=by
 have hgH:=Gn hp;refine Gm (F:=F83) rfl (by simp only[LP,snapVs,zs,zm]<;>exact rfl) rfl (by simp only[LP,zf,zm];try rfl) (by simp only[F83,zv]<;>exact rfl) (by omega) ?_;rintro d rfl;refine Ad (Ae rfl (xo3 ?_));refine xo1 ?_;apply Ac (by simp only[zl,zm,zd,Au,List.take,List.drop,bO,hp]<;>exact rfl);apply Ac (by simp only[zl,zm,eqpD,eqpD]<;>exact rfl);refine Aa (Af ?_);refine Dx ?_;refine Ad (Ae rfl (xo3 ?_));refine xo1 ?_;apply Ac (by simp only[zl,zm,zd,Au,List.take,List.drop,bO,hp]<;>exact rfl);refine Ae rfl (Ac (by simp only[zl,zm,eqpD,bO,hp,eqpD]<;>exact rfl) ?_);refine Aa (Af ?_);refine Dx ?_;apply Ak;refine⟨_,by simp only[F83,resultD,Ba]<;>exact rfl,?_⟩;exact Fh _ _ _ _ (Nat.le_refl _) rfl (fun m H=>by simp[Kw,snapVs])
theorem cc_run{d:Nat}(hd:1≤d){g:Nat}{H:List Zx}{b:List UInt8}(low:Nat)(hW:BS H g b):∃lo' wr bd,A7 LP NN d 83 [.ptr g 0 0 0] ⟨H,low⟩=some (.tup [],⟨H.set g (bO (.ptr g 0 0 0) bd),lo'⟩,wr)∧AppAt 5 1 (bR b) (H.set g (bO (.ptr g 0 0 0) bd)) bd∧H[g]?≠none:=by
 obtain⟨a,bd,h1,h2,h3⟩:=hW;rcases h2 with rfl | rfl
 ·
  exact⟨_,_,bd,cc_nil hd low h1,BS.self h1 h3 _ _,by rw[h1];simp⟩
 refine⟨low,false,bd,?_,BS.self h1 h3 _ _,by rw[h1];simp⟩;rw[set_id h1];exact cc_set hd low h1
theorem wb_run{d:Nat}(hd:2≤d){g:Nat}{b:List UInt8}(hb:b.length≤90000)(c:UInt8):BF d 60 [.int .u8 (c.toNat:Nat)] .nili g b (b++[c]):=by
 intro H low hW;obtain⟨d0,rfl⟩:∃e,d=e+1:=⟨d-1,by omega⟩;have hgH:=hW.lt;obtain⟨lo1,wr1,bd,yE,hA,_⟩:=cc_run (d:=d0) (by omega) H.length hW;have vI:∀o,(H.set g o)[g]?=some o:=fun o=>List.getElem?_set_self hgH;have hp:(H.set g (bO (.ptr g 0 0 0) bd))[g]?=some (bO (.ptr g 0 0 0) bd):=List.getElem?_set_self hgH;obtain⟨bd',H',lo',wr',hap,hA',hl',yP,hg'⟩:=app_b hA [c] (by simp;omega) (some 1) lo1;have hp':H'[g]?=some (bO (.ptr g 0 0 0) bd):=hg' _ _ hp (.inl rfl);have hWN:BS (H'.set g (bO (.ptr g 0 0 0) bd')) g (b++[c]):=⟨_,bd',Bl hp' _,.inr rfl,BS.self hp' hA' _ _⟩;have hA1:=hA'.Z9;have hA2:=hA'.val;have hA3:=hA'.cells
 have hKN:KeepB g H (H'.set g (bO (.ptr g 0 0 0) bd')):=⟨by simp at hl';simpa using hl',fun j o hj hk=>by
  rw[Ln_ (Ne.symm hk.2)]
  exact hg' j o (by rw[Ln_ (Ne.symm hk.2)];exact hj) (.inl hk.1)⟩
 refine Gf (F:=F60) rfl (by simp only[LP,snapVs,zs,zm]<;>exact rfl) rfl (by simp only[LP,zf,zm];try rfl) (by simp only[F60,zv]<;>exact rfl) (by omega) ?_;intro d he;obtain rfl:=Nat.succ.inj he;have xq:=aI vI (aI hp' (aI hA1 (aI hA2 (hA3))));refine Ad (Aw (Aa (Af ?_)));refine Ad (Ae rfl (Ac (by simp only[zo];exact yE) ?_));refine Aa (Af ?_);refine Ad (Ae rfl (Ae rfl (Ac (by simp only[zo,bO]<;>exact rfl) ?_)));refine xo1 ?_;refine Kq ?_;refine Ae rfl (Ac (by simp only[zl,zm,Cb,List.replicate,snapVs,zs,zc,zf]<;>exact rfl) ?_);apply Ac (by simp only[opd,zv,Ar,aop,LOp.loud,lop,if_true];exact hap);refine xo3 ?_;refine xo1 ?_;apply Ac (by simp only[zl,zm,Bf,overlay,List.take,List.drop,bO,xq]<;>exact rfl);refine Aa (Af ?_);refine Ad (Aw (Aa (Af ?_)));apply Az;obtain⟨r,zK,y5⟩:=leave_b (S:=⟨H,low⟩) (S':=⟨H'.set g (bO (.ptr g 0 0 0) bd'),(min lo' g)⟩) (r:=.nili) (fun m H=>rfl) rfl hgH (by show (min lo' g)≤g;omega) hWN hKN;refine⟨r,zK,?_⟩;refine⟨_,by simp only[F60,resultD,Ba,resD,zg]<;>exact rfl,?_⟩;exact y5
theorem Xq{d:Nat}(hd:2≤d){g:Nat}{b s:List UInt8}(hb:b.length+s.length≤90000):BF d 61 [.str (mkS s)] (.tup [.int .i64 (s.length:Nat),.nili]) g b (b++s):=by
 intro H low hW;obtain⟨d0,rfl⟩:∃e,d=e+1:=⟨d-1,by omega⟩;have hgH:=hW.lt;obtain⟨lo1,wr1,bd,yE,hA,_⟩:=cc_run (d:=d0) (by omega) H.length hW;have vI:∀o,(H.set g o)[g]?=some o:=fun o=>List.getElem?_set_self hgH;have hp:(H.set g (bO (.ptr g 0 0 0) bd))[g]?=some (bO (.ptr g 0 0 0) bd):=List.getElem?_set_self hgH;obtain⟨bd',H',lo',wr',hap,hA',hl',yP,hg'⟩:=app_b hA s (by omega) none lo1;have hp':H'[g]?=some (bO (.ptr g 0 0 0) bd):=hg' _ _ hp (.inl rfl);have hWN:BS (H'.set g (bO (.ptr g 0 0 0) bd')) g (b++s):=⟨_,bd',Bl hp' _,.inr rfl,BS.self hp' hA' _ _⟩;have hA1:=hA'.Z9;have hA2:=hA'.val;have hA3:=hA'.cells
 have hKN:KeepB g H (H'.set g (bO (.ptr g 0 0 0) bd')):=⟨by simp at hl';simpa using hl',fun j o hj hk=>by
  rw[Ln_ (Ne.symm hk.2)]
  exact hg' j o (by rw[Ln_ (Ne.symm hk.2)];exact hj) (.inl hk.1)⟩
 rw[app_rows,←Fj]at hap;refine Gf (F:=F61) rfl (by simp only[LP,snapVs,zs,zm]<;>exact rfl) rfl (by simp only[LP,zf,zm];try rfl) (by simp only[F61,zv]<;>exact rfl) (by omega) ?_;intro d he;obtain rfl:=Nat.succ.inj he;have xC:=aI vI (aI hp' (aI hA1 (aI hA2 (hA3))));refine Ad (Aw (Aw (Aa (Af ?_))));refine Ad (Ae rfl (Ac (by simp only[zo];exact yE) ?_));refine Aa (Af ?_);refine Ad (Ae rfl (Ae rfl (Ac (by simp only[zo,bO]<;>exact rfl) ?_)));refine xo1 ?_;refine Qo ?_;refine Ae rfl (Ac (by simp only[opd,zv,Ar,aop,LOp.loud,lop,if_true];exact hap) ?_);refine xo3 ?_;refine xo1 ?_;apply Ac (by simp only[zl,zm,Bf,overlay,List.take,List.drop,bO,xC]<;>exact rfl);refine Aa (Af ?_);refine Ad (Ae rfl (Qr ?_));refine Ag rfl (Aw (Aa (Af ?_)));apply Az;obtain⟨r,zK,y5⟩:=leave_b (S:=⟨H,low⟩) (S':=⟨H'.set g (bO (.ptr g 0 0 0) bd'),(min lo' g)⟩) (r:=(.tup [.int .i64 (s.length:Nat),.nili])) (fun m H=>by simp[Kw,snapVs,Z4,snap]) rfl hgH (by show (min lo' g)≤g;omega) hWN hKN;refine⟨r,zK,?_⟩;refine⟨_,by simp only[F61,resultD,Ba,resD,zg]<;>exact rfl,?_⟩;exact y5
theorem bs_nil{d:Nat}(hd:1≤d){g:Nat}{H:List Zx}{a:D}(low:Nat)(hp:H[g]?=some (bO a .nils)):A7 LP NN d 63 [.ptr g 0 0 0] ⟨H,low⟩=some (.str (mkS []),⟨H,low⟩,false):=by
 refine Gm (F:=F63) rfl (by simp only[LP,snapVs,zs,zm]<;>exact rfl) rfl (by simp only[LP,zf,zm];try rfl) (by simp only[F63,zv]<;>exact rfl) (by omega) ?_;rintro d rfl;refine Ad (Aw (Aa (Af ?_)));refine Ai (Fb ?_);refine Bq rfl rfl (xo8 rfl rfl ?_);refine xo4 rfl rfl ?_;refine Be (by simp only[zl,zm,zd,Au,List.take,List.drop,bO,hp]<;>exact rfl) rfl ?_;apply Ce (by simp only[zl,zm,Q7,Q7]<;>exact rfl) (by simp only[fpHere,zo,zq,fp_sd]<;>exact rfl) rfl;refine Bq rfl rfl (xo8 rfl rfl ?_);refine xo4 rfl rfl ?_;refine Be (by simp only[zl,zm,zd,Au,List.take,List.drop,bO,hp]<;>exact rfl) rfl ?_;apply Aj (by simp only[zo,lenD_nils]<;>exact rfl) rfl rfl;apply Ce (by simp only[zl,zm,Vy,Vy]<;>exact rfl) (by simp only[fpHere,zo,zq,fp_us]<;>exact rfl) rfl;refine Ew rfl rfl (Cj (Af ?_));apply Az;refine⟨_,by simp only[F63,resultD,Ba,resD,zg]<;>exact rfl,?_⟩;exact Fh _ _ _ _ (Nat.le_refl _) rfl (fun _ _=>rfl)
theorem bs_msl{d:Nat}(hd:1≤d){g g2 v n:Nat}{H:List Zx}{a:D}{b:List UInt8}(low:Nat)(hp:H[g]?=some (bO a (.msl g2 v 0 (n+1) none)))(hq:H[g2]?=some ⟨5,1,bR b,v,1,true⟩)(hn:b.length=n+1):A7 LP NN d 63 [.ptr g 0 0 0] ⟨H,low⟩=some (.str (mkS b),⟨H.set g2 ⟨5,1,bR b,v+1,1,true⟩,min low g2⟩,true):=by
 have hgH:=Gn hq
 have hbt:J5 ((bR b).take (n+1))=some b:=by
  rw[←hn,List.take_of_length_le (by simp[bR])];exact Zh b
 have hlb:(bR b).length=n+1:=by simpa [bR] using hn
 have hus:Vy ⟨H,H.length⟩ 5 (.ptr g2 v 0 0) ((n+1:Nat):Int)=some (.str (mkS b),⟨H.set g2 ⟨5,1,bR b,v+1,1,true⟩,min H.length g2⟩,true):=by
  simp only[Vy,rowsOf,hq,if_true,Int.toNat_natCast,hbt,hlb,setAt];rw[if_pos (by refine⟨?_,?_,?_,?_,?_⟩<;>first | trivial | omega | simp)];rfl
 refine Gm (F:=F63) rfl (by simp only[LP,snapVs,zs,zm]<;>exact rfl) rfl (by simp only[LP,zf,zm];try rfl) (by simp only[F63,zv]<;>exact rfl) (by omega) ?_;rintro d rfl;refine Ad (Aw (Aa (Af ?_)));refine Ai (Fb ?_);refine Bq rfl rfl (xo8 rfl rfl ?_);refine xo4 rfl rfl ?_;refine Be (by simp only[zl,zm,zd,Au,List.take,List.drop,bO,hp]<;>exact rfl) rfl ?_;apply Ce (by simp only[zl,zm,Q7,hq,Q7]<;>exact rfl) (by simp only[fpHere,zo,zq,fp_sd]<;>exact rfl) rfl;refine Bq rfl rfl (xo8 rfl rfl ?_);refine xo4 rfl rfl ?_;refine Be (by simp only[zl,zm,zd,Au,List.take,List.drop,bO,hp]<;>exact rfl) rfl ?_;apply Aj (by simp only[zo,lenD_msl]<;>exact rfl) rfl rfl;apply Ce (by simp only[opd,zv,Ar,aop,LOp.loud,lop,if_true];exact hus) (by simp only[fpHere,zo,zq,fp_us]<;>exact rfl) rfl;refine Ew rfl rfl (Cj (Af ?_));apply Az;refine⟨_,by simp only[F63,resultD,Ba,resD,zg]<;>exact rfl,?_⟩;exact leave_o _ _ _ (by show min H.length g2<H.length;omega) (fun _ _=>rfl) (by show min low (min H.length g2)=min low g2;omega) rfl
theorem bs_run{d:Nat}(hd:1≤d){g:Nat}{H:List Zx}{b:List UInt8}(low:Nat)(hW:BS H g b):∃T wr,A7 LP NN d 63 [.ptr g 0 0 0] ⟨H,low⟩=some (.str (mkS b),T,wr):=by
 obtain⟨a,bd,h1,_,h3⟩:=hW;rcases h3 with⟨h4,rfl⟩ | ⟨h4,g2,v,rfl,h5⟩
 ·
  have:b=[]:=by cases b with
   | nil=>rfl
   | cons a l=>simp[bR]at h4
  subst this;exact⟨_,_,bs_nil hd low h1⟩
 obtain⟨n,hn⟩:∃n,b.length=n+1:=⟨b.length-1,by
  have:b.length≠0:=fun e=>h4 (by rw[List.length_eq_zero_iff.1 e];rfl)
  omega⟩
 refine⟨_,_,bs_msl (a:=a) hd low (b:=b) (n:=n) ?_ h5 hn⟩;rw[h1,show (bR b).length=n+1 by simpa [bR] using hn]
theorem wb12{d:Nat}(hd:2≤d){g:Nat}{b:List UInt8}(hb:b.length≤90000):BF d 60 [.int .u8 12] .nili g b (b++[12]):=wb_run hd hb 12
theorem wb10{d:Nat}(hd:2≤d){g:Nat}{b:List UInt8}(hb:b.length≤90000):BF d 60 [.int .u8 10] .nili g b (b++[10]):=wb_run hd hb 10
theorem rep10{d:Nat}(hd:1≤d)(S:St)(n:Nat)(hn:n≤1000):A7 LP NN d 62 [.str ⟨#[10]⟩,.int .i64 (n:Nat)] S=some (.str (mkS (List.replicate n 10)),S,false):=Zm hd S 10 n (by omega)
theorem piece_len{x:CM}{q o:Ln}(h:stp x q o)(hs:o.2.2.length≤20):(piece q o).length≤42:=by
 obtain⟨h1,_⟩:=h;unfold piece;split<;>simp<;>rcases h1 with⟨_,a,b⟩ | ⟨_,a,b,_⟩<;>omega
theorem chn_at{x:CM}{L:List Ln}(hc:chn x o0 L)(hd:∀o,L.head?=some o→o.1=1){i:Nat}{o:Ln}(ho:L[i]?=some o):stp x (Dq (L.take i)) o∧(i=0→o.1=1):=by
 have key:∀(i:Nat) (l:List Ln) (q:Ln),chn x q l→l[i]?=some o→stp x ((l.take i).getLast?.getD q) o:=by
  intro i
  induction i with
  | zero =>
   intro l q hc ho
   cases l with
   | nil=>cases ho
   | cons a r=>cases ho;exact hc.1
  | succ i ih =>
   intro l q hc ho
   cases l with
   | nil=>cases ho
   | cons a r =>
    have:=ih r a hc.2 ho;rwa [List.take_succ_cons,List.getLast?_cons,Option.getD_some]
 refine⟨key i L o0 hc ho,fun h=>?_⟩;subst h;exact hd o (by rw[List.head?_eq_getElem?];exact ho)
theorem text_run{d:Nat}(hd:5≤d)(S:St)(x:CM){L:List Ln}{ls:D}(hz:LinZ ls (L.map lnR))(hch:chn x o0 L)(hd0:∀o,L.head?=some o→o.1=1)(hL:L.length≤2000)(uM:∀o∈L,o.2.2.length≤20):A7 LP NN d 21 [ls] S=some (.str (mkS (Fe o0 L)),S,false):=by
 have xg:lenD false ls=some (.int .i64 (L.length:Nat)):=by
  rcases hz with⟨h1,rfl⟩ | ⟨h1,c,rfl⟩
  ·
   rw[List.map_eq_nil_iff.1 h1];rfl
  show some (D.int .i64 ((L.map lnR).length:Nat))=_;rw[List.length_map]
 have vS:L.length≠0→∃c,ls=.sl 3 (L.map lnR) c:=fun h=>by
  rcases hz with⟨h1,rfl⟩ | ⟨h1,c,rfl⟩
  ·
   rw[List.map_eq_nil_iff.1 h1]at h;exact absurd rfl h
  exact⟨c,rfl⟩
 have uK:∀m H,Z4 m H ls=some ls:=fun m H=>by rcases hz with⟨h1,rfl⟩ | ⟨h1,c,rfl⟩<;>rfl
 have vW:ls.freeV=true:=by rcases hz with⟨h1,rfl⟩ | ⟨h1,c,rfl⟩<;>rfl
 have zi:BS [bO .nilp .nils] 0 []:=⟨_,_,rfl,.inl rfl,.nil _ _ _⟩;refine run_pure (F:=F21) rfl (by simp only[LP,snapVs,zm,uK]<;>exact rfl) rfl (by simp only[LP,zm,vW];try rfl) (by simp only[F21,zv]<;>exact rfl) (by omega) ?_;rintro d rfl;refine Ad (Aw (Aa (Af ?_)));refine Ad (Kt ?_);refine Aa (Af ?_);refine Ad (Aw (Aw (Aa (Af ?_))));refine Ai (Ad (Ae rfl (Ac (by simp only[zo,xg]<;>exact rfl) ?_)));refine Aw (Aa (Af ?_));refine Aq (Eh (fun n env S'=>∃(i:Nat) (K:List Zx) (lo:Nat) (u5 u6 u10 u11:D),i≤L.length∧BS K 0 (Fe o0 (L.take i))∧(Fe o0 (L.take i)).length≤42*i∧n=L.length-i∧S'=⟨K,lo⟩∧env=[ls,.str ⟨#[]⟩,.ptr 0 0 0 0,.int .i64 ((Dq (L.take i)).1:Nat),.int .i64 ((Dq (L.take i)).2.1:Nat),u5,u6,ls,.int .i64 (L.length:Nat),.int .i64 (i:Nat),u10,u11]) (L.length) (by omega) (⟨0,_,_,_,_,_,_,by omega,zi,by simp[Fe],by omega,rfl,rfl⟩) ?_);rintro n env S' ⟨i,K,lo,u5,u6,u10,u11,hi,hBK,hln,hnA,rfl,rfl⟩;refine Ad (xo2 ?_);refine Aa (Af ?_);apply Ai;refine Cc (by simp only[opd,zv]<;>exact rfl) (fun yj=>?_) (fun yj=>?_)
 ·
  have yA:i<L.length:=by have:=of_decide_eq_true yj;omega
  obtain⟨o,ho⟩:∃o,L[i]?=some o:=⟨_,Lg yA⟩;obtain⟨c,rfl⟩:=vS (by omega);have xP:=chn_at hch hd0 ho;obtain⟨uU,hs2,_⟩:=xP.1;have hso:=uM o (Lm ho);have hor:(L.map lnR)[i]?=some (lnR o):=by rw[Lp_,ho];rfl
  have yN:=D5 i (by omega);have wW:((0:Int)≤((i:Nat):Int))=True:=eq_true (by omega);have xO:(((i:Nat):Int)<((L.length:Nat):Int))=True:=eq_true (by omega);have hqN:Dq (L.take (i+1))=o:=by rw[List.take_add_one,ho];exact Ny _ _
  have qm:=piece_len xP.1 hso;have htN:Fe o0 (L.take (i+1))=Fe o0 (L.take i)++piece (Dq (L.take i)) o:=by rw[List.take_add_one,ho];exact txtL_snoc
  have hlN:(Fe o0 (L.take (i+1))).length≤42*(i+1):=by rw[htN,Ll_];omega
  have wo:=hBK.app [⟨52,3,[lnR o],0,0,false⟩];have kE:∀H',KeepB 0 (K++[⟨52,3,[lnR o],0,0,false⟩]) H'→H'[K.length]?=some ⟨52,3,[lnR o],0,0,false⟩:=fun H' h=>h.2 _ _ (Ia _ _) ⟨rfl,by have:=hBK.lt;omega⟩;have xq:=aI hor (aI yN (aI wW (xO)));rcases (show i=0∨(0<i∧o.1=(Dq (L.take i)).1)∨(0<i∧o.1≠(Dq (L.take i)).1) by omega) with zU | ⟨zU,hpq⟩ | ⟨zU,hpq⟩
  ·
   have zD:(((i:Nat):Int)>0)=False:=eq_false (by omega);have hpq:o.1=(Dq (L.take i)).1:=by rw[xP.2 zU,zU];rfl
   have hpq2:(((o.1:Nat):Int) != (((Dq (L.take i)).1:Nat):Int))=false:=by rw[bne_eq_false_iff_eq];omega
   have hrg:1≤o.2.1∧(Dq (L.take i)).2.1<o.2.1∧o.2.1≤(Dq (L.take i)).2.1+20:=by rcases uU with⟨_,a,b⟩ | ⟨a,_⟩<;>omega
   have qI:IntKind.i64.wrap (((o.2.1:Nat):Int)-(((Dq (L.take i)).2.1:Nat):Int))=((o.2.1-(Dq (L.take i)).2.1:Nat):Int):=by rw[IntKind.wrap_i64]<;>omega
   have hwB:IntKind.i64.wrap (((o.2.1-(Dq (L.take i)).2.1:Nat):Int)-1)=((o.2.1-(Dq (L.take i)).2.1-1:Nat):Int):=by rw[IntKind.wrap_i64]<;>omega
   have rM:((0:Int)>((o.2.1-(Dq (L.take i)).2.1-1:Nat):Int))=False:=eq_false (by omega);have hmn:((1000:Int)<((o.2.1-(Dq (L.take i)).2.1-1:Nat):Int))=False:=eq_false (by omega);have xC:=aI zD (aI hpq2 (aI qI (aI hwB (aI rM (hmn)))));refine Ak (Bh rfl (Ai (Aq (Ad (Ae rfl (Ac (by simp only[zl,zm,Ci,Int.toNat_natCast,lnR,xq]<;>exact rfl) ?_))))));refine Kq ?_;apply Ac (by simp only[zl,zm,xq]<;>exact rfl);refine Ag rfl (xo60 ?_);refine Aa (Af ?_);refine Ai (Ad (Ae rfl (xo37 ?_)));refine Ag rfl (Ep 0 (b:=false) ?_);refine Dh rfl rfl (Dh rfl rfl (Dh rfl rfl (Dh rfl rfl (Ac (by simp only[zo,xq]<;>exact rfl) ?_))));refine Aa (Af ?_);apply A8 (by simp only[opd,zv,xq]);refine Ak (Bh rfl (Ad (Kr ?_)));refine Kq ?_;refine Ag rfl (Aa (Af ?_));refine Ad (Kr ?_);refine Kq ?_;refine Ae rfl (xo37 ?_);refine xo37 ?_;apply Ac (by simp only[zo,Iw,U9,xq,xC]<;>exact rfl);apply Ac (by simp only[zo,Iw,minD,xq,xC]<;>exact rfl);apply Ac (by simp only[zo,xq];exact rep10 (by omega) _ (o.2.1-(Dq (L.take i)).2.1-1) (by omega));obtain⟨H6a,lo6a,wr6a,hc6a,hB6a,qY,hl6a⟩:=(Xq (d:=d) (by omega) (b:=(Fe o0 (L.take i))) (s:=List.replicate (o.2.1-(Dq (L.take i)).2.1-1) 10) (by simp;omega)).go (min lo K.length) wo;have hx6a:=kE _ (qY);apply Ac (by simp only[zo,xq];exact hc6a);refine Aa (Af ?_);refine Ad (Kr ?_);apply Ac (by simp only[zl,zm,zd,Au,List.take,List.drop,lnR,xq,hx6a]<;>exact rfl);obtain⟨H6b,lo6b,wr6b,hc6b,hB6b,hK6b,hl6b⟩:=(Xq (d:=d) (by omega) (b:=(Fe o0 (L.take i))++List.replicate (o.2.1-(Dq (L.take i)).2.1-1) 10) (s:=o.2.2) (by simp;omega)).go lo6a hB6a;have hKS:=qY.trans hK6b;have hx6b:=kE _ hKS;apply Ac (by simp only[zo,xq];exact hc6b);refine Aa (Af ?_);apply Ad;obtain⟨HE,loE,wrE,hcE,hBE,hKE,hlE⟩:=(wb10 (d:=d) (by omega) (b:=(Fe o0 (L.take i))++List.replicate (o.2.1-(Dq (L.take i)).2.1-1) 10++o.2.2) (by simp;omega)).go lo6b hB6b;have hxE:=kE _ (hKS.trans hKE)
   have hBN:BS HE 0 (Fe o0 (L.take (i+1))):=by
    rw[htN,piece];rw[if_pos hpq];simpa using hBE
   apply Ac (by simp only[zo,xq];exact hcE);refine Aa (Af ?_);refine Am (Kr ?_);apply Ac (by simp only[zl,zm,zd,Au,List.take,List.drop,lnR,xq,hxE]<;>exact rfl);refine Ag rfl (Aa (Ed (Af ?_)));refine Am (Qw ?_);refine Ag rfl (Aa (G6 (by simp only[ze]<;>exact rfl) ?_));exact⟨L.length-(i+1),by omega,i+1,_,_,_,_,_,_,by omega,hBN,hlN,rfl,rfl,by rw[hqN]⟩
  ·
   have zD:(((i:Nat):Int)>0)=True:=eq_true (by omega);have hpq2:(((o.1:Nat):Int) != (((Dq (L.take i)).1:Nat):Int))=false:=by rw[bne_eq_false_iff_eq];omega
   have hrg:1≤o.2.1∧(Dq (L.take i)).2.1<o.2.1∧o.2.1≤(Dq (L.take i)).2.1+20:=by rcases uU with⟨_,a,b⟩ | ⟨a,_⟩<;>omega
   have qI:IntKind.i64.wrap (((o.2.1:Nat):Int)-(((Dq (L.take i)).2.1:Nat):Int))=((o.2.1-(Dq (L.take i)).2.1:Nat):Int):=by rw[IntKind.wrap_i64]<;>omega
   have hwB:IntKind.i64.wrap (((o.2.1-(Dq (L.take i)).2.1:Nat):Int)-1)=((o.2.1-(Dq (L.take i)).2.1-1:Nat):Int):=by rw[IntKind.wrap_i64]<;>omega
   have rM:((0:Int)>((o.2.1-(Dq (L.take i)).2.1-1:Nat):Int))=False:=eq_false (by omega);have hmn:((1000:Int)<((o.2.1-(Dq (L.take i)).2.1-1:Nat):Int))=False:=eq_false (by omega);have xM:=aI zD (aI hpq2 (aI qI (aI hwB (aI rM (hmn)))));refine Ak (Bh rfl (Ai (Aq (Ad (Ae rfl (Ac (by simp only[zl,zm,Ci,Int.toNat_natCast,lnR,xq]<;>exact rfl) ?_))))));refine Kq ?_;apply Ac (by simp only[zl,zm,xq]<;>exact rfl);refine Ag rfl (xo60 ?_);refine Aa (Af ?_);refine Ai (Ad (Ae rfl (xo43 ?_)));refine Ag rfl (Ep 0 (b:=true) ?_);refine Ap rfl (Kr ?_);refine Ap rfl (Kq ?_);refine Ap rfl (Ae rfl (Ap rfl (xo43 ?_)));apply Ac (by simp only[zo,xq]<;>exact rfl);refine Aa (Af ?_);apply A8 (by simp only[opd,zv,xq]<;>rfl);refine Ak (Bh rfl (Ad (Kr ?_)));refine Kq ?_;refine Ag rfl (Aa (Af ?_));refine Ad (Kr ?_);refine Kq ?_;refine Ae rfl (xo43 ?_);refine xo43 ?_;apply Ac (by simp only[zo,Iw,U9,xq,xM]<;>exact rfl);apply Ac (by simp only[zo,Iw,minD,xq,xM]<;>exact rfl);apply Ac (by simp only[zo,xq];exact rep10 (by omega) _ (o.2.1-(Dq (L.take i)).2.1-1) (by omega));obtain⟨H6a,lo6a,wr6a,hc6a,hB6a,qY,hl6a⟩:=(Xq (d:=d) (by omega) (b:=(Fe o0 (L.take i))) (s:=List.replicate (o.2.1-(Dq (L.take i)).2.1-1) 10) (by simp;omega)).go (min lo K.length) wo;have hx6a:=kE _ (qY);apply Ac (by simp only[zo,xq];exact hc6a);refine Aa (Af ?_);refine Ad (Kr ?_);apply Ac (by simp only[zl,zm,zd,Au,List.take,List.drop,lnR,xq,hx6a]<;>exact rfl);obtain⟨H6b,lo6b,wr6b,hc6b,hB6b,hK6b,hl6b⟩:=(Xq (d:=d) (by omega) (b:=(Fe o0 (L.take i))++List.replicate (o.2.1-(Dq (L.take i)).2.1-1) 10) (s:=o.2.2) (by simp;omega)).go lo6a hB6a;have hKS:=qY.trans hK6b;have hx6b:=kE _ hKS;apply Ac (by simp only[zo,xq];exact hc6b);refine Aa (Af ?_);apply Ad;obtain⟨HE,loE,wrE,hcE,hBE,hKE,hlE⟩:=(wb10 (d:=d) (by omega) (b:=(Fe o0 (L.take i))++List.replicate (o.2.1-(Dq (L.take i)).2.1-1) 10++o.2.2) (by simp;omega)).go lo6b hB6b;have hxE:=kE _ (hKS.trans hKE)
   have hBN:BS HE 0 (Fe o0 (L.take (i+1))):=by
    rw[htN,piece];rw[if_pos hpq];simpa using hBE
   apply Ac (by simp only[zo,xq];exact hcE);refine Aa (Af ?_);refine Am (Kr ?_);apply Ac (by simp only[zl,zm,zd,Au,List.take,List.drop,lnR,xq,hxE]<;>exact rfl);refine Ag rfl (Aa (Ed (Af ?_)));refine Am (Qw ?_);refine Ag rfl (Aa (G6 (by simp only[ze]<;>exact rfl) ?_));exact⟨L.length-(i+1),by omega,i+1,_,_,_,_,_,_,by omega,hBN,hlN,rfl,rfl,by rw[hqN]⟩
  have zD:(((i:Nat):Int)>0)=True:=eq_true (by omega);have hpq2:(((o.1:Nat):Int) != (((Dq (L.take i)).1:Nat):Int))=true:=by rw[bne_iff_ne];omega
  have hrg:1≤o.2.1∧o.2.1≤20:=by rcases uU with⟨a,_⟩ | ⟨_,a,b,_⟩<;>omega
  have qI:IntKind.i64.wrap (((o.2.1:Nat):Int)-0)=((o.2.1:Nat):Int):=by rw[IntKind.wrap_i64]<;>omega
  have hwB:IntKind.i64.wrap (((o.2.1:Nat):Int)-1)=((o.2.1-1:Nat):Int):=by rw[IntKind.wrap_i64]<;>omega
  have rM:((0:Int)>((o.2.1-1:Nat):Int))=False:=eq_false (by omega);have hmn:((1000:Int)<((o.2.1-1:Nat):Int))=False:=eq_false (by omega);have zz6:=aI zD (aI hpq2 (aI qI (aI hwB (aI rM (hmn)))));refine Ak (Bh rfl (Ai (Aq (Ad (Ae rfl (Ac (by simp only[zl,zm,Ci,Int.toNat_natCast,lnR,xq]<;>exact rfl) ?_))))));refine Kq ?_;apply Ac (by simp only[zl,zm,xq]<;>exact rfl);refine Ag rfl (xo60 ?_);refine Aa (Af ?_);refine Ai (Ad (Ae rfl (Ac (by simp only[zo,Bd,xq,zz6]<;>exact rfl) ?_)));refine Ag rfl (Ep 0 (b:=true) ?_);refine Ap rfl (Kr ?_);refine Ap rfl (Kq ?_);refine Ap rfl (Ae rfl (Ap rfl (Ac (by simp only[zo,Bd,xq,zz6]<;>exact rfl) ?_)));apply Ac (by simp only[zo,xq]<;>exact rfl);refine Aa (Af ?_);apply Ej (by simp only[opd,zv,xq]<;>rfl);apply Ad;obtain⟨H60,lo60,wr60,hc60,hB60,hK60,hl60⟩:=(wb12 (d:=d) (by omega) (b:=(Fe o0 (L.take i))) (by omega)).go (min lo K.length) wo;have hx60:=kE _ hK60;apply Ac (by simp only[zo,xq];exact hc60);refine Aa (Af ?_);refine Am (Aw (Aa (Af ?_)));refine Ad (Kr ?_);apply Ac (by simp only[zl,zm,zd,Au,List.take,List.drop,lnR,xq,hx60]<;>exact rfl);refine Ag rfl (Aa (Af ?_));refine Ad (Kr ?_);apply Ac (by simp only[zl,zm,zd,Au,List.take,List.drop,lnR,xq,hx60]<;>exact rfl);refine Ae rfl (Ac (by simp only[zo,Bd,xq,zz6]<;>exact rfl) ?_);apply Ac (by simp only[zo,Bd,xq,zz6]<;>exact rfl);apply Ac (by simp only[zo,Iw,U9,xq,zz6]<;>exact rfl);apply Ac (by simp only[zo,Iw,minD,xq,zz6]<;>exact rfl);apply Ac (by simp only[zo,xq];exact rep10 (by omega) _ (o.2.1-1) (by omega));obtain⟨H6a,lo6a,wr6a,hc6a,hB6a,qY,hl6a⟩:=(Xq (d:=d) (by omega) (b:=((Fe o0 (L.take i))++[12])) (s:=List.replicate (o.2.1-1) 10) (by simp;omega)).go lo60 hB60;have hx6a:=kE _ (hK60.trans qY);apply Ac (by simp only[zo,xq];exact hc6a);refine Aa (Af ?_);refine Ad (Kr ?_);apply Ac (by simp only[zl,zm,zd,Au,List.take,List.drop,lnR,xq,hx6a]<;>exact rfl);obtain⟨H6b,lo6b,wr6b,hc6b,hB6b,hK6b,hl6b⟩:=(Xq (d:=d) (by omega) (b:=((Fe o0 (L.take i))++[12])++List.replicate (o.2.1-1) 10) (s:=o.2.2) (by simp;omega)).go lo6a hB6a;have hKS:=(hK60.trans qY).trans hK6b;have hx6b:=kE _ hKS;apply Ac (by simp only[zo,xq];exact hc6b);refine Aa (Af ?_);apply Ad;obtain⟨HE,loE,wrE,hcE,hBE,hKE,hlE⟩:=(wb10 (d:=d) (by omega) (b:=((Fe o0 (L.take i))++[12])++List.replicate (o.2.1-1) 10++o.2.2) (by simp;omega)).go lo6b hB6b;have hxE:=kE _ (hKS.trans hKE)
  have hBN:BS HE 0 (Fe o0 (L.take (i+1))):=by
   rw[htN,piece];rw[if_neg hpq];simpa using hBE
  apply Ac (by simp only[zo,xq];exact hcE);refine Aa (Af ?_);refine Am (Kr ?_);apply Ac (by simp only[zl,zm,zd,Au,List.take,List.drop,lnR,xq,hxE]<;>exact rfl);refine Ag rfl (Aa (Ed (Af ?_)));refine Am (Qw ?_);refine Ag rfl (Aa (G6 (by simp only[ze]<;>exact rfl) ?_));exact⟨L.length-(i+1),by omega,i+1,_,_,_,_,_,_,by omega,hBN,hlN,rfl,rfl,by rw[hqN]⟩
 have yX:i=L.length:=by have:=of_decide_eq_false yj;omega
 subst yX;rw[List.take_length]at hBK;obtain⟨T,wr,hcS⟩:=bs_run (d:=d) (by omega) lo hBK;refine Dk (Hl (Jb (Ht (Bh rfl (Ad (Ac (by simp only[zo];exact hcS) ?_))))));refine Ag rfl (Aa (Af ?_));apply Az;refine⟨_,by simp only[F21,resultD,Ba,resD,zg]<;>exact rfl,?_⟩;rfl
theorem idx_S{l:List UInt8}{i:Nat}{c:UInt8}(h:l[i]?=some c):pop .index [.str (mkS l),.int .i64 (i:Nat)]=some (.int .u8 (c.toNat:Nat)):=by
 have e:(mkS l)[i]?=some c:=by
  obtain⟨hi,hc⟩:=List.getElem?_eq_some_iff.1 h;have yI:i<(mkS l).size:=by rw[Dp];exact hi
  rw[getElem?_pos (mkS l) i yI];congr 1
 show (if 0≤((i:Nat):Int) then ((mkS l)[((i:Nat):Int).toNat]?).map (fun b=>D.int .u8 b.toNat) else none)=_;rw[if_pos (by omega),Int.toNat_natCast,e];rfl
theorem str_one{l:List UInt8}{i:Nat}{c:UInt8}(h:l[i]?=some c):pop (.slice true 0 true true false) [.str (mkS l),.int .i64 (i:Nat),.int .i64 (i+1:Nat)]=some (.str (mkS [c])):=by
 obtain⟨hi,hc⟩:=List.getElem?_eq_some_iff.1 h;rw[str_mid 0 l i (i+1) _ _ rfl rfl (by omega) (by omega),show i+1-i=1 by omega];rw[List.drop_eq_getElem_cons hi,hc];rfl
theorem txt_len(x:CM){L:List Ln}:∀{q:Ln},chn x q L→(∀o∈L,o.2.2.length≤20)→(Fe q L).length≤42*L.length:=by
 induction L with
 | nil=>intro q _ _;simp[Fe]
 | cons o r ih =>
  intro q hc hs;have h1:=piece_len hc.1 (hs o (by simp));have h2:=ih hc.2 (fun o ho=>hs o (by simp[ho]));simp only[Fe,Ll_,List.length_cons];omega
def short (v:VM):Prop:=∀o∈v.lines,o.2.2.length≤20
theorem short.put{v:VM}(h:short v)(p:Nat){s:List UInt8}(hs:s.length≤20):short (v.put p s):=fun o ho=>by
 rcases List.mem_append.1 (show o∈v.lines++[(v.page,v.line+p,s)] from ho) with h1 | h1
 ·
  exact h o h1
 obtain rfl:=List.mem_singleton.1 h1;exact hs
theorem short.top{v:VM}(h:short v)(x:CM):short (VM.top x v):=by
 unfold VM.top;split
 ·
  exact h.put 1 (by simp[Cm])
 exact h
theorem short.bot{v:VM}(h:short v)(x:CM):short (VM.bot x v):=by
 unfold VM.bot;split
 ·
  exact short.put (v:={ v with line:=x.last }) h 2 (by simp[Cm])
 exact h
theorem short.newp{v:VM}(h:short v)(x:CM):short (VM.newp x v):=short.top (v:={ VM.bot x v with page:=(VM.bot x v).page+1,line:=0 }) (h.bot x) x
theorem short.room{v:VM}(h:short v)(x:CM)(n:Nat)(f:Bool):short (v.room x n f):=by
 unfold VM.room;split
 ·
  split
  ·
   exact h.newp x
  exact h
 exact h
theorem short.headI{v:VM}(h:short v)(x:CM)(y:RM)(i:Nat):short (v.headI x y i):=by
 unfold VM.headI;split
 ·
  exact (h.room x _ _).put 1 (by simp[hTxt,Cm])
 exact h
theorem short.footI{v:VM}(h:short v)(x:CM)(l:List RM)(last:Nat)(y:RM)(i:Nat):short (v.footI x l last y i):=by
 unfold VM.footI;split
 ·
  split
  ·
   exact ((h.room x _ _).put 1 (by simp[Xf,Cm])).put 1 (by simp)
  exact (h.room x _ _).put 1 (by simp[Xf,Cm])
 exact h
theorem short.headN(x:CM)(y:RM):∀(k i:Nat) {v:VM},short v→short (VM.headN x y i k v)
 | 0,_,_,h=>h
 | k+1,i,v,h=>short.headN x y k (i+1) (h.headI x y i)
theorem short.footN(x:CM)(l:List RM)(last:Nat)(y:RM):∀(k i:Nat) {v:VM},short v→short (VM.footN x l last y i k v)
 | 0,_,_,h=>h
 | k+1,i,v,h=>short.footN x l last y k (i-1) (h.footI x l last y (i-1))
theorem short.det{v:VM}(h:short v)(x:CM)(y:RM):short (VM.det x v y):=by
 unfold VM.det;split
 ·
  exact (h.room x _ _).put 1 (by simp[U1,Cm])
 split
 ·
  exact (h.room x _ _).put 2 (by simp[U0,Cm])
 exact h
theorem short.rows(x:CM)(l:List RM):∀i,short (VM.rows x l i VM.ini)
 | 0=>fun o h=>by cases h
 | i + 1 => by
  have ih:=short.rows x l i
  cases hy:l[i]? with
  | none=>simp only[VM.rows,hy];exact ih
  | some y =>
   rw[Ua x l hy];refine short.det ?_ x y;unfold VM.pre
   cases i with
   | zero =>
    refine short.headN x y _ _ (short.top ?_ x);split
    ·
     exact short.put (fun o h=>by cases h) 1 (by simp)
    exact fun o h=>by cases h
   | succ j =>
    simp only;split
    ·
     unfold VM.nxt;split
     ·
      exact ih
     exact short.headN x y _ _ (short.footN x l j _ _ _ ih)
    exact ih
theorem lin_short(x:CM)(l:List RM):∀o∈F7 x l true,o.2.2.length≤20:=by
 have h:=short.rows x l l.length;unfold F7;split
 ·
  intro o ho;cases ho
 unfold VM.all;rw[if_pos rfl];split
 ·
  rename_i y _
  have g:short (VM.fin2 x (VM.fin1 x (VM.rows x l l.length VM.ini) l y)):=by
   have f:=short.footN x l (l.length-1) y (x.ctl+1-0) (x.ctl+1) h;unfold VM.fin2;split
   ·
    exact (short.room (v:=VM.fin1 x (VM.rows x l l.length VM.ini) l y) f x _ _).put 1 (by simp)
   exact f
  unfold VM.fin;split
  ·
   exact g.bot x
  exact g
 exact h
theorem lin_len(x:CM)(l:List RM)(hl:l.length≤30):(F7 x l true).length≤2000:=by
 unfold F7;split
 ·
  simp
 have h:=VB.rows x l l.length;unfold VM.all;rw[if_pos rfl];split
 ·
  rename_i y _;have h1:=VB.foot x l (l.length-1) y (x.ctl+1-0) (x.ctl+1) h (by omega);have hc:=x.ctl_lt
  have h2:VB (VM.fin2 x (VM.fin1 x (VM.rows x l l.length VM.ini) l y)) (12+55*l.length+9*(x.ctl+1-0)+10):=by
   unfold VM.fin2;split
   ·
    exact VB.mono ((VB.room (v:=VM.fin1 x (VM.rows x l l.length VM.ini) l y) h1 x (by omega) 1 false).put 1 (by omega) _) (by omega)
   exact VB.mono (v:=VM.fin1 x (VM.rows x l l.length VM.ini) l y) h1 (by omega)
  unfold VM.fin;split
  ·
   have:=(h2.bot x (by omega)).lines;omega
  have:=h2.lines;omega
 have:=h.lines;omega
theorem law5_run{d:Nat}(hd:61≤d)(S:St)(x:CM)(l:List RM)(ls:D)(vS:LsD ls l)(hl:l.length≤30)(hLv:∀d S,60≤d→A7 LP NN d 8 [] S=some (.bool true,S,false)):A7 LP NN d 5 [.agg x.row,ls] S=some (.bool true,S,false):=by
 obtain⟨d0,rfl⟩:∃e,d=e+1:=⟨d-1,by omega⟩;have xg:=vS.len;have uK:∀m H,Z4 m H ls=some ls:=fun m H=>by rcases vS with⟨_,rfl⟩ | ⟨c,rfl⟩<;>rfl
 have vW:ls.freeV=true:=by rcases vS with⟨_,rfl⟩ | ⟨c,rfl⟩<;>rfl
 have hgtF:(((l.length:Nat):Int)>30)=False:=eq_false (by omega);have hof:∀d S,18≤d→A7 LP NN d 10 [.agg x.row] S=some (.agg (x.rep false),S,false):=fun d S h=>of_run h S x;obtain⟨rN,⟨SN,g,gm,gt,rfl,hW0,_,_⟩,hcN⟩:=new_run (d:=d0) (by omega) [] 0 x;obtain⟨HN,loN⟩:=SN;rw[←x.rep_b false]at hcN;refine run_pure (F:=F5) rfl (by simp only[LP,snapVs,Bc,zs,zm,CM.row,uK]<;>exact rfl) rfl (by simp only[LP,zf,zm,vW];try rfl) (by simp only[F5,zv]<;>exact rfl) (by omega) ?_;intro d he;obtain rfl:=Nat.succ.inj he;refine Ad (xo9 ?_);refine Aw (Aa (Af ?_));refine Ai (Ad (Ae rfl (Ac (by simp only[zo,xg]<;>exact rfl) ?_)));apply Ac (by simp only[zo,Bd,hgtF,decide_false]<;>exact rfl);refine Aa (Af ?_);refine Dx ?_;refine Ak (Bh rfl (Ad (xo0 ?_)));apply Ac (by simp only[zo];exact hof _ _ (by omega));apply Ac (by simp only[zo];exact hcN);refine Ag rfl (Ll ?_);refine Jl ?_;refine Ag rfl (Ag rfl (Aa (Af ?_)));refine Ai (Ad (Ae rfl (xo2 ?_)));refine Aa (Af ?_);refine Dx ?_;refine Ak (Bh rfl (Ai (Ad (Aw (Aa (Af ?_))))));refine Aq (Eh (fun n env S'=>∃(i:Nat) (K:List Zx) (lo:Nat) (w:WM) (u3 u5 u7 u8 u9 u10 u11 u12 u13 u14 u15 u16 u17 u18 u19 u20 u21 u22 u23 u24:D),i≤l.length∧WS K g gm gt x w∧GQ x l i w∧n=l.length-i∧S'=⟨K,lo⟩∧env=[.agg x.row,ls,.cptr x.row 0,u3,.ptr g 0 0 0,u5,.int .i64 (i:Nat),u7,u8,u9,u10,u11,u12,u13,u14,u15,u16,u17,u18,u19,u20,u21,u22,u23,u24]) (l.length) (by omega) (⟨0,_,_,w0 x,_,_,_,_,_,_,_,_,_,_,_,_,_,_,_,_,_,_,_,_,by omega,hW0,.start x l,by omega,rfl,rfl⟩) ?_);rintro n env S' ⟨i,K,lo,w,u3,u5,u7,u8,u9,u10,u11,u12,u13,u14,u15,u16,u17,u18,u19,u20,u21,u22,u23,u24,hi,yJ,hQ,hnA,rfl,rfl⟩;have hB:=hQ.wb;refine Ai (Ad (Ae rfl (Ae rfl (Ac (by simp only[zo,xg]<;>exact rfl) ?_))));refine xo2 ?_;refine Aa (Af ?_);refine Cc (by simp only[opd,zv]<;>exact rfl) (fun yj=>?_) (fun yj=>?_)
 ·
  have yA:i<l.length:=by have:=of_decide_eq_true yj;omega
  obtain⟨c,rfl⟩:=vS.sl (by omega);obtain⟨y,hy⟩:∃y,l[i]?=some y:=⟨_,Lg yA⟩;have wW:((0:Int)≤((i:Nat):Int))=True:=eq_true (by omega);have yN:=D5 i (by omega);have hlr:(l.map RM.row)[i]?=some y.row:=by rw[Lp_,hy];rfl
  have hp4:=part4 y.row_len;obtain⟨rG,⟨T,rfl,hWT,hKT,hlT⟩,hcG⟩:=gen_run (d:=d0) (by omega) lo yJ (hB y) hQ.pr (by omega) (by omega) hQ.en y.det y.det_le (some 3);obtain⟨HT,loT⟩:=T;have hQn:=hQ.next hy
  have hBn:=hQn.wb y;refine Ak (Bh rfl (Ai (Aq (Fb ?_))));refine Bq rfl rfl (Bq rfl rfl (Bq rfl rfl (Be (by simp only[zl,zm,Ci,Int.toNat_natCast,wW,hlr]<;>exact rfl) rfl ?_)));refine Be (by simp only[zl,zm,Qc,hp4]<;>exact rfl) rfl ?_;refine Be (by simp only[zo];exact rdet_run (by omega) _ y) rfl ?_;refine Bq rfl rfl (Bq rfl rfl (Be (by simp only[zl,zm,Ci,Int.toNat_natCast,wW,hlr]<;>exact rfl) rfl ?_));refine Be (by simp only[zl,zm,Qc,hp4]<;>exact rfl) rfl ?_;refine Be (by simp only[zo];exact rof_run (by omega) _ y) rfl ?_;refine Be (by simp only[zo];exact hcG) rfl ?_;refine Cj (Ed (Af ?_));refine Am (Ae rfl (Ac (by simp only[zo,Bd,yN]<;>exact rfl) ?_));refine Ag rfl (Aa (G6 (by simp only[ze]<;>exact rfl) ?_));exact⟨l.length-(i+1),by omega,i+1,_,_,Nl x w y y.det,_,_,_,_,_,_,_,_,_,_,_,_,_,_,_,_,_,_,_,_,by omega,hWT,hQn,rfl,rfl,rfl⟩
 have yX:i=l.length:=by have:=of_decide_eq_false yj;omega
 subst yX;obtain⟨rT,⟨T,rfl,hWT,hKT,hlT⟩,hcT⟩:=term_run (d:=d0) (by omega) lo yJ hQ.wbp (by omega) hQ.en;obtain⟨HT,loT⟩:=T;have hfl:(endW (I7 x w)).lines=F7 x l true:=hQ.fin;have hll:=hQ.flen;have hLn:=lines_run (d:=d0) (by omega) loT hWT (by show (I7 x w).lines.length≤_;omega);rw[hfl]at hLn;have hLL:(F7 x l true).length≤50000:=by rw[←hfl];exact hll
 obtain⟨hch,hhd⟩:=lin_chn x l;have uM:=lin_short x l;have hL4:=lin_len x l hl;have hTL:=txt_len x hch uM;have hcX:=text_run (d:=d0) (by omega) ⟨HT,loT⟩ x (clipR_Z _) hch hhd hL4 uM;have hps0:=PS.start hch hhd;refine Dk (Hl (Jb (Ht (Bh rfl (Ad (Ae rfl (Ac (by simp only[zo];exact hcT) ?_)))))));refine Aa (Af ?_);refine Ad (Ae rfl (Ac (by simp only[zo];exact hLn) ?_));refine Ag rfl (Aa (Af ?_));refine Ad (Ae rfl (Ac (by simp only[zo];exact hcX) ?_));refine Ag rfl (Aa (Af ?_));refine Ad (Aw (Aw (Aw (Aa (Af ?_)))));refine Ad (Aw (Aa (Af ?_)));refine Ai (Ad (Aw (Aa (Af ?_))));refine Aq (Eh (fun n env S'=>∃(i:Nat) (pg:Nat) (ln:Nat) (at0:Nat) (t:List UInt8) (u3 u5 u6 u14 u15 u16 u17 u18 u19 u20 u21 u22 u23 u24:D),i≤(Fe o0 (F7 x l true)).length∧at0≤(F7 x l true).length∧pg≤i+1∧ln≤i+1∧t.length≤i∧PS x ((F7 x l true).drop at0) pg ln t ((Fe o0 (F7 x l true)).drop i)∧n=(Fe o0 (F7 x l true)).length-i∧S'=⟨HT,loT⟩∧env=[.agg x.row,ls,.cptr x.row 0,u3,.ptr g 0 0 0,u5,u6,J3 ((F7 x l true).map lnR),.str (mkS (Fe o0 (F7 x l true))),.int .i64 (pg:Nat),.int .i64 (ln:Nat),.int .i64 (at0:Nat),.str (mkS t),.int .i64 (i:Nat),u14,u15,u16,u17,u18,u19,u20,u21,u22,u23,u24]) ((Fe o0 (F7 x l true)).length) (by omega) (⟨0,1,1,0,[],_,_,_,_,_,_,_,_,_,_,_,_,_,_,by omega,by omega,by omega,by omega,by simp,by simpa using hps0,by omega,rfl,rfl⟩) ?_);rintro n env S' ⟨i,pg,ln,at0,t,u3,u5,u6,u14,u15,u16,u17,u18,u19,u20,u21,u22,u23,u24,yI,hat,zT,hlnb,vG,hps,hnB,rfl,rfl⟩;refine Ai (Ad (Ae rfl (Ae rfl (Ac (by simp only[zo,G9]<;>exact rfl) ?_))));refine xo2 ?_;refine Aa (Af ?_);refine Cc (by simp only[opd,zv]<;>exact rfl) (fun zQ=>?_) (fun zQ=>?_)
 ·
  have yA:i<(Fe o0 (F7 x l true)).length:=by have:=of_decide_eq_true zQ;rw[Dp]at this;omega
  obtain⟨c,hc⟩:∃c,(Fe o0 (F7 x l true))[i]?=some c:=⟨_,Lg yA⟩;have hdr:(Fe o0 (F7 x l true)).drop i=c::(Fe o0 (F7 x l true)).drop (i+1):=by rw[List.drop_eq_getElem_cons yA];congr 1;exact (List.getElem?_eq_some_iff.1 hc).2
  rw[hdr]at hps;have wW:((0:Int)≤((i:Nat):Int))=True:=eq_true (by omega);have yN:=D5 i (by omega);have hwp:=D5 pg (by omega);have hwl:=D5 ln (by omega);have hwa:=D5 at0 (by omega);have hlG:lenD false (J3 ((F7 x l true).map lnR))=some (.int .i64 ((F7 x l true).length:Nat)):=by rw[len_clipR,List.length_map]
  have xq:=aI wW (aI yN (aI hwp (aI hwl (aI hwa (hlG)))));rcases hps.step with⟨hc0,ht,hn⟩ | ⟨hc0,o,r,xH,ho2,ho3,ho4,hn⟩ | ⟨hc0,ht,⟨o,r,xH,ho2,ho3⟩,hn⟩ | ⟨yg,zH,hn⟩
  ·
   have e12:(((c.toNat:Nat):Int)==12)=true:=by rw[hc0];rfl
   subst ht;have xu:=beq_self_eq_true ([]:List UInt8);refine Ak (Bh rfl (Ai (Aq (Ad (Ae rfl (Ae rfl (Ac (by simp only[opd,zv,Ar,aop,LOp.loud,if_false,Bool.false_eq_true];exact congrArg (Option.map fun r=>(r,_,false)) (idx_S hc)) ?_)))))));refine Aa (Af ?_);refine Aq (Ad (Ac (by simp only[zo,Bd,e12]<;>exact rfl) ?_));refine Ag rfl (Aa (Af ?_));refine Iy ?_;refine Ai (Ad (Ae rfl (Ac (by simp only[zo,Bd,Dz,Eo,xu]<;>exact rfl) ?_)));refine Aa (Af ?_);refine Dx ?_;refine Ak (Bh rfl (Ad (Ae rfl (Qw ?_))));refine Ag rfl (Aa (Af ?_));refine Am (Aw (Aa (Ed (Ed (Af ?_)))));refine Am (Ae rfl (Qw ?_));refine Ag rfl (Aa (G6 (by simp only[ze]<;>exact rfl) ?_));exact⟨(Fe o0 (F7 x l true)).length-(i+1),by omega,i+1,(pg+1),1,at0,[],_,_,_,_,_,_,_,_,_,_,_,_,_,_,by omega,by omega,by omega,by omega,by simp<;>omega,hn,rfl,rfl,rfl⟩
  ·
   have e12:(((c.toNat:Nat):Int)==12)=false:=by rw[hc0];rfl
   have e10:(((c.toNat:Nat):Int)==10)=true:=by rw[hc0];rfl
   have hlA:at0<(F7 x l true).length:=by have:=congrArg List.length xH;simp at this;omega
   have hro:(F7 x l true)[at0]?=some o:=by have:=congrArg (·[0]?) xH;simpa using this
   have hGs:J3 ((F7 x l true).map lnR)=.sl 3 ((F7 x l true).map lnR) (some ((F7 x l true).map lnR).length):=clipR_ne (fun e=>by rw[List.map_eq_nil_iff]at e;rw[e]at hlA;simp at hlA);have hGr:((F7 x l true).map lnR)[at0]?=some (lnR o):=by rw[Lp_,hro];rfl
   have hga:((0:Int)≤((at0:Nat):Int))=True:=eq_true (by omega);have hla:(((at0:Nat):Int)<(((F7 x l true).length:Nat):Int))=True:=eq_true (by omega);have e1:(((o.1:Nat):Int)==((pg:Nat):Int))=true:=by rw[beq_iff_eq,ho2]
   have e2:(((o.2.1:Nat):Int)==((ln:Nat):Int))=true:=by rw[beq_iff_eq,ho3]
   have e3:(o.2.2==t)=true:=by rw[ho4];exact beq_self_eq_true _
   have kL:PS x ((F7 x l true).drop (at0+1)) pg (ln+1) [] ((Fe o0 (F7 x l true)).drop (i+1)):=by rw[show (F7 x l true).drop (at0+1)=r by rw[←List.drop_drop,xH];rfl];exact hn
   have xC:=aI hla (aI hga (aI hGs (hGr)));refine Ak (Bh rfl (Ai (Aq (Ad (Ae rfl (Ae rfl (Ac (by simp only[opd,zv,Ar,aop,LOp.loud,if_false,Bool.false_eq_true];exact congrArg (Option.map fun r=>(r,_,false)) (idx_S hc)) ?_)))))));refine Aa (Af ?_);refine Aq (Ad (Ac (by simp only[zo,Bd,e12,xC]<;>exact rfl) ?_));refine Ag rfl (Aa (Af ?_));apply A8 (by simp only[opd,zv,xC]<;>rfl);refine Ad (Ac (by simp only[zo,Bd,e10,xC]<;>exact rfl) ?_);refine Ag rfl (Aa (Af ?_));apply Ej (by simp only[opd,zv,xC]<;>rfl);refine Ai (Ad (Ae rfl (Ae rfl (Ac (by simp only[zo,hlG]<;>exact rfl) ?_))));refine xo36 ?_;refine Ag rfl (H7 0 (b:=true) (by simp only[zv,xC]<;>rfl) (by simp only[zn]<;>exact rfl) ?_);refine Ap rfl (Ae rfl (Ap rfl (Ae rfl (Ap rfl (Ac (by simp only[zl,zm,Ci,Int.toNat_natCast,lnR,xC]<;>exact rfl) ?_)))));refine Ap rfl (Ac (by simp only[zo,Dw,zm,xC]<;>exact rfl) ?_);refine Ap rfl (Qo ?_);refine Ap rfl (Ae rfl (Ap rfl (Ac (by simp only[zo,Bd,e1,xC]<;>exact rfl) ?_)));apply Ac (by simp only[zo,xC]<;>exact rfl);refine Ag rfl (H7 0 (b:=true) (by simp only[zv,xC]<;>rfl) (by simp only[zn]<;>exact rfl) ?_);refine Ap rfl (Ae rfl (Ap rfl (Ae rfl (Ap rfl (Ac (by simp only[zl,zm,Ci,Int.toNat_natCast,lnR,xC]<;>exact rfl) ?_)))));refine Ap rfl (Ac (by simp only[zo,Dw,zm,xC]<;>exact rfl) ?_);refine Ap rfl (Qo ?_);refine Ap rfl (Ae rfl (Ap rfl (Ac (by simp only[zo,Bd,e2,xC]<;>exact rfl) ?_)));apply Ac (by simp only[zo,xC]<;>exact rfl);refine Aa (Af ?_);apply Ej (by simp only[opd,zv,xC]<;>rfl);refine Ai (Ad (Ae rfl (Ae rfl (Ac (by simp only[zl,zm,Ci,Int.toNat_natCast,lnR,xC]<;>exact rfl) ?_))));apply Ac (by simp only[zo,Dw,zm,xC]<;>exact rfl);refine Qo ?_;refine Ae rfl (Ac (by simp only[zo,Bd,Dz,e3,xC]<;>exact rfl) ?_);refine Aa (Af ?_);apply A8 (by simp only[opd,zv,xC]<;>rfl);refine Ak (Bh rfl (Am (Ae rfl (xo37 ?_))));refine Ag rfl (Aa (Af ?_));refine Ad (Aw (Aa (Af ?_)));refine Am (Ae rfl (xo37 ?_));refine Ag rfl (Aa (Ed (Ed (Af ?_))));refine Am (Ae rfl (xo37 ?_));refine Ag rfl (Aa (G6 (by simp only[ze]<;>exact rfl) ?_));exact⟨(Fe o0 (F7 x l true)).length-(i+1),by omega,i+1,pg,(ln+1),(at0+1),[],_,_,_,_,_,_,_,_,_,_,_,_,_,_,by omega,by omega,by omega,by omega,by simp<;>omega,kL,rfl,rfl,rfl⟩
  ·
   have e12:(((c.toNat:Nat):Int)==12)=false:=by rw[hc0];rfl
   have e10:(((c.toNat:Nat):Int)==10)=true:=by rw[hc0];rfl
   have hlA:at0<(F7 x l true).length:=by have:=congrArg List.length xH;simp at this;omega
   have hro:(F7 x l true)[at0]?=some o:=by have:=congrArg (·[0]?) xH;simpa using this
   have hGs:J3 ((F7 x l true).map lnR)=.sl 3 ((F7 x l true).map lnR) (some ((F7 x l true).map lnR).length):=clipR_ne (fun e=>by rw[List.map_eq_nil_iff]at e;rw[e]at hlA;simp at hlA);have hGr:((F7 x l true).map lnR)[at0]?=some (lnR o):=by rw[Lp_,hro];rfl
   have hga:((0:Int)≤((at0:Nat):Int))=True:=eq_true (by omega);have hla:(((at0:Nat):Int)<(((F7 x l true).length:Nat):Int))=True:=eq_true (by omega);have e1:(((o.1:Nat):Int)==((pg:Nat):Int))=true:=by rw[beq_iff_eq,ho2]
   have e2:(((o.2.1:Nat):Int)==((ln:Nat):Int))=false:=by rw[beq_eq_false_iff_ne];omega
   subst ht;have xu:=beq_self_eq_true ([]:List UInt8);have xM:=aI hla (aI hga (aI hGs (aI hGr (xu))));refine Ak (Bh rfl (Ai (Aq (Ad (Ae rfl (Ae rfl (Ac (by simp only[opd,zv,Ar,aop,LOp.loud,if_false,Bool.false_eq_true];exact congrArg (Option.map fun r=>(r,_,false)) (idx_S hc)) ?_)))))));refine Aa (Af ?_);refine Aq (Ad (Ac (by simp only[zo,Bd,e12,xM]<;>exact rfl) ?_));refine Ag rfl (Aa (Af ?_));apply A8 (by simp only[opd,zv,xM]<;>rfl);refine Ad (Ac (by simp only[zo,Bd,e10,xM]<;>exact rfl) ?_);refine Ag rfl (Aa (Af ?_));apply Ej (by simp only[opd,zv,xM]<;>rfl);refine Ai (Ad (Ae rfl (Ae rfl (Ac (by simp only[zo,hlG]<;>exact rfl) ?_))));apply Ac (by simp only[zo,Bd,xM]<;>exact rfl);refine Ag rfl (H7 0 (b:=true) (by simp only[zv,xM]<;>rfl) (by simp only[zn]<;>exact rfl) ?_);refine Ap rfl (Ae rfl (Ap rfl (Ae rfl (Ap rfl (Ac (by simp only[zl,zm,Ci,Int.toNat_natCast,lnR,xM]<;>exact rfl) ?_)))));refine Ap rfl (Ac (by simp only[zo,Dw,zm,xM]<;>exact rfl) ?_);refine Ap rfl (xo64 ?_);refine Ap rfl (Ae rfl (Ap rfl (Ac (by simp only[zo,Bd,e1,xM]<;>exact rfl) ?_)));apply Ac (by simp only[zo,xM]<;>exact rfl);refine Ag rfl (H7 0 (b:=true) (by simp only[zv,xM]<;>rfl) (by simp only[zn]<;>exact rfl) ?_);refine Ap rfl (Ae rfl (Ap rfl (Ae rfl (Ap rfl (Ac (by simp only[zl,zm,Ci,Int.toNat_natCast,lnR,xM]<;>exact rfl) ?_)))));refine Ap rfl (Ac (by simp only[zo,Dw,zm,xM]<;>exact rfl) ?_);refine Ap rfl (xo64 ?_);refine Ap rfl (Ae rfl (Ap rfl (Ac (by simp only[zo,Bd,e2,xM]<;>exact rfl) ?_)));apply Ac (by simp only[zo,xM]<;>exact rfl);refine Aa (Af ?_);apply A8 (by simp only[opd,zv,xM]<;>rfl);refine Ad (Ae rfl (Ac (by simp only[zo,Bd,Dz,Eo,xM]<;>exact rfl) ?_));refine Aa (Af ?_);apply A8 (by simp only[opd,zv,xM]<;>rfl);refine Ak (Bh rfl (Ad (Aw (Aa (Af ?_)))));refine Am (Ae rfl (xo43 ?_));refine Ag rfl (Aa (Ed (Ed (Af ?_))));refine Am (Ae rfl (xo43 ?_));refine Ag rfl (Aa (G6 (by simp only[ze]<;>exact rfl) ?_));exact⟨(Fe o0 (F7 x l true)).length-(i+1),by omega,i+1,pg,(ln+1),at0,[],_,_,_,_,_,_,_,_,_,_,_,_,_,_,by omega,by omega,by omega,by omega,by simp<;>omega,hn,rfl,rfl,rfl⟩
  have e12:(((c.toNat:Nat):Int)==12)=false:=by rw[beq_eq_false_iff_ne];exact fun h=>zH (UInt8.toNat_inj.1 (by show c.toNat=12;omega))
  have e10:(((c.toNat:Nat):Int)==10)=false:=by rw[beq_eq_false_iff_ne];exact fun h=>yg (UInt8.toNat_inj.1 (by show c.toNat=10;omega))
  refine Ak (Bh rfl (Ai (Aq (Ad (Ae rfl (Ae rfl (Ac (by simp only[opd,zv,Ar,aop,LOp.loud,if_false,Bool.false_eq_true];exact congrArg (Option.map fun r=>(r,_,false)) (idx_S hc)) ?_)))))));refine Aa (Af ?_);refine Aq (Ad (Ac (by simp only[zo,Bd,e12]<;>exact rfl) ?_));refine Ag rfl (Aa (Af ?_));refine Dx ?_;refine Ad (Ac (by simp only[zo,Bd,e10]<;>exact rfl) ?_);refine Ag rfl (Aa (Af ?_));refine Dx ?_;refine Am (Ae rfl (Ae rfl (Ae rfl (Ae rfl (Qw ?_)))));apply Ac (by simp only[opd,zv,Ar,aop,LOp.loud,if_false,Bool.false_eq_true];exact congrArg (Option.map fun r=>(r,_,false)) (str_one hc));apply Ac (by simp only[opd,zv,Ar,aop,LOp.loud,if_false,Bool.false_eq_true];exact congrArg (Option.map fun r=>(r,_,false)) (sadd t [c] (by simp;omega)));refine Ag rfl (Aa (Ed (Ed (Af ?_))));refine Am (Ae rfl (Qw ?_));refine Ag rfl (Aa (G6 (by simp only[ze]<;>exact rfl) ?_));exact⟨(Fe o0 (F7 x l true)).length-(i+1),by omega,i+1,pg,ln,at0,(t++[c]),_,_,_,_,_,_,_,_,_,_,_,_,_,_,by omega,by omega,by omega,by omega,by simp<;>omega,hn,rfl,rfl,rfl⟩
 have yX:i=(Fe o0 (F7 x l true)).length:=by have:=of_decide_eq_false zQ;rw[Dp]at this;omega
 subst yX;rw[List.drop_length]at hps;obtain⟨hp1,hp2⟩:=hps.fin;subst hp2;have hal:at0=(F7 x l true).length:=by have:=congrArg List.length hp1;simp at this;omega
 have hlG:lenD false (J3 ((F7 x l true).map lnR))=some (.int .i64 ((F7 x l true).length:Nat)):=by rw[len_clipR,List.length_map]
 have hlv:=hLv d0 ⟨HT,loT⟩ (by omega);have hbs:((((at0:Nat):Int))==(((F7 x l true).length:Nat):Int))=true:=by rw[beq_iff_eq,hal]
 refine Dk (Hl (Jb (Ht (Bh rfl (Ad (Ae rfl (Ae rfl (Ac (by simp only[zo,hlG]<;>exact rfl) ?_))))))));apply Ac (by simp only[zo,Bd,hbs]<;>exact rfl);refine Ag rfl (Ep 0 (b:=true) ?_);refine Ap rfl (Ae rfl (Ap rfl (Ac (by simp only[zo,Bd,Dz,Eo]<;>exact rfl) ?_)));refine xo3 ?_;refine Ag rfl (Ep 0 (b:=true) ?_);refine Ap rfl (Ac (by simp only[zo];exact hlv) ?_);refine xo3 ?_;refine Ag rfl (Aa (Af ?_));apply Az;refine⟨_,by simp only[F5,resultD,Ba,resD,zg]<;>exact rfl,?_⟩;rfl
theorem law5_big{d:Nat}(hd:61≤d)(S:St)(x:CM)(l:List RM)(ls:D)(vS:LsD ls l)(hl:30<l.length):A7 LP NN d 5 [.agg x.row,ls] S=some (.bool true,S,false):=by
 have xg:=vS.len;have uK:∀m H,Z4 m H ls=some ls:=fun m H=>by rcases vS with⟨_,rfl⟩ | ⟨c,rfl⟩<;>rfl
 have vW:ls.freeV=true:=by rcases vS with⟨_,rfl⟩ | ⟨c,rfl⟩<;>rfl
 have hgtT:(((l.length:Nat):Int)>30)=True:=eq_true (by omega);refine run_pure (F:=F5) rfl (by simp only[LP,snapVs,Bc,zs,zm,CM.row,uK]<;>exact rfl) rfl (by simp only[LP,zf,zm,vW];try rfl) (by simp only[F5,zv]<;>exact rfl) (by omega) ?_;rintro d rfl;refine Ad (xo9 ?_);refine Aw (Aa (Af ?_));refine Ai (Ad (Ae rfl (Ac (by simp only[zo,xg]<;>exact rfl) ?_)));apply Ac (by simp only[zo,Bd,hgtT,decide_true]<;>exact rfl);refine Aa (Af ?_);refine Iy ?_;refine Ad (Ac (by simp only[zo];exact lives_run _ _ (by omega)) ?_);refine Ag rfl (Aa (Af ?_));refine Az (Oq ?_);refine⟨_,by simp only[F5,resultD,Ba,resD,zg]<;>exact rfl,?_⟩;rfl
theorem law5{d:Nat}(hd:61≤d)(S:St)(x:CM)(l:List RM)(ls:D)(vS:LsD ls l):A7 LP NN d 5 [.agg x.row,ls] S=some (.bool true,S,false):=by
 by_cases h:l.length≤30
 ·
  exact law5_run hd S x l ls vS h lives_run
 exact law5_big hd S x l ls vS (by omega)
open Go.ChangeShapes Go.WideShapes Go.ChangeAt Go.RowKit
set_option maxRecDepth 100000
theorem own:ownKnob Tryz.prog.godebug=none:=by kernel_rfl
theorem laidOut:laidOutB Tryz.prog=true:=by kernel_rfl
theorem ty4:Tryz.prog.underlying 4=some .bool:=by kernel_rfl
theorem ty5:Tryz.prog.underlying 5=some (.int .u8):=by kernel_rfl
theorem ty22:Tryz.prog.underlying 22=some (.int .u16):=by kernel_rfl
theorem ty23:Tryz.prog.underlying 23=some (.array 3 5):=by kernel_rfl
theorem ty26:Tryz.prog.underlying 26=some (.slice 43):=by kernel_rfl
noncomputable def fs43:Array Field:=match Tryz.prog.underlying 43 with
  | some (.struct fs)=>fs
  | _=>#[]
theorem ty43:∃fs:Array Field,Tryz.prog.underlying 43=some (.struct fs)∧fs.size=4∧fs.toList.map (·.type)=[5,5,22,5]:=⟨fs43,by kernel_rfl,by kernel_rfl,by kernel_rfl⟩
noncomputable def fs25:Array Field:=match Tryz.prog.underlying 25 with
  | some (.struct fs)=>fs
  | _=>#[]
theorem ty25:Tryz.prog.underlying 25=some (.struct fs25):=by kernel_rfl
theorem ty25':fs25.size=5∧fs25.toList.map (·.type)=[5,22,5,5,23]:=⟨by kernel_rfl,by kernel_rfl⟩
theorem Jw{fs:Array Field}{ts:List TypeId}(ht:fs.toList.map (·.type)=ts){j:Nat}{t:TypeId}(hj:ts[j]?=some t):∃f:Field,fs[j]?=some f∧f.type=t:=by
  rw[←ht,Lp_]at hj;rw[←Array.getElem?_toList]
  cases e:fs.toList[j]? with
  | none=>rw[e]at hj;cases hj
  | some f=>rw[e]at hj;exact⟨f,rfl,Option.some.inj hj⟩
theorem u16_nat{n:Int}(h:(Lit.int .u16 n).wf=true):∃m:Nat,n=m∧m<65536:=by
  have b:0≤n∧n≤65535:=by simpa [Lit.wf,IntKind.min,IntKind.max,IntKind.signed,IntKind.bits] using h
  exact⟨n.toNat,by omega,by omega⟩
def Uz:List (String × DataW Unit):=Rows.reportsLinesRow.laid
theorem door_met(os:Os)(args:Array Value):laidMetH Tryz.prog Uz ((World.laidAll Tryz.prog os Uz).forCall (fun _ _=>0) ⟨#[],args,[]⟩).memory:=by
  rw[MakeChecks.laidMetH_plain _ _ _ (by kernel_rfl)];exact laidMet_laidAll _ (by kernel_rfl) (by kernel_rfl)
theorem vr_agg{w:World}{ρ:Zy}{H:List Zx}{ds:List D}{cs:Array Value}(h:VL w ρ H ds cs.toList)(hc:ds.all D.Z9=true):VR w ρ H (.agg ds) (.agg cs):=by
  have:=VR.agg (w:=w) (ρ:=ρ) (H:=H) ds cs.toList h.len hc fun j d v hd hv=>h.get hd hv;simpa using this
theorem caseArg{ds:List D}(h:Sh Tryz.prog 3 25 ds):∃x:CM,ds=x.row:=by
  obtain⟨hn,ht⟩:=ty25';obtain⟨parts,rfl,hp,hf⟩:=Sh.struct ty25 h;obtain⟨f0,g0,t0⟩:=Jw ht (j:=0) rfl;obtain⟨f1,g1,t1⟩:=Jw ht (j:=1) rfl;obtain⟨f2,g2,t2⟩:=Jw ht (j:=2) rfl;obtain⟨f3,g3,t3⟩:=Jw ht (j:=3) rfl;obtain⟨f4,g4,t4⟩:=Jw ht (j:=4) rfl;obtain⟨r0,h0,s0⟩:=hf 0 _ g0;obtain⟨r1,h1,s1⟩:=hf 1 _ g1;obtain⟨r2,h2,s2⟩:=hf 2 _ g2;obtain⟨r3,h3,s3⟩:=hf 3 _ g3;obtain⟨r4,h4,s4⟩:=hf 4 _ g4;rw[t0]at s0;rw[t1]at s1;rw[t2]at s2;rw[t3]at s3;rw[t4]at s4;obtain⟨n0,rfl,w0⟩:=Sh.int ty5 s0;obtain⟨n1,rfl,w1⟩:=Sh.int ty22 s1;obtain⟨n2,rfl,w2⟩:=Sh.int ty5 s2;obtain⟨n3,rfl,w3⟩:=Sh.int ty5 s3;obtain⟨ps,rfl,hl,ha⟩:=Sh.array ty23 s4
  match ps,hl,ha with
  | [a0, a1, a2], _, ha =>
    obtain⟨n4,rfl,w4⟩:=Sh.int ty5 (ha a0 (by simp));obtain⟨n5,rfl,w5⟩:=Sh.int ty5 (ha a1 (by simp));obtain⟨n6,rfl,w6⟩:=Sh.int ty5 (ha a2 (by simp));obtain⟨m0,rfl,k0⟩:=Pv w0;obtain⟨m1,rfl,k1⟩:=u16_nat w1;obtain⟨m2,rfl,k2⟩:=Pv w2;obtain⟨m3,rfl,k3⟩:=Pv w3;obtain⟨m4,rfl,k4⟩:=Pv w4;obtain⟨m5,rfl,k5⟩:=Pv w5;obtain⟨m6,rfl,k6⟩:=Pv w6;rw[hn]at hp
    match parts,hp,h0,h1,h2,h3,h4 with
    | [p0, p1, p2, p3, p4], _, h0, h1, h2, h3, h4 =>
      simp at h0 h1 h2 h3 h4;subst h0 h1 h2 h3 h4;exact⟨⟨m0,m1,m2,m3,m4,m5,m6,k0,k1,k2,k3,k4,k5,k6⟩,rfl⟩
theorem rowsArg{ds:List D}(h:Sh Tryz.prog 3 26 ds):∃(x:D) (l:List RM),ds=[x]∧LsD x l:=by
  have e1:Tryz.prog.cellsOf 43=4:=by kernel_rfl
  obtain⟨fs,hu,hn,ht⟩:=ty43;obtain⟨x,rows,rfl,hS,_,hr⟩:=Sh.slice ty26 h;rw[e1]at hS
  obtain⟨l,rfl⟩:=rows_of (f:=RM.row) (rows:=rows) (fun r hr'=>by
    obtain⟨parts,rfl,hp,hf⟩:=Sh.struct hu (hr r hr');obtain⟨f0,g0,t0⟩:=Jw ht (j:=0) rfl;obtain⟨f1,g1,t1⟩:=Jw ht (j:=1) rfl;obtain⟨f2,g2,t2⟩:=Jw ht (j:=2) rfl;obtain⟨f3,g3,t3⟩:=Jw ht (j:=3) rfl;obtain⟨r0,h0,s0⟩:=hf 0 _ g0;obtain⟨r1,h1,s1⟩:=hf 1 _ g1;obtain⟨r2,h2,s2⟩:=hf 2 _ g2;obtain⟨r3,h3,s3⟩:=hf 3 _ g3;rw[t0]at s0;rw[t1]at s1;rw[t2]at s2;rw[t3]at s3;obtain⟨n0,rfl,w0⟩:=Sh.int ty5 s0;obtain⟨n1,rfl,w1⟩:=Sh.int ty5 s1;obtain⟨n2,rfl,w2⟩:=Sh.int ty22 s2;obtain⟨n3,rfl,w3⟩:=Sh.int ty5 s3;obtain⟨m0,rfl,k0⟩:=Pv w0;obtain⟨m1,rfl,k1⟩:=Pv w1;obtain⟨m2,rfl,k2⟩:=u16_nat w2;obtain⟨m3,rfl,k3⟩:=Pv w3;rw[hn]at hp
    match parts,hp,h0,h1,h2,h3 with
    | [p0, p1, p2, p3], _, h0, h1, h2, h3 =>
      simp at h0 h1 h2 h3;subst h0 h1 h2 h3
      exact⟨⟨m0,m1,m2,m3,k0,k1,k2,k3⟩,rfl⟩)
  refine⟨x,l,rfl,?_⟩;rcases hS with⟨h1,h2⟩ | ⟨c,h1⟩
  · exact .inl ⟨List.map_eq_nil_iff.1 h2,h1⟩
  exact .inr ⟨c,h1⟩
theorem CM.cells(x:CM):x.row.all D.Z9=true:=rfl
theorem glob_ok{W:World}(h:laidMetH Tryz.prog Uz W):GlobOK GT W:=by
  rw[MakeChecks.laidMetH_plain _ _ _ (by kernel_rfl)]at h;intro g row hg;unfold GT at hg;split at hg
  · cases hg;exact Zt h (x:=(Uz[2]'(by decide))) (List.getElem_mem _) (n:=3) (t:=((Tryz.prog.globals[1]?).map (·.type)).getD 0) (by kernel_rfl) (by kernel_rfl) (by kernel_rfl) (by kernel_rfl)
  · cases hg;exact Zt h (x:=(Uz[6]'(by decide))) (List.getElem_mem _) (n:=3) (t:=((Tryz.prog.globals[2]?).map (·.type)).getD 0) (by kernel_rfl) (by kernel_rfl) (by kernel_rfl) (by kernel_rfl)
  · cases hg;exact Zt h (x:=(Uz[8]'(by decide))) (List.getElem_mem _) (n:=3) (t:=((Tryz.prog.globals[3]?).map (·.type)).getD 0) (by kernel_rfl) (by kernel_rfl) (by kernel_rfl) (by kernel_rfl)
  · cases hg;exact Zt h (x:=(Uz[7]'(by decide))) (List.getElem_mem _) (n:=3) (t:=((Tryz.prog.globals[4]?).map (·.type)).getD 0) (by kernel_rfl) (by kernel_rfl) (by kernel_rfl) (by kernel_rfl)
  cases hg
end Go.Proofs.YtbhnlppboegmjaaGreatDoor
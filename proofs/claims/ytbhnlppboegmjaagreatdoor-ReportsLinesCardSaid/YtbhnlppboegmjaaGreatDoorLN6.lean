/- Proved here: parts of the proof, joined (K85, K86, K87, K88, K89, K90, K91, K92, K93, K94, K95, K96, K97, K98, K99, K100, K101, K102, K103, K104, K105, K106, K107, K108, K109, RpP): an abstract machine, its soundness, what functions of the program compute in it; no condition. -/
import Derived.Test.YtbhnlppboegmjaaGreatDoorTie
import Derived.WalkKit
import Derived.ProofKit
import Derived.OpenShut
import Derived.ShutString
import Derived.ChangeOld
import Derived.Below
import Derived.LaidMore
import Derived.Lay
import Derived.SevenTiedAt
import Derived.Stop.Joined
import Derived.Test.YtbhnlppboegmjaaGreatDoorLN5
namespace Go.Proofs.YtbhnlppboegmjaaGreatDoor
set_option linter.unusedSimpArgs false
set_option linter.unusedVariables false
set_option maxRecDepth 100000
set_option maxHeartbeats 4000000
theorem store_tot{H:List Z9}{gt v lo i m:Nat}{rows:List (List D)}(h:H[gt]?=some ⟨57,3,rows,v,2,true⟩)(hi:rows[i]?=some (dcR m))(n:Nat):Bg 3 ⟨H,lo⟩ (.ptr gt v i 0) (dcD n)=some ⟨H.set gt ⟨57,3,rows.set i (dcR n),v,2,true⟩,min lo gt⟩:=by
 have e1:Aac H.length H (.agg [.bool false,.str (mkS (dgs n)),.int .i64 0])=some (.agg [.bool false,.str (mkS (dgs n)),.int .i64 0]):=rfl;simp only[Bg,rowsOf,h,if_true,hi,dcR];simp[e1,dcD,D.val,D.cells,D.Aag,overlay,setAt,D.free,D.Aah]
theorem pres_tot(x:CM)(w:WM)(t:TG)(h:w.tot.length=x.ctl+1):(Dz x w t).tot.length=x.ctl+1:=by rw[(Iw x w t).2.1];exact h
theorem footN_f(x:CM):∀(k i:Nat) (w:WM),(footN x i k w).row=w.row∧(footN x i k w).ended=w.ended
 | 0,_,_=>⟨rfl,rfl⟩
 | k+1,i,w=>by
  have h:=footN_f x k (i-1) ((Dz x w (x.tg 5 (i-1))).clr (i-1));have h2:=Iw x w (x.tg 5 (i-1));exact⟨h.1.trans h2.1,h.2.trans h2.2.2⟩
theorem WB.foot{x:CM}:∀(k i:Nat) {w:WM} {n:Nat},WB w n→n+44*k≤50000→w.tot.length=x.ctl+1→i≤x.ctl+1→k≤i→WB (footN x i k w) (n+44*k)∧(footN x i k w).tot.length=x.ctl+1
 | 0,_,_,_,h,_,ht,_,_=>⟨h,ht⟩
 | k+1,i,w,n,h,hn,ht,hi,hk=>by
  have h1:=(h.pres (x:=x) (by omega) ht (Kq (x:=x) h (by omega) ht (k:=5) (lv:=i-1) (by omega))).clr (i-1);have h2:=pres_tot x w (x.tg 5 (i-1)) ht;have:=WB.foot k (i-1) h1 (by omega) (by simpa [WM.clr] using h2) (by omega) (by omega);rw[show n+44+44*k=n+44*(k+1) by omega]at this;exact this
theorem foot_run{d:Nat}(hd:31≤d){g gm gt:Nat}{x:CM}{w:WM}{b:Nat}(uo:WB w b)(hn:b≤40000){l:Nat}(hl:l≤x.ctl+1):WF d 46 [.int .i64 (l:Nat)] g gm gt x w (J9 x w l):=by
 intro H low hW;obtain⟨d0,rfl⟩:∃e,d=e+1:=⟨d-1,by omega⟩;have hct:=x.ctl_lt;obtain⟨lin,hw,xY⟩:=hW.hw;have hTl:(G7 (x.ctl+1)).length=x.ctl+1:=by simp[G7]
 have rQ:lenD false (slB true 1 (x.ctlR x.ctl) none)=some (.int .i64 (x.ctl:Nat)):=by rw[La];simp[CM.ctlR]
 refine Eu (F:=F46) rfl (by simp only[LP,snapVs,zs,zm]<;>exact rfl) rfl (by simp only[LP,zf,zm];try rfl) (by simp only[F46,zv]<;>exact rfl) (by omega) ?_;intro d he;obtain rfl:=Nat.succ.inj he;refine Ad (Ae rfl (xo3 (h:=xo1 (h:=xo1 (h:=Ac (by simp only[zl,zm,zd,Au,List.take,List.drop,hw,wO,wRow]<;>exact rfl) ?_)))));apply Ac (by simp only[zo,rQ]<;>exact rfl);refine Ag rfl (Aa (Af ?_));refine Aq (D5 (fun n env S'=>∃(j:Nat) (m:Int) (K:List Z9) (lo:Nat) (w1:WM) (u3 u4 u5 u6 u7 u8 u9 u10:D),l≤j∧j≤x.ctl+1∧m=(j:Nat)-1∧WS K g gm gt x w1∧Keep H K∧WB w1 (b+44*(x.ctl+1-j))∧footN x j (j-l) w1=J9 x w l∧(lo≤max g gt∨w1=w)∧n=j∧S'=⟨K,lo⟩∧env=[.ptr g 0 0 0,.int .i64 (l:Nat),.int .i64 m,u3,u4,u5,u6,u7,u8,u9,u10]) (x.ctl+1) (by omega) (⟨x.ctl+1,_,_,_,w,_,_,_,_,_,_,_,_,hl,Nat.le_refl _,by omega,hW,Keep.refl _,by rw[Nat.sub_self];exact uo,rfl,.inr rfl,by omega,rfl,rfl⟩) ?_);rintro n env S' ⟨j,m,K,lo,w1,u3,u4,u5,u6,u7,u8,u9,u10,hlj,hjc1,hm,yg,zC,yR,he,xU,hnA,rfl,rfl⟩;obtain⟨linK,hwK,hlinK⟩:=yg.hw;refine Ai (Ad (Ae rfl (Ae rfl (xo2 (h:=?_)))));refine Aa (Af ?_);refine Bj (by simp only[opd,zv]<;>exact rfl) (fun xZ=>?_) (fun xZ=>?_)
 ·
  have yL:l<j:=by have:=of_decide_eq_true xZ;omega
  obtain⟨i0,rfl⟩:∃i0,j=i0+1:=⟨j-1,by omega⟩;obtain rfl:m=((i0:Nat):Int):=by omega
  have vV:i0<x.ctl+1:=by omega
  have hws:=wrap_sub ((i0:Nat):Int) (by omega) (by omega);have hT:=Kq (x:=x) yR (by omega) yg.hn (k:=5) (lv:=i0) vV;obtain⟨H',lo',wr,h48,hW',hK',yU,hlm'⟩:=(Wj (d:=d0) (by omega) yR (by omega) yg.hn hT (x.tg_all (by omega))).go lo yg;obtain⟨linP,hwP,hlinP⟩:=hW'.hw
  have hBn:WB ((Dz x w1 (x.tg 5 i0)).clr i0) (b+44*(x.ctl+1-i0)):=by
   have:=(yR.pres (x:=x) (by omega) yg.hn hT).clr i0;rwa [show b+44*(x.ctl+1-(i0+1))+44=b+44*(x.ctl+1-i0) by omega]at this
  have uD:footN x i0 (i0-l) ((Dz x w1 (x.tg 5 i0)).clr i0)=J9 x w l:=by
   rw[←he,show i0+1-l=(i0-l)+1 by omega];rfl
  have hln:lo'≤max g gt∨Dz x w1 (x.tg 5 i0)=w:=by
   rcases xU with h | h
   ·
    exact .inl (Nat.le_trans hlm' h)
   exact yU.imp_right fun h'=>h'.trans h
  refine Ak (Bi rfl (Ai (Aq (Ad (Ae rfl (Ae rfl (xo3 (h:=xo1 (h:=Ac (by simp only[zl,zm,zd,Au,List.take,List.drop,wO,wRow,hwK]<;>exact rfl) ?_)))))))));refine Ae rfl (Px (h:=Ac (by simp only[opd,zv,Ar,aop,LOp.loud,lop,if_true];exact congrArg (Option.map fun r=>(r,_,false)) (Rq yg _ (.inr ⟨vV,.inr rfl⟩))) ?_));apply Ac (by simp only[zo];exact h48);refine Aa (Af ?_);refine Ad (Ae rfl (xo3 (h:=xo1 (h:=xo1 (h:=Ac (by simp only[zl,zm,zd,Au,List.take,List.drop,wO,wRow,hwP]<;>exact rfl) ?_)))));apply Ac (by simp only[zo,Fq,hTl]<;>exact rfl);refine Aw (Aa (Af ?_));refine Aq (D5 (fun n env S'=>∃(i:Nat) (K2:List Z9) (lo2:Nat) (u3 u4 u5 u9 u10:D),i≤x.ctl+1∧WS K2 g gm gt x (if i0<i then (Dz x w1 (x.tg 5 i0)).clr i0 else Dz x w1 (x.tg 5 i0))∧Keep H' K2∧(lo2≤max g gt∨(if i0<i then (Dz x w1 (x.tg 5 i0)).clr i0 else Dz x w1 (x.tg 5 i0))=w)∧n=x.ctl+1-i∧S'=⟨K2,lo2⟩∧env=[.ptr g 0 0 0,.int .i64 (l:Nat),.int .i64 (i0:Nat),u3,u4,u5,.sl 2 (G7 (x.ctl+1)) none,.int .i64 (x.ctl+1:Nat),.int .i64 (i:Nat),u9,u10]) (x.ctl+1) (by omega) (⟨0,_,_,_,_,_,_,_,by omega,by rw[if_neg (by omega)];exact hW',Keep.refl _,by rw[if_neg (by omega)];exact hln,by omega,rfl,rfl⟩) ?_);rintro n env S' ⟨i,K2,lo2,u3,u4,u5,u9,u10,hi,hWI,hKI,hloI,hnB,rfl,rfl⟩;obtain⟨linI,hwI,hlinI⟩:=hWI.hw;have hwI1:∀l,(K2++l)[g]?=_:=fun l=>Di hwI l;have htI1:∀l,(K2++l)[gt]?=_:=fun l=>Di hWI.ht l;have hslt:=trivial;have xq:=aI hwI (aI hwI1 (aI htI1 (hslt)));refine Ad (xo2 (h:=?_));refine Aa (Af ?_);apply Ai;refine Bj (by simp only[opd,zv]<;>exact rfl) (fun zI=>?_) (fun zI=>?_)
  ·
   have hiT0:i<x.ctl+1:=by have:=of_decide_eq_true zI;omega
   have hiT:(((i:Nat):Int)<((x.ctl+1:Nat):Int))=True:=eq_true (by omega);have wK:((0:Int)≤((i:Nat):Int))=True:=eq_true (by omega);have yH:=Dt i (by omega);have hti:(G7 (x.ctl+1))[i]?=some [.int .i64 2,.int .i64 (i:Nat)]:=by simp[G7,hiT0]
   have xI:=aI hiT (aI wK (aI yH (hti)));refine Ak (Bi rfl (Ai (Aq (Ad (Ae rfl (Ac (by simp only[zl,zm,Df,Int.toNat_natCast,xI]<;>exact rfl) ?_))))));refine Vy (h:=Ac (by simp only[zl,zm,xI]<;>exact rfl) ?_);refine Ag rfl (Ac (by simp only[zl,zm,Bg,overlay,Bh,zs,zc,zf,List.take,List.drop,xI]<;>exact rfl) ?_);refine Aa (Af ?_);refine Ad (xo43 (h:=Vy (h:=Ae rfl ?_)));refine xo39 (h:=?_);refine Aa (Af ?_);refine Bj (by simp only[opd,zv,xI]<;>exact rfl) (fun kV=>?_) (fun kV=>?_)
   ·
    have hii:i=i0:=by have:=eq_of_beq kV;omega
    subst hii;rw[if_neg (by omega)]at hWI hloI;have qI:i<(Dz x w1 (x.tg 5 i)).tot.length:=by rw[hWI.hn];omega
    have hir:((Dz x w1 (x.tg 5 i)).tot.map dcR)[i]?=some (dcR (Dz x w1 (x.tg 5 i)).tot[i]):=by rw[Lp_,Lg qI];rfl
    rw[if_neg (by omega)]at htI1;have xP:=fun lo l=>store_tot (lo:=lo) (htI1 l) hir 0;have hWn:=(hWI.app [⟨67,2,[[.int .i64 2,.int .i64 (i:Nat)]],0,0,false⟩]).tot ((Dz x w1 (x.tg 5 i)).tot.set i 0) (by rw[List.length_set];exact hWI.hn);rw[List.map_set]at hWn;apply Fb (by simp only[newsVals,zw,Nat.reduceAdd]<;>exact rfl) (by simp only[zw]<;>exact rfl);refine Bc rfl rfl (Aj (by simp only[zo,xI]<;>exact rfl) rfl rfl ?_);apply Aj (by simp only[zo,Cj,zm,xI]<;>exact rfl) rfl rfl;apply Aj (by simp only[zo,Cj,zm,xI]<;>exact rfl) rfl rfl;refine Az (by simp only[zl,zm,zd,Au,List.take,List.drop,wO,wRow,xq,xI]<;>exact rfl) rfl ?_;refine Bc rfl rfl (Az (by simp only[zo,xI];exact Zx (by omega) _ 0 (by omega)) rfl ?_);refine Az (by simp only[zl,zm,Fa,Int.toNat_natCast,xq,xI]<;>exact rfl) rfl ?_;refine Az (by simp only[opd,zv,Ar,aop,LOp.loud,lop,if_true];exact congrArg (Option.map fun S'=>(D.undef,S',true)) (xP _ _)) rfl ?_;refine Ce (D8 (Af ?_));refine Am (xo39 (h:=Ag rfl (Aa ?_)));apply Gh (by simp only[ze]<;>exact rfl);exact⟨x.ctl+1-(i+1),by omega,i+1,_,_,_,_,_,_,_,by omega,by rw[if_pos (by omega)];exact hWn.1,hKI.trans ((Keep.app _ _).trans hWn.2),.inl (by omega),rfl,rfl,rfl⟩
   have hii:i≠i0:=by have:=ne_of_beq_false kV;omega
   have vW:(if i0<i+1 then (Dz x w1 (x.tg 5 i0)).clr i0 else Dz x w1 (x.tg 5 i0))=(if i0<i then (Dz x w1 (x.tg 5 i0)).clr i0 else Dz x w1 (x.tg 5 i0)):=by
    by_cases h:i0<i
    ·
     rw[if_pos h,if_pos (by omega)]
    rw[if_neg h,if_neg (by omega)]
   have hloI':=fun k=>hloI.imp_left fun h=>Nat.le_trans (Nat.min_le_left _ k) h;refine Ak (D8 (Bi rfl (Am (xo39 (h:=Ag rfl (Aa ?_))))));apply Gh (by simp only[ze]<;>exact rfl);exact⟨x.ctl+1-(i+1),by omega,i+1,_,_,_,_,_,_,_,by omega,by rw[vW];exact hWI.app _,hKI.trans (Keep.app _ _),by rw[vW];exact hloI' _,rfl,rfl,rfl⟩
  have yV:i=x.ctl+1:=by have:=of_decide_eq_false zI;omega
  subst yV;rw[if_pos vV]at hWI hloI;refine Dh (Gj (Hu (Gl (D8 (Bi rfl (Am (Ae rfl (Ac (by simp only[zo,Bf,hws]<;>exact rfl) ?_))))))));refine Ag rfl (Aa (Gh (by simp only[ze]<;>exact rfl) ?_));exact⟨i0,by omega,i0,_,_,_,(Dz x w1 (x.tg 5 i0)).clr i0,_,_,_,_,_,_,_,_,by omega,by omega,by omega,hWI,zC.trans (hK'.trans hKI),hBn,uD,hloI,rfl,rfl,rfl⟩
 have yV:j=l:=by have:=of_decide_eq_false xZ;omega
 subst yV;rw[Nat.sub_self]at he;have he2:w1=J9 x w j:=he;subst he2;refine Dh (Gj (Hu (Gl ?_)));obtain⟨r,yG,xR⟩:=Jz (S:=⟨H,low⟩) (S':=⟨K,lo⟩) hW yg zC xU;refine⟨r,yG,?_⟩;refine⟨_,by simp only[F46,resultD,Ba]<;>exact rfl,?_⟩;exact xR
theorem Wq{d:Nat}(hd:1≤d){H:List Z9}(low:Nat){g gm gt:Nat}{x:CM}{w:WM}(hW:WS H g gm gt x w):Bd LP NN d 36 [.ptr g 0 0 0] ⟨H,low⟩=some (.bool false,⟨H,low⟩,false):=by
 obtain⟨lin,hw,xY⟩:=hW.hw;refine G8 (F:=F36) rfl (by simp only[LP,snapVs,zs,zm]<;>exact rfl) rfl (by simp only[LP,zf,zm];try rfl) (by simp only[F36,zv]<;>exact rfl) (by omega) ?_;rintro d rfl;refine Ad (Aw (Aa (Af ?_)));refine Ad (Ae rfl (Ac (by simp only[zl,zm,eqpD]<;>exact rfl) ?_));refine Ag rfl (En 0 (b:=false) ?_);refine Ap rfl (Ae rfl (Ap rfl (xo3 (h:=?_))));refine Ap rfl (xo1 (h:=?_));refine Ap rfl (Ac (by simp only[zl,zm,zd,Au,List.take,List.drop,hw,wO,wRow]<;>exact rfl) ?_);refine Ap rfl (Xq (h:=xo3 (h:=Ag rfl (Aa ?_))));refine Af ?_;apply A7;refine⟨_,by simp only[F36,resultD,Ba,resD,zg]<;>exact rfl,?_⟩;exact Fv _ _ _ _ (Nat.le_refl _) rfl (fun _ _=>rfl)
theorem copied_tab(d:Nat)(S:St)(a b n0 n1 n2:Int)(c:Option Nat):E5 LP NN (d+4) 42 [.sl 12 [shT 1++[.sl 1 [[.int .u8 a]] none],shT 1++[.sl 1 [[.int .u8 b]] none],shN 3++[.sl 1 [[.int .u8 n0],[.int .u8 n1],[.int .u8 n2]] none]] c] S=some (.sl 12 [shT 1++[.sl 1 [[.int .u8 a]] none],shT 1++[.sl 1 [[.int .u8 b]] none],shN 3++[.sl 1 [[.int .u8 n0],[.int .u8 n1],[.int .u8 n2]] none]] (some 3),S,false):=by kernel_rfl
theorem Vs{d:Nat}(hd:4≤d)(S:St)(y:RM)(c:Option Nat):Bd LP NN d 42 [.sl 12 y.fld c] S=some (.sl 12 y.fld (some 3),S,false):=by
 obtain⟨d,rfl⟩:∃e,d=e+4:=⟨d-4,by omega⟩
 obtain⟨n0,n1,n2,e⟩:∃a b c,Bl y.N 3=[a,b,c]:=by
  have:=Bz y.N 3
  match h:Bl y.N 3,this with
  | [a,b,c],_=>exact⟨a,b,c,rfl⟩
 apply fast_ok;rw[RM.fld,e];exact copied_tab d S _ _ _ _ _ c
theorem equal_run{d:Nat}(hd:1≤d)(S:St)(a b:List UInt8)(c c':Option Nat):Bd LP NN d 79 [.sl 1 (bR a) c,.sl 1 (bR b) c'] S=some (.bool (decide (a=b)),S,false):=by
 refine rq (F:=F79) rfl (by simp only[LP,snapVs,zs,zm]<;>exact rfl) (by simp only[F79,zv]<;>exact rfl) ?_;rintro d rfl;refine Ad (Aw (Aa (Af ?_)));refine Ad (Ae rfl (Ac (by simp only[zl,zm,E8,Hr,zm,Hr]<;>exact rfl) ?_));refine Ae rfl (Ac (by simp only[zl,zm,E8,Hr,zm,Hr]<;>exact rfl) ?_);refine xo2 (h:=Ag rfl (Aa ?_));refine Af ?_;apply A7;refine⟨_,by simp only[F79,resultD,Ba,resD,zg]<;>exact rfl,?_⟩;show leaveP _ (D.bool ((mkS a).toList==(mkS b).toList)) _=_;rw[Eb,Eb,show (a==b)=decide (a=b) by rw[Bool.eq_iff_iff];simp];rfl
theorem wcheck_run{d:Nat}(hd:20≤d){H:List Z9}(low:Nat){g gm gt:Nat}{x:CM}{w:WM}(hW:WS H g gm gt x w)(y:RM)(c:Option Nat):Bd LP NN d 39 [.ptr g 0 0 0,.sl 12 y.fld c] ⟨H,low⟩=some (.int .i64 0,⟨H,low⟩,false):=by
 obtain⟨lin,hw,xY⟩:=hW.hw;have hy3:((y.fld.length:Nat):Int)=3:=rfl;have hF3:lenD false (Gu true)=some (.int .i64 3):=rfl;refine G8 (F:=F39) rfl (by simp only[LP,snapVs,zs,zm]<;>exact rfl) rfl (by simp only[LP,zf,zm];try rfl) (by simp only[F39,zv]<;>exact rfl) (by omega) ?_;rintro d rfl;refine Ad (Aw (Aa (Af ?_)));refine Ai (Ad (Ae rfl (Ac (by simp only[zo,Fq,hy3]<;>exact rfl) ?_)));refine Ae rfl (xo3 (h:=xo1 (h:=xo1 (h:=Ac (by simp only[zl,zm,zd,Au,List.take,List.drop,hw,wO,wRow]<;>exact rfl) ?_))));apply Ac (by simp only[zo,hF3]<;>exact rfl);refine xo2 (h:=?_);refine Aa (Af ?_);refine Dw ?_;refine Ak (Bi rfl (Ai (Ad (Ae rfl (Ac (by simp only[zo,Fq,hy3]<;>exact rfl) ?_)))));refine Aw (Aa (Af ?_));refine Aq (D5 (fun n env S'=>∃(i:Nat) (K:List Z9) (lo:Nat) (u2 u3 u4 u5 u9 u10 u11:D),i≤3∧K[g]?=some (wO x gm (.int .i64 (w.page:Nat)) (.int .i64 (w.line:Nat)) w.body (Jd w.row) (.msl gt x.ctl 0 (x.ctl+1) none) lin w.ended)∧H.length≤K.length∧H.length≤lo∧n=3-i∧S'=⟨K,lo⟩∧env=[.ptr g 0 0 0,.sl 12 y.fld c,u2,u3,u4,u5,.sl 12 y.fld c,.int .i64 3,.int .i64 (i:Nat),u9,u10,u11]) (3) (by omega) (⟨0,_,_,_,_,_,_,_,_,_,by omega,hw,Nat.le_refl _,Nat.le_refl _,by omega,rfl,rfl⟩) ?_);rintro n env S' ⟨i,K,lo,u2,u3,u4,u5,u9,u10,u11,hi,qQ,hKl,xU,hnA,rfl,rfl⟩;have hKw1:∀l,(K++l)[g]?=_:=fun l=>Di qQ l;refine Ad (xo2 (h:=?_));refine Aa (Af ?_);apply Ai;refine Bj (by simp only[opd,zv]<;>exact rfl) (fun xZ=>?_) (fun xZ=>?_)
 ·
  have hi3:i<3:=by have:=of_decide_eq_true xZ;omega
  have wK:((0:Int)≤((i:Nat):Int))=True:=eq_true (by omega);have yH:=Dt i (by omega);rcases (by omega:i<2∨i=2) with h2 | rfl
  ·
   have hfi:y.fld[i]?=some (shT 1++[.sl 1 (bR [if i=0 then y.A else y.B]) none]):=by
    rcases (by omega:i=0∨i=1) with rfl | rfl<;>rfl
   have hFi:∀S,Jf S 11 (Gu true) (.int .i64 (i:Nat))=some (.cptr (shT 1) 0):=fun S=>by
    rcases (by omega:i=0∨i=1) with rfl | rfl<;>rfl
   have hEQ:Dl [0,0,1,0,0,2,2,2,2,2,0] (shT 1) (shT 1)=some true:=by decide +kernel
   refine Ak (Bi rfl (Ai (Aq (Ad (Ae rfl (Ac (by simp only[zl,zm,Df,Int.toNat_natCast,wK,hfi,shT]<;>exact rfl) ?_))))));refine xo0 (h:=Ko (h:=Ag rfl ?_));refine Qx (h:=?_);refine Aa (Af ?_);refine Ai (Ai (Fb (by simp only[newsVals,zw,Nat.reduceAdd]<;>exact rfl) (by simp only[zw]<;>exact rfl) ?_));refine xo4 (h:=xo7 (h:=Bc rfl rfl ?_));refine xo6 (h:=xo4 (h:=xo4 (h:=Az (by simp only[zl,zm,zd,Au,List.take,List.drop,wO,wRow,hKw1]<;>exact rfl) rfl ?_)));refine Bc rfl rfl (Dc (by simp only[zl,zm,hFi,shT]<;>exact rfl) (by simp only[fpHere,zo]<;>exact rfl) rfl ?_);refine xo7 (h:=Aj (by simp only[zo];exact congrArg (Option.map fun b=>(D.bool (b != true),_,false)) hEQ) rfl rfl ?_);refine Ce (Af ?_);refine Dw ?_;refine Ak (Bi rfl (Ad (xo1 (h:=xo0 (h:=Ac (by simp only[zo,Fq,Mc]<;>exact rfl) ?_)))));refine xo1 (h:=xo1 (h:=xo0 (h:=xo2 (h:=Ag rfl (En 0 (b:=false) ?_)))));refine Ap rfl (xo1 (h:=?_));refine Ap rfl (xo1 (h:=?_));refine Ap rfl (xo0 (h:=?_));refine Ap rfl (xo2 (h:=?_));refine Ap rfl (Ag rfl (En 0 (b:=false) ?_));refine Cm rfl rfl (Cm rfl rfl (Cm rfl rfl (Ap rfl (xo3 (h:=xo3 (h:=?_))))));refine Aa (Af ?_);apply Be (by simp only[opd,zv]);refine Ak (D8 (Bi rfl (Am (Ac (by simp only[zo,Bf,yH]<;>exact rfl) ?_))));refine Ag rfl (Aa (Gh (by simp only[ze]<;>exact rfl) ?_));exact⟨3-(i+1),by omega,i+1,_,_,_,_,_,_,_,_,_,by omega,Di qQ _,by simp;omega,by omega,rfl,rfl,rfl⟩
  have hfi:y.fld[2]?=some (shN 3++[.sl 1 (bR (Bl y.N 3)) none]):=rfl;have hFi:∀S,Jf S 11 (Gu true) (.int .i64 (2:Nat))=some (.cptr (shN 3) 0):=fun S=>rfl;have hEQ:Dl [0,0,1,0,0,2,2,2,2,2,0] (shN 3) (shN 3)=some true:=by decide +kernel
  refine Ak (Bi rfl (Ai (Aq (Ad (Ae rfl (Ac (by simp only[zl,zm,Df,Int.toNat_natCast,wK,hfi,shN]<;>exact rfl) ?_))))));refine xo0 (h:=Ko (h:=Ag rfl ?_));refine Qx (h:=?_);refine Aa (Af ?_);refine Ai (Ai (Fb (by simp only[newsVals,zw,Nat.reduceAdd]<;>exact rfl) (by simp only[zw]<;>exact rfl) ?_));refine xo4 (h:=xo7 (h:=Bc rfl rfl ?_));refine xo6 (h:=xo4 (h:=xo4 (h:=Az (by simp only[zl,zm,zd,Au,List.take,List.drop,wO,wRow,hKw1]<;>exact rfl) rfl ?_)));refine Bc rfl rfl (Dc (by simp only[zl,zm,hFi,shN]<;>exact rfl) (by simp only[fpHere,zo]<;>exact rfl) rfl ?_);refine xo7 (h:=Aj (by simp only[zo];exact congrArg (Option.map fun b=>(D.bool (b != true),_,false)) hEQ) rfl rfl ?_);refine Ce (Af ?_);refine Dw ?_;refine Ak (Bi rfl (Ad (xo1 (h:=xo0 (h:=Ac (by simp only[zo,Fq,Mc,Bz]<;>exact rfl) ?_)))));refine xo1 (h:=xo1 (h:=xo0 (h:=xo2 (h:=Ag rfl (En 0 (b:=false) ?_)))));refine Ap rfl (xo1 (h:=?_));refine Ap rfl (xo1 (h:=?_));refine Ap rfl (xo0 (h:=?_));refine Ap rfl (xo2 (h:=?_));refine Ap rfl (Ag rfl (En 0 (b:=true) ?_));refine Ap rfl (xo0 (h:=?_));refine Ap rfl (Ac (by simp only[zo];exact ucheck_run (n:=3) (by omega) _ (by omega) (by omega) (Xf _ (by omega)) (Bz _ _) none) ?_);refine Ap rfl (xo2 (h:=?_));refine Ap rfl (xo3 (h:=xo3 (h:=?_)));refine Aa (Af ?_);refine Dw ?_;refine Ak (D8 (Bi rfl (Am (Ac (by simp only[zo,Bf,yH]<;>exact rfl) ?_))));refine Ag rfl (Aa (Gh (by simp only[ze]<;>exact rfl) ?_));exact⟨3-(2+1),by omega,2+1,_,_,_,_,_,_,_,_,_,by omega,Di qQ _,by simp;omega,by omega,rfl,rfl,rfl⟩
 refine Dh (Gj (Hu (Gl (Bi rfl (Ad (Aw (Aa (Af ?_))))))));apply A7;refine⟨_,by simp only[F39,resultD,Ba,resD,zg]<;>exact rfl,?_⟩;exact Fv _ _ _ _ xU rfl (fun _ _=>rfl)
def RM.key (y:RM) (i:Nat):UInt8:=if i=0 then y.A else y.B
def Xl (y0 y:RM) (c:Nat):Int:=if 1≤c∧y0.A≠y.A then 1 else if 2≤c∧y0.B≠y.B then 2 else -1
theorem broken_run{d:Nat}(hd:2≤d){H:List Z9}(low:Nat){g gm gt:Nat}{x:CM}{w:WM}(hW:WS H g gm gt x w){y0:RM}(xX:w.row=some y0)(y:RM)(c:Option Nat):Bd LP NN d 45 [.ptr g 0 0 0,.sl 12 y.fld c] ⟨H,low⟩=some (.int .i64 (Xl y0 y x.ctl),⟨H,low⟩,false):=by
 obtain⟨lin,hw,xY⟩:=hW.hw;have hct:=x.ctl_lt;have rQ:lenD false (slB true 1 (x.ctlR x.ctl) none)=some (.int .i64 (x.ctl:Nat)):=by rw[La];simp[CM.ctlR]
 refine G8 (F:=F45) rfl (by simp only[LP,snapVs,zs,zm]<;>exact rfl) rfl (by simp only[LP,zf,zm];try rfl) (by simp only[F45,zv]<;>exact rfl) (by omega) ?_;rintro d rfl;refine Ad (Aw (Aa (Af ?_)));refine Ai (Ad (Ae rfl (xo3 (h:=xo1 (h:=xo1 (h:=Ac (by simp only[zl,zm,zd,Au,List.take,List.drop,hw,wO,wRow,xX,Jd]<;>exact rfl) ?_))))));apply Ac (by simp only[zo,rQ]<;>exact rfl);refine Aw (Aa (Af ?_));refine Aq (D5 (fun n env S'=>∃(i:Nat) (u2 u3 u4 u8 u9:D),i≤x.ctl∧(∀k,k<i→y0.key k=y.key k)∧n=x.ctl-i∧S'=⟨H,H.length⟩∧env=[.ptr g 0 0 0,.sl 12 y.fld c,u2,u3,u4,slB true 1 (x.ctlR x.ctl) none,.int .i64 (x.ctl:Nat),.int .i64 (i:Nat),u8,u9]) (x.ctl) (by omega) (⟨0,_,_,_,_,_,by omega,fun k h=>by omega,by omega,rfl,rfl⟩) ?_);rintro n env S' ⟨i,u2,u3,u4,u8,u9,hi,hks,hnA,rfl,rfl⟩;refine Ad (xo2 (h:=?_));refine Aa (Af ?_);apply Ai;refine Bj (by simp only[opd,zv]<;>exact rfl) (fun xZ=>?_) (fun xZ=>?_)
 ·
  have vV:i<x.ctl:=by have:=of_decide_eq_true xZ;omega
  have hiT:(((i:Nat):Int)<((x.ctl:Nat):Int))=True:=eq_true (by omega);have wK:((0:Int)≤((i:Nat):Int))=True:=eq_true (by omega);have yH:=Dt i (by omega);have hCe:slB true 1 (x.ctlR x.ctl) none=.sl 1 (x.ctlR x.ctl) none:=Gm (by simp[CM.ctlR];omega);have hci:(x.ctlR x.ctl)[i]?=some [.int .i64 (i:Nat)]:=by simp[CM.ctlR,vV]
  have hfi:∀z:RM,z.fld[i]?=some (shT 1++[.sl 1 (bR [z.key i]) none]):=fun z=>by
   rcases (by omega:i=0∨i=1) with rfl | rfl<;>rfl
  have xq:=aI hiT (aI wK (aI yH (aI hCe (aI hci (hfi)))));refine Ak (Bi rfl (Ai (Aq (Ad (Ae rfl (xo62 (h:=Qw (h:=Ag rfl (Ag rfl ?_)))))))));refine Aa (Af ?_);refine Ai (Eh ?_);refine Bc rfl rfl (Bc rfl rfl (Az (by simp only[zl,zm,Df,Int.toNat_natCast,shT,xq]<;>exact rfl) rfl ?_));apply Aj (by simp only[zo,Ei,zm,xq]<;>exact rfl) rfl rfl;refine xo36 (h:=Bc rfl rfl (Aj (by simp only[zo,xq]<;>exact rfl) rfl rfl ?_));refine U2 (h:=U2 (h:=Az (by simp only[zl,zm,zd,Au,List.take,List.drop,hw,wO,wRow,xX,Jd,xq]<;>exact rfl) rfl ?_));refine Bc rfl rfl (Az (by simp only[zl,zm,Df,Int.toNat_natCast,shT,xq]<;>exact rfl) rfl ?_);apply Aj (by simp only[zo,Ei,zm,xq]<;>exact rfl) rfl rfl;refine xo36 (h:=Az (by simp only[zo,xq];exact equal_run (by omega) _ [y.key i] [y0.key i] none none) rfl ?_);apply Aj (by simp only[zo,unD,xq]<;>exact rfl) rfl rfl;refine Ce (Af ?_);refine Bj (by simp only[opd,zv,xq]<;>exact rfl) (fun xK=>?_) (fun xK=>?_)
  ·
   have xw:y0.key i≠y.key i:=fun h=>by rw[h]at xK;simp at xK
   refine Ad (Ae rfl (Xr (h:=Ag rfl (Aa ?_))));refine Af ?_;refine A7 (bk_r (Nu (lk_r (bk_r (Nu ?_)))))
   have e:Xl y0 y x.ctl=((i+1:Nat):Int):=by
    unfold Xl;rcases (by omega:i=0∨i=1) with rfl | rfl
    ·
     rw[if_pos ⟨by omega,xw⟩];rfl
    have h0:=hks 0 (by omega);rw[if_neg (fun h=>h.2 h0),if_pos ⟨by omega,xw⟩];rfl
   rw[e];refine⟨_,by simp only[F45,resultD,Ba,resD,zg]<;>exact rfl,?_⟩;exact Fv _ _ _ _ (Nat.le_refl _) rfl (fun _ _=>rfl)
  have hke:y0.key i=y.key i:=by simp at xK;exact xK.symm
  have hks':∀k,k<i+1→y0.key k=y.key k:=fun k h=>by
   rcases (by omega:k<i∨k=i) with h1 | h1
   ·
    exact hks k h1
   exact h1▸hke
  refine Ak (D8 (Bi rfl (Am (Xr (h:=Ag rfl (Aa ?_))))));apply Gh (by simp only[ze]<;>exact rfl);exact⟨x.ctl-(i+1),by omega,i+1,_,_,_,_,_,by omega,hks',rfl,rfl,rfl⟩
 have yV:i=x.ctl:=by have:=of_decide_eq_false xZ;omega
 subst yV;refine Dh (Gj (Hu (Gl (Bi rfl (Ad (Aw (Aa (Af ?_))))))));apply A7
 have e:Xl y0 y x.ctl=-1:=by
  unfold Xl;rw[if_neg (fun h=>h.2 (hks 0 (by omega))),if_neg (fun h=>h.2 (hks 1 (by omega)))]
 rw[e];refine⟨_,by simp only[F45,resultD,Ba,resD,zg]<;>exact rfl,?_⟩;exact Fv _ _ _ _ (Nat.le_refl _) rfl (fun _ _=>rfl)
def Uw (w:WM) (N i:Nat):WM:={ w with tot:=(w.tot.take i).map (·+N)++w.tot.drop i }
def addW (w:WM) (N:Nat):WM:={ w with tot:=w.tot.map (·+N) }
theorem addP_get(w:WM)(N i:Nat)(h:i<w.tot.length):(Uw w N i).tot[i]?=some w.tot[i]:=by
 simp only[Uw];rw[Lr_ (by simp;omega)];simp[List.getElem?_drop,h,Nat.min_eq_left (Nat.le_of_lt h)]
theorem addP_step(w:WM)(N i:Nat)(h:i<w.tot.length):(Uw w N i).tot.set i (w.tot[i]+N)=(Uw w N (i+1)).tot:=by
 have h1:((w.tot.take i).map (·+N)).length=i:=by simp;omega
 show ((w.tot.take i).map (·+N)++w.tot.drop i).set i _=(w.tot.take (i+1)).map (·+N)++w.tot.drop (i+1);rw[List.set_append_right _ _ (by omega),h1,Nat.sub_self,List.drop_eq_getElem_cons h,List.set_cons_zero,List.take_add_one,Lg h];simp only[Option.toList_some,List.map_append,List.map_cons,List.map_nil,Lo_,List.cons_append,List.nil_append]
theorem wadd_run{d:Nat}(hd:21≤d){g gm gt:Nat}{x:CM}{w:WM}{y:RM}(xX:w.row=some y)(hn:w.tot.length=x.ctl+1)(htot:∀m∈w.tot,m<10 ^ 14):WF d 47 [] g gm gt x w (addW w y.N):=by
 intro H low hW;obtain⟨d0,rfl⟩:∃e,d=e+1:=⟨d-1,by omega⟩;have hct:=x.ctl_lt;have hN:y.N<1000:=Nat.mod_lt _ (by decide);obtain⟨lin,hw,xY⟩:=hW.hw;have hTl:(G7 (x.ctl+1)).length=x.ctl+1:=by simp[G7]
 have hW0:WS H g gm gt x (Uw w y.N 0):=by
  have:Uw w y.N 0=w:=by simp[Uw]
  rw[this];exact hW
 have hrowP:∀N i,(Uw w N i).row=some y:=fun _ _=>xX
 have yj:∀S,Bd LP NN d0 80 [.agg (shN 3++[.sl 1 (bR (Bl y.N 3)) none])] S=some (.tup [dcD y.N,.int .i64 0],S,false):=fun S=>by
  have:=uget_run (d:=d0) (n:=3) (by omega) S (by omega) (by omega) (Xf y.N (by omega)) (Bz y.N 3) none;rw[H9 (n:=y.N) (k:=3) (by omega) (by omega) (by omega)]at this;exact this
 refine Eu (F:=F47) rfl (by simp only[LP,snapVs,zs,zm]<;>exact rfl) rfl (by simp only[LP,zf,zm];try rfl) (by simp only[F47,zv]<;>exact rfl) (by omega) ?_;intro d he;obtain rfl:=Nat.succ.inj he;have xI:=aI hw (aI xX (aI hrowP (hTl)));refine Ad (Ae rfl (xo3 (h:=xo1 (h:=xo1 (h:=Ac (by simp only[zl,zm,zd,Au,List.take,List.drop,wO,wRow,Jd,xI]<;>exact rfl) ?_)))));apply Ac (by simp only[zo,Fq,xI]<;>exact rfl);refine Aw (Aa (Af ?_));refine Aq (D5 (fun n env S'=>∃(i:Nat) (K:List Z9) (lo:Nat) (u1 u2 u3 u7:D),i≤x.ctl+1∧WS K g gm gt x (Uw w y.N i)∧Keep H K∧(lo≤max g gt∨i=0)∧n=x.ctl+1-i∧S'=⟨K,lo⟩∧env=[.ptr g 0 0 0,u1,u2,u3,.sl 2 (G7 (x.ctl+1)) none,.int .i64 (x.ctl+1:Nat),.int .i64 (i:Nat),u7]) (x.ctl+1) (by omega) (⟨0,_,_,_,_,_,_,by omega,hW0,Keep.refl _,.inr rfl,by omega,rfl,rfl⟩) ?_);rintro n env S' ⟨i,K,lo,u1,u2,u3,u7,hi,yg,zC,xU,hnA,rfl,rfl⟩;obtain⟨linK,hwK,hlinK⟩:=yg.hw;have hwK1:∀l,(K++l)[g]?=_:=fun l=>Di hwK l;have htK1:∀l,(K++l)[gt]?=_:=fun l=>Di yg.ht l;refine Ad (xo2 (h:=?_));refine Aa (Af ?_);apply Ai;refine Bj (by simp only[opd,zv]<;>exact rfl) (fun xZ=>?_) (fun xZ=>?_)
 ·
  have vV:i<x.ctl+1:=by have:=of_decide_eq_true xZ;omega
  have hiT:(((i:Nat):Int)<((x.ctl+1:Nat):Int))=True:=eq_true (by omega);have wK:((0:Int)≤((i:Nat):Int))=True:=eq_true (by omega);have yH:=Dt i (by omega);have hti:(G7 (x.ctl+1))[i]?=some [.int .i64 2,.int .i64 (i:Nat)]:=by simp[G7,vV]
  have qI:i<w.tot.length:=by rw[hn];omega
  have hf2:y.fld[2]?=some (shN 3++[.sl 1 (bR (Bl y.N 3)) none]):=rfl;have hir:((Uw w y.N i).tot.map dcR)[i]?=some (dcR w.tot[i]):=by rw[Lp_,addP_get w y.N i qI];rfl
  have hm1:w.tot[i]<10 ^ 14:=htot _ (List.getElem_mem qI);have xP:=fun lo l=>store_tot (lo:=lo) (htK1 l) hir (w.tot[i]+y.N);have hWn:=(yg.app [⟨67,2,[[.int .i64 2,.int .i64 (i:Nat)]],0,0,false⟩,⟨57,3,[dcR y.N],0,0,false⟩]).tot ((Uw w y.N i).tot.set i (w.tot[i]+y.N)) (by rw[List.length_set];exact yg.hn);rw[List.map_set]at hWn;have hWn1:=hWn.1;have hst1:({ Uw w y.N i with tot:=(Uw w y.N i).tot.set i (w.tot[i]+y.N) }:WM)=Uw w y.N (i+1):=by rw[addP_step w y.N i qI];rfl
  rw[hst1]at hWn1;have y5:=aI hiT (aI wK (aI yH (aI hti (aI hf2 (hir)))));refine Ak (Bi rfl (Ai (Aq (Ad (Ae rfl (Ac (by simp only[zl,zm,Df,Int.toNat_natCast,y5]<;>exact rfl) ?_))))));apply Ac (by simp only[zl,zm,zd,Au,List.take,List.drop,y5]<;>exact rfl);apply Ac (by simp only[zl,zm,y5]<;>exact rfl);refine Ag rfl (Ac (by simp only[zl,zm,Bg,overlay,Bh,zs,zc,zf,List.take,List.drop,y5]<;>exact rfl) ?_);refine Aa (Af ?_);refine Ai (Fb (by simp only[newsVals,zw,Nat.reduceAdd]<;>exact rfl) (by simp only[zw,newsObj]<;>exact rfl) ?_);refine Bc rfl rfl (Aj (by simp only[zo,y5]<;>exact rfl) rfl rfl ?_);refine xo30 (h:=xo30 (h:=Az (by simp only[zl,zm,zd,Au,List.take,List.drop,wO,wRow,Jd,xI,hwK1,y5]<;>exact rfl) rfl ?_));refine xo30 (h:=Az (by simp only[zl,zm,zd,Au,List.take,List.drop,y5]<;>exact rfl) rfl ?_);refine Az (by simp only[zl,zm,Df,y5]<;>exact rfl) rfl ?_;refine Az (by simp only[zl,zm,zd,Au,List.take,List.drop,shN,y5]<;>exact rfl) rfl ?_;refine Az (by simp only[zo,shN,List.cons_append,List.nil_append,y5];exact yj _) rfl ?_;refine D9 rfl rfl (Aj (by simp only[zo,Lz,shN,List.cons_append,List.nil_append,y5]<;>exact rfl) rfl rfl ?_);apply Aj (by simp only[zo,Lz,Ls_,shN,List.cons_append,List.nil_append,y5]<;>exact rfl) rfl rfl;apply Dc (by simp only[zo]<;>exact rfl) (by simp only[fpHere]<;>exact rfl) rfl;refine Az (by simp only[zl,zm,Bg,overlay,List.take,shN,y5]<;>exact rfl) rfl ?_;refine D9 rfl rfl (Ce (Af ?_));apply Fb (by simp only[newsVals,zw,Nat.reduceAdd]<;>exact rfl) (by simp only[zw]<;>exact rfl);refine Bc rfl rfl (Aj (by simp only[zo,y5]<;>exact rfl) rfl rfl ?_);refine xo30 (h:=xo30 (h:=Az (by simp only[zl,zm,zd,Au,List.take,List.drop,wO,wRow,Jd,xI,hwK1,y5]<;>exact rfl) rfl ?_));refine Bc rfl rfl (Bc rfl rfl (Aj (by simp only[zo,y5]<;>exact rfl) rfl rfl ?_));refine xo30 (h:=xo30 (h:=Az (by simp only[zl,zm,zd,Au,List.take,List.drop,wO,wRow,Jd,xI,hwK1,y5]<;>exact rfl) rfl ?_));refine Bc rfl rfl (Az (by simp only[zl,zm,Fa,Int.toNat_natCast,htK1,y5]<;>exact rfl) rfl ?_);refine Az (by simp only[zl,zm,zd,Au,List.take,List.drop,dcR,htK1,y5]<;>exact rfl) rfl ?_;refine Az (by simp only[zl,zm,zd,Au,List.drop,y5]<;>exact rfl) rfl ?_;refine Az (by simp only[zo,y5];exact add_run (by omega) _ (by omega) (by omega)) rfl ?_;refine D9 rfl rfl (Aj (by simp only[zo,Lz,y5]<;>exact rfl) rfl rfl ?_);apply Aj (by simp only[zo,Lz,Ls_,y5]<;>exact rfl) rfl rfl;refine Az (by simp only[zl,zm,Fa,Int.toNat_natCast,htK1,y5]<;>exact rfl) rfl ?_;refine Az (by simp only[opd,zv,Ar,aop,LOp.loud,lop,if_true];exact congrArg (Option.map fun S'=>(D.undef,S',true)) (xP _ _)) rfl ?_;refine Ce (D8 (Af ?_));refine Am (Ac (by simp only[zo,Bf,dcR,y5]<;>exact rfl) ?_);refine Ag rfl (Aa (Gh (by simp only[ze]<;>exact rfl) ?_));exact⟨x.ctl+1-(i+1),by omega,i+1,_,_,_,_,_,_,by omega,hWn1,zC.trans ((Keep.app _ _).trans hWn.2),.inl (by omega),rfl,rfl,rfl⟩
 have yV:i=x.ctl+1:=by have:=of_decide_eq_false xZ;omega
 subst yV;have hae:Uw w y.N (x.ctl+1)=addW w y.N:=by simp[Uw,addW,List.take_of_length_le,List.drop_eq_nil_of_le,hn]
 rw[hae]at yg;refine Dh (Gj (Hu (Gl ?_)));obtain⟨r,yG,xR⟩:=Jz (S:=⟨H,low⟩) (S':=⟨K,lo⟩) hW yg zC (xU.imp_right fun h=>by omega);refine⟨r,yG,?_⟩;refine⟨_,by simp only[F47,resultD,Ba]<;>exact rfl,?_⟩;exact xR
theorem slice_full(S:St)(rows:List (List D))(c:Option Nat):Kt S 3 (.sl 3 rows c) none (some (.int .i64 (rows.length:Nat))) (some (.int .i64 (rows.length:Nat)))=some (.sl 3 rows (some rows.length)):=by
 simp[Kt,Fe,Jv,H5]
theorem clip_nil(d:Nat)(S:St):E5 LP NN (d+1) 37 [.nils] S=some (.nils,S,false):=by kernel_rfl
theorem oclone_nil(d:Nat)(S:St):E5 LP NN (d+1) 38 [.nils] S=some (.nils,S,false):=by kernel_rfl
theorem clip_sl{d:Nat}(hd:1≤d)(S:St)(rows:List (List D))(c:Option Nat):Bd LP NN d 37 [.sl 3 rows c] S=some (.sl 3 rows (some rows.length),S,false):=by
 refine rq (F:=F37) rfl (by simp only[LP,snapVs,zs,zm]<;>exact rfl) (by simp only[F37,zv]<;>exact rfl) ?_;rintro d rfl;refine Ad (Aw (Aa (Af ?_)));refine Ad (Ae rfl (Ae rfl (Ac (by simp only[zo,Fq]<;>exact rfl) ?_)));refine Ae rfl (Ac (by simp only[zo,Fq]<;>exact rfl) ?_);apply Ac (by simp only[opd,zv,Ar,aop,LOp.loud,lop,if_true,Ee];rw[slice_full];exact rfl);refine Ag rfl (Aa (Af ?_));apply A7;refine⟨_,by simp only[F37,resultD,Ba,resD,zg]<;>exact rfl,?_⟩;rfl
theorem oclone_sl{d:Nat}(hd:1≤d)(S:St)(rows:List (List D))(hr:rows.length≠0)(xR:rows.length≤100000)(c:Option Nat):Bd LP NN d 38 [.sl 3 rows c] S=some (.sl 3 rows none,S,false):=by
 refine rq (F:=F38) rfl (by simp only[LP,snapVs,zs,zm]<;>exact rfl) (by simp only[F38,zv]<;>exact rfl) ?_;rintro d rfl;refine Ad (Aw (Aa (Af ?_)));refine Ai (Ad (Ae rfl (Xq (h:=?_))));refine Aa (Af ?_);refine Dw ?_;refine Ak (Bi rfl (Ad (xo48 (h:=Ae rfl (Ac (by simp only[opd,zv,Ar,aop,LOp.loud,lop,if_true];exact Xn 52 3 32 1 (by decide) hr (by omega) c _) ?_)))));refine Ag rfl (Aa (Af ?_));apply A7;refine⟨_,by simp only[F38,resultD,Ba,resD,zg,zm]<;>exact rfl,?_⟩;simp[leaveP,leave,Aae,Aac,snap,newAt,D.Aad,D.freeV,D.free];rfl
def Md (rows:List (List D)):D:=if rows.isEmpty then .nils else .sl 3 rows (some rows.length)
theorem clipR_ne{rows:List (List D)}(h:rows≠[]):Md rows=.sl 3 rows (some rows.length):=by cases rows<;>simp_all [Md]
theorem LinAt.snapA{H:List Z9}{d:D}{rows:List (List D)}(h:LinAt H d rows)(m:Nat):∃y,snapVs m H [d]=some [y]∧snapVs m H [y]=some [y]∧((rows=[]∧y=.nils)∨(rows≠[]∧∃c,y=.sl 3 rows c)):=by
 rcases h with⟨h1,rfl⟩ | ⟨h1,rfl | ⟨g,v,rfl,h3⟩⟩
 ·
  exact⟨.nils,rfl,rfl,.inl ⟨h1,rfl⟩⟩
 ·
  exact⟨_,rfl,rfl,.inr ⟨h1,_,rfl⟩⟩
 exact⟨.sl 3 rows none,by simp[snapVs,Nl,Ll,h3],rfl,.inr ⟨h1,_,rfl⟩⟩
theorem clip_run{d:Nat}(hd:1≤d){H:List Z9}(low:Nat){l:D}{rows:List (List D)}(h:LinAt H l rows):Bd LP NN d 37 [l] ⟨H,low⟩=some (Md rows,⟨H,low⟩,false):=by
 obtain⟨y,h1,h2,⟨rfl,rfl⟩ | ⟨h3,c,rfl⟩⟩:=h.snapA H.length
 ·
  rw[Wh rfl h1 h2];obtain⟨d,rfl⟩:∃e,d=e+1:=⟨d-1,by omega⟩;exact fast_ok (clip_nil d _)
 rw[Wh rfl h1 h2,clipR_ne h3];exact clip_sl hd _ _ _
theorem oclone_run{d:Nat}(hd:1≤d){H:List Z9}(low:Nat){l:D}{rows:List (List D)}(h:LinAt H l rows)(hl:rows.length≤100000):Bd LP NN d 38 [l] ⟨H,low⟩=some (slB true 3 rows none,⟨H,low⟩,false):=by
 obtain⟨y,h1,h2,⟨rfl,rfl⟩ | ⟨h3,c,rfl⟩⟩:=h.snapA H.length
 ·
  rw[Wh rfl h1 h2];obtain⟨d,rfl⟩:∃e,d=e+1:=⟨d-1,by omega⟩;exact fast_ok (oclone_nil d _)
 have h4:rows.length≠0:=fun e=>h3 (List.length_eq_zero_iff.1 e);rw[Wh rfl h1 h2,Gm h4];exact oclone_sl hd _ _ h4 hl _
theorem clipR_lin(H:List Z9)(rows:List (List D)):LinAt H (Md rows) rows:=by
 cases rows with
 | nil=>exact .inl ⟨rfl,rfl⟩
 | cons a l=>exact .inr ⟨by simp,.inl rfl⟩
theorem plainV_sl(sz:Nat)(rows:List (List D))(c:Option Nat):Aab (.sl sz rows c)=true:=rfl
theorem clipR_pv(rows:List (List D)):Aab (Md rows)=true:=by cases rows<;>rfl
theorem app_tot{H:List Z9}{gt v lo n:Nat}{rows:List (List D)}(h:H[gt]?=some ⟨57,3,rows,v,2,true⟩)(hn:n=rows.length)(hl:n≤1000):Dj 57 3 32 2 (.msl H.length 0 0 0 none) (.msl gt v 0 n none) ⟨H++[⟨57,3,[],0,2,false⟩],lo⟩=some (.msl H.length 1 0 n none,⟨H++[⟨57,3,rows,1,2,true⟩],min lo H.length⟩,true):=by
 have e2:rows.length*32≤140737488355328:=by omega
 subst hn;simp[Dj,rowsOf,Di h,Dn,Bo,e2,setAt]
theorem Zw{S S':St}(r:D)(hl:S'.low<S.heap.length)(hs:∀m H,Aae m H r=some r):leave false S r S'=some (r,⟨S'.heap,min S.low S'.low⟩,true):=by
 have h:¬S.heap.length≤S'.low:=by omega
 simp[leave,h,hs]
def CF (d:Nat) (f:FuncId) (caps:List D) (H:List Z9) (g gm gt:Nat) (x:CM) (w w':WM):Prop:=∀(H1:List Z9) (lo1:Nat),WS H1 g gm gt x w→Keep H H1→∃H2 lo2 wr,Bd LP NN d f caps ⟨H1,lo1⟩=some (.tup [],⟨H2,lo2⟩,wr)∧WS H2 g gm gt x w'∧Keep H1 H2∧lo2≤lo1
theorem rowO_cl(r:Option RM):Cl (Jd r):=by cases r<;>exact⟨rfl,rfl,rfl,rfl⟩
theorem tclone_run{d:Nat}(hd:1≤d){H:List Z9}(low:Nat){gt v n:Nat}{rows:List (List D)}(h:H[gt]?=some ⟨57,3,rows,v,2,true⟩)(hr:rows≠[])(hn:n=rows.length)(hl:n≤1000):Bd LP NN d 76 [.msl gt v 0 n none] ⟨H,low⟩=some (.sl 3 rows none,⟨H,low⟩,false):=by
 have hg:=Ha h;have htA:∀l,(H++l)[gt]?=_:=fun l=>Di h l;refine G8 (F:=F76) rfl (by simp only[LP,snapVs,zs,zm,h,Nat.not_le.2 hg]<;>exact rfl) rfl (by simp only[LP,zf,zm];try rfl) (by simp only[F76,zv]<;>exact rfl) (by omega) ?_;rintro d rfl;refine Ad (Aw (Aa (Af ?_)));refine Ai (Ad (Ae rfl (Xq (h:=?_))));refine Aa (Af ?_);refine Dw ?_;refine Ak (Bi rfl (Ad (xo48 (h:=Ae rfl (Ac (by simp only[opd,zv,Ar,aop,LOp.loud,lop,if_true];exact app_tot h hn hl) ?_)))));refine Ag rfl (Aa (Af ?_));apply A7;refine⟨_,by simp only[F76,resultD,Ba,resD,zg]<;>exact rfl,?_⟩;show leave false _ _ _=_;subst hn;simp[leave,Ub,Nl,Ll,D.Aad,D.freeV,D.free,D.Aah]
theorem try_run{d:Nat}(hd:3≤d){H:List Z9}(low:Nat){g gm gt:Nat}{x:CM}{w w':WM}(hW:WS H g gm gt x w){f:FuncId}{caps:List D}(hcv:∀H,Aac H.length H (.fn f caps)=some (.fn f caps))(hC:CF (d-1) f caps H g gm gt x w w'):∃r,(∃T,r=(.int .i64 0,T,true)∧WS T.heap g gm gt x w'∧Keep H T.heap∧T.low≤g)∧Bd LP NN d 40 [.ptr g 0 0 0,.fn f caps] ⟨H,low⟩=some r:=by
 obtain⟨lin,hw,xY⟩:=hW.hw;have hct:=x.ctl_lt;have ⟨qR0,qR1,qR2,qR3⟩:=rowO_cl w.row;have qL0:=xY.Aag;have qL1:=xY.cells;have qL2:=xY.val;have qC:=clipR_lin H (w.lines.map lnR);have qC0:=qC.Aag;have qC1:=qC.cells;have qC2:=qC.val;have hrn:w.tot.map dcR≠[]:=by intro h;have:=congrArg List.length h;rw[List.length_map,hW.hn]at this;simp at this
 have hwA:∀l,(H++l)[g]?=_:=fun l=>Di hw l;have uq:∀o,(H.set g o)[g]?=some o:=fun o=>A8 hw o;have hsgA:∀o l,(H.set g o++l)[g]?=some o:=fun o l=>Di (uq o) l;have hsL:∀o l,(H++l).set g o=H.set g o++l:=fun o l=>List.set_append_left _ _ hW.lt;have zB:=hW.set w.page w.line w.body w.row (Md (w.lines.map lnR)) w.lines w.ended qC;obtain⟨d0,rfl⟩:∃e,d=e+1:=⟨d-1,by omega⟩;rw[Nat.add_sub_cancel]at hC;refine Eu (F:=F40) rfl (by simp only[LP,snapVs,zs,zm]<;>exact rfl) rfl (by simp only[LP,zf,zm];try rfl) (by simp only[F40,zv]<;>exact rfl) (by omega) ?_;intro d he;obtain rfl:=Nat.succ.inj he;have xq:=aI hw (aI hwA (aI hsL (aI uq (hsgA))));refine Ad (Aw (Aa (Af ?_)));refine Ad (Ae rfl (xo3 (h:=xo1 (h:=xo52 (h:=Ko (h:=Ac (by simp only[zl,zm,Bg,overlay,Bh,zs,zc,zf,List.take,List.drop,qR0,qL0]<;>exact rfl) ?_))))));refine Aa (Af ?_);refine Ai (Fb (by simp only[newsVals,zw,Nat.reduceAdd]<;>exact rfl) (by simp only[zw]<;>exact rfl) ?_);refine Bc rfl rfl (xo6 (h:=xo4 (h:=xo4 (h:=xo64 (h:=Az (by simp only[zo];exact tclone_run (by omega) _ (Di hW.ht _) hrn (by rw[List.length_map,hW.hn]) (by omega)) rfl ?_)))));refine Bc rfl rfl (xo6 (h:=xo4 (h:=xo4 (h:=xo64 (h:=Az (by simp only[zo];exact clip_run (by omega) _ (xY.keep fun j o h1 _=>Di h1 _)) rfl ?_)))));refine xo4 (h:=Az (by simp only[zl,zm,Bg,overlay,zs,zc,zf,List.take,List.drop]<;>exact rfl) rfl ?_);refine xo4 (h:=dw_g (by simp only[zl,zm,Bg,overlay,List.take,List.drop,qC1,qC2]<;>exact rfl) (hok:=by simp[show ob 32767 15=[true,true,true,true,true,true,true,true,true,true,true,true,true,true,true] from rfl,plainV_sl,clipR_pv,okHere,Je,Ew,Ir,dj,Dv,fpQuiet]) (h:=?_));refine Ce (Af ?_);refine Ad (Ae rfl (Ae rfl (xo3 (h:=xo1 (h:=xo1 (h:=xo52 (h:=Ac (by simp only[zo];exact clip_run (by omega) _ (xY.keep fun j o h1 _=>Di h1 _)) ?_)))))));refine xo3 (h:=xo1 (h:=xo1 (h:=Ac (by simp only[zl,zm,Bg,overlay,List.take,List.drop,wO,wRow,qC1,qC2,xq]<;>exact rfl) ?_)));refine Aa (Af ?_);refine Ad (Ae rfl ?_);obtain⟨H2,lo2,wr2,yE,hW2,hK2,zF⟩:=hC _ _ (zB.app [⟨89,7,[[.int .i64 (w.page:Nat),.int .i64 (w.line:Nat),.bool w.body,Jd w.row,.sl 3 (w.tot.map dcR) none,Md (w.lines.map lnR),.bool false]],0,0,false⟩]) ((Keep.set hW _).trans (Keep.app _ _));obtain⟨lin2,uG,hlin2⟩:=hW2.hw;apply Ac (by simp only[zo];exact yE);refine Aa (Af ?_);refine Ai (Ad (Ae rfl (xo3 (h:=xo1 (h:=xo1 (h:=Ac (by simp only[zl,zm,zd,Au,List.take,List.drop,wO,wRow,uG]<;>exact rfl) ?_))))));refine Aa (Af ?_);refine Dw ?_;refine Ak (Bi rfl (Ad (Aw (Aa (Af ?_)))));apply A7;refine⟨_,⟨⟨H2,min low lo2⟩,rfl,hW2,((Keep.set hW _).trans (Keep.app _ _)).trans hK2,by show min low lo2≤g;omega⟩,?_⟩;refine⟨_,by simp only[F40,resultD,Ba,resD,zg]<;>exact rfl,?_⟩;exact Zw (S:=⟨H,low⟩) (S':=⟨H2,lo2⟩) _ (by show lo2<H.length;have:=hW.lt;omega) (fun _ _=>rfl)
def setRow (w:WM) (y:RM):WM:={ w with row:=some y }
def stA (w:WM) (y:RM):WM:={ w with page:=1,row:=some y }
def Q5 (x:CM) (w:WM) (y:RM):WM:=headW x (((stA w y).write (x.tg 1 0).tl).write (x.tg 2 0).tl) 0
def Tj (x:CM) (w:WM) (y:RM) (b:Nat):WM:=headW x (setRow (J9 x w b) y) b
def Yl (w:WM) (y:RM) (c:Nat):Nat:=match w.row with
 | some y0=>(Xl y0 y c).toNat
 | none=>0
def Ed (x:CM) (w:WM) (y:RM):WM:=if w.page=0 then Q5 x w y else if Yl w y x.ctl=0 then w else Tj x w y (Yl w y x.ctl)
def genA (x:CM) (w:WM) (y:RM):WM:=addW (setRow (Ed x w y) y) y.N
def Jp (x:CM) (w:WM) (y:RM) (det:Int):WM:=if det=0 then Dz x (genA x w y) (tD1 (x.nps 0)) else if det=1 then Dz x (genA x w y) tD2 else genA x w y
theorem WB.mono{w:WM}{n n':Nat}(h:WB w n)(hn:n≤n'):WB w n':=⟨h.row,by have:=h.page;omega,by have:=h.line;omega,by have:=h.lines;omega,h.totM hn⟩
theorem WB.setRow{w:WM}{n:Nat}(h:WB w n)(y:RM):WB (setRow w y) n:=⟨by simp[YtbhnlppboegmjaaGreatDoor.setRow],h.page,h.line,h.lines,h.tot⟩
theorem brkI_le(y0 y:RM)(c:Nat):Xl y0 y c=-1∨(1≤Xl y0 y c∧Xl y0 y c≤c):=by
 unfold Xl;split
 ·
  rename_i h;exact .inr ⟨by omega,by omega⟩
 split
 ·
  rename_i h;exact .inr ⟨by omega,by omega⟩
 exact .inl rfl
theorem WB.start{w:WM}{n:Nat}{y:RM}(h:WB (YtbhnlppboegmjaaGreatDoor.setRow w y) n)(h20:20≤n)(hn:n≤30000){x:CM}(ht:w.tot.length=x.ctl+1):WB (stA w y) n∧TOK (stA w y) (x.tg 1 0)∧WB ((stA w y).write (x.tg 1 0).tl) (n+4)∧TOK ((stA w y).write (x.tg 1 0).tl) (x.tg 2 0)∧WB (((stA w y).write (x.tg 1 0).tl).write (x.tg 2 0).tl) (n+8)∧(((stA w y).write (x.tg 1 0).tl).write (x.tg 2 0).tl).tot.length=x.ctl+1∧WB (Q5 x w y) (n+140):=by
 have hc:=x.ctl_lt;have h1:WB (stA w y) n:=⟨by simp[stA],by show 1≤n;omega,h.line,h.lines,h.tot⟩;have t1:=Kq (x:=x) h1 (by omega) ht (k:=1) (lv:=0) (by omega);have h2:=h1.write t1;have e1:=Gw (stA w y) (x.tg 1 0).tl;have ht1:((stA w y).write (x.tg 1 0).tl).tot.length=x.ctl+1:=by rw[e1.2.2.1];exact ht
 have t2:=Kq (x:=x) h2 (by omega) ht1 (k:=2) (lv:=0) (by omega);have h3:=h2.write t2;have e2:=Gw ((stA w y).write (x.tg 1 0).tl) (x.tg 2 0).tl;have ht2:(((stA w y).write (x.tg 1 0).tl).write (x.tg 2 0).tl).tot.length=x.ctl+1:=by rw[e2.2.2.1];exact ht1
 exact⟨h1,t1,h2,t2,h3,ht2,(WB.head (x:=x) (x.ctl+1-0) 0 h3 (by omega) ht2 (by omega)).mono (by omega)⟩
theorem WB.brk{w:WM}{n:Nat}(h:WB w n)(hn:n≤30000){x:CM}(ht:w.tot.length=x.ctl+1)(y:RM){b:Nat}(hb:b≤x.ctl+1):WB (J9 x w b) (n+132)∧(J9 x w b).tot.length=x.ctl+1∧WB (YtbhnlppboegmjaaGreatDoor.setRow (J9 x w b) y) (n+132)∧WB (Tj x w y b) (n+264):=by
 have hc:=x.ctl_lt;obtain⟨h1,h2⟩:=WB.foot (x:=x) (x.ctl+1-b) (x.ctl+1) h (by omega) ht (Nat.le_refl _) (by omega);have h3:=h1.mono (n':=n+132) (by omega);exact⟨h3,h2,h3.setRow y,(WB.head (x:=x) (x.ctl+1-b) b (h3.setRow y) (by omega) h2 (by omega)).mono (by omega)⟩
theorem WB.first{w:WM}{n:Nat}{y:RM}(h:WB (YtbhnlppboegmjaaGreatDoor.setRow w y) n)(hr:w.page≠0→w.row≠none)(h20:20≤n)(hn:n≤30000){x:CM}(ht:w.tot.length=x.ctl+1):WB (Ed x w y) (n+264)∧(Ed x w y).tot.length=x.ctl+1:=by
 have hc:=x.ctl_lt;unfold Ed;split
 ·
  have:=h.start h20 hn ht;refine⟨this.2.2.2.2.2.2.mono (by omega),?_⟩;show (headN x 0 _ _).tot.length=_;rw[(Qh x _ _ _).2.1];exact this.2.2.2.2.2.1
 rename_i hp;have hw:WB w n:=⟨hr hp,h.page,h.line,h.lines,h.tot⟩;split
 ·
  exact⟨hw.mono (by omega),ht⟩
 have hb:Yl w y x.ctl≤x.ctl+1:=by
  unfold Yl;split
  ·
   rename_i y0 _;have:=brkI_le y0 y x.ctl;omega
  omega
 have:=hw.brk hn ht y hb;refine⟨this.2.2.2,?_⟩;show (headN x _ _ _).tot.length=_;rw[(Qh x _ _ _).2.1];exact this.2.1
theorem WB.genA{w:WM}{n:Nat}{y:RM}(h:WB (YtbhnlppboegmjaaGreatDoor.setRow w y) n)(hr:w.page≠0→w.row≠none)(h20:20≤n)(hn:n≤30000){x:CM}(ht:w.tot.length=x.ctl+1):WB (YtbhnlppboegmjaaGreatDoor.setRow (Ed x w y) y) (n+264)∧WB (YtbhnlppboegmjaaGreatDoor.genA x w y) (n+265)∧(YtbhnlppboegmjaaGreatDoor.genA x w y).tot.length=x.ctl+1:=by
 obtain⟨h1,h2⟩:=h.first hr h20 hn ht
 have hN:y.N<1000:=Nat.mod_lt _ (by decide);have h3:=h1.setRow y;refine⟨h3,⟨by simp[YtbhnlppboegmjaaGreatDoor.genA,addW,YtbhnlppboegmjaaGreatDoor.setRow],by have:=h3.page;show (Ed x w y).page≤_;exact Nat.le_succ_of_le this,by have:=h3.line;show (Ed x w y).line≤_;exact Nat.le_succ_of_le this,by have:=h3.lines;show (Ed x w y).lines.length≤_;exact Nat.le_succ_of_le this,fun m hm=>?_⟩,by simp[YtbhnlppboegmjaaGreatDoor.genA,addW,YtbhnlppboegmjaaGreatDoor.setRow,h2]⟩;obtain⟨m',hm',rfl⟩:=List.mem_map.1 hm;have:=h3.tot m' hm';omega
theorem WB.gen{w:WM}{n:Nat}{y:RM}(h:WB (YtbhnlppboegmjaaGreatDoor.setRow w y) n)(hr:w.page≠0→w.row≠none)(h20:20≤n)(hn:n≤30000){x:CM}(ht:w.tot.length=x.ctl+1)(det:Int):WB (Jp x w y det) (n+310)∧(Jp x w y det).tot.length=x.ctl+1:=by
 obtain⟨_,h1,h2⟩:=h.genA hr h20 hn ht;unfold Jp;split
 ·
  exact⟨(h1.pres (by omega) h2 (tok_D1 h1 _)).mono (by omega),pres_tot x _ _ h2⟩
 split
 ·
  exact⟨(h1.pres (by omega) h2 (tok_D2 h1)).mono (by omega),pres_tot x _ _ h2⟩
 exact⟨h1.mono (by omega),h2⟩
theorem gen_cl{d:Nat}(hd:33≤d){H:List Z9}{g gm gt:Nat}{x:CM}{w:WM}{y:RM}{n:Nat}(zQ:WB (setRow w y) n)(uK:w.page≠0→w.row≠none)(h20:20≤n)(hn:n≤30000)(ht:w.tot.length=x.ctl+1)(det:Int)(hdet:-1≤det∧det≤1){c:Option Nat}{pw pr pg:Nat}(hpw:H[pw]?=some ⟨28,1,[[.ptr g 0 0 0]],0,0,false⟩)(vU:H[pr]?=some ⟨45,1,[[.sl 12 y.fld c]],0,0,false⟩)(wE:H[pg]?=some ⟨3,1,[[.int .i64 det]],0,0,false⟩):CF d 41 [.ptr pw 0 0 0,.ptr pr 0 0 0,.ptr pg 0 0 0] H g gm gt x w (Jp x w y det):=by
 intro H1 low1 zB uF
 have xw:∀{p:Nat} {o:Z9},H[p]?=some o→o.kind=0→o.elem≠91→g≠p:=fun h1 h2 h3 e=>by
  subst e;obtain⟨l,h4,_⟩:=zB.hw;have:=(uF.2 _ _ h1 (.inl ⟨h2,h3⟩)).symm.trans h4;obtain rfl:=Option.some.inj this;exact h3 rfl
 have vI:=xw hpw rfl (by simp);have hgpr:=xw vU rfl (by simp);have hgpg:=xw wE rfl (by simp);have hct:=x.ctl_lt;have hgH1:=zB.lt;obtain⟨d0,rfl⟩:∃e,d=e+1:=⟨d-1,by omega⟩;obtain⟨lin1,zT,hlin1⟩:=zB.hw;have hsg1:∀o,(H1.set g o)[g]?=some o:=fun o=>A8 zT o;have hpw1:=uF.2 _ _ hpw (.inl ⟨rfl,by simp⟩);have hpwS1:∀o,(H1.set g o)[pw]?=_:=fun o=>Bv hpw1 vI o;have hpr1:=uF.2 _ _ vU (.inl ⟨rfl,by simp⟩);have hprS1:∀o,(H1.set g o)[pr]?=_:=fun o=>Bv hpr1 hgpr o;have hpg1:=uF.2 _ _ wE (.inl ⟨rfl,by simp⟩);have hpgS1:∀o,(H1.set g o)[pg]?=_:=fun o=>Bv hpg1 hgpg o
 suffices h:∃r,(∃T wr,r=(.tup [],T,wr)∧Ef ⟨H1,low1⟩ T g gm gt x w (Jp x w y det))∧Bd LP NN (d0+1) 41 [.ptr pw 0 0 0,.ptr pr 0 0 0,.ptr pg 0 0 0] ⟨H1,low1⟩=some r by
  obtain⟨r,⟨T,wr,rfl,h1⟩,h2⟩:=h;exact⟨T.heap,T.low,wr,h2,h1.ws,h1.kp,h1.lm⟩
 refine Eu (F:=F41) rfl (by simp only[LP,snapVs,zs,zm]<;>exact rfl) rfl (by simp only[LP,zf,zm];try rfl) (by simp only[F41,zv]<;>exact rfl) (by omega) ?_;intro d he;obtain rfl:=Nat.succ.inj he;have xq:=aI zT (aI hsg1 (aI hpw1 (aI hpwS1 (aI hpr1 (aI hprS1 (aI hpg1 (aI hpgS1 (@List.set_set.{0}))))))));refine Ig (fun env S'=>∃(K:List Z9) (lo:Nat) (u3 u4 u5 u6:D),WS K g gm gt x (Ed x w y)∧Keep H1 K∧lo≤H1.length∧S'=⟨K,lo⟩∧env=[.ptr pw 0 0 0,.ptr pr 0 0 0,.ptr pg 0 0 0,u3,u4,u5,u6]) ?_ ?_
 ·
  refine Ad (Qw (h:=xo3 (h:=xo1 (h:=xo1 (h:=Ac (by simp only[zl,zm,zd,Au,List.take,List.drop,wO,wRow,Jd,xq]<;>exact rfl) ?_)))));refine xo2 (h:=?_);refine Aa (Af ?_);refine Bj (by simp only[opd,zv]<;>exact rfl) (fun hc=>?_) (fun hc=>?_)
  ·
   have hp0:w.page=0:=by have:=eq_of_beq hc;omega
   have hBs:=zQ.start h20 hn ht;have hWa:=zB.set 1 w.line w.body (some y) lin1 w.lines w.ended hlin1;refine Ad (Qw (h:=xo3 (h:=xo1 (h:=xo1 (h:=Ac (by simp only[zl,zm,Bg,overlay,zs,zc,zf,List.take,List.drop,wO,wRow,Jd,xq]<;>exact rfl) ?_)))));refine Aa (Af ?_);refine Ai (Eh ?_);refine xo36 (h:=xo36 (h:=Az (by simp only[zo];exact Vs (by omega) _ y c) rfl ?_));refine xo6 (h:=xo4 (h:=xo4 (h:=Az (by simp only[zl,zm,Bg,overlay,zs,zc,zf,List.take,List.drop,xq]<;>exact rfl) rfl ?_)));refine Ce (Af ?_);refine Ai (Eh ?_);refine xo36 (h:=xo36 (h:=xo6 (h:=xo4 (h:=xo36 (h:=xo51 (h:=Dc (by simp only[opd,zv,Ar,aop,LOp.loud,lop,if_true];exact congrArg (Option.map fun r=>(r,_,false)) (Rq hWa _ (.inl ⟨rfl,.inl rfl⟩))) (by simp only[fpHere,zo]<;>exact rfl) rfl ?_))))));obtain⟨H43,lo43,wr43,hc43,hW43,hK43,hlo43,hlm43⟩:=(Tu (d:=d0) (by omega) (n:=n) (by omega) hBs.1.lines (by have:=hBs.1.line;omega) hBs.2.1).go (min (min H1.length g) g) hWa;obtain⟨linb,wX,uf⟩:=hW43.hw;have hsgb:∀o,(H43.set g o)[g]?=some o:=fun o=>A8 wX o;have hpwb:=(uF.trans ((Keep.set zB _).trans hK43)).2 _ _ hpw (.inl ⟨rfl,by simp⟩);have hpwSb:∀o,(H43.set g o)[pw]?=_:=fun o=>Bv hpwb vI o;have hprb:=(uF.trans ((Keep.set zB _).trans hK43)).2 _ _ vU (.inl ⟨rfl,by simp⟩);have hprSb:∀o,(H43.set g o)[pr]?=_:=fun o=>Bv hprb hgpr o;have hpgb:=(uF.trans ((Keep.set zB _).trans hK43)).2 _ _ wE (.inl ⟨rfl,by simp⟩);have hpgSb:∀o,(H43.set g o)[pg]?=_:=fun o=>Bv hpgb hgpg o;apply Dc (by simp only[zo];exact hc43) (by simp only[fpHere,zo,zq]<;>exact rfl) (by cases wr43<;>first | rfl | (simp[show ob 127 7=[true,true,true,true,true,true,true] from rfl,Aab,Iy,okHere,Je,Ew,Ir,dj,Dv,fpQuiet,Jh,Es,Qi,Gz,Ey];done));refine Ce (Af ?_);refine Ai (Eh ?_);refine Az (by simp only[zl,zm,zd,Au,List.take,List.drop,hpwb]<;>exact rfl) rfl ?_;refine Az (by simp only[zl,zm,zd,Au,List.take,List.drop,hpwb]<;>exact rfl) rfl ?_;refine xo6 (h:=xo4 (h:=Az (by simp only[zl,zm,zd,Au,List.take,List.drop,wO,wRow,Jd,wX]<;>exact rfl) rfl ?_));refine xo51 (h:=Dc (by simp only[opd,zv,Ar,aop,LOp.loud,lop,if_true];exact congrArg (Option.map fun r=>(r,_,false)) (Rq hW43 _ (.inl ⟨rfl,.inr (.inl rfl)⟩))) (by simp only[fpHere,zo]<;>exact rfl) rfl ?_);obtain⟨H43b,lo43b,wr43b,hc43b,hW43b,hK43b,hlo43b,hlm43b⟩:=(Tu (d:=d0) (by omega) (n:=n+4) (by omega) hBs.2.2.1.lines (by have:=hBs.2.2.1.line;omega) hBs.2.2.2.1).go lo43 hW43;obtain⟨linc,hwc,hlinc⟩:=hW43b.hw;have hsgc:∀o,(H43b.set g o)[g]?=some o:=fun o=>A8 hwc o;have hpwc:=(uF.trans (((Keep.set zB _).trans hK43).trans hK43b)).2 _ _ hpw (.inl ⟨rfl,by simp⟩);have hpwSc:∀o,(H43b.set g o)[pw]?=_:=fun o=>Bv hpwc vI o;have hprc:=(uF.trans (((Keep.set zB _).trans hK43).trans hK43b)).2 _ _ vU (.inl ⟨rfl,by simp⟩);have hprSc:∀o,(H43b.set g o)[pr]?=_:=fun o=>Bv hprc hgpr o;have hpgc:=(uF.trans (((Keep.set zB _).trans hK43).trans hK43b)).2 _ _ wE (.inl ⟨rfl,by simp⟩);have hpgSc:∀o,(H43b.set g o)[pg]?=_:=fun o=>Bv hpgc hgpg o;apply Dc (by simp only[zo];exact hc43b) (by simp only[fpHere,zo,zq]<;>exact rfl) (by cases wr43b<;>first | rfl | (simp[show ob 127 7=[true,true,true,true,true,true,true] from rfl,Aab,Iy,okHere,Je,Ew,Ir,dj,Dv,fpQuiet,Jh,Es,Qi,Gz,Ey];done));refine Ce (Af ?_);refine Am (Ac (by simp only[zl,zm,zd,Au,List.take,List.drop,hpwc]<;>exact rfl) ?_);obtain⟨H44,lo44,wr44,hc44,hW44,hK44,hlo44,hlm44⟩:=(head_run (d:=d0) (by omega) hBs.2.2.2.2.1 (by omega) (l:=0) (Nat.zero_le _)).go lo43b hW43b;apply Ac (by simp only[zo];exact hc44);refine Aa (Gy (by simp only[ze]<;>exact rfl) ?_);have e:Ed x w y=Q5 x w y:=by unfold Ed;rw[if_pos hp0]
   rw[e];exact⟨_,_,_,_,_,_,hW44,(((Keep.set zB _).trans hK43).trans hK43b).trans hK44,by omega,rfl,rfl⟩
  have hp0:w.page≠0:=by have:=ne_of_beq_false hc;intro h;rw[h]at this;exact this rfl
  obtain⟨y0,hy0⟩:=Option.ne_none_iff_exists'.1 (uK hp0);have uo:WB w n:=⟨uK hp0,zQ.page,zQ.line,zQ.lines,zQ.tot⟩;have h45:=broken_run (d:=d0) (by omega) H1.length zB hy0 y c;refine Ad (Qw (h:=Qw (h:=Ac (by simp only[zo];exact h45) ?_)));refine Ag rfl (Aa (Af ?_));refine Ad (Ae rfl (xo2 (h:=?_)));refine Aa (Af ?_);refine Bj (by simp only[opd,zv]<;>exact rfl) (fun hcF=>?_) (fun hcF=>?_)
  ·
   obtain⟨b,zL,hb1,hble⟩:∃b:Nat,Xl y0 y x.ctl=(b:Nat)∧1≤b∧b≤x.ctl+1:=by
    have h1:=of_decide_eq_true hcF;rcases brkI_le y0 y x.ctl with h2 | h2
    ·
     omega
    exact⟨(Xl y0 y x.ctl).toNat,by omega,by omega,by omega⟩
   have hbb:Yl w y x.ctl=b:=by simp only[Yl,hy0,zL,Int.toNat_natCast]
   have hb0:Yl w y x.ctl≠0:=by omega
   have hBb:=uo.brk hn ht y hble;refine Ad (Ac (by simp only[zl,zm,zd,Au,List.take,List.drop,xq,zL]<;>exact rfl) ?_);apply Ae rfl;obtain⟨H46,lo46,wr46,hc46,hW46,qR,hlo46,hlm46⟩:=(foot_run (d:=d0) (by omega) uo (by omega) hble).go H1.length zB;obtain⟨linf,hwf,hlinf⟩:=hW46.hw;have hsgf:∀o,(H46.set g o)[g]?=some o:=fun o=>A8 hwf o;have hpwf:=(uF.trans qR).2 _ _ hpw (.inl ⟨rfl,by simp⟩);have hpwSf:∀o,(H46.set g o)[pw]?=_:=fun o=>Bv hpwf vI o;have hprf:=(uF.trans qR).2 _ _ vU (.inl ⟨rfl,by simp⟩);have hprSf:∀o,(H46.set g o)[pr]?=_:=fun o=>Bv hprf hgpr o;have hpgf:=(uF.trans qR).2 _ _ wE (.inl ⟨rfl,by simp⟩);have hpgSf:∀o,(H46.set g o)[pg]?=_:=fun o=>Bv hpgf hgpg o;have hWr6:=hW46.set (J9 x w b).page (J9 x w b).line (J9 x w b).body (some y) linf (J9 x w b).lines (J9 x w b).ended hlinf;apply Ac (by simp only[zo,zL];exact hc46);refine Aa (Af ?_);refine Ai (Eh ?_);refine Az (by simp only[zl,zm,zd,Au,List.take,List.drop,zL,hpwf]<;>exact rfl) rfl ?_;refine Az (by simp only[zl,zm,zd,Au,List.take,List.drop,zL,hprf]<;>exact rfl) rfl ?_;refine Az (by simp only[zo,zL];exact Vs (by omega) _ y c) rfl ?_;apply Aj (by simp only[zo,zL]<;>exact rfl) rfl rfl;apply Aj (by simp only[zo,Cj,zm,zL]<;>exact rfl) rfl rfl;apply Aj (by simp only[zo,Cj,zm,zL]<;>exact rfl) rfl rfl;refine Az (by simp only[zl,zm,Bg,overlay,zs,zc,zf,List.take,List.drop,wO,wRow,Jd,zL,hwf]<;>exact rfl) rfl ?_;refine Ce (Af ?_);refine Am (Ac (by simp only[zl,zm,zd,Au,List.take,List.drop,zL,hpwSf]<;>exact rfl) ?_);apply Ae rfl;obtain⟨H44,lo44,wr44,hc44,hW44,hK44,hlo44,hlm44⟩:=(head_run (d:=d0) (by omega) hBb.2.2.1 (by omega) hble).go (min lo46 g) hWr6;apply Ac (by simp only[zo,zL];exact hc44);refine Aa (Gy (by simp only[ze]<;>exact rfl) ?_);have e:Ed x w y=Tj x w y b:=by unfold Ed;rw[if_neg hp0,if_neg hb0,hbb]
   rw[e];exact⟨_,_,_,_,_,_,hW44,(qR.trans (Keep.set hW46 _)).trans hK44,by omega,rfl,rfl⟩
  have hb0:Yl w y x.ctl=0:=by
   have h1:=of_decide_eq_false hcF;simp only[Yl,hy0];omega
  refine Ak (Gy rfl ?_);have e:Ed x w y=w:=by unfold Ed;rw[if_neg hp0,if_pos hb0]
  rw[e];exact⟨_,_,_,_,_,_,zB,Keep.refl _,Nat.le_refl _,rfl,rfl⟩
 rintro env S' ⟨K,lo,u3,u4,u5,u6,yg,zC,xU,rfl,rfl⟩;obtain⟨link,vN,rP⟩:=yg.hw;have hsgk:∀o,(K.set g o)[g]?=some o:=fun o=>A8 vN o;have hpwk:=(uF.trans zC).2 _ _ hpw (.inl ⟨rfl,by simp⟩);have hpwSk:∀o,(K.set g o)[pw]?=_:=fun o=>Bv hpwk vI o;have hprk:=(uF.trans zC).2 _ _ vU (.inl ⟨rfl,by simp⟩);have hprSk:∀o,(K.set g o)[pr]?=_:=fun o=>Bv hprk hgpr o;have hpgk:=(uF.trans zC).2 _ _ wE (.inl ⟨rfl,by simp⟩);have hpgSk:∀o,(K.set g o)[pg]?=_:=fun o=>Bv hpgk hgpg o;obtain⟨hB3,hB4,hn4⟩:=zQ.genA uK h20 hn ht;have hWr:=yg.set (Ed x w y).page (Ed x w y).line (Ed x w y).body (some y) link (Ed x w y).lines (Ed x w y).ended rP;have hlg:=yg.lt;have xI:=aI vN (aI hsgk (aI hpwk (aI hpwSk (aI hprk (aI hprSk (aI hpgk (hpgSk)))))));refine Ai (Eh ?_);refine xo53 (h:=xo53 (h:=Az (by simp only[zo];exact Vs (by omega) _ y c) rfl ?_));refine xo6 (h:=xo4 (h:=xo4 (h:=Az (by simp only[zl,zm,Bg,overlay,zs,zc,zf,List.take,List.drop,wO,wRow,Jd,xI]<;>exact rfl) rfl ?_)));refine Ce (Af ?_);refine Ad (Vy (h:=?_));obtain⟨H47,lo47,wr47,hc47,hW47,hK47,hlo47,hlm47⟩:=(wadd_run (d:=d0) (by omega) (x:=x) (w:=setRow (Ed x w y) y) (y:=y) rfl (zQ.first uK h20 hn ht).2 (fun m hm=>by have:=hB3.tot m hm;omega)).go (min lo g) hWr;obtain⟨lind,hwd,hlind⟩:=hW47.hw;have hsgd:∀o,(H47.set g o)[g]?=some o:=fun o=>A8 hwd o;have hpwd:=(uF.trans (zC.trans ((Keep.set yg _).trans hK47))).2 _ _ hpw (.inl ⟨rfl,by simp⟩);have hpwSd:∀o,(H47.set g o)[pw]?=_:=fun o=>Bv hpwd vI o;have hprd:=(uF.trans (zC.trans ((Keep.set yg _).trans hK47))).2 _ _ vU (.inl ⟨rfl,by simp⟩);have hprSd:∀o,(H47.set g o)[pr]?=_:=fun o=>Bv hprd hgpr o;have hpgd:=(uF.trans (zC.trans ((Keep.set yg _).trans hK47))).2 _ _ wE (.inl ⟨rfl,by simp⟩);have hpgSd:∀o,(H47.set g o)[pg]?=_:=fun o=>Bv hpgd hgpg o;apply Ac (by simp only[zo];exact hc47);refine Aa (Af ?_);refine Ad (Ac (by simp only[zl,zm,zd,Au,List.take,List.drop,hpgd]<;>exact rfl) ?_);refine xo2 (h:=?_);refine Aa (Af ?_);refine Bj (by simp only[opd,zv]<;>exact rfl) (fun vK=>?_) (fun vK=>?_)
 ·
  have hdt:det=0∨det=1:=by have:=of_decide_eq_true vK;omega
  obtain⟨td,hTd,hTa,htd,rU⟩:∃td:TG,TOK (genA x w y) td∧td∈allT∧Jp x w y det=Dz x (genA x w y) td∧(x.grps.map (GrM.row true))[det.toNat]?=some [.int .u8 (td.kind:Nat),.int .i64 (td.level:Nat),.bool td.np,slB true 2 (td.tl.map Jr) none]:=by
   rcases hdt with rfl | rfl
   ·
    refine⟨tD1 (x.nps 0),tok_D1 hB4 _,by cases x.nps 0<;>simp[allT],by simp[Jp],rfl⟩
   refine⟨tD2,tok_D2 hB4,by simp[allT],by simp[Jp],rfl⟩
  have yK:((0:Int)≤det)=True:=eq_true (by omega);refine Eh ?_;refine Az (by simp only[zl,zm,zd,Au,List.take,List.drop,hpwd,yK]<;>exact rfl) rfl ?_;refine Az (by simp only[zl,zm,zd,Au,List.take,List.drop,hpwd,yK]<;>exact rfl) rfl ?_;apply Aj (by simp only[zo,yK]<;>exact rfl) rfl rfl;apply Aj (by simp only[zo,Cj,zm,yK]<;>exact rfl) rfl rfl;apply Aj (by simp only[zo,Cj,zm,yK]<;>exact rfl) rfl rfl;refine Az (by simp only[zl,zm,zd,Au,List.take,List.drop,wO,wRow,Jd,hwd,yK]<;>exact rfl) rfl ?_;refine Az (by simp only[zl,zm,zd,Au,List.take,List.drop,hpgd,yK]<;>exact rfl) rfl ?_;refine Az (by simp only[zl,zm,Df,rU,yK]<;>exact rfl) rfl ?_;refine Az (by simp only[zl,zm,zd,Au,List.take,List.drop,yK]<;>exact rfl) rfl ?_;obtain⟨H48,lo48,wr48,hc48,hW48,hK48,hlo48,hlm48⟩:=(Wj (d:=d0) (by omega) hB4 (by omega) hn4 hTd hTa).go lo47 hW47;apply Dc (by simp only[zo,yK];exact hc48) (by simp only[fpHere,zo,zq]<;>exact rfl) (by cases wr48<;>first | rfl | (simp[show ob 511 9=[true,true,true,true,true,true,true,true,true] from rfl,Aab,Iy,okHere,Je,Ew,Ir,dj,Dv,fpQuiet,Jh,Es,Qi,Gz,Ey];done));apply Ce;simp only[ze];rw[htd];obtain⟨r,yG,xR⟩:=Jz (S:=⟨H1,low1⟩) (S':=⟨H48,lo48⟩) zB hW48 (zC.trans (((Keep.set yg _).trans hK47).trans hK48)) (.inl (by show lo48≤_;omega));refine⟨r,yG,?_⟩;refine⟨_,by simp only[F41,resultD,Ba]<;>exact rfl,?_⟩;exact xR
 have hgw:Jp x w y det=genA x w y:=by have:=of_decide_eq_false vK;unfold Jp;rw[if_neg (by omega),if_neg (by omega)]
 apply Ak;rw[hgw];obtain⟨r,yG,xR⟩:=Jz (S:=⟨H1,low1⟩) (S':=⟨H47,lo47⟩) zB hW47 (zC.trans ((Keep.set yg _).trans hK47)) (.inl (by show lo47≤_;omega));refine⟨r,yG,?_⟩;refine⟨_,by simp only[F41,resultD,Ba]<;>exact rfl,?_⟩;exact xR
def V3 (x:CM) (w:WM):WM:=Dz x (J9 x w 0) (x.tg 7 0)
def H8 (x:CM) (w:WM):WM:=if w.page=0 then w else if x.P=0 then V3 x w else Dk x (V3 x w)
theorem term_cl{d:Nat}(hd:33≤d){H:List Z9}{g gm gt:Nat}{x:CM}{w:WM}{n:Nat}(zQ:w.page≠0→WB w n)(hn:n≤30000)(ht:w.tot.length=x.ctl+1){pw:Nat}(hpw:H[pw]?=some ⟨28,1,[[.ptr g 0 0 0]],0,0,false⟩):CF d 58 [.ptr pw 0 0 0] H g gm gt x w (H8 x w):=by
 intro H1 low1 zB uF
 have vI:g≠pw:=fun e=>by
  subst e;obtain⟨l,h4,_⟩:=zB.hw;have:=(uF.2 _ _ hpw (.inl ⟨rfl,by simp⟩)).symm.trans h4;simp[wO]at this
 have hct:=x.ctl_lt;have hgH1:=zB.lt;obtain⟨d0,rfl⟩:∃e,d=e+1:=⟨d-1,by omega⟩;obtain⟨lin1,zT,hlin1⟩:=zB.hw;have hsg1:∀o,(H1.set g o)[g]?=some o:=fun o=>A8 zT o;have hpw1:=uF.2 _ _ hpw (.inl ⟨rfl,by simp⟩);have hpwS1:∀o,(H1.set g o)[pw]?=_:=fun o=>Bv hpw1 vI o
 suffices h:∃r,(∃T wr,r=(.tup [],T,wr)∧Ef ⟨H1,low1⟩ T g gm gt x w (H8 x w))∧Bd LP NN (d0+1) 58 [.ptr pw 0 0 0] ⟨H1,low1⟩=some r by
  obtain⟨r,⟨T,wr,rfl,h1⟩,h2⟩:=h;exact⟨T.heap,T.low,wr,h2,h1.ws,h1.kp,h1.lm⟩
 refine Eu (F:=F58) rfl (by simp only[LP,snapVs,zs,zm]<;>exact rfl) rfl (by simp only[LP,zf,zm];try rfl) (by simp only[F58,zv]<;>exact rfl) (by omega) ?_;intro d he;obtain rfl:=Nat.succ.inj he;have xq:=aI zT (aI hsg1 (aI hpw1 (aI hpwS1 (@List.set_set.{0}))));refine Ai (Ad (Qw (h:=xo3 (h:=xo1 (h:=xo1 (h:=Ac (by simp only[zl,zm,zd,Au,List.take,List.drop,wO,wRow,Jd,xq]<;>exact rfl) ?_))))));refine xo2 (h:=?_);refine Aa (Af ?_);refine Bj (by simp only[opd,zv]<;>exact rfl) (fun hc=>?_) (fun hc=>?_)
 ·
  have hp0:w.page=0:=by have:=eq_of_beq hc;omega
  refine A7 (Nu ?_);have e:H8 x w=w:=by unfold H8;rw[if_pos hp0]
  rw[e];obtain⟨r,yG,xR⟩:=Jz (S:=⟨H1,low1⟩) (S':=⟨H1,H1.length⟩) zB zB (Keep.refl _) (.inr rfl);refine⟨r,yG,?_⟩;refine⟨_,by simp only[F58,resultD,Ba]<;>exact rfl,?_⟩;exact xR
 have hp0:w.page≠0:=by have:=ne_of_beq_false hc;intro h;rw[h]at this;exact this rfl
 have uo:=zQ hp0;obtain⟨hBf0,hnf⟩:=WB.foot (x:=x) (x.ctl+1-0) (x.ctl+1) uo (by omega) ht (Nat.le_refl _) (by omega);have hBf:=hBf0.mono (n':=n+132) (by omega);have hT7:=Kq (x:=x) hBf (by omega) hnf (k:=7) (lv:=0) (by omega);have hBp:=hBf.pres (x:=x) (by omega) hnf hT7;refine Ak (Bi rfl (Ad (Qw (h:=?_))));obtain⟨H46,lo46,wr46,hc46,hW46,qR,hlo46,hlm46⟩:=(foot_run (d:=d0) (by omega) uo (by omega) (l:=0) (Nat.zero_le _)).go H1.length zB;obtain⟨linf,hwf,hlinf⟩:=hW46.hw;have hsgf:∀o,(H46.set g o)[g]?=some o:=fun o=>A8 hwf o;have hpwf:=(uF.trans qR).2 _ _ hpw (.inl ⟨rfl,by simp⟩);have hpwSf:∀o,(H46.set g o)[pw]?=_:=fun o=>Bv hpwf vI o;apply Ac (by simp only[zo];exact hc46);refine Aa (Af ?_);refine Ai (Eh ?_);refine Az (by simp only[zl,zm,zd,Au,List.take,List.drop,hpwf]<;>exact rfl) rfl ?_;refine Az (by simp only[zl,zm,zd,Au,List.take,List.drop,hpwf]<;>exact rfl) rfl ?_;refine xo6 (h:=xo4 (h:=Az (by simp only[zl,zm,zd,Au,List.take,List.drop,wO,wRow,Jd,hwf]<;>exact rfl) rfl ?_));refine xo51 (h:=Dc (by simp only[opd,zv,Ar,aop,LOp.loud,lop,if_true];exact congrArg (Option.map fun r=>(r,_,false)) (Rq hW46 _ (.inl ⟨rfl,.inr (.inr (.inr rfl))⟩))) (by simp only[fpHere,zo]<;>exact rfl) rfl ?_);obtain⟨H48,lo48,wr48,hc48,hW48,hK48,hlo48,hlm48⟩:=(Wj (d:=d0) (by omega) hBf (by omega) hnf hT7 (x.tg_all (by omega))).go lo46 hW46;obtain⟨linp,hwp,hlinp⟩:=hW48.hw;have hsgp:∀o,(H48.set g o)[g]?=some o:=fun o=>A8 hwp o;have hpwp:=(uF.trans (qR.trans hK48)).2 _ _ hpw (.inl ⟨rfl,by simp⟩);have hpwSp:∀o,(H48.set g o)[pw]?=_:=fun o=>Bv hpwp vI o;apply Dc (by simp only[zo];exact hc48) (by simp only[fpHere,zo,zq]<;>exact rfl) (by cases wr48<;>first | rfl | (simp[show ob 127 7=[true,true,true,true,true,true,true] from rfl,Aab,Iy,okHere,Je,Ew,Ir,dj,Dv,fpQuiet,Jh,Es,Qi,Gz,Ey];done));refine Ce (Af ?_);refine Ad (Ac (by simp only[zl,zm,zd,Au,List.take,List.drop,hpwp]<;>exact rfl) ?_);refine xo3 (h:=xo1 (h:=xo1 (h:=Ac (by simp only[zl,zm,zd,Au,List.take,List.drop,wO,wRow,Jd,hwp]<;>exact rfl) ?_)));refine xo2 (h:=?_);refine Aa (Af ?_);refine Bj (by simp only[opd,zv]<;>exact rfl) (fun hcF=>?_) (fun hcF=>?_)
 ·
  have hP:x.P≠0:=by have:=of_decide_eq_true hcF;omega
  have e:H8 x w=Dk x (V3 x w):=by unfold H8;rw[if_neg hp0,if_neg hP]
  refine Am (Ac (by simp only[zl,zm,zd,Au,List.take,List.drop,hpwp]<;>exact rfl) ?_);obtain⟨H59,lo59,wr59,hc59,hW59,hK59,hlo59,hlm59⟩:=(Vw (d:=d0) (by omega) hBp (by omega)).go lo48 hW48;apply Ac (by simp only[zo];exact hc59);apply Aa;simp only[ze];rw[e]
  have zF:lo48≤max g gt∨V3 x w=w:=by
   rcases hlo46 with h | h
   ·
    exact .inl (Nat.le_trans hlm48 h)
   exact hlo48.imp_right fun h'=>h'.trans h
  have hl3:lo59≤max g gt∨Dk x (V3 x w)=w:=by
   rcases zF with h | h
   ·
    exact .inl (Nat.le_trans hlm59 h)
   exact hlo59.imp_right fun h'=>h'.trans h
  obtain⟨r,yG,xR⟩:=Jz (S:=⟨H1,low1⟩) (S':=⟨H59,lo59⟩) zB hW59 ((qR.trans hK48).trans hK59) hl3;refine⟨r,yG,?_⟩;refine⟨_,by simp only[F58,resultD,Ba]<;>exact rfl,?_⟩;exact xR
 have hP:x.P=0:=by have:=of_decide_eq_false hcF;omega
 have e:H8 x w=V3 x w:=by unfold H8;rw[if_neg hp0,if_pos hP]
 apply Ak;rw[e]
 have zF:lo48≤max g gt∨V3 x w=w:=by
  rcases hlo46 with h | h
  ·
   exact .inl (Nat.le_trans hlm48 h)
  exact hlo48.imp_right fun h'=>h'.trans h
 obtain⟨r,yG,xR⟩:=Jz (S:=⟨H1,low1⟩) (S':=⟨H48,lo48⟩) zB hW48 (qR.trans hK48) zF;refine⟨r,yG,?_⟩;refine⟨_,by simp only[F58,resultD,Ba]<;>exact rfl,?_⟩;exact xR
theorem gen_run{d:Nat}(hd:35≤d){H:List Z9}(low:Nat){g gm gt:Nat}{x:CM}{w:WM}{y:RM}{n:Nat}(hW:WS H g gm gt x w)(zQ:WB (setRow w y) n)(uK:w.page≠0→w.row≠none)(h20:20≤n)(hn:n≤30000)(uD:w.ended=false)(det:Int)(hdet:-1≤det∧det≤1)(c:Option Nat):∃r,(∃T,r=(.int .i64 0,T,true)∧WS T.heap g gm gt x (Jp x w y det)∧Keep H T.heap∧T.low≤g)∧Bd LP NN d 12 [.ptr g 0 0 0,.int .i64 det,.sl 12 y.fld c] ⟨H,low⟩=some r:=by
 obtain⟨lin,hw,xY⟩:=hW.hw;have hgH:=hW.lt;have hgl:=x.grps_len;have hwA:∀l,(H++l)[g]?=_:=fun l=>Di hw l;have hd1:(det < -1)=False:=eq_false (by omega);have hd2:(det≥((x.grps.length:Nat):Int))=False:=eq_false (by omega);have rZ:=hW.app [⟨28,1,[[.ptr g 0 0 0]],0,0,false⟩,⟨3,1,[[.int .i64 det]],0,0,false⟩,⟨45,1,[[.sl 12 y.fld c]],0,0,false⟩];obtain⟨d0,rfl⟩:∃e,d=e+1:=⟨d-1,by omega⟩;obtain⟨rT,hrT,hcT⟩:=try_run (d:=d0) (by omega) H.length rZ (f:=41) (caps:=[.ptr H.length 0 0 0,.ptr (H.length+2) 0 0 0,.ptr (H.length+1) 0 0 0]) (fun _=>rfl) (gen_cl (d:=d0-1) (by omega) zQ uK h20 hn hW.hn det hdet (c:=c) (pw:=H.length) (pr:=H.length+2) (pg:=H.length+1) (G6 _ _) (at_app _ _ 2) (at_app _ _ 1));refine Eu (F:=F12) rfl (by simp only[LP,snapVs,zs,zm]<;>exact rfl) rfl (by simp only[LP,zf,zm];try rfl) (by simp only[F12,zv]<;>exact rfl) (by omega) ?_;intro d he;obtain rfl:=Nat.succ.inj he;have xq:=aI hw (aI hwA (aI hd1 (aI hd2 (uD))));refine Ad (Zn (h:=Zn (h:=Zn (h:=?_))));refine Aw (Aa (Af ?_));refine Ai (Aq (Ad (xo0 (h:=Ac (by simp only[zo];exact Wq (by omega) _ rZ) ?_))));refine Ag rfl (Aa (Af ?_));refine Dw ?_;refine Ad (xo0 (h:=xo3 (h:=xo1 (h:=xo52 (h:=Ag rfl (Aa ?_))))));refine Af ?_;refine Dw ?_;refine Ai (Eh ?_);refine xo7 (h:=Aj (by simp only[zo,Bf,decide_false,xq]<;>exact rfl) rfl rfl ?_);refine D9 rfl rfl (dw_kq 0 (b:=false) ?_);refine Cb rfl (xo7 (h:=?_));refine Cb rfl (xo7 (h:=?_));refine Cb rfl (xo6 (h:=?_));refine Cb rfl (xo4 (h:=?_));refine Cb rfl (xo4 (h:=?_));refine Cb rfl (xo64 (h:=?_));refine Cb rfl (Aj (by simp only[zo,Fq,List.length_map]<;>exact rfl) rfl rfl ?_);refine Cb rfl (Aj (by simp only[zo,Bf,decide_false,xq]<;>exact rfl) rfl rfl ?_);refine xo6 (h:=D9 rfl rfl (dw_kq 0 (b:=false) ?_));refine Cb rfl (xo7 (h:=?_));refine Cb rfl (xo28 (h:=?_));refine Cb rfl (D9 rfl rfl ?_);refine I9 0 (by simp only[zv]<;>exact rfl) (by simp only[zn]<;>exact rfl) (by simp only[zn]<;>exact rfl) (fun hg=>?_) (fun hg=>?_)
 ·
  have hdt:det=0∨det=1:=by have:=of_decide_eq_true hg;omega
  obtain⟨r4,hr4,hr5⟩:∃r4,(x.grps.map (GrM.row true))[det.toNat]?=some (.int .u8 4::r4)∧r4.length=3:=by
   rcases hdt with rfl | rfl
   ·
    exact⟨_,rfl,rfl⟩
   exact⟨_,rfl,rfl⟩
  have yK:((0:Int)≤det)=True:=eq_true (by omega);refine Cb rfl (Az (by simp only[zl,zm,zd,Au,List.take,List.drop,yK]<;>exact rfl) rfl ?_);refine Cb rfl (Aj (by simp only[zo,yK]<;>exact rfl) rfl rfl ?_);refine Cb rfl (Aj (by simp only[zo,Cj,zm,yK]<;>exact rfl) rfl rfl ?_);refine Cb rfl (Aj (by simp only[zo,Cj,zm,yK]<;>exact rfl) rfl rfl ?_);refine Cb rfl (Az (by simp only[zl,zm,zd,Au,List.take,List.drop,wO,wRow,xq,yK]<;>exact rfl) rfl ?_);refine Cb rfl (Az (by simp only[zl,zm,zd,Au,List.take,List.drop,yK]<;>exact rfl) rfl ?_);refine Cb rfl (Az (by simp only[zl,zm,Df,hr4,yK]<;>exact rfl) rfl ?_);refine Cb rfl (Aj (by simp only[zo,Ei,zm,yK]<;>exact rfl) rfl rfl ?_);refine Cb rfl (Az (by simp only[zl,zm,zd,Au,List.take,List.drop,yK]<;>exact rfl) rfl ?_);refine Cb rfl (Aj (by simp only[zo,Bf,yK]<;>exact rfl) rfl rfl ?_);refine Cb rfl (Aj (by simp only[zo,yK]<;>exact rfl) rfl rfl ?_);apply Aj (by simp only[zo,yK]<;>exact rfl) rfl rfl;refine D9 rfl rfl (Ce (Af ?_));refine Dw ?_;refine Ak (D8 (Bi rfl (Ai (Ad (xo0 (h:=xo0 (h:=Ac (by simp only[zo];exact wcheck_run (by omega) _ rZ y c) ?_)))))));refine Ag rfl (Aa (Af ?_));refine Ad (Ae rfl (xo2 (h:=?_)));refine Aa (Af ?_);refine Dw ?_;refine Ak (Bi rfl (Ad (xo0 (h:=xo3 (h:=?_)))));obtain⟨T,rfl,hWT,hKT,hlT⟩:=hrT;apply Ac (by simp only[zo];exact hcT);refine Ag rfl (Aa (Af ?_));apply A7;refine⟨_,⟨⟨T.heap,min low T.low⟩,rfl,hWT,(Keep.app _ _).trans hKT,by show min low T.low≤g;omega⟩,?_⟩;refine⟨_,by simp only[F12,resultD,Ba,resD,zg]<;>exact rfl,?_⟩;exact Zw (S:=⟨H,low⟩) (S':=T) _ (by show T.low<H.length;omega) (fun _ _=>rfl)
 refine Cc rfl rfl (Cc rfl rfl (Cc rfl rfl (Cc rfl rfl (Cc rfl rfl (Cc rfl rfl (Cc rfl rfl (Cc rfl rfl (Cc rfl rfl (Cc rfl rfl (Cb rfl (xo6 (h:=xo6 (h:=D9 rfl rfl (Ce ?_))))))))))))));refine Af ?_;apply Be (by simp only[opd,zv]);refine Ak (D8 (Bi rfl (Ai (Ad (xo0 (h:=xo0 (h:=Ac (by simp only[zo];exact wcheck_run (by omega) _ rZ y c) ?_)))))));refine Ag rfl (Aa (Af ?_));refine Ad (Ae rfl (xo2 (h:=?_)));refine Aa (Af ?_);refine Dw ?_;refine Ak (Bi rfl (Ad (xo0 (h:=xo3 (h:=?_)))));obtain⟨T,rfl,hWT,hKT,hlT⟩:=hrT;apply Ac (by simp only[zo];exact hcT);refine Ag rfl (Aa (Af ?_));apply A7;refine⟨_,⟨⟨T.heap,min low T.low⟩,rfl,hWT,(Keep.app _ _).trans hKT,by show min low T.low≤g;omega⟩,?_⟩;refine⟨_,by simp only[F12,resultD,Ba,resD,zg]<;>exact rfl,?_⟩;exact Zw (S:=⟨H,low⟩) (S':=T) _ (by show T.low<H.length;omega) (fun _ _=>rfl)
def endW (w:WM):WM:={ w with ended:=true }
theorem clip_slB{d:Nat}(hd:1≤d)(S:St)(rows:List (List D)):Bd LP NN d 37 [slB true 3 rows none] S=some (Md rows,S,false):=by
 cases rows with
 | nil =>
  obtain⟨d,rfl⟩:∃e,d=e+1:=⟨d-1,by omega⟩;exact fast_ok (clip_nil d S)
 | cons r l=>exact clip_sl hd S (r::l) none
theorem clipR_free(rows:List (List D)):(Md rows).Aad=true:=by cases rows<;>rfl
theorem clipR_snap(rows:List (List D)):∀m H,Aae m H (Md rows)=some (Md rows):=fun m H=>by cases rows<;>rfl
theorem X7{d:Nat}(hd:2≤d){H:List Z9}(low:Nat){g gm gt:Nat}{x:CM}{w:WM}(hW:WS H g gm gt x w)(hl:w.lines.length≤100000):Bd LP NN d 11 [.ptr g 0 0 0] ⟨H,low⟩=some (Md (w.lines.map lnR),⟨H,low⟩,false):=by
 obtain⟨lin,hw,xY⟩:=hW.hw;refine G8 (F:=F11) rfl (by simp only[LP,snapVs,zs,zm]<;>exact rfl) rfl (by simp only[LP,zf,zm];try rfl) (by simp only[F11,zv]<;>exact rfl) (by omega) ?_;rintro d rfl;refine Ad (Aw (Aa (Af ?_)));refine Ai (Ad (Ae rfl (Ac (by simp only[zo];exact Wq (by omega) _ hW) ?_)));refine Aa (Af ?_);refine Dw ?_;refine Ak (Bi rfl (Ad (Ae rfl (xo3 (h:=xo1 (h:=xo1 (h:=Ac (by simp only[zl,zm,zd,Au,List.take,List.drop,hw,wO,wRow]<;>exact rfl) ?_)))))));apply Ac (by simp only[zo];exact oclone_run (by omega) _ xY (by rw[List.length_map];exact hl));apply Ac (by simp only[zo];exact clip_slB (by omega) _ _);refine Ag rfl (Aa (Af ?_));apply A7;refine⟨_,by simp only[F11,resultD,Ba,resD,zg]<;>exact rfl,?_⟩;exact Fv _ _ _ _ (Nat.le_refl _) (clipR_free _) (clipR_snap _)
theorem term_run{d:Nat}(hd:35≤d){H:List Z9}(low:Nat){g gm gt:Nat}{x:CM}{w:WM}{n:Nat}(hW:WS H g gm gt x w)(zQ:w.page≠0→WB w n)(hn:n≤30000)(uD:w.ended=false):∃r,(∃T,r=(.int .i64 0,T,true)∧WS T.heap g gm gt x (endW (H8 x w))∧Keep H T.heap∧T.low≤g)∧Bd LP NN d 17 [.ptr g 0 0 0] ⟨H,low⟩=some r:=by
 obtain⟨lin,hw,xY⟩:=hW.hw;have hgH:=hW.lt;have hwA:∀l,(H++l)[g]?=_:=fun l=>Di hw l;have rZ:=hW.app [⟨28,1,[[.ptr g 0 0 0]],0,0,false⟩];obtain⟨d0,rfl⟩:∃e,d=e+1:=⟨d-1,by omega⟩;obtain⟨rT,hrT,hcT⟩:=try_run (d:=d0) (by omega) H.length rZ (f:=58) (caps:=[.ptr H.length 0 0 0]) (fun _=>rfl) (term_cl (d:=d0-1) (by omega) zQ hn hW.hn (pw:=H.length) (G6 _ _));refine Eu (F:=F17) rfl (by simp only[LP,snapVs,zs,zm]<;>exact rfl) rfl (by simp only[LP,zf,zm];try rfl) (by simp only[F17,zv]<;>exact rfl) (by omega) ?_;intro d he;obtain rfl:=Nat.succ.inj he;refine Ad (Zn (h:=?_));refine Aw (Aa (Af ?_));refine Ai (Aq (Ad (xo0 (h:=Ac (by simp only[zo];exact Wq (by omega) _ rZ) ?_))));refine Ag rfl (Aa (Af ?_));refine Dw ?_;refine Ad (xo0 (h:=xo3 (h:=xo1 (h:=Ac (by simp only[zl,zm,zd,Au,List.take,List.drop,hwA,wO,wRow,uD]<;>exact rfl) ?_))));refine Ag rfl (Aa (Af ?_));refine Dw ?_;refine Ak (D8 (Bi rfl (Ad (xo0 (h:=xo3 (h:=?_))))));obtain⟨T,rfl,hWT,hKT,hlT⟩:=hrT;obtain⟨linT,hwT,hlinT⟩:=hWT.hw;have hpT:=hKT.2 _ _ (G6 H [⟨28,1,[[.ptr g 0 0 0]],0,0,false⟩]) (.inl ⟨rfl,by simp⟩);apply Ac (by simp only[zo];exact hcT);refine Ag rfl (Aa (Af ?_));refine Ad (Ac (by simp only[zl,zm,zd,Au,List.take,List.drop,hpT]<;>exact rfl) ?_);refine Ae rfl (xo2 (h:=xo3 (h:=xo1 (h:=Ac (by simp only[zl,zm,Bg,overlay,zs,zc,zf,List.take,List.drop,wO,wRow,hwT]<;>exact rfl) ?_))));refine Aa (Af ?_);refine Ad (Ae rfl (Ag rfl (Aa (Af ?_))));apply A7;have hWe:=hWT.set (H8 x w).page (H8 x w).line (H8 x w).body (H8 x w).row linT (H8 x w).lines true hlinT;refine⟨_,⟨⟨_,min low (min T.low g)⟩,rfl,hWe,((Keep.app _ _).trans hKT).trans (Keep.set hWT _),by show min low (min T.low g)≤g;omega⟩,?_⟩;refine⟨_,by simp only[F17,resultD,Ba,resD,zg]<;>exact rfl,?_⟩;exact Zw (S:=⟨H,low⟩) (S':=⟨_,min T.low g⟩) _ (by show min T.low g<H.length;omega) (fun _ _=>rfl)
theorem term_again{d:Nat}(hd:3≤d){H:List Z9}(low:Nat){g gm gt:Nat}{x:CM}{w:WM}(hW:WS H g gm gt x w)(uD:w.ended=true):Bd LP NN d 17 [.ptr g 0 0 0] ⟨H,low⟩=some (.int .i64 6,⟨H,low⟩,false):=by
 obtain⟨lin,hw,xY⟩:=hW.hw;have hwA:∀l,(H++l)[g]?=_:=fun l=>Di hw l;have rZ:=hW.app [⟨28,1,[[.ptr g 0 0 0]],0,0,false⟩];refine G8 (F:=F17) rfl (by simp only[LP,snapVs,zs,zm]<;>exact rfl) rfl (by simp only[LP,zf,zm];try rfl) (by simp only[F17,zv]<;>exact rfl) (by omega) ?_;rintro d rfl;refine Ad (Zn (h:=?_));refine Aw (Aa (Af ?_));refine Ai (Aq (Ad (xo0 (h:=Ac (by simp only[zo];exact Wq (by omega) _ rZ) ?_))));refine Ag rfl (Aa (Af ?_));refine Dw ?_;refine Ad (xo0 (h:=xo3 (h:=xo1 (h:=Ac (by simp only[zl,zm,zd,Au,List.take,List.drop,hwA,wO,wRow,uD]<;>exact rfl) ?_))));refine Ag rfl (Aa (Af ?_));refine Ja ?_;refine Ad (Aw (Aa (Af ?_)));refine A7 (bk_r (Nu ?_));refine⟨_,by simp only[F17,resultD,Ba,resD,zg]<;>exact rfl,?_⟩;exact Fv _ _ _ _ (Nat.le_refl _) rfl (fun _ _=>rfl)
theorem N9(a b:List UInt8)(h:a.length+b.length≤100000):pop (.bin .add) [.str (mkS a),.str (mkS b)]=some (.str (mkS (a++b))):=by
 simp only[pop,Bf,Og,D7];rw[if_neg (by rw[show IntKind.i64.max=9223372036854775807 from rfl];omega)]
def Po (a b:RM) (lv:Nat):Bool:=(decide (1≤lv)&&a.A != b.A)||(decide (2≤lv)&&a.B != b.B)
theorem sne(a b:UInt8):(!(mkS [a]).toList==(mkS [b]).toList)=(a != b):=by
 rw[Eb,Eb,bne,Bool.eq_iff_iff];simp
def Zi (l:List RM) (r lv:Nat):Bool:=match l[r]?,l[r+1]? with
 | some a,some b=>Po a b lv
 | _,_=>false
def Nk (l:List RM) (lv:Nat):Nat→Nat
 | 0=>0
 | r+1=>if Zi l r lv then r+1 else Nk l lv r
theorem Zj{d:Nat}(hd:3≤d)(S:St)(x:CM)(a b:RM)(lv:Nat):Bd LP NN d 54 [.agg x.row,.agg a.row,.agg b.row,.int .i64 (lv:Nat)] S=some (.bool (Po a b lv),S,false):=by
 refine rq (F:=F54) rfl (by simp only[LP,snapVs,Bh,zs,zm,CM.row,RM.row]<;>exact rfl) (by simp only[F54,zv]<;>exact rfl) ?_;rintro d rfl;refine Ad (xo8 (h:=xo8 (h:=xo8 (h:=?_))));refine Aw (Aa (Af ?_));refine Ai (Eh ?_);refine Bc rfl rfl (xo28 (h:=D9 rfl rfl ?_));refine I9 0 (by simp only[zv]<;>exact rfl) (by simp only[zn]<;>exact rfl) (by simp only[zn]<;>exact rfl) (fun hg=>?_) (fun hg=>?_)
 ·
  refine Cb rfl (xo7 (h:=?_));refine Cb rfl (Az (by simp only[zo];exact U4 (by omega) _ a) rfl ?_);refine Cb rfl (xo7 (h:=?_));refine Cb rfl (Az (by simp only[zo];exact U4 (by omega) _ b) rfl ?_);refine Cb rfl (Aj (by simp only[zo,Bf,sne]<;>exact rfl) rfl rfl ?_);refine xo6 (h:=D9 rfl rfl ?_);refine I9 0 (by simp only[zv]<;>exact rfl) (by simp only[zn]<;>exact rfl) (by simp only[zn]<;>exact rfl) (fun hgT=>?_) (fun hgT=>?_)
  ·
   refine Cc rfl rfl (Cc rfl rfl (Cc rfl rfl (Et rfl (Et rfl (Et rfl (Et rfl (Et rfl (Cc rfl rfl (xo6 (h:=D9 rfl rfl (Ce ?_)))))))))));refine Af ?_;apply A7;have h1:decide (1≤lv)=true:=by rw[←hg];exact decide_eq_decide.2 (by omega)
   have e:Po a b lv=true:=by simp only[Po,h1,hgT,Bool.true_and,Bool.true_or]
   rw[e];refine⟨_,by simp only[F54,resultD,Ba,resD,zg]<;>exact rfl,?_⟩;rfl
  refine Cb rfl (Bc rfl rfl (Cb rfl (xo28 (h:=?_))));refine Cb rfl (D9 rfl rfl ?_);refine I9 0 (by simp only[zv]<;>exact rfl) (by simp only[zn]<;>exact rfl) (by simp only[zn]<;>exact rfl) (fun hgTF=>?_) (fun hgTF=>?_)
  ·
   refine Cb rfl (xo7 (h:=?_));refine Cb rfl (Az (by simp only[zo];exact Qa (by omega) _ a) rfl ?_);refine Cb rfl (xo7 (h:=?_));refine Cb rfl (Az (by simp only[zo];exact Qa (by omega) _ b) rfl ?_);refine Cb rfl (Aj (by simp only[zo,Bf,sne]<;>exact rfl) rfl rfl ?_);refine Cb rfl (xo6 (h:=xo6 (h:=D9 rfl rfl (Ce ?_))));refine Af ?_;apply A7;have h1:decide (1≤lv)=true:=by rw[←hg];exact decide_eq_decide.2 (by omega)
   have h2:decide (2≤lv)=true:=by rw[←hgTF];exact decide_eq_decide.2 (by omega)
   have e:Po a b lv=(a.B != b.B):=by simp only[Po,h1,h2,hgT,Bool.true_and,Bool.false_or]
   rw[e];refine⟨_,by simp only[F54,resultD,Ba,resD,zg]<;>exact rfl,?_⟩;rfl
  refine Cc rfl rfl (Cc rfl rfl (Cc rfl rfl (Cc rfl rfl (Cc rfl rfl (Cb rfl (xo6 (h:=xo6 (h:=D9 rfl rfl (Ce ?_)))))))));refine Af ?_;apply A7;have h1:decide (1≤lv)=true:=by rw[←hg];exact decide_eq_decide.2 (by omega)
  have h2:decide (2≤lv)=false:=by rw[←hgTF];exact decide_eq_decide.2 (by omega)
  have e:Po a b lv=false:=by simp only[Po,h1,h2,hgT,Bool.true_and,Bool.false_and,Bool.or_false]
  rw[e];refine⟨_,by simp only[F54,resultD,Ba,resD,zg]<;>exact rfl,?_⟩;rfl
 refine Cc rfl rfl (Cc rfl rfl (Cc rfl rfl (Cc rfl rfl (Cc rfl rfl (xo6 (h:=D9 rfl rfl (Cb rfl ?_)))))));refine Bc rfl rfl (Cb rfl (xo28 (h:=?_)));refine Cb rfl (D9 rfl rfl ?_);refine I9 0 (by simp only[zv]<;>exact rfl) (by simp only[zn]<;>exact rfl) (by simp only[zn]<;>exact rfl) (fun hgF=>?_) (fun hgF=>?_)
 ·
  refine Cb rfl (xo7 (h:=?_));refine Cb rfl (Az (by simp only[zo];exact Qa (by omega) _ a) rfl ?_);refine Cb rfl (xo7 (h:=?_));refine Cb rfl (Az (by simp only[zo];exact Qa (by omega) _ b) rfl ?_);refine Cb rfl (Aj (by simp only[zo,Bf,sne]<;>exact rfl) rfl rfl ?_);refine Cb rfl (xo6 (h:=xo6 (h:=D9 rfl rfl (Ce ?_))));refine Af ?_;apply A7;have h1:decide (1≤lv)=false:=by rw[←hg];exact decide_eq_decide.2 (by omega)
  have h2:decide (2≤lv)=true:=by rw[←hgF];exact decide_eq_decide.2 (by omega)
  have e:Po a b lv=(a.B != b.B):=by simp only[Po,h1,h2,Bool.true_and,Bool.false_and,Bool.false_or]
  rw[e];refine⟨_,by simp only[F54,resultD,Ba,resD,zg]<;>exact rfl,?_⟩;rfl
 refine Cc rfl rfl (Cc rfl rfl (Cc rfl rfl (Cc rfl rfl (Cc rfl rfl (Cb rfl (xo6 (h:=xo6 (h:=D9 rfl rfl (Ce ?_)))))))));refine Af ?_;apply A7;have h1:decide (1≤lv)=false:=by rw[←hg];exact decide_eq_decide.2 (by omega)
 have h2:decide (2≤lv)=false:=by rw[←hgF];exact decide_eq_decide.2 (by omega)
 have e:Po a b lv=false:=by simp only[Po,h1,h2,Bool.false_and,Bool.or_false]
 rw[e];refine⟨_,by simp only[F54,resultD,Ba,resD,zg]<;>exact rfl,?_⟩;rfl
theorem RM.row_len(y:RM):y.row.length=4:=rfl
theorem part4{r:List D}(h:r.length=4):Au r 0 4 true=some (.agg r):=by
 simp only[Au,if_true,h,Nat.zero_add,Nat.le_refl,List.drop_zero];rw[←h,List.take_length]
theorem begin_run{d:Nat}(hd:4≤d)(S:St)(x:CM)(l:List RM)(c:Option Nat)(r0 lv:Nat)(hl:l.length≤1000)(uK:r0<l.length):Bd LP NN d 23 [.agg x.row,.sl 4 (l.map RM.row) c,.int .i64 (r0:Nat),.int .i64 (lv:Nat)] S=some (.int .i64 (Nk l (min lv x.ctl) r0:Nat),S,false):=by
 refine rq (F:=F23) rfl (by simp only[LP,snapVs,Bh,zs,zm,CM.row]<;>exact rfl) (by simp only[F23,zv]<;>exact rfl) ?_;rintro d rfl;refine Ad (xo8 (h:=?_));refine Aw (Aa (Af ?_));refine Ai (Aq (D5 (fun n env S'=>∃(r:Nat) (u5 u6:D),r≤r0∧Nk l (min lv x.ctl) r=Nk l (min lv x.ctl) r0∧n=r∧S'=⟨[],0⟩∧env=[.agg x.row,.sl 4 (l.map RM.row) c,.int .i64 (r:Nat),.int .i64 (lv:Nat),.cptr x.row 0,u5,u6]) (r0) (by omega) (⟨r0,_,_,Nat.le_refl _,rfl,by omega,rfl,rfl⟩) ?_));rintro n env S' ⟨r,u5,u6,hr,he,hnA,rfl,rfl⟩;refine Ai (Ai (Eh ?_));refine Bc rfl rfl (Aj (by simp only[zo,Bf,CM.row]<;>exact rfl) rfl rfl ?_);apply D9 rfl rfl;refine I9 0 (by simp only[zv]<;>exact rfl) (by simp only[zn]<;>exact rfl) (by simp only[zn]<;>exact rfl) (fun hgA=>?_) (fun hgA=>?_)
 ·
  obtain⟨r1,rfl⟩:∃r1,r=r1+1:=⟨r-1,by have:=of_decide_eq_true hgA;omega⟩;have h1:r1<l.length:=by omega
  have h2:r1+1<l.length:=by omega
  have zT:IntKind.i64.wrap (((r1+1:Nat):Int)-1)=((r1:Nat):Int):=by rw[IntKind.wrap_i64]<;>omega
  have hl1:(l.map RM.row)[r1]?=some l[r1].row:=by rw[Lp_,Lg h1];rfl
  have zF:(l.map RM.row)[r1+1]?=some l[r1+1].row:=by rw[Lp_,Lg h2];rfl
  have hr0':=l[r1].row_len;have zi:((0:Int)≤((r1:Nat):Int))=True:=eq_true (by omega);have uz:((0:Int)≤((r1+1:Nat):Int))=True:=eq_true (by omega);have hp1:=part4 l[r1].row_len;have hp2:=part4 l[r1+1].row_len;have hmin:(if ((x.ctl:Nat):Int)<((lv:Nat):Int) then ((x.ctl:Nat):Int) else ((lv:Nat):Int))=((min lv x.ctl:Nat):Int):=by split<;>omega
  have hca:Zi l r1 (min lv x.ctl)=Po l[r1] l[r1+1] (min lv x.ctl):=by simp[Zi,h1,h2]
  have xq:=aI zT (aI hl1 (aI zF (aI zi (aI uz (hmin)))));refine Cb rfl (xo59 (h:=?_));refine Cb rfl (Bc rfl rfl (Cb rfl (Bc rfl rfl (Cb rfl (Aj (by simp only[zo,Bf,CM.row,xq]<;>exact rfl) rfl rfl ?_)))));refine Cb rfl (Az (by simp only[zl,zm,Df,Int.toNat_natCast,CM.row,xq]<;>exact rfl) rfl ?_);refine Cb rfl (Az (by simp only[zl,zm,zd,hp1]<;>exact rfl) rfl ?_);refine Cb rfl (Bc rfl rfl (Cb rfl (Bc rfl rfl (Cb rfl (Az (by simp only[zl,zm,Df,Int.toNat_natCast,CM.row,xq]<;>exact rfl) rfl ?_)))));refine Cb rfl (Az (by simp only[zl,zm,zd,hp2]<;>exact rfl) rfl ?_);refine Cb rfl (Bc rfl rfl (Cb rfl (xo59 (h:=?_))));refine Cb rfl (Az (by simp only[zo,CM.row];exact L8 (by omega) _ x) rfl ?_);refine Cb rfl (Aj (by simp only[zo,Jm,minD,CM.row,xq]<;>exact rfl) rfl rfl ?_);refine Cb rfl (Az (by simp only[zo,CM.row];exact Zj (by omega) _ x _ _ _) rfl ?_);refine Cb rfl (Aj (by simp only[zo,unD,CM.row]<;>exact rfl) rfl rfl ?_);apply Aj (by simp only[zo,CM.row]<;>exact rfl) rfl rfl;refine Ce (Af ?_);refine Bj (by simp only[opd,zv,CM.row]<;>exact rfl) (fun xK=>?_) (fun xK=>?_)
  ·
   have uD:Nk l (min lv x.ctl) r1=Nk l (min lv x.ctl) r0:=by
    rw[←he,Nk,if_neg];rw[hca];simpa using xK
   refine Ak (Bi rfl (Aq (Am (Ae rfl (Ac (by simp only[zo,Bf,CM.row,xq]<;>exact rfl) ?_)))));refine Ag rfl (Aa (D8 (Gh (by simp only[ze]<;>exact rfl) ?_)));exact⟨r1,by omega,r1,_,_,by omega,uD,rfl,rfl,rfl⟩
  have uD:r1+1=Nk l (min lv x.ctl) r0:=by
   rw[←he,Nk,if_pos];rw[hca];simpa using xK
  refine Dh (Gj (Hu (Gl (Bi rfl (Ad (Ae rfl (Ag rfl (Aa (Af ?_)))))))));apply A7;rw[←uD];refine⟨_,by simp only[F23,resultD,Ba,resD,zg]<;>exact rfl,?_⟩;rfl
 have uD:r=Nk l (min lv x.ctl) r0:=by
  have h0:r=0:=by have:=of_decide_eq_false hgA;omega
  rw[←he,h0];rfl
 refine Cc rfl rfl (Cc rfl rfl (Cc rfl rfl (Cc rfl rfl (Cc rfl rfl (Cc rfl rfl (Cc rfl rfl (Cc rfl rfl (Cc rfl rfl (Cc rfl rfl (Cc rfl rfl (Cc rfl rfl (Cc rfl rfl (Cc rfl rfl (Cc rfl rfl (Cc rfl rfl (Aj (by simp only[zo,CM.row]<;>exact rfl) rfl rfl ?_))))))))))))))));refine Ce (Af ?_);apply Be (by simp only[opd,zv,CM.row]);refine Dh (Gj (Hu (Gl (Bi rfl (Ad (Ae rfl (Ag rfl (Aa (Af ?_)))))))));apply A7;rw[←uD];refine⟨_,by simp only[F23,resultD,Ba,resD,zg]<;>exact rfl,?_⟩;rfl
structure VM where
 page:Nat
 line:Nat
 body:Bool
 lines:List (Nat × Nat × List UInt8)
def Jc (x:CM) (pg ln:D) (bo:Bool) (lin:D):List D:=[.int .u8 (x.co:Nat),.int .u16 (x.gr:Nat),.int .u8 (x.bl:Nat),.int .u8 (x.np:Nat),.int .u8 (x.p0:Nat),.int .u8 (x.p1:Nat),.int .u8 (x.p2:Nat),pg,ln,.bool bo,lin]
def vO (x:CM) (pg ln:D) (bo:Bool) (lin:D):Z9:=⟨107,11,[Jc x pg ln bo lin],0,0,false⟩
def VS (H:List Z9) (g:Nat) (x:CM) (v:VM):Prop:=∃lin,H[g]?=some (vO x (.int .i64 (v.page:Nat)) (.int .i64 (v.line:Nat)) v.body lin)∧LinAt H lin (v.lines.map lnR)
def KeepV (H H':List Z9):Prop:=H.length≤H'.length∧∀(j:Nat) (o:Z9),H[j]?=some o→o.kind=0∧o.elem≠107→H'[j]?=some o
theorem KeepV.refl(H:List Z9):KeepV H H:=⟨Nat.le_refl _,fun _ _ h _=>h⟩
theorem KeepV.trans{H H' H'':List Z9}(h:KeepV H H')(h':KeepV H' H''):KeepV H H'':=⟨Nat.le_trans h.1 h'.1,fun j o h1 h2=>h'.2 j o (h.2 j o h1 h2) h2⟩
theorem KeepV.app(H l:List Z9):KeepV H (H++l):=⟨by simp,fun j o h _=>Di h l⟩
theorem VS.lt{H:List Z9}{g:Nat}{x:CM}{v:VM}(h:VS H g x v):g<H.length:=by
 obtain⟨lin,hw,_⟩:=h;exact Ha hw
theorem VS.app{H:List Z9}{g:Nat}{x:CM}{v:VM}(h:VS H g x v)(l:List Z9):VS (H++l) g x v:=by
 obtain⟨lin,hw,hl⟩:=h;exact⟨lin,Di hw l,hl.keep fun j o hj _=>Di hj l⟩
theorem VS.set{H:List Z9}{g:Nat}{x:CM}{v:VM}(h:VS H g x v)(pg ln:Nat)(bo:Bool)(lin:D)(lines:List (Nat × Nat × List UInt8))(hl:LinAt H lin (lines.map lnR)):VS (H.set g (vO x (.int .i64 (pg:Nat)) (.int .i64 (ln:Nat)) bo lin)) g x ⟨pg,ln,bo,lines⟩:=by
 obtain⟨lin0,hw,_⟩:=h;refine⟨lin,A8 hw _,hl.keep fun j o hj he=>Bv hj (fun e=>?_) _⟩;subst e;rw[hw]at hj;obtain rfl:=Option.some.inj hj;simp[vO]at he
theorem KeepV.set{H:List Z9}{g:Nat}{x:CM}{v:VM}(h:VS H g x v)(o':Z9):KeepV H (H.set g o'):=by
 obtain⟨lin0,hw,_⟩:=h;refine⟨by simp,fun j o hj hk=>Bv hj (fun e=>?_) _⟩;subst e;rw[hw]at hj;obtain rfl:=Option.some.inj hj;simp[vO]at hk
structure VE (S T:St) (g:Nat) (x:CM) (v v':VM):Prop where
 ws:VS T.heap g x v'
 kp:KeepV S.heap T.heap
 lo:T.low≤g∨v'=v
 lm:T.low≤S.low
theorem Lc{S S':St}{g:Nat}{x:CM}{v v':VM}(hW:VS S.heap g x v)(hW':VS S'.heap g x v')(hk:KeepV S.heap S'.heap)(xU:S'.low≤g∨v'=v):∃r,(∃T wr,r=(.tup [],T,wr)∧VE S T g x v v')∧leave false S (.tup []) S'=some r:=by
 have hg:=hW.lt;by_cases h:S.heap.length≤S'.low
 ·
  obtain rfl:v'=v:=by
   rcases xU with h1 | h1
   ·
    omega
   exact h1
  exact⟨(.tup [],S,false),⟨S,false,rfl,hW,KeepV.refl _,.inr rfl,Nat.le_refl _⟩,by simp[leave,h,Np,D.Aad,snapVs]⟩
 refine⟨(.tup [],⟨S'.heap,min S.low S'.low⟩,true),⟨_,_,rfl,hW',hk,?_,Nat.min_le_left _ _⟩,by simp[leave,h,Np,snapVs]⟩;rcases xU with h1 | h1
 ·
  exact .inl (Nat.le_trans (Nat.min_le_right _ _) h1)
 exact .inr h1
def VF (d f:Nat) (args:List D) (g:Nat) (x:CM) (v v':VM):Prop:=∀(H:List Z9) (low:Nat),VS H g x v→∃r,(∃T wr,r=(.tup [],T,wr)∧VE ⟨H,low⟩ T g x v v')∧Bd LP NN d f (.ptr g 0 0 0::args) ⟨H,low⟩=some r
theorem VF.go{d f:Nat}{args:List D}{g:Nat}{x:CM}{v v':VM}(h:VF d f args g x v v'){H:List Z9}(low:Nat)(hW:VS H g x v):∃H' lo' wr,Bd LP NN d f (.ptr g 0 0 0::args) ⟨H,low⟩=some (.tup [],⟨H',lo'⟩,wr)∧VS H' g x v'∧KeepV H H'∧(lo'≤g∨v'=v)∧lo'≤low:=by
 obtain⟨r,⟨T,wr,rfl,h1⟩,h2⟩:=h H low hW;exact⟨T.heap,T.low,wr,h2,h1.ws,h1.kp,h1.lo,h1.lm⟩
def VM.put (v:VM) (p:Nat) (s:List UInt8):VM:={ v with line:=v.line+p,lines:=v.lines++[(v.page,v.line+p,s)] }
theorem VS.put{K H':List Z9}{g:Nat}{x:CM}{v:VM}(h:VS K g x v){o:Z9}(ho:o.kind=0∧o.elem=107)(xO:(K.set g o).length≤H'.length)(hf:∀(j:Nat) (o':Z9),(K.set g o)[j]?=some o'→(o'.kind=0∨o'.elem≠52)→H'[j]?=some o'){g' v':Nat}(p:Nat)(s:List UInt8)(hg':H'[g']?=some ⟨52,3,v.lines.map lnR++[lnR (v.page,v.line+p,s)],v',1,true⟩) :
  VS (H'.set g (vO x (.int .i64 (v.page:Nat)) (.int .i64 (v.line+p:Nat)) v.body (.msl g' v' 0 (v.lines.length+1) none))) g x (v.put p s)∧KeepV K (H'.set g (vO x (.int .i64 (v.page:Nat)) (.int .i64 (v.line+p:Nat)) v.body (.msl g' v' 0 (v.lines.length+1) none))):=by
 obtain⟨lin0,hw,_⟩:=h;have hg:H'[g]?=some o:=hf g o (A8 hw _) (.inl ho.1)
 have kD:g≠g':=fun e=>by
  subst e;have:=hg.symm.trans hg';obtain rfl:=Option.some.inj this;simp at ho
 refine⟨⟨_,A8 hg _,.inr ⟨by simp[VM.put],.inr ⟨g',v',by simp[VM.put],?_⟩⟩⟩,?_,fun j o' hj hk=>?_⟩
 ·
  rw[Ln_ kD,hg'];simp[VM.put]
 ·
  simpa using xO
 have hj2:j≠g:=fun e=>by
  subst e;rw[hw]at hj;obtain rfl:=Option.some.inj hj;simp[vO]at hk
 rw[Ln_ (Ne.symm hj2)];exact hf j o' (by rw[Ln_ (Ne.symm hj2)];exact hj) (.inl hk.1)
theorem Uy{d:Nat}(hd:1≤d){g:Nat}{x:CM}{v:VM}(hn:v.lines.length≤65000)(hl:v.line≤100000000)(p:Nat)(hp:p≤1000)(s:List UInt8):VF d 51 [.int .i64 (p:Nat),.str (mkS s)] g x v (v.put p s):=by
 intro H low hW;obtain⟨lin,hw,xY⟩:=id hW;have hgH:=hW.lt;have uq:∀o,(H.set g o)[g]?=some o:=fun o=>A8 hw o;have hwp:IntKind.i64.wrap (((v.line:Nat):Int)+((p:Nat):Int))=((v.line+p:Nat):Int):=by rw[IntKind.wrap_i64]<;>omega
 obtain⟨g',v',H',lo',hap,hg',hl',yU,hf'⟩:=lin_app (H:=H.set g (vO x (.int .i64 (v.page:Nat)) (.int .i64 (v.line+p:Nat)) v.body lin)) (xY.keep fun j o h1 h2=>Bv h1 (fun e=>by subst e;rw[hw]at h1;obtain rfl:=Option.some.inj h1;simp[vO]at h2) _) (by rw[List.length_map];omega) [.int .i64 (v.page:Nat),.int .i64 (v.line+p:Nat),.str (mkS s)] (some 1) (min H.length g);rw[List.length_map]at hap;have hHg:=hf' g _ (uq _) (.inl rfl);obtain⟨hWN,hKN⟩:=hW.put (o:=_) ⟨rfl,rfl⟩ hl' hf' p s hg';obtain⟨d0,rfl⟩:∃e,d=e+1:=⟨d-1,by omega⟩;refine Eu (F:=F51) rfl (by simp only[LP,snapVs,zs,zm]<;>exact rfl) rfl (by simp only[LP,zf,zm];try rfl) (by simp only[F51,zv]<;>exact rfl) (by omega) ?_;intro d he;obtain rfl:=Nat.succ.inj he;have xq:=aI hw (aI uq (aI hwp (hHg)));refine Ad (Ae rfl (xo3 (h:=xo1 (h:=Ac (by simp only[zl,zm,zd,Au,List.take,List.drop,vO,Jc,xq]<;>exact rfl) ?_))));refine Ae rfl (Xr (h:=xo3 (h:=xo1 (h:=Ac (by simp only[zl,zm,Bg,overlay,zs,zc,zf,List.take,List.drop,vO,Jc,xq]<;>exact rfl) ?_))));refine Aa (Af ?_);refine Eh ?_;refine Bc rfl rfl (Bc rfl rfl (xo6 (h:=xo4 (h:=xo36 (h:=Bc rfl rfl ?_)))));refine xo6 (h:=xo4 (h:=xo36 (h:=Bc rfl rfl ?_)));refine xo6 (h:=xo4 (h:=xo36 (h:=Bc rfl rfl ?_)));refine xo51 (h:=Az (by simp only[zl,zm,C9,List.replicate,snapVs,Bh,zs,zc,zf]<;>exact rfl) rfl ?_);apply Dc (by simp only[opd,zv,Ar,aop,LOp.loud,lop,if_true];exact hap) (by simp only[fpHere,zo,zq];exact fpApp_eta _ _ _ _) (okHere_nil rfl);refine xo6 (h:=xo4 (h:=Az (by simp only[zl,zm,Bg,overlay,zs,zc,zf,List.take,List.drop,vO,Jc,xq]<;>exact rfl) rfl ?_));apply Ce;simp only[ze];obtain⟨r,yG,xR⟩:=Lc (S:=⟨H,low⟩) (S':=⟨_,min lo' g⟩) hW hWN hKN (.inl (Nat.min_le_right _ _));refine⟨r,yG,?_⟩;refine⟨_,by simp only[F51,resultD,Ba]<;>exact rfl,?_⟩;exact xR
def VM.top (x:CM) (v:VM):VM:=if x.paged&&x.has 1 then v.put 1 ([80,32]++Bl v.page 2) else v
def VM.bot (x:CM) (v:VM):VM:=if x.has 8 then ({ v with line:=x.last }:VM).put 2 ([66,32]++Bl v.page 2) else { v with line:=x.last }
def VM.brk (x:CM) (v:VM) (h:Nat) (fresh:Bool):Bool:=v.body&&(fresh||decide (x.last<max v.line (x.first-1)+h))
def VM.newp (x:CM) (v:VM):VM:=VM.top x { VM.bot x v with page:=(VM.bot x v).page+1,line:=0 }
def VM.room (x:CM) (v:VM) (h:Nat) (fresh:Bool):VM:=if x.paged then (if v.brk x h fresh then { VM.newp x v with line:=max (VM.newp x v).line (x.first-1),body:=true } else { v with line:=max v.line (x.first-1),body:=true }) else v
structure VB (v:VM) (n:Nat):Prop where
 page:v.page≤n
 line:v.line≤n
 lines:v.lines.length≤n
theorem VB.mono{v:VM}{n n':Nat}(h:VB v n)(hn:n≤n'):VB v n':=⟨by have:=h.page;omega,by have:=h.line;omega,by have:=h.lines;omega⟩
theorem VB.put{v:VM}{n:Nat}(h:VB v n)(p:Nat)(hp:p≤2)(s:List UInt8):VB (v.put p s) (n+2):=⟨by have:=h.page;show v.page≤_;omega,by have:=h.line;show v.line+p≤_;omega,by have:=h.lines;simp[VM.put];omega⟩
theorem VB.top{v:VM}{n:Nat}(h:VB v n)(x:CM):VB (VM.top x v) (n+2):=by
 unfold VM.top;split
 ·
  exact h.put 1 (by omega) _
 exact h.mono (by omega)
theorem CM.last_le(x:CM):x.last≤12∧3≤x.first∧x.first≤5∧x.first+3≤x.last:=by
 have h1:x.p1 % 3<3:=Nat.mod_lt _ (by decide);have h2:x.p2 % 4<4:=Nat.mod_lt _ (by decide)
 unfold CM.last CM.first
 omega
theorem VB.bot{v:VM}{n:Nat}(h:VB v n)(x:CM)(hn:12≤n):VB (VM.bot x v) (n+2):=by
 have h0:=x.last_le;have h1:VB ({ v with line:=x.last }:VM) n:=⟨h.page,by show x.last≤n;omega,h.lines⟩;unfold VM.bot;split
 ·
  exact h1.put 2 (by omega) _
 exact h1.mono (by omega)
theorem VB.newp{v:VM}{n:Nat}(h:VB v n)(x:CM)(hn:12≤n):VB ({ VM.bot x v with page:=(VM.bot x v).page+1,line:=0 }:VM) (n+3)∧VB (VM.newp x v) (n+5):=by
 have h1:=h.bot x hn;have h2:VB ({ VM.bot x v with page:=(VM.bot x v).page+1,line:=0 }:VM) (n+3):=⟨by have:=h1.page;show (VM.bot x v).page+1≤_;omega,Nat.zero_le _,by have:=h1.lines;show (VM.bot x v).lines.length≤_;omega⟩;exact⟨h2,h2.top x⟩
theorem VB.room{v:VM}{n:Nat}(hv:VB v n)(x:CM)(hn:12≤n)(h:Nat)(f:Bool):VB (v.room x h f) (n+5):=by
 have h0:=x.last_le;unfold VM.room;split
 ·
  split
  ·
   have h1:=(hv.newp x hn).2;exact⟨h1.page,by have:=h1.line;show max (VM.newp x v).line (x.first-1)≤_;omega,h1.lines⟩
  exact⟨by have:=hv.page;show v.page≤_;omega,by have:=hv.line;show max v.line (x.first-1)≤_;omega,by have:=hv.lines;show v.lines.length≤_;omega⟩
 exact hv.mono (by omega)
theorem top_v{d:Nat}(hd:4≤d){g:Nat}{x:CM}{v:VM}{n:Nat}(hB:VB v n)(hn:n≤60000):VF d 52 [] g x v (VM.top x v):=by
 intro H low hW;obtain⟨lin,hw,xY⟩:=id hW;have hgH:=hW.lt;have kN:=x.last_le;have uq:∀o,(H.set g o)[g]?=some o:=fun o=>A8 hw o;obtain⟨d0,rfl⟩:∃e,d=e+1:=⟨d-1,by omega⟩;refine Eu (F:=F52) rfl (by simp only[LP,snapVs,zs,zm]<;>exact rfl) rfl (by simp only[LP,zf,zm];try rfl) (by simp only[F52,zv]<;>exact rfl) (by omega) ?_;intro d he;obtain rfl:=Nat.succ.inj he;refine Ad (Ae rfl (xo3 (h:=xo1 (h:=Ac (by simp only[zl,zm,zd,Au,List.take,List.drop,hw,vO,Jc]<;>exact rfl) ?_))));apply Ac (by simp only[zo];exact L6 (by omega) _ x);apply Ag rfl;refine G9 0 (by simp only[zv]<;>exact rfl) (by simp only[zn]<;>exact rfl) (by simp only[zn]<;>exact rfl) (fun hg=>?_) (fun hg=>?_)
 ·
  refine Ap rfl (Ae rfl (Ap rfl (xo3 (h:=?_))));refine Ap rfl (xo1 (h:=?_));refine Ap rfl (Ac (by simp only[zl,zm,zd,Au,List.take,List.drop,hw,vO,Jc]<;>exact rfl) ?_);refine Ap rfl (Ac (by simp only[zo];exact Jb (by omega) _ x 1 (by omega)) ?_);refine xo3 (h:=?_);refine Aa (Af ?_);refine Bj (by simp only[opd,zv]<;>exact rfl) (fun hcT=>?_) (fun hcT=>?_)
  ·
   refine Am (Ae rfl (Ae rfl (xo3 (h:=xo1 (h:=Ac (by simp only[zl,zm,zd,Au,List.take,List.drop,hw,vO,Jc]<;>exact rfl) ?_)))));apply Ac (by simp only[zo];exact I8 (by omega) _ v.page 2 (by have:=hB.page;omega) (by omega));apply Ac (by simp only[opd,zv,Ar,aop,LOp.loud,if_false,Bool.false_eq_true];exact congrArg (Option.map fun r=>(r,_,false)) (N9 [80,32] (Bl v.page 2) (by simp[Bz])));obtain⟨H51,lo51,wr51,zJ,zM,wM,zh,wZ⟩:=(Uy (d:=d0) (by omega) (x:=x) (v:=v) (g:=g) (by have:=hB.lines;omega) (by have:=hB.line;omega) 1 (by omega) ([80,32]++Bl v.page 2)).go H.length hW;apply Ac (by simp only[zo];exact zJ);apply Aa;simp only[ze];have e:VM.top x v=v.put 1 ([80,32]++Bl v.page 2):=by unfold VM.top;rw[if_pos];simp only[hg,hcT,Bool.and_self]
   rw[e];obtain⟨r,yG,xR⟩:=Lc (S:=⟨H,low⟩) (S':=⟨H51,lo51⟩) hW zM wM zh;refine⟨r,yG,?_⟩;refine⟨_,by simp only[F52,resultD,Ba]<;>exact rfl,?_⟩;exact xR
  apply Ak;have e:VM.top x v=v:=by unfold VM.top;rw[if_neg];simp[hg,hcT]
  rw[e];obtain⟨r,yG,xR⟩:=Lc (S:=⟨H,low⟩) (S':=⟨H,H.length⟩) hW hW (KeepV.refl _) (.inr rfl);refine⟨r,yG,?_⟩;refine⟨_,by simp only[F52,resultD,Ba]<;>exact rfl,?_⟩;exact xR
 refine Cm rfl rfl (Cm rfl rfl (Cm rfl rfl (Cm rfl rfl (Cm rfl rfl (xo3 (h:=?_))))));refine Aa (Af ?_);apply Be (by simp only[opd,zv]);apply Ak;have e:VM.top x v=v:=by unfold VM.top;rw[if_neg];simp[hg]
 rw[e];obtain⟨r,yG,xR⟩:=Lc (S:=⟨H,low⟩) (S':=⟨H,H.length⟩) hW hW (KeepV.refl _) (.inr rfl);refine⟨r,yG,?_⟩;refine⟨_,by simp only[F52,resultD,Ba]<;>exact rfl,?_⟩;exact xR
theorem bot_v{d:Nat}(hd:4≤d){g:Nat}{x:CM}{v:VM}{n:Nat}(hB:VB v n)(hn:n≤60000):VF d 57 [] g x v (VM.bot x v):=by
 intro H low hW;obtain⟨lin,hw,xY⟩:=id hW;have hgH:=hW.lt;have kN:=x.last_le;have uq:∀o,(H.set g o)[g]?=some o:=fun o=>A8 hw o;obtain⟨d0,rfl⟩:∃e,d=e+1:=⟨d-1,by omega⟩;have zB:=hW.set v.page x.last v.body lin v.lines xY;refine Eu (F:=F57) rfl (by simp only[LP,snapVs,zs,zm]<;>exact rfl) rfl (by simp only[LP,zf,zm];try rfl) (by simp only[F57,zv]<;>exact rfl) (by omega) ?_;intro d he;obtain rfl:=Nat.succ.inj he;refine Ad (Ae rfl (Ae rfl (xo3 (h:=xo1 (h:=Ac (by simp only[zl,zm,zd,Au,List.take,List.drop,hw,vO,Jc]<;>exact rfl) ?_)))));apply Ac (by simp only[zo];exact Um (by omega) _ x);refine xo3 (h:=xo1 (h:=Ac (by simp only[zl,zm,Bg,overlay,zs,zc,zf,List.take,List.drop,hw,vO,Jc]<;>exact rfl) ?_));refine Aa (Af ?_);refine Ad (Ae rfl (xo3 (h:=xo1 (h:=Ac (by simp only[zl,zm,zd,Au,List.take,List.drop,uq]<;>exact rfl) ?_))));apply Ac (by simp only[zo];exact Jb (by omega) _ x 8 (by omega));refine Aa (Af ?_);refine Bj (by simp only[opd,zv]<;>exact rfl) (fun hc=>?_) (fun hc=>?_)
 ·
  refine Am (Ae rfl (Ae rfl (xo3 (h:=xo1 (h:=Ac (by simp only[zl,zm,zd,Au,List.take,List.drop,uq]<;>exact rfl) ?_)))));apply Ac (by simp only[zo];exact I8 (by omega) _ v.page 2 (by have:=hB.page;omega) (by omega));apply Ac (by simp only[opd,zv,Ar,aop,LOp.loud,if_false,Bool.false_eq_true];exact congrArg (Option.map fun r=>(r,_,false)) (N9 [66,32] (Bl v.page 2) (by simp[Bz])));obtain⟨H51,lo51,wr51,zJ,zM,wM,zh,wZ⟩:=(Uy (d:=d0) (by omega) (x:=x) (v:={ v with line:=x.last }) (g:=g) (by have:=hB.lines;show v.lines.length≤_;omega) (by show x.last≤_;omega) 2 (by omega) ([66,32]++Bl v.page 2)).go (min H.length g) zB;apply Ac (by simp only[zo];exact zJ);apply Aa;simp only[ze];have e:VM.bot x v=({ v with line:=x.last }:VM).put 2 ([66,32]++Bl v.page 2):=by unfold VM.bot;rw[if_pos hc]
  rw[e];obtain⟨r,yG,xR⟩:=Lc (S:=⟨H,low⟩) (S':=⟨H51,lo51⟩) hW zM ((KeepV.set hW _).trans wM) (.inl (by show lo51≤g;omega));refine⟨r,yG,?_⟩;refine⟨_,by simp only[F57,resultD,Ba]<;>exact rfl,?_⟩;exact xR
 apply Ak;have e:VM.bot x v={ v with line:=x.last }:=by unfold VM.bot;rw[if_neg (by rw[hc];decide)]
 rw[e];obtain⟨r,yG,xR⟩:=Lc (S:=⟨H,low⟩) (S':=⟨_,min H.length g⟩) hW zB (KeepV.set hW _) (.inl (Nat.min_le_right _ _));refine⟨r,yG,?_⟩;refine⟨_,by simp only[F57,resultD,Ba]<;>exact rfl,?_⟩;exact xR
theorem Xz{d:Nat}(hd:6≤d){g:Nat}{x:CM}{v:VM}{n:Nat}(hB:VB v n)(ku:12≤n)(hn:n≤50000)(h:Nat)(hh:h≤10)(fr:Bool):VF d 56 [.int .i64 (h:Nat),.bool fr] g x v (v.room x h fr):=by
 intro H low hW;obtain⟨lin,hw,xY⟩:=id hW;have hgH:=hW.lt;have kN:=x.last_le;have uq:∀o,(H.set g o)[g]?=some o:=fun o=>A8 hw o;obtain⟨d0,rfl⟩:∃e,d=e+1:=⟨d-1,by omega⟩;refine Eu (F:=F56) rfl (by simp only[LP,snapVs,zs,zm]<;>exact rfl) rfl (by simp only[LP,zf,zm];try rfl) (by simp only[F56,zv]<;>exact rfl) (by omega) ?_;intro d he;obtain rfl:=Nat.succ.inj he;refine Ai (Ad (Ae rfl (xo3 (h:=xo1 (h:=Ac (by simp only[zl,zm,zd,Au,List.take,List.drop,hw,vO,Jc]<;>exact rfl) ?_)))));apply Ac (by simp only[zo];exact L6 (by omega) _ x);refine Zo (h:=?_);refine Aa (Af ?_);refine Bj (by simp only[opd,zv]<;>exact rfl) (fun hc=>?_) (fun hc=>?_)
 ·
  have hp:x.paged=false:=by simpa using hc
  have e:v.room x h fr=v:=by unfold VM.room;rw[hp];rfl
  rw[e];refine A7 (Nu ?_);obtain⟨r,yG,xR⟩:=Lc (S:=⟨H,low⟩) (S':=⟨H,H.length⟩) hW hW (KeepV.refl _) (.inr rfl);refine⟨r,yG,?_⟩;refine⟨_,by simp only[F56,resultD,Ba]<;>exact rfl,?_⟩;exact xR
 have hp:x.paged=true:=by simpa using hc
 have hwF:IntKind.i64.wrap (((x.first:Nat):Int)-1)=((x.first-1:Nat):Int):=by rw[IntKind.wrap_i64]<;>omega
 have hvl:=hB.line;have hmax:(if (((x.first-1:Nat):Int)>((v.line:Nat):Int)) then ((x.first-1:Nat):Int) else ((v.line:Nat):Int))=((max v.line (x.first-1):Nat):Int):=by split<;>omega
 have hwS:IntKind.i64.wrap (((max v.line (x.first-1):Nat):Int)+((h:Nat):Int))=((max v.line (x.first-1)+h:Nat):Int):=by rw[IntKind.wrap_i64]<;>omega
 refine Ak (Bi rfl (Ai (Eh ?_)));refine Bc rfl rfl (xo6 (h:=xo4 (h:=Az (by simp only[zl,zm,zd,Au,List.take,List.drop,hw,vO,Jc]<;>exact rfl) rfl ?_)));refine Bc rfl rfl (xo6 (h:=xo4 (h:=Az (by simp only[zl,zm,zd,Au,List.take,List.drop,hw,vO,Jc]<;>exact rfl) rfl ?_)));refine Az (by simp only[zo];exact Tf (by omega) _ x) rfl ?_;apply Aj (by simp only[zo,Bf,hwF]<;>exact rfl) rfl rfl;apply Aj (by simp only[zo,Jm,U9,hmax]<;>exact rfl) rfl rfl;refine D9 rfl rfl (Ce (Af ?_));refine Ig (fun env S'=>∃(K:List Z9) (lo:Nat) (u4 u5:D),VS K g x (if v.brk x h fr then VM.newp x v else v)∧KeepV H K∧(lo≤g∨(if v.brk x h fr then VM.newp x v else v)=v)∧S'=⟨K,lo⟩∧env=[.ptr g 0 0 0,.int .i64 (h:Nat),.bool fr,.int .i64 (max ((if v.brk x h fr then VM.newp x v else v)).line (x.first-1):Nat),u4,u5]) ?_ ?_
 ·
  refine Ad (Ae rfl (xo3 (h:=xo1 (h:=Ac (by simp only[zl,zm,zd,Au,List.take,List.drop,hw,vO,Jc]<;>exact rfl) ?_))));apply Ag rfl;refine G9 0 (by simp only[zv]<;>exact rfl) (by simp only[zn]<;>exact rfl) (by simp only[zn]<;>exact rfl) (fun hgF=>?_) (fun hgF=>?_)
  ·
   refine Ap rfl (Ae rfl (Ap rfl (Ag rfl ?_)));refine G9 0 (by simp only[zv]<;>exact rfl) (by simp only[zn]<;>exact rfl) (by simp only[zn]<;>exact rfl) (fun hgFT=>?_) (fun hgFT=>?_)
   ·
    have hb:v.brk x h fr=true:=by simp[VM.brk,hgF,hgFT]
    refine Cm rfl rfl (Cm rfl rfl (Cm rfl rfl (Cm rfl rfl (Cm rfl rfl (Cm rfl rfl (Cm rfl rfl (Cm rfl rfl (Cm rfl rfl (Ap rfl (xo3 (h:=xo3 (h:=?_))))))))))));refine Aa (Af ?_);apply Ez (by simp only[opd,zv]);refine Ad (Ae rfl ?_);obtain⟨H57,lo57,wr57,hc57,qO,hK57,hlo57,hlm57⟩:=(bot_v (d:=d0) (by omega) hB (by omega)).go H.length hW;obtain⟨linb,wX,uf⟩:=id qO;have hsgb:∀o,(H57.set g o)[g]?=some o:=fun o=>A8 wX o;have hWp:=qO.set ((VM.bot x v).page+1) 0 (VM.bot x v).body linb (VM.bot x v).lines uf;have kF:IntKind.i64.wrap ((((VM.bot x v).page:Nat):Int)+1)=(((VM.bot x v).page+1:Nat):Int):=Dt _ (by have:=(hB.bot x (by omega)).page;omega);apply Ac (by simp only[zo];exact hc57);refine Aa (Af ?_);refine Ad (Ae rfl (xo3 (h:=xo1 (h:=Ac (by simp only[zl,zm,zd,Au,List.take,List.drop,vO,Jc,wX]<;>exact rfl) ?_))));apply Ac (by simp only[zo,Bf,kF]<;>exact rfl);refine xo3 (h:=xo1 (h:=Ac (by simp only[zl,zm,Bg,overlay,zs,zc,zf,List.take,List.drop,vO,Jc,wX]<;>exact rfl) ?_));refine Aa (Af ?_);refine Ad (Ae rfl (xo3 (h:=xo1 (h:=Ac (by simp only[zl,zm,Bg,overlay,zs,zc,zf,List.take,List.drop,List.set_set,hsgb]<;>exact rfl) ?_))));refine Aa (Af ?_);refine Ad (Ae rfl ?_);obtain⟨H52,lo52,wr52,hc52,kZ,hK52,hlo52,hlm52⟩:=(show VF d0 52 [] g x { VM.bot x v with page:=(VM.bot x v).page+1,line:=0 } (VM.newp x v) from top_v (d:=d0) (by omega) (hB.newp x (by omega)).1 (by omega)).go (min (min lo57 g) g) hWp;obtain⟨lint,hwt,hlint⟩:=id kZ;have hsgt:∀o,(H52.set g o)[g]?=some o:=fun o=>A8 hwt o;have wS:(VM.newp x v).line≤n+5:=(hB.newp x (by omega)).2.line;have hmt:(if (((x.first-1:Nat):Int)>(((VM.newp x v).line:Nat):Int)) then ((x.first-1:Nat):Int) else (((VM.newp x v).line:Nat):Int))=((max (VM.newp x v).line (x.first-1):Nat):Int):=by split<;>omega
    apply Ac (by simp only[zo];exact hc52);refine Aa (Af ?_);refine Eh ?_;refine Bc rfl rfl (xo6 (h:=xo4 (h:=Az (by simp only[zl,zm,zd,Au,List.take,List.drop,vO,Jc,hwt]<;>exact rfl) rfl ?_)));refine Bc rfl rfl (xo6 (h:=xo4 (h:=Az (by simp only[zl,zm,zd,Au,List.take,List.drop,vO,Jc,hwt]<;>exact rfl) rfl ?_)));refine Az (by simp only[zo];exact Tf (by omega) _ x) rfl ?_;apply Aj (by simp only[zo,Bf,hwF]<;>exact rfl) rfl rfl;apply Aj (by simp only[zo,Jm,U9,hmt]<;>exact rfl) rfl rfl;refine D9 rfl rfl (Ce (Gy (by simp only[ze]<;>exact rfl) ?_));rw[hb,if_pos rfl];exact⟨_,_,_,_,kZ,(hK57.trans (KeepV.set qO _)).trans hK52,.inl (by omega),rfl,rfl⟩
   refine Ap rfl (Ae rfl (Ap rfl (Ae rfl (Ap rfl (Ac (by simp only[zo,Bf,hwS]<;>exact rfl) ?_)))));refine Ap rfl (Ae rfl (Ap rfl (xo3 (h:=?_))));refine Ap rfl (xo1 (h:=?_));refine Ap rfl (Ac (by simp only[zl,zm,zd,Au,List.take,List.drop,hw,vO,Jc]<;>exact rfl) ?_);refine Ap rfl (Ac (by simp only[zo];exact Um (by omega) _ x) ?_);refine Ap rfl (xo2 (h:=?_));refine Ap rfl (xo3 (h:=xo3 (h:=?_)));refine Aa (Af ?_);refine Bj (by simp only[opd,zv]<;>exact rfl) (fun hcFTF=>?_) (fun hcFTF=>?_)
   ·
    have hb:v.brk x h fr=true:=by have:=of_decide_eq_true hcFTF;simp only[VM.brk,hgF,hgFT,Bool.false_or,Bool.true_and,decide_eq_true_eq];omega
    refine Ad (Ae rfl ?_);obtain⟨H57,lo57,wr57,hc57,qO,hK57,hlo57,hlm57⟩:=(bot_v (d:=d0) (by omega) hB (by omega)).go H.length hW;obtain⟨linb,wX,uf⟩:=id qO;have hsgb:∀o,(H57.set g o)[g]?=some o:=fun o=>A8 wX o;have hWp:=qO.set ((VM.bot x v).page+1) 0 (VM.bot x v).body linb (VM.bot x v).lines uf;have kF:IntKind.i64.wrap ((((VM.bot x v).page:Nat):Int)+1)=(((VM.bot x v).page+1:Nat):Int):=Dt _ (by have:=(hB.bot x (by omega)).page;omega);apply Ac (by simp only[zo];exact hc57);refine Aa (Af ?_);refine Ad (Ae rfl (xo3 (h:=xo1 (h:=Ac (by simp only[zl,zm,zd,Au,List.take,List.drop,vO,Jc,wX]<;>exact rfl) ?_))));apply Ac (by simp only[zo,Bf,kF]<;>exact rfl);refine xo3 (h:=xo1 (h:=Ac (by simp only[zl,zm,Bg,overlay,zs,zc,zf,List.take,List.drop,vO,Jc,wX]<;>exact rfl) ?_));refine Aa (Af ?_);refine Ad (Ae rfl (xo3 (h:=xo1 (h:=Ac (by simp only[zl,zm,Bg,overlay,zs,zc,zf,List.take,List.drop,List.set_set,hsgb]<;>exact rfl) ?_))));refine Aa (Af ?_);refine Ad (Ae rfl ?_);obtain⟨H52,lo52,wr52,hc52,kZ,hK52,hlo52,hlm52⟩:=(show VF d0 52 [] g x { VM.bot x v with page:=(VM.bot x v).page+1,line:=0 } (VM.newp x v) from top_v (d:=d0) (by omega) (hB.newp x (by omega)).1 (by omega)).go (min (min lo57 g) g) hWp;obtain⟨lint,hwt,hlint⟩:=id kZ;have hsgt:∀o,(H52.set g o)[g]?=some o:=fun o=>A8 hwt o;have wS:(VM.newp x v).line≤n+5:=(hB.newp x (by omega)).2.line;have hmt:(if (((x.first-1:Nat):Int)>(((VM.newp x v).line:Nat):Int)) then ((x.first-1:Nat):Int) else (((VM.newp x v).line:Nat):Int))=((max (VM.newp x v).line (x.first-1):Nat):Int):=by split<;>omega
    apply Ac (by simp only[zo];exact hc52);refine Aa (Af ?_);refine Eh ?_;refine Bc rfl rfl (xo6 (h:=xo4 (h:=Az (by simp only[zl,zm,zd,Au,List.take,List.drop,vO,Jc,hwt]<;>exact rfl) rfl ?_)));refine Bc rfl rfl (xo6 (h:=xo4 (h:=Az (by simp only[zl,zm,zd,Au,List.take,List.drop,vO,Jc,hwt]<;>exact rfl) rfl ?_)));refine Az (by simp only[zo];exact Tf (by omega) _ x) rfl ?_;apply Aj (by simp only[zo,Bf,hwF]<;>exact rfl) rfl rfl;apply Aj (by simp only[zo,Jm,U9,hmt]<;>exact rfl) rfl rfl;refine D9 rfl rfl (Ce (Gy (by simp only[ze]<;>exact rfl) ?_));rw[hb,if_pos rfl];exact⟨_,_,_,_,kZ,(hK57.trans (KeepV.set qO _)).trans hK52,.inl (by omega),rfl,rfl⟩
   have hb:v.brk x h fr=false:=by have:=of_decide_eq_false hcFTF;simp only[VM.brk,hgFT,Bool.false_or,Bool.and_eq_false_imp,decide_eq_false_iff_not];intro _;omega
   refine Ak (Gy rfl ?_);rw[hb,if_neg (by decide)];exact⟨_,_,_,_,hW,KeepV.refl _,.inr rfl,rfl,rfl⟩
  have hb:v.brk x h fr=false:=by simp[VM.brk,hgF]
  refine Cm rfl rfl (Cm rfl rfl (Nc rfl (Nc rfl (Nc rfl (Nc rfl (Nc rfl (Nc rfl (Nc rfl (Nc rfl (Nc rfl (Cm rfl rfl (xo3 (h:=?_)))))))))))));refine Aa (Af ?_);apply Be (by simp only[opd,zv]);refine Ak (Gy rfl ?_);rw[hb,if_neg (by decide)];exact⟨_,_,_,_,hW,KeepV.refl _,.inr rfl,rfl,rfl⟩
 rintro env S' ⟨K,lo,u4,u5,yg,zC,xU,rfl,rfl⟩;obtain⟨link,vN,rP⟩:=id yg;have hsgk:∀o,(K.set g o)[g]?=some o:=fun o=>A8 vN o;have hWf:=yg.set ((if v.brk x h fr then VM.newp x v else v)).page (max ((if v.brk x h fr then VM.newp x v else v)).line (x.first-1)) true link ((if v.brk x h fr then VM.newp x v else v)).lines rP;refine Ad (Ae rfl (Ae rfl (xo3 (h:=xo1 (h:=Ac (by simp only[zl,zm,Bg,overlay,zs,zc,zf,List.take,List.drop,vO,Jc,vN]<;>exact rfl) ?_)))));refine Aa (Af ?_);refine Am (Ae rfl (xo3 (h:=xo1 (h:=Ac (by simp only[zl,zm,Bg,overlay,zs,zc,zf,List.take,List.drop,hsgk,List.set_set]<;>exact rfl) ?_))));apply Aa;simp only[ze];have e:v.room x h fr={ (if v.brk x h fr then VM.newp x v else v) with line:=max ((if v.brk x h fr then VM.newp x v else v)).line (x.first-1),body:=true }:=by unfold VM.room;rw[if_pos hp];split<;>rfl
 rw[e];obtain⟨r,yG,xR⟩:=Lc (S:=⟨H,low⟩) (S':=⟨_,min (min lo g) g⟩) hW hWf (zC.trans (KeepV.set yg _)) (.inl (Nat.min_le_right _ _));refine⟨r,yG,?_⟩;refine⟨_,by simp only[F56,resultD,Ba]<;>exact rfl,?_⟩;exact xR
def CM.npb (x:CM) (k:Nat):Bool:=x.np / 2 ^ k % 2==1
def hTxt (y:RM) (i:Nat):List UInt8:=[72]++Bl i 1++[32]++[y.A]++[y.B]
def VM.headI (x:CM) (y:RM) (i:Nat) (v:VM):VM:=if x.has (2+i) then (v.room x 1 (x.npb (1+i))).put 1 (hTxt y i) else v
def VM.headN (x:CM) (y:RM):Nat→Nat→VM→VM
 | _,0,v=>v
 | i,k+1,v=>VM.headN x y (i+1) k (v.headI x y i)
def VM.head (x:CM) (v:VM) (l:Nat) (y:RM):VM:=VM.headN x y l (x.ctl+1-l) v
theorem VB.headI{v:VM}{n:Nat}(h:VB v n)(ku:12≤n)(x:CM)(y:RM)(i:Nat):VB (v.headI x y i) (n+7):=by
 unfold VM.headI;split
 ·
  exact (h.room x ku _ _).put 1 (by omega) _
 exact h.mono (by omega)
theorem VB.head(x:CM)(y:RM):∀(k i:Nat) {v:VM} {n:Nat},VB v n→12≤n→VB (VM.headN x y i k v) (n+7*k)
 | 0,_,_,_,h,_=>h
 | k+1,i,v,n,h,ku=>by
  have:=VB.head x y k (i+1) (h.headI ku x y i) (by omega);rwa [show n+7+7*k=n+7*(k+1) by omega]at this
def Jt (l:List RM) (b k:Nat):Nat:=(((l.drop b).take k).map RM.N).sum
def Zq (l:List RM) (last i:Nat) (y:RM) (s:Nat):List UInt8:=[70]++Bl i 1++[32]++[y.A]++[y.B]++[32]++Bl s 6
def Vm (x:CM) (l:List RM) (last i:Nat):Nat:=Jt l (Nk l (min i x.ctl) last) (last+1-Nk l (min i x.ctl) last)
def VM.footI (x:CM) (l:List RM) (last:Nat) (y:RM) (i:Nat) (v:VM):VM :=
 if x.has (5+i) then (if x.blk i then ((v.room x 2 false).put 1 (Zq l last i y (Vm x l last i))).put 1 [] else (v.room x 1 false).put 1 (Zq l last i y (Vm x l last i))) else v
def VM.footN (x:CM) (l:List RM) (last:Nat) (y:RM):Nat→Nat→VM→VM
 | _,0,v=>v
 | i,k+1,v=>VM.footN x l last y (i-1) k (v.footI x l last y (i-1))
def VM.foot (x:CM) (v:VM) (lv:Nat) (l:List RM) (last:Nat) (y:RM):VM:=VM.footN x l last y (x.ctl+1) (x.ctl+1-lv) v
theorem VB.footI{v:VM}{n:Nat}(h:VB v n)(ku:12≤n)(x:CM)(l:List RM)(last:Nat)(y:RM)(i:Nat):VB (v.footI x l last y i) (n+9):=by
 unfold VM.footI;split
 ·
  split
  ·
   exact ((h.room x ku _ _).put 1 (by omega) _).put 1 (by omega) _
  exact ((h.room x ku _ _).put 1 (by omega) _).mono (by omega)
 exact h.mono (by omega)
theorem VB.foot(x:CM)(l:List RM)(last:Nat)(y:RM):∀(k i:Nat) {v:VM} {n:Nat},VB v n→12≤n→VB (VM.footN x l last y i k v) (n+9*k)
 | 0,_,_,_,h,_=>h
 | k+1,i,v,n,h,ku=>by
  have:=VB.foot x l last y k (i-1) (h.footI ku x l last y (i-1)) (by omega);rwa [show n+9+9*k=n+9*(k+1) by omega]at this
theorem Z8(l:List RM)(lv:Nat):∀r,Nk l lv r≤r
 | 0=>Nat.le_refl _
 | r + 1 => by
  rw[Nk];split
  ·
   exact Nat.le_refl _
  have:=Z8 l lv r;omega
theorem Ot(l:List RM)(b k:Nat){y:RM}(h:l[b+k]?=some y):Jt l b (k+1)=Jt l b k+y.N:=by
 unfold Jt;rw[List.take_add_one,List.getElem?_drop,h];simp
theorem sumN_le(l:List RM)(b k:Nat):Jt l b k≤1000*k:=by
 induction k with
 | zero=>simp[Jt]
 | succ k ih =>
  cases h:l[b+k]? with
  | some y =>
   rw[Ot l b k h];have hN:y.N<1000:=Nat.mod_lt _ (by decide);omega
  | none =>
   have:Jt l b (k+1)=Jt l b k:=by
    unfold Jt;rw[List.take_add_one,List.getElem?_drop,h];simp
   omega
theorem head_v{d:Nat}(hd:8≤d){g:Nat}{x:CM}{v:VM}{b:Nat}(hBv:VB v b)(ku:12≤b)(hn:b≤40000){l:Nat}(hl:l≤x.ctl+1)(y:RM):VF d 53 [.int .i64 (l:Nat),.agg y.row] g x v (v.head x l y):=by
 intro H low hW;obtain⟨lin,hw,xY⟩:=id hW;have hgH:=hW.lt;have kN:=x.last_le;have uq:∀o,(H.set g o)[g]?=some o:=fun o=>A8 hw o;obtain⟨d0,rfl⟩:∃e,d=e+1:=⟨d-1,by omega⟩;have hct:=x.ctl_lt;refine Eu (F:=F53) rfl (by simp only[LP,snapVs,zs,zm]<;>exact rfl) rfl (by simp only[LP,zf,zm];try rfl) (by simp only[F53,zv]<;>exact rfl) (by omega) ?_;intro d he;obtain rfl:=Nat.succ.inj he;refine Ad (xo8 (h:=?_));refine Aa (Af ?_);refine Ad (Ae rfl (Ag rfl (Aa (Af ?_))));refine Aq (D5 (fun n env S'=>∃(i:Nat) (K:List Z9) (lo:Nat) (v1:VM) (u5 u6:D),i≤x.ctl+1∧l≤i∧VS K g x v1∧KeepV H K∧VB v1 (b+7*(i-l))∧VM.headN x y i (x.ctl+1-i) v1=v.head x l y∧(lo≤g∨v1=v)∧n=x.ctl+1-i∧S'=⟨K,lo⟩∧env=[.ptr g 0 0 0,.int .i64 (l:Nat),.agg y.row,.cptr y.row 0,.int .i64 (i:Nat),u5,u6]) (x.ctl+1-l) (by omega) (⟨l,_,_,v,_,_,by omega,Nat.le_refl _,hW,KeepV.refl _,by rw[Nat.sub_self];exact hBv,rfl,.inr rfl,by omega,rfl,rfl⟩) ?_);rintro n env S' ⟨i,K,lo,v1,u5,u6,hi,hli,yg,zC,yR,he,xU,hnA,rfl,rfl⟩;obtain⟨link,vN,rP⟩:=id yg;have hsgk:∀o,(K.set g o)[g]?=some o:=fun o=>A8 vN o;refine Ai (Ad (Ae rfl (Ae rfl (xo3 (h:=xo1 (h:=Ac (by simp only[zl,zm,zd,Au,List.take,List.drop,vO,Jc,vN]<;>exact rfl) ?_))))));apply Ac (by simp only[zo];exact L8 (by omega) _ x);refine xo2 (h:=?_);refine Aa (Af ?_);refine Bj (by simp only[opd,zv]<;>exact rfl) (fun xZ=>?_) (fun xZ=>?_)
 ·
  have vV:i<x.ctl+1:=by have:=of_decide_eq_true xZ;omega
  have yH:=Dt i (by omega);have uG:IntKind.i64.wrap (2+((i:Nat):Int))=((2+i:Nat):Int):=by rw[IntKind.wrap_i64]<;>omega
  have zT:IntKind.i64.wrap (1+((i:Nat):Int))=((1+i:Nat):Int):=by rw[IntKind.wrap_i64]<;>omega
  have hBn:VB (v1.headI x y i) (b+7*(i+1-l)):=by
   have:=yR.headI (by omega) x y i;rwa [show b+7*(i-l)+7=b+7*(i+1-l) by omega]at this
  have uD:VM.headN x y (i+1) (x.ctl+1-(i+1)) (v1.headI x y i)=v.head x l y:=by
   rw[←he,show x.ctl+1-i=(x.ctl+1-(i+1))+1 by omega];rfl
  have hp4:=part4 y.row_len;refine Ak (Bi rfl (Ai (Aq (Ad (Ae rfl (xo3 (h:=xo1 (h:=Ac (by simp only[zl,zm,zd,Au,List.take,List.drop,vO,Jc,vN]<;>exact rfl) ?_))))))));refine Ae rfl (Ac (by simp only[zo,Bf,uG]<;>exact rfl) ?_);apply Ac (by simp only[zo];exact Jb (by omega) _ x _ (by omega));refine Aa (Af ?_);refine Bj (by simp only[opd,zv]<;>exact rfl) (fun xK=>?_) (fun xK=>?_)
  ·
   have hei:v1.headI x y i=(v1.room x 1 (x.npb (1+i))).put 1 (hTxt y i):=by unfold VM.headI;rw[if_pos xK]
   have vw:=yR.room x (by omega) 1 (x.npb (1+i));have kY:=Uo x.np (1+i) (by omega);have hbit2:=Nr _ (np_lt x (1+i));have hbit3:=Ym (x.np / 2 ^ (1+i));refine Ad (Ae rfl (Ae rfl (xo3 (h:=xo1 (h:=xo1 (h:=Ac (by simp only[zl,zm,zd,Au,List.take,List.drop,vO,Jc,vN]<;>exact rfl) ?_))))));refine Ae rfl (Ac (by simp only[zo,Bf,zT]<;>exact rfl) ?_);apply Ac (by simp only[zo,kY]<;>exact rfl);apply Ac (by simp only[zo,hbit2]<;>exact rfl);apply Ac (by simp only[zo,Bf,hbit3]<;>exact rfl);obtain⟨H56,lo56,wr56,uU,uX,vM,rM,rO⟩:=(Xz (d:=d0) (by omega) yR (by omega) (by omega) 1 (by omega) (x.npb (1+i))).go lo yg;apply Ac (by simp only[zo];exact uU);refine Aa (Af ?_);refine Eh ?_;refine Bc rfl rfl (Bc rfl rfl (Az (by simp only[zo];exact I8 (by omega) _ i 1 (by omega) (by omega)) rfl ?_));apply Aj (by simp only[opd,zv,Ar,aop,LOp.loud,if_false,Bool.false_eq_true];exact congrArg (Option.map fun r=>(r,_,false)) (N9 [72] (Bl i 1) (by simp[Bz]))) rfl rfl;apply Aj (by simp only[opd,zv,Ar,aop,LOp.loud,if_false,Bool.false_eq_true];exact congrArg (Option.map fun r=>(r,_,false)) (N9 ([72]++Bl i 1) [32] (by simp[Bz]))) rfl rfl;refine Az (by simp only[zl,zm,Fh,hp4]<;>exact rfl) rfl ?_;refine Az (by simp only[zo];exact U4 (by omega) _ y) rfl ?_;apply Aj (by simp only[opd,zv,Ar,aop,LOp.loud,if_false,Bool.false_eq_true];exact congrArg (Option.map fun r=>(r,_,false)) (N9 ([72]++Bl i 1++[32]) [y.A] (by simp[Bz]))) rfl rfl;refine Az (by simp only[zl,zm,Fh,hp4]<;>exact rfl) rfl ?_;refine Az (by simp only[zo];exact Qa (by omega) _ y) rfl ?_;apply Aj (by simp only[opd,zv,Ar,aop,LOp.loud,if_false,Bool.false_eq_true];exact congrArg (Option.map fun r=>(r,_,false)) (N9 ([72]++Bl i 1++[32]++[y.A]) [y.B] (by simp[Bz]))) rfl rfl;obtain⟨H51,lo51,wr51,zJ,zM,wM,zh,wZ⟩:=(Uy (d:=d0) (by omega) (x:=x) (v:=v1.room x 1 (x.npb (1+i))) (g:=g) (by have:=vw.lines;omega) (by have:=vw.line;omega) 1 (by omega) (hTxt y i)).go lo56 uX
   have hlo51':lo51≤g:=by
    rcases zh with h | h
    ·
     exact h
    have:=congrArg (fun z=>VM.lines z |>.length) h;simp[VM.put]at this
   apply Dc (by simp only[zo];exact zJ) (by simp only[fpHere,zo,zq]<;>exact rfl) (by cases wr51<;>first | rfl | (simp[show ob 2047 11=[true,true,true,true,true,true,true,true,true,true,true] from rfl,Aab,Iy,okHere,Je,Ew,Ir,dj,Dv,fpQuiet,Jh,Es,Qi,Gz,Ey];done));refine Ce (D8 (Af ?_));refine Am (Ae rfl (Ac (by simp only[zo,Bf,yH]<;>exact rfl) ?_));refine Ag rfl (Aa (Gh (by simp only[ze]<;>exact rfl) ?_));exact⟨x.ctl+1-(i+1),by omega,i+1,_,_,v1.headI x y i,_,_,by omega,by omega,by rw[hei];exact zM,(zC.trans vM).trans wM,hBn,uD,.inl (by omega),rfl,rfl,rfl⟩
  have hei:v1.headI x y i=v1:=by unfold VM.headI;rw[if_neg (by rw[xK];decide)]
  refine Ak (D8 (Bi rfl (Am (Ae rfl (Ac (by simp only[zo,Bf,yH]<;>exact rfl) ?_)))));refine Ag rfl (Aa (Gh (by simp only[ze]<;>exact rfl) ?_));exact⟨x.ctl+1-(i+1),by omega,i+1,_,_,v1.headI x y i,_,_,by omega,by omega,by rw[hei];exact yg,zC,hBn,uD,by rw[hei];exact xU,rfl,rfl,rfl⟩
 have yV:i=x.ctl+1:=by have:=of_decide_eq_false xZ;omega
 subst yV;rw[Nat.sub_self]at he;have he2:v1=v.head x l y:=he;subst he2;refine Dh (Gj (Hu (Gl ?_)));obtain⟨r,yG,xR⟩:=Lc (S:=⟨H,low⟩) (S':=⟨K,lo⟩) hW yg zC xU;refine⟨r,yG,?_⟩;refine⟨_,by simp only[F53,resultD,Ba]<;>exact rfl,?_⟩;exact xR
theorem foot_v{d:Nat}(hd:8≤d){g:Nat}{x:CM}{v:VM}{b:Nat}(hBv:VB v b)(ku:12≤b)(hn:b≤40000){l:Nat}(hl:l≤x.ctl+1)(rs:List RM)(c:Option Nat)(last:Nat)(hlast:last<rs.length)(hrs:rs.length≤100){y:RM}(hy:rs[last]?=some y):VF d 55 [.int .i64 (l:Nat),.sl 4 (rs.map RM.row) c,.int .i64 (last:Nat)] g x v (v.foot x l rs last y):=by
 intro H low hW;obtain⟨lin,hw,xY⟩:=id hW;have hgH:=hW.lt;have kN:=x.last_le;have uq:∀o,(H.set g o)[g]?=some o:=fun o=>A8 hw o;obtain⟨d0,rfl⟩:∃e,d=e+1:=⟨d-1,by omega⟩;have hct:=x.ctl_lt;refine Eu (F:=F55) rfl (by simp only[LP,snapVs,zs,zm]<;>exact rfl) rfl (by simp only[LP,zf,zm];try rfl) (by simp only[F55,zv]<;>exact rfl) (by omega) ?_;intro d he;obtain rfl:=Nat.succ.inj he;refine Ad (Ae rfl (xo3 (h:=xo1 (h:=Ac (by simp only[zl,zm,zd,Au,List.take,List.drop,hw,vO,Jc]<;>exact rfl) ?_))));apply Ac (by simp only[zo];exact L8 (by omega) _ x);refine Ag rfl (Aa (Af ?_));refine Aq (D5 (fun n env S'=>∃(j:Nat) (m:Int) (K:List Z9) (lo:Nat) (v1:VM) (u5 u6 u7 u8 u9 u10 u11 u12 u13:D),l≤j∧j≤x.ctl+1∧m=(j:Nat)-1∧VS K g x v1∧KeepV H K∧VB v1 (b+9*(x.ctl+1-j))∧VM.footN x rs last y j (j-l) v1=v.foot x l rs last y∧(lo≤g∨v1=v)∧n=j∧S'=⟨K,lo⟩∧env=[.ptr g 0 0 0,.int .i64 (l:Nat),.sl 4 (rs.map RM.row) c,.int .i64 (last:Nat),.int .i64 m,u5,u6,u7,u8,u9,u10,u11,u12,u13]) (x.ctl+1) (by omega) (⟨x.ctl+1,_,_,_,v,_,_,_,_,_,_,_,_,_,hl,Nat.le_refl _,by omega,hW,KeepV.refl _,by rw[Nat.sub_self];exact hBv,rfl,.inr rfl,by omega,rfl,rfl⟩) ?_);rintro n env S' ⟨j,m,K,lo,v1,u5,u6,u7,u8,u9,u10,u11,u12,u13,hlj,hjc1,hm,yg,zC,yR,he,xU,hnA,rfl,rfl⟩;obtain⟨link,vN,rP⟩:=id yg;have hsgk:∀o,(K.set g o)[g]?=some o:=fun o=>A8 vN o;refine Ai (Ad (Ae rfl (Ae rfl (xo2 (h:=?_)))));refine Aa (Af ?_);refine Bj (by simp only[opd,zv]<;>exact rfl) (fun xZ=>?_) (fun xZ=>?_)
 ·
  have yL:l<j:=by have:=of_decide_eq_true xZ;omega
  obtain⟨i0,rfl⟩:∃i0,j=i0+1:=⟨j-1,by omega⟩;obtain rfl:m=((i0:Nat):Int):=by omega
  have vV:i0<x.ctl+1:=by omega
  have hws:=wrap_sub ((i0:Nat):Int) (by omega) (by omega);have hw5:IntKind.i64.wrap (5+((i0:Nat):Int))=((5+i0:Nat):Int):=by rw[IntKind.wrap_i64]<;>omega
  have hBn:VB (v1.footI x rs last y i0) (b+9*(x.ctl+1-i0)):=by
   have:=yR.footI (by omega) x rs last y i0;rwa [show b+9*(x.ctl+1-(i0+1))+9=b+9*(x.ctl+1-i0) by omega]at this
  have uD:VM.footN x rs last y i0 (i0-l) (v1.footI x rs last y i0)=v.foot x l rs last y:=by
   rw[←he,show i0+1-l=(i0-l)+1 by omega];rfl
  refine Ak (Bi rfl (Ai (Aq (Ai (Ad (Ae rfl (xo3 (h:=xo1 (h:=Ac (by simp only[zl,zm,zd,Au,List.take,List.drop,vO,Jc,vN]<;>exact rfl) ?_)))))))));refine Ae rfl (Ac (by simp only[zo,Bf,hw5]<;>exact rfl) ?_);apply Ac (by simp only[zo];exact Jb (by omega) _ x _ (by omega));refine Zo (h:=?_);refine Aa (Af ?_);refine Bj (by simp only[opd,zv]<;>exact rfl) (fun xK=>?_) (fun xK=>?_)
  ·
   have hh:x.has (5+i0)=false:=by simpa using xK
   have hei:v1.footI x rs last y i0=v1:=by unfold VM.footI;rw[if_neg (by rw[hh];decide)]
   refine Dh (Gj (Gl (Bi rfl (Am (Ae rfl (Ac (by simp only[zo,Bf,hws]<;>exact rfl) ?_))))));refine Ag rfl (Aa (Gh (by simp only[ze]<;>exact rfl) ?_));exact⟨i0,by omega,i0,_,_,_,v1.footI x rs last y i0,_,_,_,_,_,_,_,_,_,by omega,by omega,by omega,by rw[hei];exact yg,zC,hBn,uD,by rw[hei];exact xU,rfl,rfl,rfl⟩
  have hh:x.has (5+i0)=true:=by simpa using xK
  have hbgl:=Z8 rs (min i0 x.ctl) last;obtain⟨bg,hbg⟩:∃bg,Nk rs (min i0 x.ctl) last=bg:=⟨_,rfl⟩;have hbg1:=begin_run (d:=d0) (by omega) ⟨K,lo⟩ x rs c last i0 (by omega) hlast;rw[hbg]at hbg1 hbgl;refine Ak (Bi rfl (Ad (Aw (Aa (Af ?_)))));refine Ai (Ad (Ae rfl (xo3 (h:=xo1 (h:=Ac (by simp only[zl,zm,zd,Au,List.take,List.drop,vO,Jc,vN]<;>exact rfl) ?_)))));refine Ae rfl (Ae rfl (Ae rfl (Ac (by simp only[zo];exact hbg1) ?_)));refine Ag rfl (Aa (Af ?_));refine Aq (D5 (fun n env S'=>∃(k:Nat) (u7 u8 u9 u10 u11 u12 u13:D),bg≤k∧k≤last+1∧n=last+1-k∧S'=⟨K,lo⟩∧env=[.ptr g 0 0 0,.int .i64 (l:Nat),.sl 4 (rs.map RM.row) c,.int .i64 (last:Nat),.int .i64 (i0:Nat),.int .i64 (Jt rs bg (k-bg):Nat),.int .i64 (k:Nat),u7,u8,u9,u10,u11,u12,u13]) (last+1-bg) (by omega) (⟨bg,_,_,_,_,_,_,_,Nat.le_refl _,by omega,by omega,rfl,by rw[Nat.sub_self];rfl⟩) ?_);rintro n env S' ⟨k,u7,u8,u9,u10,u11,u12,u13,hbk,hk,hnB,rfl,rfl⟩;refine Ai (Ad (Ae rfl (Ae rfl (xo2 (h:=?_)))));refine Aa (Af ?_);refine Bj (by simp only[opd,zv]<;>exact rfl) (fun wC=>?_) (fun wC=>?_)
  ·
   have wF:k<last+1:=by have:=of_decide_eq_true wC;omega
   have vH:k<rs.length:=by omega
   have hwk1:=Dt k (by omega);have hkr:(rs.map RM.row)[k]?=some rs[k].row:=by rw[Lp_,Lg vH];rfl
   have hk0:((0:Int)≤((k:Nat):Int))=True:=eq_true (by omega);have hp4k:=part4 rs[k].row_len;have vS:=sumN_le rs bg (k-bg);have hNk:rs[k].N<1000:=Nat.mod_lt _ (by decide);have hws2:IntKind.i64.wrap (((Jt rs bg (k-bg):Nat):Int)+((rs[k].N:Nat):Int))=((Jt rs bg (k-bg)+rs[k].N:Nat):Int):=by rw[IntKind.wrap_i64]<;>omega
   have xq:=aI hwk1 (aI hkr (aI hk0 (hws2)));refine Ak (Bi rfl (Ai (Aq (Am (Ae rfl (Ae rfl (Ae rfl (xo62 (h:=Ac (by simp only[zl,zm,Fh,hp4k]<;>exact rfl) ?_)))))))));apply Ac (by simp only[zo];exact rn_run (by omega) _ rs[k]);refine Xr (h:=Ag rfl ?_);refine Aa (D8 (Af ?_));refine Am (Ae rfl (Xr (h:=Ag rfl (Aa ?_))));apply Gh (by simp only[ze]<;>exact rfl);exact⟨last+1-(k+1),by omega,k+1,_,_,_,_,_,_,_,by omega,by omega,rfl,rfl,by rw[show k+1-bg=(k-bg)+1 by omega,Ot rs bg (k-bg) (y:=rs[k]) (by rw[show bg+(k-bg)=k by omega];exact Lg vH)]<;>rfl⟩
  have hke:k=last+1:=by have:=of_decide_eq_false wC;omega
  subst hke;have vS:=sumN_le rs bg (last+1-bg);have hfs:Vm x rs last i0=Jt rs bg (last+1-bg):=by unfold Vm;rw[hbg]
  have kY:=Uo x.bl i0 (by omega);have hbit2:=Nr _ (bl_lt x i0);have hbit3:=Ym (x.bl / 2 ^ i0);have hlr:(rs.map RM.row)[last]?=some y.row:=by rw[Lp_,hy];rfl
  have hl0':((0:Int)≤((last:Nat):Int))=True:=eq_true (by omega);have hp4:=part4 y.row_len;have xI:=aI kY (aI hbit2 (aI hbit3 (aI hlr (hl0'))));refine Dh (Gj (Hu (Gl (Bi rfl (Ad (Ae rfl (xo3 (h:=xo1 (h:=xo1 (h:=Ac (by simp only[zl,zm,zd,Au,List.take,List.drop,vO,Jc,vN]<;>exact rfl) ?_))))))))));refine Ae rfl (Ac (by simp only[zo,kY]<;>exact rfl) ?_);apply Ac (by simp only[zo,hbit2]<;>exact rfl);refine xo39 (h:=Ag rfl (Aa ?_));refine Af ?_;refine Ad (Aw (Aa (Af ?_)));refine Ai (Ad (Ae rfl (Aa (Af ?_))));refine Bj (by simp only[opd,zv]<;>exact rfl) (fun yF=>?_) (fun yF=>?_)
  ·
   have hbk2:x.blk i0=true:=yF;have hei:v1.footI x rs last y i0=((v1.room x 2 false).put 1 (Zq rs last i0 y (Jt rs bg (last+1-bg)))).put 1 []:=by unfold VM.footI;rw[if_pos hh,if_pos hbk2,hfs]
   have zL:(x.bl / 2 ^ i0 % 2==1)=true:=yF;refine Am (Aw (Aa (Af ?_)));refine Ad (Ae rfl (Ae rfl ?_));obtain⟨H56,lo56,wr56,uU,uX,vM,rM,rO⟩:=(Xz (d:=d0) (by omega) yR (by omega) (by omega) 2 (by omega) false).go lo yg;have vw:=yR.room x (by omega) 2 false;apply Ac (by simp only[zo,zL];exact uU);refine Aa (Af ?_);refine Ai (Eh ?_);refine Bc rfl rfl (Bc rfl rfl (Az (by simp only[zo,zL];exact I8 (by omega) _ i0 1 (by omega) (by omega)) rfl ?_));apply Aj (by simp only[opd,zv,Ar,aop,LOp.loud,if_false,Bool.false_eq_true];exact congrArg (Option.map fun r=>(r,_,false)) (N9 ([70]) (Bl i0 1) (by simp[Bz]))) rfl rfl;apply Aj (by simp only[opd,zv,Ar,aop,LOp.loud,if_false,Bool.false_eq_true];exact congrArg (Option.map fun r=>(r,_,false)) (N9 ([70]++(Bl i0 1)) [32] (by simp[Bz]))) rfl rfl;refine Bc rfl rfl (Bc rfl rfl (Az (by simp only[zl,zm,Df,Int.toNat_natCast,xI,zL]<;>exact rfl) rfl ?_));refine Az (by simp only[zl,zm,Fh,hp4]<;>exact rfl) rfl ?_;refine Az (by simp only[zo,zL];exact U4 (by omega) _ y) rfl ?_;apply Aj (by simp only[opd,zv,Ar,aop,LOp.loud,if_false,Bool.false_eq_true];exact congrArg (Option.map fun r=>(r,_,false)) (N9 ([70]++(Bl i0 1)++[32]) [y.A] (by simp[Bz]))) rfl rfl;refine Bc rfl rfl (Bc rfl rfl (Az (by simp only[zl,zm,Df,Int.toNat_natCast,xI,zL]<;>exact rfl) rfl ?_));refine Az (by simp only[zl,zm,Fh,hp4]<;>exact rfl) rfl ?_;refine Az (by simp only[zo,zL];exact Qa (by omega) _ y) rfl ?_;apply Aj (by simp only[opd,zv,Ar,aop,LOp.loud,if_false,Bool.false_eq_true];exact congrArg (Option.map fun r=>(r,_,false)) (N9 ([70]++(Bl i0 1)++[32]++[y.A]) [y.B] (by simp[Bz]))) rfl rfl;apply Aj (by simp only[opd,zv,Ar,aop,LOp.loud,if_false,Bool.false_eq_true];exact congrArg (Option.map fun r=>(r,_,false)) (N9 ([70]++(Bl i0 1)++[32]++[y.A]++[y.B]) [32] (by simp[Bz]))) rfl rfl;refine Bc rfl rfl (Az (by simp only[zo,zL];exact I8 (by omega) _ (Jt rs bg (last+1-bg)) 6 (by omega) (by omega)) rfl ?_);apply Aj (by simp only[opd,zv,Ar,aop,LOp.loud,if_false,Bool.false_eq_true];exact congrArg (Option.map fun r=>(r,_,false)) (N9 ([70]++(Bl i0 1)++[32]++[y.A]++[y.B]++[32]) (Bl (Jt rs bg (last+1-bg)) 6) (by simp[Bz]))) rfl rfl;obtain⟨H51,lo51,wr51,zJ,zM,wM,zh,wZ⟩:=(Uy (d:=d0) (by omega) (x:=x) (v:=v1.room x 2 false) (g:=g) (by have:=vw.lines;omega) (by have:=vw.line;omega) 1 (by omega) (Zq rs last i0 y (Jt rs bg (last+1-bg)))).go lo56 uX
   have hlo51':lo51≤g:=by
    rcases zh with h | h
    ·
     exact h
    have:=congrArg (fun z=>VM.lines z |>.length) h;simp[VM.put]at this
   apply Dc (by simp only[zo,zL];exact zJ) (by simp only[fpHere,zo,zq]<;>exact rfl) (by cases wr51<;>first | rfl | (simp[show ob 2097151 21=[true,true,true,true,true,true,true,true,true,true,true,true,true,true,true,true,true,true,true,true,true] from rfl,Aab,Iy,okHere,Je,Ew,Ir,dj,Dv,fpQuiet,Jh,Es,Qi,Gz,Ey];done));refine Ce (Af ?_);refine Ad (Ae rfl (Aa (Af ?_)));apply Ez (by simp only[opd,zv,zL]<;>rfl);refine Am (Ae rfl ?_);have hBr2:=vw.put 1 (by omega) (Zq rs last i0 y (Jt rs bg (last+1-bg)));obtain⟨H51b,lo51b,wr51b,hc51b,hW51b,hK51b,hlo51b,hlm51b⟩:=(Uy (d:=d0) (by omega) (x:=x) (v:=(v1.room x 2 false).put 1 (Zq rs last i0 y (Jt rs bg (last+1-bg)))) (g:=g) (by have:=hBr2.lines;omega) (by have:=hBr2.line;omega) 1 (by omega) []).go lo51 zM;apply Ac (by simp only[zo,zL];exact hc51b);refine Aa (D8 (Af ?_));refine Am (Ae rfl (Ac (by simp only[zo,Bf,hws,zL]<;>exact rfl) ?_));refine Ag rfl (Aa (Gh (by simp only[ze]<;>exact rfl) ?_));exact⟨i0,by omega,i0,_,_,_,v1.footI x rs last y i0,_,_,_,_,_,_,_,_,_,by omega,by omega,by omega,by rw[hei];exact hW51b,((zC.trans vM).trans wM).trans hK51b,hBn,uD,.inl (by omega),rfl,rfl,rfl⟩
  have hbk2:x.blk i0=false:=yF;have hei:v1.footI x rs last y i0=(v1.room x 1 false).put 1 (Zq rs last i0 y (Jt rs bg (last+1-bg))):=by unfold VM.footI;rw[if_pos hh,if_neg (by rw[hbk2];decide),hfs]
  have zL:(x.bl / 2 ^ i0 % 2==1)=false:=yF;refine Ak (Bi rfl (Ad (Ae rfl (Ae rfl ?_))));obtain⟨H56,lo56,wr56,uU,uX,vM,rM,rO⟩:=(Xz (d:=d0) (by omega) yR (by omega) (by omega) 1 (by omega) false).go lo yg;have vw:=yR.room x (by omega) 1 false;apply Ac (by simp only[zo,zL];exact uU);refine Aa (Af ?_);refine Ai (Eh ?_);refine Bc rfl rfl (Bc rfl rfl (Az (by simp only[zo,zL];exact I8 (by omega) _ i0 1 (by omega) (by omega)) rfl ?_));apply Aj (by simp only[opd,zv,Ar,aop,LOp.loud,if_false,Bool.false_eq_true];exact congrArg (Option.map fun r=>(r,_,false)) (N9 ([70]) (Bl i0 1) (by simp[Bz]))) rfl rfl;apply Aj (by simp only[opd,zv,Ar,aop,LOp.loud,if_false,Bool.false_eq_true];exact congrArg (Option.map fun r=>(r,_,false)) (N9 ([70]++(Bl i0 1)) [32] (by simp[Bz]))) rfl rfl;refine Bc rfl rfl (Bc rfl rfl (Az (by simp only[zl,zm,Df,Int.toNat_natCast,xI,zL]<;>exact rfl) rfl ?_));refine Az (by simp only[zl,zm,Fh,hp4]<;>exact rfl) rfl ?_;refine Az (by simp only[zo,zL];exact U4 (by omega) _ y) rfl ?_;apply Aj (by simp only[opd,zv,Ar,aop,LOp.loud,if_false,Bool.false_eq_true];exact congrArg (Option.map fun r=>(r,_,false)) (N9 ([70]++(Bl i0 1)++[32]) [y.A] (by simp[Bz]))) rfl rfl;refine Bc rfl rfl (Bc rfl rfl (Az (by simp only[zl,zm,Df,Int.toNat_natCast,xI,zL]<;>exact rfl) rfl ?_));refine Az (by simp only[zl,zm,Fh,hp4]<;>exact rfl) rfl ?_;refine Az (by simp only[zo,zL];exact Qa (by omega) _ y) rfl ?_;apply Aj (by simp only[opd,zv,Ar,aop,LOp.loud,if_false,Bool.false_eq_true];exact congrArg (Option.map fun r=>(r,_,false)) (N9 ([70]++(Bl i0 1)++[32]++[y.A]) [y.B] (by simp[Bz]))) rfl rfl;apply Aj (by simp only[opd,zv,Ar,aop,LOp.loud,if_false,Bool.false_eq_true];exact congrArg (Option.map fun r=>(r,_,false)) (N9 ([70]++(Bl i0 1)++[32]++[y.A]++[y.B]) [32] (by simp[Bz]))) rfl rfl;refine Bc rfl rfl (Az (by simp only[zo,zL];exact I8 (by omega) _ (Jt rs bg (last+1-bg)) 6 (by omega) (by omega)) rfl ?_);apply Aj (by simp only[opd,zv,Ar,aop,LOp.loud,if_false,Bool.false_eq_true];exact congrArg (Option.map fun r=>(r,_,false)) (N9 ([70]++(Bl i0 1)++[32]++[y.A]++[y.B]++[32]) (Bl (Jt rs bg (last+1-bg)) 6) (by simp[Bz]))) rfl rfl;obtain⟨H51,lo51,wr51,zJ,zM,wM,zh,wZ⟩:=(Uy (d:=d0) (by omega) (x:=x) (v:=v1.room x 1 false) (g:=g) (by have:=vw.lines;omega) (by have:=vw.line;omega) 1 (by omega) (Zq rs last i0 y (Jt rs bg (last+1-bg)))).go lo56 uX
  have hlo51':lo51≤g:=by
   rcases zh with h | h
   ·
    exact h
   have:=congrArg (fun z=>VM.lines z |>.length) h;simp[VM.put]at this
  apply Dc (by simp only[zo,zL];exact zJ) (by simp only[fpHere,zo,zq]<;>exact rfl) (by cases wr51<;>first | rfl | (simp[show ob 2097151 21=[true,true,true,true,true,true,true,true,true,true,true,true,true,true,true,true,true,true,true,true,true] from rfl,Aab,Iy,okHere,Je,Ew,Ir,dj,Dv,fpQuiet,Jh,Es,Qi,Gz,Ey];done));refine Ce (Af ?_);refine Ad (Ae rfl (Aa (Af ?_)));apply Be (by simp only[opd,zv,zL]<;>rfl);refine Ak (D8 (Bi rfl (Am (Ae rfl (Ac (by simp only[zo,Bf,hws,zL]<;>exact rfl) ?_)))));refine Ag rfl (Aa (Gh (by simp only[ze]<;>exact rfl) ?_));exact⟨i0,by omega,i0,_,_,_,v1.footI x rs last y i0,_,_,_,_,_,_,_,_,_,by omega,by omega,by omega,by rw[hei];exact zM,(zC.trans vM).trans wM,hBn,uD,.inl (by omega),rfl,rfl,rfl⟩
 have yV:j=l:=by have:=of_decide_eq_false xZ;omega
 subst yV;rw[Nat.sub_self]at he;have he2:v1=v.foot x j rs last y:=he;subst he2;refine Dh (Gj (Hu (Gl ?_)));obtain⟨r,yG,xR⟩:=Lc (S:=⟨H,low⟩) (S':=⟨K,lo⟩) hW yg zC xU;refine⟨r,yG,?_⟩;refine⟨_,by simp only[F55,resultD,Ba]<;>exact rfl,?_⟩;exact xR
theorem run_pure_ex{L:Prg}{d:Nat}{f:FuncId}{F:LFunc}{args args' env0:List D}{S:St}{P:D→Prop}(hF:L.fns f=some F)(ha:(if L.raw f then some args else snapVs S.heap.length S.heap args)=some args')(hl:args'.length=F.nargs)(hp:(L.pure f&&args'.all D.freeV)=true)(he:(F.slots.map fun s=>args'.getD s .undef)=env0)(hd:0<d)
  (hb:∀d',d=d'+1→CW (Bd L NN d') F.body (fun e env' S1=>∃r,P r∧FinP F r e env' S1) env0 ⟨[],0⟩) (hdp:L.deep f=false:=by rfl) (hE:L.ext f args=none:=by rfl) (uZ:L.dfs f=false:=by rfl):∃r,P r∧Bd L NN d f args S=some (r,S,false):=by
 obtain⟨d',rfl⟩:∃d',d=d'+1:=⟨d-1,by omega⟩;obtain⟨e,env',S1,h1,r,hP,h2⟩:=hb d' rfl;refine⟨r,hP,run_pure hF ha hl hp he (by omega) (fun d'' e'=>?_) hdp hE uZ⟩;obtain rfl:d'=d'':=by omega
 exact⟨e,env',S1,h1,h2⟩
def LinZ (z:D) (rows:List (List D)):Prop:=(rows=[]∧z=.nils)∨(rows≠[]∧∃c,z=.sl 3 rows c)
theorem LinAt.leaveP{H:List Z9}{d:D}{rows:List (List D)}(h:LinAt H d rows)(lo:Nat):∃z,LinZ z rows∧leaveP ⟨[],0⟩ d ⟨H,lo⟩=some (z,⟨[],0⟩,false):=by
 rcases h with⟨h1,rfl⟩ | ⟨h1,rfl | ⟨g,v,rfl,h3⟩⟩
 ·
  exact⟨.nils,.inl ⟨h1,rfl⟩,rfl⟩
 ·
  exact⟨_,.inr ⟨h1,_,rfl⟩,rfl⟩
 refine⟨.sl 3 rows none,.inr ⟨h1,_,rfl⟩,?_⟩;simp[YtbhnlppboegmjaaGreatDoor.leaveP,leave,Ub,Nl,Ll,h3,D.Aad,D.freeV,D.free,D.Aah]
def VM.ini:VM:=⟨1,0,false,[]⟩
def lvD (a b:RM):Nat→Nat→Nat
 | 0,_=>0
 | n+1,k=>if Po a b (k+1) then k+1 else lvD a b n (k+1)
def VM.fst (x:CM) (v:VM) (y:RM):VM:=VM.head x (VM.top x (if x.has 0 then v.put 1 [82,72] else v)) 0 y
def VM.nxt (x:CM) (v:VM) (l:List RM) (i:Nat) (a y:RM):VM:=if lvD a y x.ctl 0=0 then v else VM.head x (VM.foot x v (lvD a y x.ctl 0) l i a) (lvD a y x.ctl 0) y
def d0Txt (y:RM):List UInt8:=[y.A]++[y.B]++[32]++Bl y.N 3
def d1Txt (y:RM):List UInt8:=[32,32,32,32,32,32,32,32,32]++Bl y.N 3
def VM.det (x:CM) (v:VM) (y:RM):VM:=if y.det=0 then (v.room x 1 (x.npb 0)).put 1 (d0Txt y) else if y.det=1 then (v.room x 2 false).put 2 (d1Txt y) else v
def VM.rows (x : CM) (l : List RM) : Nat → VM → VM
 | 0,v=>v
 | i + 1, v => match l[i]? with
  | none=>VM.rows x l i v
  | some y => VM.det x (match i with
   | 0=>VM.fst x (VM.rows x l 0 v) y
   | j+1=>match l[j]? with
    | some a=>VM.nxt x (VM.rows x l (j+1) v) l j a y
    | none=>VM.rows x l (j+1) v) y
def VM.fin1 (x:CM) (v:VM) (l:List RM) (y:RM):VM:=VM.foot x v 0 l (l.length-1) y
def VM.fin2 (x:CM) (v:VM):VM:=if x.has 9 then (v.room x 1 false).put 1 [82,70] else v
def VM.fin (x:CM) (v:VM) (l:List RM) (y:RM):VM:=if x.paged then VM.bot x (VM.fin2 x (VM.fin1 x v l y)) else VM.fin2 x (VM.fin1 x v l y)
def VM.all (x:CM) (l:List RM) (e:Bool):VM:=if e then (match l[l.length-1]? with
 | some y=>VM.fin x (VM.rows x l l.length VM.ini) l y
 | none=>VM.rows x l l.length VM.ini) else VM.rows x l l.length VM.ini
theorem lvD_le(a b:RM):∀n k,lvD a b n k≤k+n
 | 0,k=>Nat.zero_le _
 | n + 1, k => by
  rw[lvD];split
  ·
   omega
  have:=lvD_le a b n (k+1);omega
theorem VB.fst{v:VM}{n:Nat}(h:VB v n)(ku:12≤n)(x:CM)(y:RM):VB (if x.has 0 then v.put 1 [82,72] else v) (n+2)∧VB (VM.top x (if x.has 0 then v.put 1 [82,72] else v)) (n+4)∧VB (VM.fst x v y) (n+25):=by
 have hc:=x.ctl_lt
 have h1:VB (if x.has 0 then v.put 1 [82,72] else v) (n+2):=by
  split
  ·
   exact h.put 1 (by omega) _
  exact h.mono (by omega)
 have h2:=h1.top x;exact⟨h1,h2,(VB.head x y (x.ctl+1-0) 0 h2 (by omega)).mono (by omega)⟩
theorem VB.nxt{v:VM}{n:Nat}(h:VB v n)(ku:12≤n)(x:CM)(l:List RM)(i:Nat)(a y:RM)(lv:Nat):VB (VM.foot x v lv l i a) (n+27)∧VB (VM.nxt x v l i a y) (n+48):=by
 have hc:=x.ctl_lt;have h1:∀lv,VB (VM.foot x v lv l i a) (n+27):=fun lv=>(VB.foot x l i a (x.ctl+1-lv) (x.ctl+1) h ku).mono (by omega);refine⟨h1 lv,?_⟩;unfold VM.nxt;split
 ·
  exact h.mono (by omega)
 exact (VB.head x y (x.ctl+1-_) _ (h1 _) (by omega)).mono (by omega)
theorem VB.det{v:VM}{n:Nat}(h:VB v n)(ku:12≤n)(x:CM)(y:RM):VB (VM.det x v y) (n+7):=by
 unfold VM.det;split
 ·
  exact (h.room x ku _ _).put 1 (by omega) _
 split
 ·
  exact (h.room x ku _ _).put 2 (by omega) _
 exact h.mono (by omega)
theorem VB.rows(x:CM)(l:List RM):∀i,VB (VM.rows x l i VM.ini) (12+55*i)
 | 0=>⟨by show 1≤_;omega,Nat.zero_le _,Nat.zero_le _⟩
 | i + 1 => by
  have ih:=VB.rows x l i;rw[VM.rows];split
  ·
   exact ih.mono (by omega)
  rename_i y _
  cases i with
  | zero =>
   have h1:=(ih.fst (by omega) x y).2.2;have h2:=h1.det (by omega) x y;exact VB.mono h2 (by omega)
  | succ j =>
   cases hj:l[j]? with
   | none =>
    have h2:=ih.det (by omega) x y;simp only[hj];exact VB.mono h2 (by omega)
   | some a =>
    have h1:=(ih.nxt (by omega) x l j a y 0).2;have h2:=h1.det (by omega) x y;simp only[hj];exact VB.mono h2 (by omega)
def VM.pre (x:CM) (l:List RM) (i:Nat) (y:RM):VM:=match i with
 | 0=>VM.fst x (VM.rows x l 0 VM.ini) y
 | j+1=>match l[j]? with
  | some a=>VM.nxt x (VM.rows x l (j+1) VM.ini) l j a y
  | none=>VM.rows x l (j+1) VM.ini
theorem O1(x:CM)(l:List RM){i:Nat}{y:RM}(h:l[i]?=some y):VM.rows x l (i+1) VM.ini=VM.det x (VM.pre x l i y) y:=by
 rw[VM.rows,h];cases i<;>rfl
theorem VB.pre(x:CM)(l:List RM){i:Nat}{y:RM}(h:l[i]?=some y):VB (VM.pre x l i y) (12+55*i+48):=by
 have ih:=VB.rows x l i;unfold VM.pre
 cases i with
 | zero=>exact VB.mono (ih.fst (by omega) x y).2.2 (by omega)
 | succ j =>
  cases hj:l[j]? with
  | none=>simp only[hj];exact VB.mono ih (by omega)
  | some a=>simp only[hj];exact (ih.nxt (by omega) x l j a y 0).2
theorem written_run{d:Nat}(hd:10≤d)(S:St)(x:CM)(l:List RM)(c:Option Nat)(hl:l.length≠0)(zF:l.length≤60)(e:Bool):∃z,LinZ z ((VM.all x l e).lines.map lnR)∧Bd LP NN d 16 [.agg x.row,.sl 4 (l.map RM.row) c,.bool e] S=some (z,S,false):=by
 obtain⟨d0,rfl⟩:∃e,d=e+1:=⟨d-1,by omega⟩;have hct:=x.ctl_lt;have hlen0:(((l.length:Nat):Int)==0)=false:=by simp;exact fun h=>hl (by rw[h];rfl)
 have hW0:VS [vO x (.int .i64 1) (.int .i64 0) false .nils] 0 x (VM.rows x l 0 VM.ini):=⟨.nils,rfl,.inl ⟨rfl,rfl⟩⟩;refine run_pure_ex (F:=F16) rfl (by simp only[LP,snapVs,Bh,zs,zm,CM.row]<;>exact rfl) rfl (by simp only[LP,zf,zm];try rfl) (by simp only[F16,zv]<;>exact rfl) (by omega) ?_;intro d he;obtain rfl:=Nat.succ.inj he;refine Ad (xo8 (h:=?_));refine Aw (Aa (Af ?_));refine Ad (xo0 (h:=Px (h:=Zn (h:=Ag rfl (Aa ?_)))));refine Af ?_;refine Ai (Ad (Ae rfl (xo34 (h:=Ac (by simp only[zo,Bf,hlen0]<;>exact rfl) ?_))));refine Aa (Af ?_);refine Dw ?_;refine Ak (Bi rfl (Ai (Ad (Aw (Aa (Af ?_))))));refine Aq (D5 (fun n env S'=>∃(i:Nat) (K:List Z9) (lo:Nat) (u4 u7 u8 u9 u10 u11 u12 u13 u14 u15 u16 u17 u18 u19 u20 u21 u22:D),i≤l.length∧VS K 0 x (VM.rows x l i VM.ini)∧n=l.length-i∧S'=⟨K,lo⟩∧env=[.agg x.row,.sl 4 (l.map RM.row) c,.bool e,.cptr x.row 0,u4,.ptr 0 0 0 0,.int .i64 (i:Nat),u7,u8,u9,u10,u11,u12,u13,u14,u15,u16,u17,u18,u19,u20,u21,u22]) (l.length) (by omega) (⟨0,_,_,_,_,_,_,_,_,_,_,_,_,_,_,_,_,_,_,_,by omega,hW0,by omega,rfl,rfl⟩) ?_);rintro n env S' ⟨i,K,lo,u4,u7,u8,u9,u10,u11,u12,u13,u14,u15,u16,u17,u18,u19,u20,u21,u22,hi,yg,hnA,rfl,rfl⟩;have hBi:=VB.rows x l i;refine Ai (Ad (Ae rfl (Ae rfl (xo34 (h:=xo2 (h:=?_))))));refine Aa (Af ?_);refine Bj (by simp only[opd,zv]<;>exact rfl) (fun xZ=>?_) (fun xZ=>?_)
 ·
  have yB:i<l.length:=by have:=of_decide_eq_true xZ;omega
  obtain⟨y,hy⟩:∃y,l[i]?=some y:=⟨_,Lg yB⟩;have ug:((0:Int)≤((i:Nat):Int))=True:=eq_true (by omega);have yH:=Dt i (by omega);have hlr:(l.map RM.row)[i]?=some y.row:=by rw[Lp_,hy];rfl
  have hWK1:=yg.app [⟨43,4,[y.row],0,0,false⟩];have hll:i<60:=by omega
  have hNy:y.N<1000:=Nat.mod_lt _ (by decide);refine Ak (Bi rfl (Ai (Aq (Ad (Ae rfl (Ae rfl (Ac (by simp only[zl,zm,Df,Int.toNat_natCast,ug,hlr,RM.row]<;>exact rfl) ?_)))))));refine xo0 (h:=Ko (h:=Qx (h:=?_)));refine Aa (Af ?_);refine Ig (fun env S'=>∃(K2:List Z9) (lo2:Nat) (u4 u8 u9 u10 u11 u12 u13 u14 u15 u16 u17 u18 u19 u20 u21 u22:D),VS K2 0 x (VM.pre x l i y)∧KeepV (K++[⟨43,4,[y.row],0,0,false⟩]) K2∧S'=⟨K2,lo2⟩∧env=[.agg x.row,.sl 4 (l.map RM.row) c,.bool e,.cptr x.row 0,u4,.ptr 0 0 0 0,.int .i64 (i:Nat),.ptr K.length 0 0 0,u8,u9,u10,u11,u12,u13,u14,u15,u16,u17,u18,u19,u20,u21,u22]) ?_ ?_
  ·
   refine Ad (Ae rfl (xo2 (h:=?_)));refine Aa (Af ?_);refine Bj (by simp only[opd,zv]<;>exact rfl) (fun xK=>?_) (fun xK=>?_)
   ·
    have wK:i=0:=by have:=eq_of_beq xK;omega
    have hWK0:=hWK1;rw[wK]at hWK0;refine Ig (fun env S'=>∃(K3:List Z9) (lo3:Nat) (u4 u8 u9 u10 u11 u12 u13 u14 u15 u16 u17 u18 u19 u20 u21 u22:D),VS K3 0 x (if x.has 0 then (VM.rows x l 0 VM.ini).put 1 [82,72] else VM.rows x l 0 VM.ini)∧KeepV (K++[⟨43,4,[y.row],0,0,false⟩]) K3∧S'=⟨K3,lo3⟩∧env=[.agg x.row,.sl 4 (l.map RM.row) c,.bool e,.cptr x.row 0,u4,.ptr 0 0 0 0,.int .i64 (i:Nat),.ptr K.length 0 0 0,u8,u9,u10,u11,u12,u13,u14,u15,u16,u17,u18,u19,u20,u21,u22]) ?_ ?_
    ·
     refine Ad (xo47 (h:=Ac (by simp only[zo];exact Jb (by omega) _ x 0 (by omega)) ?_));refine Aa (Af ?_);refine Bj (by simp only[opd,zv]<;>exact rfl) (fun hcATT=>?_) (fun hcATT=>?_)
     ·
      refine Am (Ae rfl ?_);obtain⟨H51,lo51,wr51,zJ,zM,wM,zh,wZ⟩:=(Uy (d:=d0) (by omega) (x:=x) (v:=VM.rows x l 0 VM.ini) (g:=0) (by have:=(VB.rows x l 0).lines;omega) (by have:=(VB.rows x l 0).line;omega) 1 (by omega) [82,72]).go (min lo K.length) hWK0;apply Ac (by simp only[zo];exact zJ);refine Aa (Gy (by simp only[ze]<;>exact rfl) ?_);exact⟨_,_,_,_,_,_,_,_,_,_,_,_,_,_,_,_,_,_,by rw[if_pos hcATT];exact zM,wM,rfl,rfl⟩
     refine Ak (Gy rfl ?_);exact⟨_,_,_,_,_,_,_,_,_,_,_,_,_,_,_,_,_,_,by rw[if_neg (by rw[hcATT];decide)];exact hWK0,KeepV.refl _,rfl,rfl⟩
    rintro env S' ⟨K3,lo3,u4,u8,u9,u10,u11,u12,u13,u14,u15,u16,u17,u18,u19,u20,u21,u22,hWa,hKa,rfl,rfl⟩;have hBf:=(VB.rows x l 0).fst (by omega) x y;refine Ad (Ae rfl ?_);obtain⟨H52,lo52,wr52,hc52,kZ,hK52,hlo52,hlm52⟩:=(top_v (d:=d0) (by omega) hBf.1 (by omega)).go lo3 hWa;have hy52:=(hKa.trans hK52).2 _ _ (G6 K [⟨43,4,[y.row],0,0,false⟩]) ⟨rfl,by simp⟩;apply Ac (by simp only[zo];exact hc52);refine Aa (Af ?_);refine Am (Ae rfl (Ac (by simp only[zl,zm,zd,Au,List.take,List.drop,RM.row,hy52]<;>exact rfl) ?_));obtain⟨H53,lo53,wr53,hc53,hW53,hK53,hlo53,hlm53⟩:=(head_v (d:=d0) (by omega) hBf.2.1 (by omega) (by omega) (l:=0) (Nat.zero_le _) y).go lo52 kZ;apply Ac (by simp only[zo];exact hc53);refine Aa (Gy (by simp only[ze]<;>exact rfl) ?_);rw[show VM.pre x l i y=VM.fst x (VM.rows x l 0 VM.ini) y by rw[wK];rfl];exact⟨_,_,_,_,_,_,_,_,_,_,_,_,_,_,_,_,_,_,hW53,((hKa.trans hK52).trans hK53),rfl,rfl⟩
   obtain⟨i1,wG⟩:∃i1,i=i1+1:=⟨i-1,by
    have h1:=ne_of_beq_false xK;have h2:i≠0:=fun h=>by rw[h]at h1;exact h1 rfl
    omega⟩
   obtain⟨a,ha⟩:∃a,l[i1]?=some a:=⟨_,Lg (by omega)⟩;have hla:(l.map RM.row)[i1]?=some a.row:=by rw[Lp_,ha];rfl
   have hge1:((0:Int)≤((i1:Nat):Int))=True:=eq_true (by omega);have zT:IntKind.i64.wrap (((i:Nat):Int)-1)=((i1:Nat):Int):=by rw[IntKind.wrap_i64]<;>omega
   have hpre:VM.pre x l i y=VM.nxt x (VM.rows x l i VM.ini) l i1 a y:=by rw[wG];simp only[VM.pre,ha]
   refine Ad (Aw (Aa (Af ?_)));refine Ai (Ad (xo47 (h:=Ac (by simp only[zo];exact L8 (by omega) _ x) ?_)));refine Ag rfl (Aa (Af ?_));refine Aq (D5 (fun n env S'=>∃(k:Nat) (u4 u10 u11 u12 u13 u14 u15 u16 u17 u18 u19 u20 u21 u22:D),k≤x.ctl∧n=k∧S'=⟨K++[⟨43,4,[y.row],0,0,false⟩],min lo K.length⟩∧env=[.agg x.row,.sl 4 (l.map RM.row) c,.bool e,.cptr x.row 0,u4,.ptr 0 0 0 0,.int .i64 (i:Nat),.ptr K.length 0 0 0,.int .i64 (lvD a y (x.ctl-k) k:Nat),.int .i64 (k:Nat),u10,u11,u12,u13,u14,u15,u16,u17,u18,u19,u20,u21,u22]) (x.ctl) (by omega) (⟨x.ctl,_,_,_,_,_,_,_,_,_,_,_,_,_,_,Nat.le_refl _,by omega,rfl,by rw[Nat.sub_self]<;>rfl⟩) ?_);rintro n env S' ⟨k,u4,u10,u11,u12,u13,u14,u15,u16,u17,u18,u19,u20,u21,u22,hk,hnB,rfl,rfl⟩;refine Ai (Ad (Ae rfl (Ac (by simp only[zo,Bf,RM.row]<;>exact rfl) ?_)));refine Aa (Af ?_);refine Bj (by simp only[opd,zv]<;>exact rfl) (fun wC=>?_) (fun wC=>?_)
   ·
    obtain⟨k0,rfl⟩:∃k0,k=k0+1:=⟨k-1,by have:=of_decide_eq_true wC;omega⟩;have vN:IntKind.i64.wrap (((k0+1:Nat):Int)-1)=((k0:Nat):Int):=by rw[IntKind.wrap_i64]<;>omega
    refine Ak (Bi rfl (Ai (Aq (Ai (Eh ?_)))));refine Az (by simp only[zl,zm,zd,Au,List.drop]<;>exact rfl) rfl ?_;refine Bc rfl rfl (Bc rfl rfl (Aj (by simp only[zo,Bf,zT]<;>exact rfl) rfl rfl ?_));refine Az (by simp only[zl,zm,Df,Int.toNat_natCast,RM.row,hla,hge1]<;>exact rfl) rfl ?_;refine xo7 (h:=xo7 (h:=Bc rfl rfl (Az (by simp only[zo];exact Zj (by omega) _ x a y _) rfl ?_)));refine Ce (Af ?_);refine Bj (by simp only[opd,zv]<;>exact rfl) (fun qN=>?_) (fun qN=>?_)
    ·
     have hlv:lvD a y (x.ctl-k0) k0=k0+1:=by rw[show x.ctl-k0=(x.ctl-(k0+1))+1 by omega,lvD,if_pos qN]
     refine Am (Ae rfl (Ag rfl (Aa (D8 (Af ?_)))));refine Am (Ae rfl (Ac (by simp only[zo,Bf,vN]<;>exact rfl) ?_));refine Ag rfl (Aa (Gh (by simp only[ze]<;>exact rfl) ?_));exact⟨k0,by omega,k0,_,_,_,_,_,_,_,_,_,_,_,_,_,_,by omega,rfl,rfl,by rw[hlv]<;>rfl⟩
    have hlv:lvD a y (x.ctl-k0) k0=lvD a y (x.ctl-(k0+1)) (k0+1):=by rw[show x.ctl-k0=(x.ctl-(k0+1))+1 by omega,lvD,if_neg (by rw[qN];decide)]
    refine Ak (D8 (Bi rfl (Am (Ae rfl (Ac (by simp only[zo,Bf,vN]<;>exact rfl) ?_)))));refine Ag rfl (Aa (Gh (by simp only[ze]<;>exact rfl) ?_));exact⟨k0,by omega,k0,_,_,_,_,_,_,_,_,_,_,_,_,_,_,by omega,rfl,rfl,by rw[hlv]<;>rfl⟩
   have hk0:k=0:=by have:=of_decide_eq_false wC;omega
   subst hk0;rw[Nat.sub_zero];have hlvl:=lvD_le a y x.ctl 0;refine Dh (Gj (Hu (Gl (Bi rfl (Ad (Ae rfl (xo2 (h:=?_))))))));refine Aa (Af ?_);refine Bj (by simp only[opd,zv]<;>exact rfl) (fun yF=>?_) (fun yF=>?_)
   ·
    have hlv0:lvD a y x.ctl 0≠0:=by have:=of_decide_eq_true yF;omega
    refine Ad (Ae rfl (Ae rfl (Ae rfl (Ae rfl (Ac (by simp only[zo,Bf,zT]<;>exact rfl) ?_)))));obtain⟨H55,lo55,wr55,hc55,hW55,hK55,hlo55,hlm55⟩:=(foot_v (d:=d0) (by omega) hBi (by omega) (by omega) (l:=lvD a y x.ctl 0) (by omega) l c i1 (by omega) (by omega) ha).go (min lo K.length) hWK1;have hy55:=hK55.2 _ _ (G6 K [⟨43,4,[y.row],0,0,false⟩]) ⟨rfl,by simp⟩;apply Ac (by simp only[zo];exact hc55);refine Aa (Af ?_);refine Am (Ae rfl (Ae rfl (Ac (by simp only[zl,zm,zd,Au,List.take,List.drop,RM.row,hy55]<;>exact rfl) ?_)));obtain⟨H53,lo53,wr53,hc53,hW53,hK53,hlo53,hlm53⟩:=(head_v (d:=d0) (by omega) (hBi.nxt (by omega) x l i1 a y (lvD a y x.ctl 0)).1 (by omega) (by omega) (l:=lvD a y x.ctl 0) (by omega) y).go lo55 hW55;apply Ac (by simp only[zo];exact hc53);refine Aa (Gy (by simp only[ze]<;>exact rfl) ?_);rw[hpre,VM.nxt,if_neg hlv0];exact⟨_,_,_,_,_,_,_,_,_,_,_,_,_,_,_,_,_,_,hW53,(hK55.trans hK53),rfl,rfl⟩
   have hlv0:lvD a y x.ctl 0=0:=by have:=of_decide_eq_false yF;omega
   refine Ak (Gy rfl ?_);rw[hpre,VM.nxt,if_pos hlv0];exact⟨_,_,_,_,_,_,_,_,_,_,_,_,_,_,_,_,_,_,hWK1,KeepV.refl _,rfl,rfl⟩
  rintro env S' ⟨K2,lo2,u4,u8,u9,u10,u11,u12,u13,u14,u15,u16,u17,u18,u19,u20,u21,u22,hW2,hK2,rfl,rfl⟩;have hy2:K2[K.length]?=some ⟨43,4,[[.int .u8 (y.a:Nat),.int .u8 (y.b:Nat),.int .u16 (y.n:Nat),.int .u8 (y.e:Nat)]],0,0,false⟩:=hK2.2 _ _ (G6 K [⟨43,4,[y.row],0,0,false⟩]) ⟨rfl,by simp⟩;have yR:=VB.pre x l hy;have xP:VM.rows x l (i+1) VM.ini=VM.det x (VM.pre x l i y) y:=O1 x l hy;have hdet:=trivial;refine Ad (Ac (by simp only[zl,zm,zd,Au,List.take,List.drop,hy2]<;>exact rfl) ?_);apply Ac (by simp only[zo];exact rdet_run (by omega) _ y);refine Aa (Af ?_);refine Aq (Ad (xo2 (h:=Ag rfl (Aa ?_))));refine Af ?_;refine Bj (by simp only[opd,zv]<;>exact rfl) (fun hcATq=>?_) (fun hcATq=>?_)
  ·
   have hd0:y.det=0:=eq_of_beq hcATq;have hnp:=Nr x.np x.h.2.2.2.1;have hnp2:=Ym x.np;have hnp3:(x.np % 2==1)=x.npb 0:=by simp[CM.npb]
   refine Ad (Ae rfl (Ac (by simp only[zo,Ei,zm,CM.row]<;>exact rfl) ?_));refine xo9 (h:=Ac (by simp only[zo,hnp]<;>exact rfl) ?_);apply Ac (by simp only[zo,Bf,hnp2,hnp3,CM.row]<;>exact rfl);obtain⟨H56,lo56,wr56,uU,uX,vM,rM,rO⟩:=(Xz (d:=d0) (by omega) yR (by omega) (by omega) 1 (by omega) (x.npb 0)).go lo2 hW2;have hy56:=vM.2 _ _ hy2 ⟨rfl,by simp⟩;apply Ac (by simp only[zo,CM.row];exact uU);refine Aa (Af ?_);refine Eh ?_;refine Bc rfl rfl (Az (by simp only[zl,zm,zd,Au,List.take,List.drop,CM.row,hy56]<;>exact rfl) rfl ?_);refine Az (by simp only[zo,CM.row];exact U4 (by omega) _ y) rfl ?_;refine Az (by simp only[zl,zm,zd,Au,List.take,List.drop,CM.row,hy56]<;>exact rfl) rfl ?_;refine Az (by simp only[zo,CM.row];exact Qa (by omega) _ y) rfl ?_;apply Aj (by simp only[opd,zv,Ar,aop,LOp.loud,if_false,Bool.false_eq_true];exact congrArg (Option.map fun r=>(r,_,false)) (N9 [y.A] [y.B] (by simp[]))) rfl rfl;apply Aj (by simp only[opd,zv,Ar,aop,LOp.loud,if_false,Bool.false_eq_true];exact congrArg (Option.map fun r=>(r,_,false)) (N9 ([y.A]++[y.B]) [32] (by simp[]))) rfl rfl;refine Az (by simp only[zl,zm,zd,Au,List.take,List.drop,CM.row,hy56]<;>exact rfl) rfl ?_;refine Az (by simp only[zo,CM.row];exact rn_run (by omega) _ y) rfl ?_;refine Az (by simp only[zo,CM.row];exact I8 (by omega) _ y.N 3 (by omega) (by omega)) rfl ?_;apply Aj (by simp only[opd,zv,Ar,aop,LOp.loud,if_false,Bool.false_eq_true];exact congrArg (Option.map fun r=>(r,_,false)) (N9 ([y.A]++[y.B]++[32]) (Bl y.N 3) (by simp[Bz]))) rfl rfl;have vw:=yR.room x (by omega) 1 (x.npb 0);obtain⟨H51,lo51,wr51,zJ,zM,wM,zh,wZ⟩:=(Uy (d:=d0) (by omega) (x:=x) (v:=(VM.pre x l i y).room x 1 (x.npb 0)) (g:=0) (by have:=vw.lines;omega) (by have:=vw.line;omega) 1 (by omega) (d0Txt y)).go lo56 uX;apply Dc (by simp only[zo,CM.row];exact zJ) (by simp only[fpHere,zo,zq]<;>exact rfl) (by cases wr51<;>first | rfl | (simp[show ob 2047 11=[true,true,true,true,true,true,true,true,true,true,true] from rfl,Aab,Iy,okHere,Je,Ew,Ir,dj,Dv,fpQuiet,Jh,Es,Qi,Gz,Ey];done));refine Ce (D8 (D8 (Af ?_)));refine Am (Ae rfl (Ac (by simp only[zo,Bf,yH,CM.row]<;>exact rfl) ?_));refine Ag rfl (Aa (Gh (by simp only[ze]<;>exact rfl) ?_));exact⟨l.length-(i+1),by omega,i+1,_,_,_,_,_,_,_,_,_,_,_,_,_,_,_,_,_,_,_,by omega,by rw[xP];exact (by rw[VM.det,if_pos hd0];exact zM),rfl,rfl,rfl⟩
  have hd0:¬y.det=0:=ne_of_beq_false hcATq;refine Ad (xo2 (h:=Ag rfl (Aa ?_)));refine Af ?_;refine Bj (by simp only[opd,zv]<;>exact rfl) (fun kU=>?_) (fun kU=>?_)
  ·
   have hd1:y.det=1:=eq_of_beq kU;refine Ad (Ae rfl ?_);obtain⟨H56,lo56,wr56,uU,uX,vM,rM,rO⟩:=(Xz (d:=d0) (by omega) yR (by omega) (by omega) 2 (by omega) false).go lo2 hW2;have hy56:=vM.2 _ _ hy2 ⟨rfl,by simp⟩;apply Ac (by simp only[zo];exact uU);refine Aa (Af ?_);refine Am (Ae rfl (Ac (by simp only[zl,zm,zd,Au,List.take,List.drop,hy56]<;>exact rfl) ?_));apply Ac (by simp only[zo];exact rn_run (by omega) _ y);apply Ac (by simp only[zo];exact I8 (by omega) _ y.N 3 (by omega) (by omega));apply Ac (by simp only[opd,zv,Ar,aop,LOp.loud,if_false,Bool.false_eq_true];exact congrArg (Option.map fun r=>(r,_,false)) (N9 [32,32,32,32,32,32,32,32,32] (Bl y.N 3) (by simp[Bz])));have vw:=yR.room x (by omega) 2 false;obtain⟨H51,lo51,wr51,zJ,zM,wM,zh,wZ⟩:=(Uy (d:=d0) (by omega) (x:=x) (v:=(VM.pre x l i y).room x 2 false) (g:=0) (by have:=vw.lines;omega) (by have:=vw.line;omega) 2 (by omega) (d1Txt y)).go lo56 uX;apply Ac (by simp only[zo];exact zJ);refine Aa (D8 (D8 (Af ?_)));refine Am (Ae rfl (Ac (by simp only[zo,Bf,yH]<;>exact rfl) ?_));refine Ag rfl (Aa (Gh (by simp only[ze]<;>exact rfl) ?_));exact⟨l.length-(i+1),by omega,i+1,_,_,_,_,_,_,_,_,_,_,_,_,_,_,_,_,_,_,_,by omega,by rw[xP];exact (by rw[VM.det,if_neg hd0,if_pos hd1];exact zM),rfl,rfl,rfl⟩
  have hd1:¬y.det=1:=ne_of_beq_false kU;refine Ak (D8 (D8 (Bi rfl (Am (Ae rfl (Ac (by simp only[zo,Bf,yH]<;>exact rfl) ?_))))));refine Ag rfl (Aa (Gh (by simp only[ze]<;>exact rfl) ?_));exact⟨l.length-(i+1),by omega,i+1,_,_,_,_,_,_,_,_,_,_,_,_,_,_,_,_,_,_,_,by omega,by rw[xP];exact (by rw[VM.det,if_neg hd0,if_neg hd1];exact hW2),rfl,rfl,rfl⟩
 have yV:i=l.length:=by have:=of_decide_eq_false xZ;omega
 subst yV;refine Dh (Gj (Hu (Gl (Bi rfl ?_))));refine Ig (fun env S'=>∃(K6:List Z9) (lo6:Nat) (u4 u6 u7 u8 u9 u10 u11 u12 u13 u14 u15 u16 u17 u18 u19 u20 u21 u22:D),VS K6 0 x (VM.all x l e)∧S'=⟨K6,lo6⟩∧env=[.agg x.row,.sl 4 (l.map RM.row) c,.bool e,.cptr x.row 0,u4,.ptr 0 0 0 0,u6,u7,u8,u9,u10,u11,u12,u13,u14,u15,u16,u17,u18,u19,u20,u21,u22]) ?_ ?_
 ·
  refine Ad (Ae rfl (Aa (Af ?_)));refine Bj (by simp only[opd,zv]<;>exact rfl) (fun hcAF=>?_) (fun hcAF=>?_)
  ·
   obtain⟨yl,hyl⟩:∃y,l[l.length-1]?=some y:=⟨_,Lg (by omega)⟩;have xu:VM.all x l e=VM.fin x (VM.rows x l l.length VM.ini) l yl:=by rw[VM.all,if_pos (by simpa using hcAF),hyl]
   have hwl:IntKind.i64.wrap (((l.length:Nat):Int)-1)=((l.length-1:Nat):Int):=by rw[IntKind.wrap_i64]<;>omega
   have hBl:=(VB.rows x l l.length);have hBl2:VB (VM.fin1 x (VM.rows x l l.length VM.ini) l yl) (12+55*l.length+27):=(VB.foot x l (l.length-1) yl (x.ctl+1-0) (x.ctl+1) hBl (by omega)).mono (by omega);refine Ad (Ae rfl (Ae rfl (Ae rfl (xo34 (h:=Ac (by simp only[zo,Bf,hwl]<;>exact rfl) ?_)))));obtain⟨H55,lo55,wr55,hc55,hW55,hK55,hlo55,hlm55⟩:=(show VF d0 55 _ 0 x _ (VM.fin1 x (VM.rows x l l.length VM.ini) l yl) from foot_v (d:=d0) (by omega) hBl (by omega) (by omega) (l:=0) (Nat.zero_le _) l c (l.length-1) (by omega) (by omega) hyl).go lo yg;apply Ac (by simp only[zo];exact hc55);refine Aa (Af ?_);refine Ig (fun env S'=>∃(K5:List Z9) (lo5:Nat) (u4 u6 u7 u8 u9 u10 u11 u12 u13 u14 u15 u16 u17 u18 u19 u20 u21 u22:D),VS K5 0 x (VM.fin2 x (VM.fin1 x (VM.rows x l l.length VM.ini) l yl))∧S'=⟨K5,lo5⟩∧env=[.agg x.row,.sl 4 (l.map RM.row) c,.bool e,.cptr x.row 0,u4,.ptr 0 0 0 0,u6,u7,u8,u9,u10,u11,u12,u13,u14,u15,u16,u17,u18,u19,u20,u21,u22]) ?_ ?_
   ·
    refine Ad (xo47 (h:=Ac (by simp only[zo];exact Jb (by omega) _ x 9 (by omega)) ?_));refine Aa (Af ?_);refine Bj (by simp only[opd,zv]<;>exact rfl) (fun hcAFT=>?_) (fun hcAFT=>?_)
    ·
     refine Ad (Ae rfl ?_);obtain⟨H56,lo56,wr56,uU,uX,vM,rM,rO⟩:=(Xz (d:=d0) (by omega) hBl2 (by omega) (by omega) 1 (by omega) false).go lo55 hW55;apply Ac (by simp only[zo];exact uU);refine Aa (Af ?_);refine Am (Ae rfl ?_);have vw:=hBl2.room x (by omega) 1 false;obtain⟨H51,lo51,wr51,zJ,zM,wM,zh,wZ⟩:=(Uy (d:=d0) (by omega) (x:=x) (v:=(VM.fin1 x (VM.rows x l l.length VM.ini) l yl).room x 1 false) (g:=0) (by have:=vw.lines;omega) (by have:=vw.line;omega) 1 (by omega) [82,70]).go lo56 uX;apply Ac (by simp only[zo];exact zJ);refine Aa (Gy (by simp only[ze]<;>exact rfl) ?_);exact⟨_,_,_,_,_,_,_,_,_,_,_,_,_,_,_,_,_,_,_,_,by rw[VM.fin2,if_pos hcAFT];exact zM,rfl,rfl⟩
    refine Ak (Gy rfl ?_);exact⟨_,_,_,_,_,_,_,_,_,_,_,_,_,_,_,_,_,_,_,_,by rw[VM.fin2,if_neg (by rw[hcAFT];decide)];exact hW55,rfl,rfl⟩
   rintro env S' ⟨K5,lo5,u4,u6,u7,u8,u9,u10,u11,u12,u13,u14,u15,u16,u17,u18,u19,u20,u21,u22,hW5,rfl,rfl⟩
   have hB2f:VB (VM.fin2 x (VM.fin1 x (VM.rows x l l.length VM.ini) l yl)) (12+55*l.length+34):=by
    unfold VM.fin2;split
    ·
     exact (hBl2.room x (by omega) 1 false).put 1 (by omega) _
    exact hBl2.mono (by omega)
   refine Ad (xo47 (h:=Ac (by simp only[zo];exact L6 (by omega) _ x) ?_));refine Aa (Af ?_);refine Bj (by simp only[opd,zv]<;>exact rfl) (fun kX=>?_) (fun kX=>?_)
   ·
    refine Am (Ae rfl ?_);obtain⟨H57,lo57,wr57,hc57,qO,hK57,hlo57,hlm57⟩:=(bot_v (d:=d0) (by omega) hB2f (by omega)).go lo5 hW5;apply Ac (by simp only[zo];exact hc57);refine Aa (Gy (by simp only[ze]<;>exact rfl) ?_);exact⟨_,_,_,_,_,_,_,_,_,_,_,_,_,_,_,_,_,_,_,_,by rw[xu,VM.fin,if_pos kX];exact qO,rfl,rfl⟩
   refine Ak (Gy rfl ?_);exact⟨_,_,_,_,_,_,_,_,_,_,_,_,_,_,_,_,_,_,_,_,by rw[xu,VM.fin,if_neg (by rw[kX];decide)];exact hW5,rfl,rfl⟩
  have xu:VM.all x l e=VM.rows x l l.length VM.ini:=by rw[VM.all,if_neg (by rw[show e=false by simpa using hcAF];decide)]
  refine Ak (Gy rfl ?_);exact⟨_,_,_,_,_,_,_,_,_,_,_,_,_,_,_,_,_,_,_,_,by rw[xu];exact yg,rfl,rfl⟩
 rintro env S' ⟨K6,lo6,u4,u6,u7,u8,u9,u10,u11,u12,u13,u14,u15,u16,u17,u18,u19,u20,u21,u22,hW6,rfl,rfl⟩;obtain⟨lin6,hw6,hlin6⟩:=hW6;refine Ad (Ae rfl (xo3 (h:=xo1 (h:=Ac (by simp only[zl,zm,zd,Au,List.take,List.drop,vO,Jc,hw6]<;>exact rfl) ?_))));refine Ag rfl (Aa (Af ?_));apply A7;obtain⟨z,hz,hlz⟩:=hlin6.leaveP lo6;refine⟨z,hz,?_⟩;refine⟨_,by simp only[F16,resultD,Ba,resD,zg]<;>exact rfl,?_⟩;exact hlz
def toV (w:WM):VM:=⟨w.page,w.line,w.body,w.lines⟩
theorem CM.P_iff(x:CM):x.P=0↔x.paged=false:=by
 unfold CM.P;cases x.paged<;>simp
theorem CM.L_eq(x:CM)(h:x.paged=true):x.L=x.last∧x.F=x.first:=by simp[CM.L,CM.F,h]
theorem toV_put(w:WM)(p:Nat)(s:List UInt8):toV (w.put p s)=(toV w).put p s:=rfl
theorem Xt(w:WM)(p:Nat)(its:List It):w.write [(p,its)]=w.put p (Eg w its):=rfl
theorem fillL1(i:Nat)(h:i<10):Bl i 1=[dgt i]:=by
 simp[Bl,dgt,Nat.mod_eq_of_lt h]
theorem rend_L2(w:WM)(a b:UInt8):Eg w [.lit 1 [a,b]]=[a,b]:=by simp[Eg,O4,It.col,It.txt]
theorem rend_LP(w:WM)(a:UInt8):Eg w [.lit 1 [a],.pag]=[a,32]++Bl w.page 2:=by simp[Eg,O4,It.col,It.txt]
theorem rend_H(w:WM)(y:RM)(hr:w.row=some y)(i:Nat)(hi:i<10):Eg w [.lit 1 [72,dgt i],.key 4 0,.key 5 1]=hTxt y i:=by simp[Eg,O4,It.col,It.txt,hr,hTxt,fillL1 i hi]
theorem rend_F(w:WM)(y:RM)(hr:w.row=some y)(i:Nat)(hi:i<10)(l:List RM)(last:Nat):Eg w [.lit 1 [70,dgt i],.key 4 0,.key 5 1,.tot i]=Zq l last i y (w.tot.getD i 0):=by simp[Eg,O4,It.col,It.txt,hr,Zq,fillL1 i hi]
theorem rend_D1(w:WM)(y:RM)(hr:w.row=some y):Eg w [.key 1 0,.key 2 1,.num 4]=d0Txt y:=by simp[Eg,O4,It.col,It.txt,hr,d0Txt]
theorem rend_D2(w:WM)(y:RM)(hr:w.row=some y):Eg w [.num 10]=d1Txt y:=by simp[Eg,O4,It.col,It.txt,hr,d1Txt,List.replicate]
theorem bot_eq(x:CM)(hp:x.paged=true)(w:WM):toV (Dk x w)=VM.bot x (toV w):=by
 have hL:=(x.L_eq hp).1;have e:x.tg 6 0=if x.has 8 then tPF else tZ:=by simp[CM.tg,hp]
 unfold Dk VM.bot;rw[e,hL];split
 ·
  show toV (WM.write _ [(2,[.lit 1 [66],.pag])])=_;rw[Xt,rend_LP];rfl
 rfl
theorem top_eq(x:CM)(w:WM):toV (w.write (x.tg 2 0).tl)=VM.top x (toV w):=by
 have e:x.tg 2 0=if x.paged&&x.has 1 then tPH else tZ:=by simp[CM.tg,Bool.and_comm]
 unfold VM.top;rw[e];split
 ·
  show toV (WM.write _ [(1,[.lit 1 [80],.pag])])=_;rw[Xt,rend_LP];rfl
 rfl
theorem top_body(x:CM)(v:VM)(b:Bool):VM.top x { v with body:=b }={ VM.top x v with body:=b }:=by
 unfold VM.top;split<;>rfl
theorem newp_eq(x:CM)(hp:x.paged=true)(w:WM):toV (Em x w)={ VM.newp x (toV w) with body:=false }:=by
 unfold Em VM.newp;rw[top_eq,←top_body,←bot_eq x hp w];rfl
theorem room_eq(x:CM)(w:WM)(t:TG)(f:Bool)(ht:t.tl≠[])(hf:x.paged=true→t.np=f):toV (Gq x w t)=(toV w).room x t.h f:=by
 unfold Gq VM.room
 cases hp:x.paged with
 | false=>rw[if_pos (x.P_iff.2 hp)];simp
 | true =>
  have h1:=x.L_eq hp;rw[if_neg (by rw[x.P_iff,hp];simp),if_neg ht]
  have hb:Gv x w t=(toV w).brk x t.h f:=by
   unfold Gv VM.brk;rw[h1.1,h1.2,hf hp,Nat.add_comm];rfl
  rw[hb];simp only[if_true]
  cases (toV w).brk x t.h f with
  | false=>simp only[Bool.false_eq_true,if_false];rw[h1.2];rfl
  | true =>
   simp only[if_true];have h2:=newp_eq x hp w;have h3:(Em x w).line=(VM.newp x (toV w)).line:=congrArg VM.line h2;have h4:(Em x w).page=(VM.newp x (toV w)).page:=congrArg VM.page h2;have h5:(Em x w).lines=(VM.newp x (toV w)).lines:=congrArg VM.lines h2;show (⟨(Em x w).page,max (Em x w).line (x.F-1),true,(Em x w).lines⟩:VM)=_;rw[h3,h4,h5,h1.2]
def InvV (x:CM) (v:VM):Prop:=x.paged=true→if v.body then v.line≤x.last else v.line≤2
theorem Rz{x:CM}{v:VM}(h:InvV x v)(n:Nat)(hn:n≤2)(f:Bool)(hp:x.paged=true):(v.room x n f).line+n≤x.last∧(v.room x n f).body=true:=by
 have hl:=x.last_le;have h0:=h hp;unfold VM.room;rw[if_pos hp]
 cases hb:v.brk x n f with
 | true =>
  simp only[if_true];refine⟨?_,trivial⟩
  have:(VM.newp x v).line≤1:=by
   unfold VM.newp VM.top;split
   ·
    simp[VM.put]
   simp
  show max (VM.newp x v).line (x.first-1)+n≤x.last;omega
 | false =>
  simp only[Bool.false_eq_true,if_false];refine⟨?_,trivial⟩;show max v.line (x.first-1)+n≤x.last
  cases hv:v.body with
  | true =>
   rw[hv,if_pos rfl]at h0
   have:¬(x.last<max v.line (x.first-1)+n):=fun h'=>by
    have:v.brk x n f=true:=by simp[VM.brk,hv,h']
    rw[hb]at this;simp at this
   omega
  | false =>
   rw[hv]at h0;simp at h0;omega
theorem Wx{x:CM}{v:VM}{p:Nat}(s:List UInt8)(h:x.paged=true→v.line+p≤x.last∧v.body=true):InvV x (v.put p s):=fun hp=>by
 obtain⟨h1,h2⟩:=h hp;show if v.body then v.line+p≤x.last else _
 rw[h2,if_pos rfl];exact h1
theorem inv_ub{x:CM}{v:VM}(h:InvV x v)(hp:x.paged=true):max v.line (x.first-1)≤x.last:=by
 have hl:=x.last_le;have h0:=h hp;split at h0<;>omega
theorem X4{x:CM}{w:WM}(h:InvV x (toV w)):Dz x w tZ=w:=by
 unfold Dz Gq;show (if x.P=0 then w else if tZ.tl=[] then (if Gv x w tZ then Em x w else w) else _:WM).write []=w;split
 ·
  rfl
 rename_i hP
 have hp:x.paged=true:=by
  cases h:x.paged with
  | true=>rfl
  | false=>exact absurd (x.P_iff.2 h) hP
 have h1:=inv_ub h hp;have h2:=x.L_eq hp
 have hb:Gv x w tZ=false:=by
  simp only[Gv,tZ,TG.h,Bool.false_or,Bool.and_eq_false_imp,decide_eq_false_iff_not,h2.1,h2.2,List.map_nil,List.sum_nil];intro _;have:(toV w).line=w.line:=rfl;rw[this]at h1;omega
 rw[if_pos (show tZ.tl=[] from rfl),hb];rfl
theorem pres1(x:CM)(w:WM)(t:TG)(f:Bool){p:Nat}{its:List It}(ht:t.tl=[(p,its)])(hf:x.paged=true→t.np=f):toV (Dz x w t)=((toV w).room x t.h f).put p (Eg (Gq x w t) its):=by
 unfold Dz;rw[ht,Xt,toV_put,room_eq x w t f (by rw[ht];simp) hf]
theorem Rh(x:CM)(w:WM)(t:TG):(Gq x w t).row=w.row:=(room_f x w t).1
theorem pres_H{x:CM}{w:WM}{y:RM}(hr:w.row=some y){i:Nat}(hi:i<3){b f:Bool}(hf:x.paged=true→b=f):toV (Dz x w (tH i b))=((toV w).room x 1 f).put 1 (hTxt y i):=by
 rw[pres1 x w (tH i b) f rfl hf,rend_H _ y ((Rh _ _ _).trans hr) i (by omega)];rfl
theorem pres_D1{x:CM}{w:WM}{y:RM}(hr:w.row=some y){b f:Bool}(hf:x.paged=true→b=f):toV (Dz x w (tD1 b))=((toV w).room x 1 f).put 1 (d0Txt y):=by
 rw[pres1 x w (tD1 b) f rfl hf,rend_D1 _ y ((Rh _ _ _).trans hr)];rfl
theorem pres_D2{x:CM}{w:WM}{y:RM}(hr:w.row=some y):toV (Dz x w tD2)=((toV w).room x 2 false).put 2 (d1Txt y):=by
 rw[pres1 x w tD2 false rfl (fun _=>rfl),rend_D2 _ y ((Rh _ _ _).trans hr)];rfl
theorem pres_RF{x:CM}{w:WM}:toV (Dz x w tRF)=((toV w).room x 1 false).put 1 [82,70]:=by
 rw[pres1 x w tRF false rfl (fun _=>rfl),rend_L2];rfl
theorem pres_F{x:CM}{w:WM}{y:RM}(hr:w.row=some y){i:Nat}(hi:i<3)(b:Bool)(l:List RM)(last:Nat):toV (Dz x w (tF i b))=if b then (((toV w).room x 2 false).put 1 (Zq l last i y (w.tot.getD i 0))).put 1 [] else ((toV w).room x 1 false).put 1 (Zq l last i y (w.tot.getD i 0)):=by
 have ht:∀b,(Gq x w (tF i b)).tot=w.tot:=fun b=>(room_f x w (tF i b)).2.1
 cases b with
 | false =>
  rw[pres1 x w (tF i false) false rfl (fun _=>rfl),rend_F _ y ((Rh _ _ _).trans hr) i (by omega) l last,ht];rfl
 | true =>
  unfold Dz;show toV (WM.write (WM.write _ [(1,[.lit 1 [70,dgt i],.key 4 0,.key 5 1,.tot i])]) [(1,[])])=_;rw[Xt,Xt,toV_put,toV_put,rend_F _ y ((Rh _ _ _).trans hr) i (by omega) l last,room_eq x w (tF i true) false (by simp[tF]) (fun _=>rfl),ht];rfl
theorem inv_headI{x:CM}{v:VM}(h:InvV x v)(y:RM)(i:Nat):InvV x (v.headI x y i):=by
 unfold VM.headI;split
 ·
  exact Wx _ fun hp=>Rz h 1 (by omega) _ hp
 exact h
theorem inv_footI{x:CM}{v:VM}(h:InvV x v)(l:List RM)(last:Nat)(y:RM)(i:Nat):InvV x (v.footI x l last y i):=by
 unfold VM.footI;split
 ·
  split
  ·
   refine Wx _ fun hp=>?_;have:=Rz h 2 (by omega) false hp;exact⟨by show (v.room x 2 false).line+1+1≤_;omega,this.2⟩
  exact Wx _ fun hp=>Rz h 1 (by omega) _ hp
 exact h
theorem nps_npb{x:CM}(hp:x.paged=true)(k:Nat):x.nps k=x.npb k:=by simp[CM.nps,CM.npb,hp]
theorem headI_eq{x:CM}{w:WM}{y:RM}(hr:w.row=some y)(hI:InvV x (toV w)){i:Nat}(hi:i<3):toV (Dz x w (x.tg 3 i))=(toV w).headI x y i:=by
 unfold VM.headI;have e:x.tg 3 i=if x.has (2+i) then tH i (x.nps (1+i)) else tZ:=rfl
 rw[e];split
 ·
  exact pres_H hr hi (fun hp=>nps_npb hp _)
 rw[X4 hI]
theorem headN_eq{x:CM}{y:RM}:∀(k i:Nat) {w:WM},w.row=some y→InvV x (toV w)→i+k≤3→toV (headN x i k w)=VM.headN x y i k (toV w)∧InvV x (toV (headN x i k w))
 | 0,_,_,_,hI,_=>⟨rfl,hI⟩
 | k+1,i,w,hr,hI,hk=>by
  have h1:=headI_eq hr hI (i:=i) (by omega);have h2:=headN_eq k (i+1) (w:=Dz x w (x.tg 3 i)) ((Iw x w _).1.trans hr) (by rw[h1];exact inv_headI hI y i) (by omega);rw[h1]at h2;exact h2
theorem toV_clr(w:WM)(i:Nat):toV (w.clr i)=toV w:=rfl
theorem getD_set(l:List Nat)(i j:Nat):(l.set i 0).getD j 0=if i=j then 0 else l.getD j 0:=by
 rw[List.getD_eq_getElem?_getD,List.getD_eq_getElem?_getD,List.getElem?_set];split
 ·
  split<;>rfl
 rfl
theorem footI_eq{x:CM}{w:WM}{a:RM}(hr:w.row=some a)(hI:InvV x (toV w)){i:Nat}(hi:i<3)(l:List RM)(last:Nat)(ht:w.tot.getD i 0=Vm x l last i):toV ((Dz x w (x.tg 5 i)).clr i)=(toV w).footI x l last a i:=by
 rw[toV_clr];unfold VM.footI;have e:x.tg 5 i=if x.has (5+i) then tF i (x.blk i) else tZ:=rfl
 rw[e];split
 ·
  rw[pres_F hr hi (x.blk i) l last,ht]
 rw[X4 hI]
theorem footN_eq{x:CM}{a:RM}(l:List RM)(last:Nat):∀(k i:Nat) {w:WM},w.row=some a→InvV x (toV w)→i≤3→k≤i→(∀j,j<i→w.tot.getD j 0=Vm x l last j)→toV (footN x i k w)=VM.footN x l last a i k (toV w)∧InvV x (toV (footN x i k w))
 | 0,_,_,_,hI,_,_,_=>⟨rfl,hI⟩
 | k + 1, i, w, hr, hI, hi, hk, ht => by
  have h1:=footI_eq hr hI (i:=i-1) (by omega) l last (ht (i-1) (by omega))
  have h2:=footN_eq l last k (i-1) (w:=(Dz x w (x.tg 5 (i-1))).clr (i-1)) ((Iw x w _).1.trans hr) (by rw[h1];exact inv_footI hI l last a (i-1)) (by omega) (by omega) (fun j hj=>by
   show ((Dz x w (x.tg 5 (i-1))).tot.set (i-1) 0).getD j 0=_;rw[getD_set,if_neg (by omega),(Iw x w _).2.1]
   exact ht j (by omega))
  rw[h1]at h2;exact h2
theorem footN_tot(x:CM):∀(k i:Nat) (w:WM),k≤i→∀j,(footN x i k w).tot.getD j 0=if i-k≤j∧j<i then 0 else w.tot.getD j 0
 | 0,i,w,_,j=>by rw[if_neg (by omega)];rfl
 | k + 1, i, w, hk, j => by
  have h:=footN_tot x k (i-1) ((Dz x w (x.tg 5 (i-1))).clr (i-1)) (by omega) j;rw[footN,h];show (if _ then 0 else ((Dz x w (x.tg 5 (i-1))).tot.set (i-1) 0).getD j 0)=_;rw[getD_set,(Iw x w _).2.1];by_cases h1:i-1=j
  ·
   rw[if_pos h1,ite_self,if_pos (by omega)]
  rw[if_neg h1];by_cases h2:i-1-k≤j∧j<i-1
  ·
   rw[if_pos h2,if_pos (by omega)]
  rw[if_neg h2,if_neg (by omega)]
theorem write_page(w:WM)(tl:List (Nat × List It)):(w.write tl).page=w.page:=(Gw w tl).2.1
theorem Ud(x:CM)(w:WM)(t:TG):w.page≤(Dz x w t).page:=by
 have h0:w.page≤(if Gv x w t then Em x w else w).page:=by
  split
  ·
   unfold Em;rw[write_page];show w.page≤(Dk x w).page+1;rw[(Tm x w).2.1];omega
  exact Nat.le_refl _
 unfold Dz;rw[write_page];unfold Gq;split
 ·
  exact Nat.le_refl _
 split<;>exact h0
theorem Vg(x:CM):∀(k i:Nat) (w:WM),w.page≤(headN x i k w).page
 | 0,_,_=>Nat.le_refl _
 | k+1,i,w=>Nat.le_trans (Ud x w _) (Vg x k (i+1) _)
theorem footN_page(x:CM):∀(k i:Nat) (w:WM),w.page≤(footN x i k w).page
 | 0,_,_=>Nat.le_refl _
 | k+1,i,w=>Nat.le_trans (Ud x w (x.tg 5 (i-1))) (footN_page x k (i-1) ((Dz x w (x.tg 5 (i-1))).clr (i-1)))
theorem lvD_brk(a y:RM)(c:Nat)(hc:c<3):(Xl a y c).toNat=lvD a y c 0:=by
 have h:∀p q:UInt8,(p != q)=!decide (p=q):=fun p q=>by rw[bne,Bool.eq_iff_iff];simp
 rcases (by omega:c=0∨c=1∨c=2) with rfl | rfl | rfl<;>by_cases h1:a.A=y.A<;>by_cases h2:a.B=y.B<;>simp[Xl,lvD,Po,h1,h2]
theorem chg_lvD(a y:RM)(c j:Nat)(hc:c<3)(hj:j≤c):Po a y j=decide (lvD a y c 0≠0∧lvD a y c 0≤j):=by
 rcases (by omega:c=0∨c=1∨c=2) with rfl | rfl | rfl<;>rcases (by omega:j=0∨j=1∨j=2) with rfl | rfl | rfl<;>first | omega | (by_cases h1:a.A=y.A<;>by_cases h2:a.B=y.B<;>simp[lvD,Po,h1,h2])
theorem fSum_first(x:CM)(l:List RM){y:RM}(h:l[0]?=some y)(j:Nat):Vm x l 0 j=y.N:=by
 show Jt l 0 1=_;have:=Ot l 0 0 (y:=y) (by simpa using h);rw[this];simp[Jt]
theorem fSum_step(x:CM)(l:List RM){i:Nat}{a y:RM}(ha:l[i]?=some a)(hy:l[i+1]?=some y)(j:Nat):Vm x l (i+1) j=if Po a y (min j x.ctl) then y.N else Vm x l i j+y.N:=by
 have e:Zi l i (min j x.ctl)=Po a y (min j x.ctl):=by simp[Zi,ha,hy]
 unfold Vm;rw[Nk,e];split
 ·
  have:=Ot l (i+1) 0 (y:=y) (by simpa using hy);rw[show i+1+1-(i+1)=0+1 by omega,this];simp[Jt]
 have hb:=Z8 l (min j x.ctl) i;rw[show i+1+1-Nk l (min j x.ctl) i=(i+1-Nk l (min j x.ctl) i)+1 by omega,Ot l _ _ (y:=y)];rw[show Nk l (min j x.ctl) i+(i+1-Nk l (min j x.ctl) i)=i+1 by omega];exact hy
structure TQ (x:CM) (l:List RM) (i:Nat) (w:WM):Prop where
 row:∃a,l[i-1]?=some a∧w.row=some a
 tot:∀j,j≤x.ctl→w.tot.getD j 0=Vm x l (i-1) j
 len:w.tot.length=x.ctl+1
 page:w.page≠0
 ended:w.ended=false
def w0 (x:CM):WM:=⟨0,0,false,none,List.replicate (x.ctl+1) 0,[],false⟩
theorem gen_keep(x:CM)(w:WM)(y:RM)(det:Int):(Jp x w y det).row=(genA x w y).row∧(Jp x w y det).tot=(genA x w y).tot∧(Jp x w y det).ended=(genA x w y).ended∧(genA x w y).page≤(Jp x w y det).page:=by
 unfold Jp;split
 ·
  exact⟨(Iw x _ _).1,(Iw x _ _).2.1,(Iw x _ _).2.2,Ud x _ _⟩
 split
 ·
  exact⟨(Iw x _ _).1,(Iw x _ _).2.1,(Iw x _ _).2.2,Ud x _ _⟩
 exact⟨rfl,rfl,rfl,Nat.le_refl _⟩
theorem genA_f(x:CM)(w:WM)(y:RM):(genA x w y).row=some y∧(genA x w y).tot=(Ed x w y).tot.map (·+y.N)∧(genA x w y).ended=(Ed x w y).ended∧(genA x w y).page=(Ed x w y).page:=⟨rfl,rfl,rfl,rfl⟩
theorem getD_map(l:List Nat)(N j:Nat)(h:j<l.length):(l.map (·+N)).getD j 0=l.getD j 0+N:=by
 simp[h]
theorem start_f(x:CM)(w:WM)(y:RM):(Q5 x w y).tot=w.tot∧(Q5 x w y).ended=w.ended∧1≤(Q5 x w y).page:=by
 have h1:=Gw (stA w y) (x.tg 1 0).tl;have h2:=Gw ((stA w y).write (x.tg 1 0).tl) (x.tg 2 0).tl;have h3:=Qh x (x.ctl+1-0) 0 (((stA w y).write (x.tg 1 0).tl).write (x.tg 2 0).tl);have h4:=Vg x (x.ctl+1-0) 0 (((stA w y).write (x.tg 1 0).tl).write (x.tg 2 0).tl);rw[h2.2.1,h1.2.1]at h4;exact⟨h3.2.1.trans (h2.2.2.1.trans h1.2.2.1),h3.2.2.trans (h2.2.2.2.2.trans h1.2.2.2.2),h4⟩
theorem TQ.first(x:CM){l:List RM}{y:RM}(hy:l[0]?=some y)(det:Int):TQ x l 1 (Jp x (w0 x) y det):=by
 obtain⟨k1,k2,k3,k4⟩:=gen_keep x (w0 x) y det;obtain⟨a1,a2,a3,a4⟩:=genA_f x (w0 x) y;have e:Ed x (w0 x) y=Q5 x (w0 x) y:=if_pos rfl;obtain⟨s1,s2,s3⟩:=start_f x (w0 x) y;refine⟨⟨y,hy,k1.trans a1⟩,fun j hj=>?_,?_,?_,?_⟩
 ·
  rw[k2,a2,e,s1,getD_map _ _ _ (by simp[w0];omega),fSum_first x l hy];simp[w0,List.getElem?_replicate];split<;>rfl
 ·
  rw[k2,a2,e,s1];simp[w0]
 ·
  rw[a4,e]at k4;omega
 rw[k3,a3,e,s2];rfl
theorem foot_len(x:CM):∀(k i:Nat) (w:WM),(footN x i k w).tot.length=w.tot.length
 | 0,_,_=>rfl
 | k+1,i,w=>by
  rw[footN,foot_len x k (i-1)];show ((Dz x w _).tot.set _ _).length=_;rw[List.length_set,(Iw x w _).2.1]
theorem TQ.next(x:CM){l:List RM}{i:Nat}{w:WM}(h:TQ x l (i+1) w){y:RM}(hy:l[i+1]?=some y)(det:Int):TQ x l (i+2) (Jp x w y det):=by
 obtain⟨a,ha,hr⟩:=h.row;have ha:l[i]?=some a:=ha;have hc:=x.ctl_lt;obtain⟨k1,k2,k3,k4⟩:=gen_keep x w y det;obtain⟨a1,a2,a3,a4⟩:=genA_f x w y;have hb:Yl w y x.ctl=lvD a y x.ctl 0:=by simp only[Yl,hr];exact lvD_brk a y x.ctl hc
 have hlv:=lvD_le a y x.ctl 0;have e:Ed x w y=if lvD a y x.ctl 0=0 then w else Tj x w y (lvD a y x.ctl 0):=by rw[Ed,if_neg h.page,hb]
 have xg:(Ed x w y).tot.length=x.ctl+1:=by
  rw[e];split
  ·
   exact h.len
  rw[Tj,headW,(Qh x _ _ _).2.1];exact (foot_len x _ _ w).trans h.len
 have htot:∀j,j≤x.ctl→(Ed x w y).tot.getD j 0=if Po a y j then 0 else w.tot.getD j 0:=fun j hj=>by
  rw[chg_lvD a y x.ctl j hc hj,e];by_cases h0:lvD a y x.ctl 0=0
  ·
   rw[if_pos h0,if_neg (by simp[h0])]
  rw[if_neg h0,Tj,headW,(Qh x _ _ _).2.1];show (footN x (x.ctl+1) (x.ctl+1-lvD a y x.ctl 0) w).tot.getD j 0=_;rw[footN_tot x _ _ w (by omega) j];by_cases h1:lvD a y x.ctl 0≤j
  ·
   rw[if_pos (by omega),if_pos (by simp[h0,h1])]
  rw[if_neg (by omega),if_neg (by simp[h1])]
 refine⟨⟨y,hy,k1.trans a1⟩,fun j hj=>?_,by rw[k2,a2,List.length_map];exact xg,?_,?_⟩
 ·
  rw[k2,a2,getD_map _ _ _ (by omega),htot j hj];show _=Vm x l (i+1) j;rw[fSum_step x l ha hy j,Nat.min_eq_left hj];split
  ·
   omega
  rw[h.tot j hj];rfl
 ·
  have:w.page≤(Ed x w y).page:=by
   rw[e];split
   ·
    exact Nat.le_refl _
   exact Nat.le_trans (footN_page x _ _ w) (Vg x _ _ (setRow (J9 x w _) y))
  have:=h.page;omega
 rw[k3,a3,e];split
 ·
  exact h.ended
 rw[Tj,headW,(Qh x _ _ _).2.2];exact (footN_f x _ _ w).2.trans h.ended
def RQ (x:CM) (l:List RM) (i:Nat) (w:WM):Prop:=toV w=VM.rows x l i VM.ini∧InvV x (toV w)
theorem inv_det{x:CM}{v:VM}(h:InvV x v)(y:RM):InvV x (VM.det x v y):=by
 unfold VM.det;split
 ·
  exact Wx _ fun hp=>Rz h 1 (by omega) _ hp
 split
 ·
  exact Wx _ fun hp=>Rz h 2 (by omega) _ hp
 exact h
theorem det_eq{x:CM}{w:WM}{y:RM}:toV (Jp x w y y.det)=VM.det x (toV (Ed x w y)) y:=by
 have h:toV (genA x w y)=toV (Ed x w y):=rfl;have hr:(genA x w y).row=some y:=rfl;unfold Jp VM.det;split
 ·
  rw[pres_D1 hr (fun hp=>nps_npb hp 0),h]
 split
 ·
  rw[pres_D2 hr,h]
 rfl
theorem RQ.first(x:CM){l:List RM}{y:RM}(hy:l[0]?=some y):RQ x l 1 (Jp x (w0 x) y y.det):=by
 have hc:=x.ctl_lt;have e:Ed x (w0 x) y=Q5 x (w0 x) y:=if_pos rfl
 have e1:toV ((stA (w0 x) y).write (x.tg 1 0).tl)=if x.has 0 then VM.ini.put 1 [82,72] else VM.ini:=by
  have e0:x.tg 1 0=if x.has 0 then tRH else tZ:=rfl
  rw[e0];split
  ·
   show toV (WM.write _ [(1,[.lit 1 [82,72]])])=_;rw[Xt,rend_L2];rfl
  rfl
 have e2:toV (((stA (w0 x) y).write (x.tg 1 0).tl).write (x.tg 2 0).tl)=VM.top x (if x.has 0 then VM.ini.put 1 [82,72] else VM.ini):=by rw[top_eq,e1]
 have hr:(((stA (w0 x) y).write (x.tg 1 0).tl).write (x.tg 2 0).tl).row=some y:=(Gw _ _).1.trans (Gw _ _).1
 have hI:InvV x (toV (((stA (w0 x) y).write (x.tg 1 0).tl).write (x.tg 2 0).tl)):=fun _=>by
  rw[e2];unfold VM.top;split<;>split<;>simp[VM.put,VM.ini]
 obtain⟨h1,h2⟩:=headN_eq (x:=x) (y:=y) (x.ctl+1-0) 0 hr hI (by omega);have h3:toV (Ed x (w0 x) y)=VM.fst x VM.ini y:=by rw[e];exact h1.trans (by rw[e2];rfl)
 have h4:VM.rows x l 1 VM.ini=VM.det x (VM.fst x VM.ini y) y:=by
  rw[O1 x l hy];rfl
 unfold RQ;rw[det_eq,h3,h4];exact⟨rfl,inv_det (by rw[←h3,e];exact h2) y⟩
theorem RQ.next(x:CM){l:List RM}{i:Nat}{w:WM}(hT:TQ x l (i+1) w)(h:RQ x l (i+1) w){y:RM}(hy:l[i+1]?=some y):RQ x l (i+2) (Jp x w y y.det):=by
 have hc:=x.ctl_lt;obtain⟨a,ha,hr⟩:=hT.row;have ha:l[i]?=some a:=ha;obtain⟨hv,hI⟩:=h;have hb:Yl w y x.ctl=lvD a y x.ctl 0:=by simp only[Yl,hr];exact lvD_brk a y x.ctl hc
 have hlv:=lvD_le a y x.ctl 0;have e:Ed x w y=if lvD a y x.ctl 0=0 then w else Tj x w y (lvD a y x.ctl 0):=by rw[Ed,if_neg hT.page,hb]
 have h4:VM.rows x l (i+2) VM.ini=VM.det x (VM.nxt x (VM.rows x l (i+1) VM.ini) l i a y) y:=by
  rw[O1 x l hy,VM.pre];simp only[ha]
 have h3:toV (Ed x w y)=VM.nxt x (VM.rows x l (i+1) VM.ini) l i a y∧InvV x (toV (Ed x w y)):=by
  rw[e,VM.nxt,←hv];split
  ·
   exact⟨rfl,hI⟩
  obtain⟨f1,f2⟩:=footN_eq (x:=x) l i (x.ctl+1-lvD a y x.ctl 0) (x.ctl+1) hr hI (by omega) (by omega) (fun j hj=>hT.tot j (by omega));obtain⟨g1,g2⟩:=headN_eq (x:=x) (y:=y) (x.ctl+1-lvD a y x.ctl 0) (lvD a y x.ctl 0) (w:=setRow (J9 x w (lvD a y x.ctl 0)) y) rfl f2 (by omega);exact⟨g1.trans (by show VM.headN x y _ _ (toV (footN x _ _ w))=_;rw[f1];rfl),g2⟩
 unfold RQ;rw[det_eq,h4,h3.1];exact⟨rfl,inv_det (by rw[←h3.1];exact h3.2) y⟩
theorem term_eq(x:CM){l:List RM}{i:Nat}{w:WM}(hT:TQ x l (i+1) w)(h:RQ x l (i+1) w)(hl:l.length=i+1):toV (H8 x w)=VM.all x l true:=by
 have hc:=x.ctl_lt;obtain⟨a,ha,hr⟩:=hT.row;have ha:l[i]?=some a:=ha;obtain⟨hv,hI⟩:=h;obtain⟨f1,f2⟩:=footN_eq (x:=x) l i (x.ctl+1-0) (x.ctl+1) hr hI (by omega) (by omega) (fun j hj=>hT.tot j (by omega));have e7:x.tg 7 0=if x.has 9 then tRF else tZ:=rfl
 have e1:toV (J9 x w 0)=VM.fin1 x (VM.rows x l l.length VM.ini) l a:=by
  rw[VM.fin1,hl,Nat.add_sub_cancel,←hv];exact f1
 have e2:toV (V3 x w)=VM.fin2 x (VM.fin1 x (VM.rows x l l.length VM.ini) l a):=by
  unfold V3 VM.fin2;rw[e7,←e1];split
  ·
   rw[pres_RF]
  rw[X4 (show InvV x (toV (J9 x w 0)) from f2)]
 have e3:VM.all x l true=VM.fin x (VM.rows x l l.length VM.ini) l a:=by
  rw[VM.all,if_pos rfl,hl,Nat.add_sub_cancel,ha]
 rw[e3,H8,if_neg hT.page,VM.fin]
 cases hp:x.paged with
 | false=>rw[if_pos (x.P_iff.2 hp)];simpa using e2
 | true =>
  rw[if_neg (by rw[x.P_iff,hp];simp),if_pos rfl,bot_eq x hp,e2]
theorem chgAt_take(l:List RM)(n r lv:Nat)(h:r+1<n):Zi (l.take n) r lv=Zi l r lv:=by
 unfold Zi;rw[List.getElem?_take_of_lt (by omega),List.getElem?_take_of_lt h]
theorem begF_take(l:List RM)(n lv:Nat):∀r,r<n→Nk (l.take n) lv r=Nk l lv r
 | 0,_=>rfl
 | r+1,h=>by
  rw[Nk,Nk,chgAt_take l n r lv h,begF_take l n lv r (by omega)]
theorem sumN_take(l:List RM)(n b k:Nat)(h:b+k≤n):Jt (l.take n) b k=Jt l b k:=by
 unfold Jt;rw[List.drop_take,List.take_take,Nat.min_eq_left (by omega)]
theorem fSum_take(x:CM)(l:List RM)(n last j:Nat)(h:last<n):Vm x (l.take n) last j=Vm x l last j:=by
 have hb:=Z8 l (min j x.ctl) last;unfold Vm;rw[begF_take l n _ last h,sumN_take l n _ _ (by omega)]
theorem footN_take(x:CM)(l:List RM)(n last:Nat)(h:last<n)(y:RM):∀(k i:Nat) (v:VM),VM.footN x (l.take n) last y i k v=VM.footN x l last y i k v
 | 0,_,_=>rfl
 | k + 1, i, v => by
  have e:v.footI x (l.take n) last y (i-1)=v.footI x l last y (i-1):=by
   unfold VM.footI;rw[fSum_take x l n last _ h];rfl
  rw[VM.footN,VM.footN,e,footN_take x l n last h y k]
theorem rows_take(x:CM)(l:List RM)(n:Nat):∀i,i≤n→VM.rows x (l.take n) i VM.ini=VM.rows x l i VM.ini
 | 0,_=>rfl
 | i + 1, h => by
  have ih:=rows_take x l n i (by omega);have hi:(l.take n)[i]?=l[i]?:=List.getElem?_take_of_lt (by omega)
  cases hy:l[i]? with
  | none =>
   have e1:VM.rows x l (i+1) VM.ini=VM.rows x l i VM.ini:=by rw[VM.rows,hy]
   have e2:VM.rows x (l.take n) (i+1) VM.ini=VM.rows x (l.take n) i VM.ini:=by rw[VM.rows,hi,hy]
   rw[e1,e2,ih]
  | some y =>
   rw[O1 x l hy,O1 x (l.take n) (hi.trans hy)]
   cases i with
   | zero=>rfl
   | succ j =>
    have hj:(l.take n)[j]?=l[j]?:=List.getElem?_take_of_lt (by omega);simp only[VM.pre,hj,ih]
    cases l[j]? with
    | none=>rfl
    | some a =>
     simp only[VM.nxt,VM.foot];rw[footN_take x l n j (by omega) a]
theorem all_take(x:CM)(l:List RM)(i:Nat)(h:i+1≤l.length):VM.all x (l.take (i+1)) false=VM.rows x l (i+1) VM.ini:=by
 rw[VM.all,if_neg (by decide),List.length_take,Nat.min_eq_left h];exact rows_take x l (i+1) (i+1) (Nat.le_refl _)
theorem eq_ln(p:Nat × Nat × List UInt8):Dl [0,0,1] (lnR p) (lnR p)=some true:=by
 have h:∀s:ByteArray,(s==s)=true:=fun s=>by first | exact beq_self_eq_true _ | exact decide_eq_true rfl | (cases s;simp[BEq.beq];done) | (cases s;rename_i d;show (d==d)=true;simp)
 simp[Dl,lnR,isKey,Hf,h]
theorem part3{r:List D}(h:r.length=3):Au r 0 3 true=some (.agg r):=by
 simp only[Au,if_true,h,Nat.zero_add,Nat.le_refl,List.drop_zero];rw[←h,List.take_length]
theorem same_nil(d:Nat)(S:St):E5 LP NN (d+1) 15 [.nils,.nils] S=some (.bool true,S,false):=by kernel_rfl
theorem same_sl{d:Nat}(hd:1≤d)(S:St)(rs:List (Nat × Nat × List UInt8))(hl:rs.length≤100000)(c1 c2:Option Nat):Bd LP NN d 15 [.sl 3 (rs.map lnR) c1,.sl 3 (rs.map lnR) c2] S=some (.bool true,S,false):=by
 have hnn:(((rs.length:Nat):Int) != ((rs.length:Nat):Int))=false:=bne_self_eq_false _;refine rq (F:=F15) rfl (by simp only[LP,snapVs,zs,zm]<;>exact rfl) (by simp only[F15,zv]<;>exact rfl) ?_;rintro d rfl;refine Ad (Aw (Aa (Af ?_)));refine Ai (Ad (Ae rfl (xo34 (h:=Ae rfl ?_))));refine xo34 (h:=Ac (by simp only[zo,Bf,hnn]<;>exact rfl) ?_);refine Aa (Af ?_);refine Dw ?_;refine Ak (Bi rfl (Ai (Ad (Aw (Aa (Af ?_))))));refine Aq (D5 (fun n env S'=>∃(i:Nat) (u2 u4 u5 u6:D),i≤rs.length∧n=rs.length-i∧S'=⟨[],0⟩∧env=[.sl 3 (rs.map lnR) c1,.sl 3 (rs.map lnR) c2,u2,.int .i64 (i:Nat),u4,u5,u6]) (rs.length) (by omega) (⟨0,_,_,_,_,by omega,by omega,rfl,rfl⟩) ?_);rintro n env S' ⟨i,u2,u4,u5,u6,hi,hnA,rfl,rfl⟩;refine Ai (Ad (Ae rfl (Ae rfl (xo34 (h:=xo2 (h:=?_))))));refine Aa (Af ?_);refine Bj (by simp only[opd,zv]<;>exact rfl) (fun xZ=>?_) (fun xZ=>?_)
 ·
  have yB:i<rs.length:=by have:=of_decide_eq_true xZ;omega
  have ug:((0:Int)≤((i:Nat):Int))=True:=eq_true (by omega);have yH:=Dt i (by omega);have hri:(rs.map lnR)[i]?=some (lnR rs[i]):=by rw[Lp_,Lg yB];rfl
  have hp3:=part3 (r:=lnR rs[i]) rfl;have hEQ:=eq_ln rs[i];refine Ak (Bi rfl (Ai (Aq (Ai (Eh ?_)))));refine Bc rfl rfl (Bc rfl rfl (Az (by simp only[zl,zm,Df,Int.toNat_natCast,ug,hri]<;>exact rfl) rfl ?_));refine Az (by simp only[zl,zm,Fh,hp3]<;>exact rfl) rfl ?_;refine Bc rfl rfl (Bc rfl rfl (Az (by simp only[zl,zm,Df,Int.toNat_natCast,ug,hri]<;>exact rfl) rfl ?_));refine Az (by simp only[zl,zm,Fh,hp3]<;>exact rfl) rfl ?_;apply Aj (by simp only[zo];exact congrArg (Option.map fun b=>(D.bool (b != true),_,false)) hEQ) rfl rfl;refine Ce (Af ?_);refine Dw ?_;refine Ak (D8 (Bi rfl (Am (Ae rfl (Ac (by simp only[zo,Bf,yH]<;>exact rfl) ?_)))));refine Ag rfl (Aa (Gh (by simp only[ze]<;>exact rfl) ?_));exact⟨rs.length-(i+1),by omega,i+1,_,_,_,_,by omega,rfl,rfl,rfl⟩
 refine Dh (Gj (Hu (Gl (Bi rfl (Ad (Aw (Aa (Af ?_))))))));apply A7;refine⟨_,by simp only[F15,resultD,Ba,resD,zg]<;>exact rfl,?_⟩;rfl
theorem same_run{d:Nat}(hd:1≤d)(S:St){rs:List (Nat × Nat × List UInt8)}(hl:rs.length≤100000){z1 z2:D}(h1:LinZ z1 (rs.map lnR))(h2:LinZ z2 (rs.map lnR)):Bd LP NN d 15 [z1,z2] S=some (.bool true,S,false):=by
 rcases h1 with⟨e1,rfl⟩ | ⟨e1,c1,rfl⟩<;>rcases h2 with⟨e2,rfl⟩ | ⟨e2,c2,rfl⟩
 ·
  obtain⟨d,rfl⟩:∃e,d=e+1:=⟨d-1,by omega⟩;exact fast_ok (same_nil d S)
 ·
  exact absurd e1 e2
 ·
  exact absurd e2 e1
 exact same_sl hd S rs hl c1 c2
theorem Z5(rows:List (List D)):LinZ (Md rows) rows:=by
 cases rows with
 | nil=>exact .inl ⟨rfl,rfl⟩
 | cons a l=>exact .inr ⟨by simp,some _,rfl⟩
theorem len_clipR(rows:List (List D)):lenD false (Md rows)=some (.int .i64 (rows.length:Nat)):=by cases rows<;>rfl
theorem cap_clipR(rows:List (List D)):capD (Md rows)=some (.int .i64 (rows.length:Nat)):=by cases rows<;>rfl
def LsD (ls:D) (l:List RM):Prop:=(l=[]∧ls=.nils)∨∃c,ls=.sl 4 (l.map RM.row) c
theorem LsD.len{ls:D}{l:List RM}(h:LsD ls l):lenD false ls=some (.int .i64 (l.length:Nat)):=by
 rcases h with⟨rfl,rfl⟩ | ⟨c,rfl⟩
 ·
  rfl
 show some (D.int .i64 ((l.map RM.row).length:Nat))=_;rw[List.length_map]
theorem LsD.sl{ls:D}{l:List RM}(h:LsD ls l)(hl:l.length≠0):∃c,ls=.sl 4 (l.map RM.row) c:=by
 rcases h with⟨rfl,rfl⟩ | h
 ·
  simp at hl
 exact h
theorem written_nil(d:Nat)(S:St)(a b c e p q r:Int)(f:Bool):E5 LP NN (d+2) 16 [.agg [.int .u8 a,.int .u16 b,.int .u8 c,.int .u8 e,.int .u8 p,.int .u8 q,.int .u8 r],.nils,.bool f] S=some (.nils,S,false):=by kernel_rfl
theorem written_nil2(d:Nat)(S:St)(a b c e p q r:Int)(f:Bool)(cp:Option Nat):E5 LP NN (d+2) 16 [.agg [.int .u8 a,.int .u16 b,.int .u8 c,.int .u8 e,.int .u8 p,.int .u8 q,.int .u8 r],.sl 4 [] cp,.bool f] S=some (.nils,S,false):=by kernel_rfl
def linS (x:CM) (l:List RM) (e:Bool):List (Nat × Nat × List UInt8):=if l=[] then [] else (VM.all x l e).lines
theorem writ{d:Nat}(hd:10≤d)(S:St)(x:CM){l:List RM}{ls:D}(h:LsD ls l)(hl:l.length≤60)(e:Bool):∃z,LinZ z ((linS x l e).map lnR)∧Bd LP NN d 16 [.agg x.row,ls,.bool e] S=some (z,S,false):=by
 by_cases h0:l=[]
 ·
  subst h0;obtain⟨d,rfl⟩:∃e,d=e+2:=⟨d-2,by omega⟩;refine⟨.nils,.inl ⟨rfl,rfl⟩,?_⟩;rcases h with⟨_,rfl⟩ | ⟨c,rfl⟩
  ·
   exact fast_ok (written_nil d S _ _ _ _ _ _ _ e)
  exact fast_ok (written_nil2 d S _ _ _ _ _ _ _ e c)
 have kN:l.length≠0:=fun h=>h0 (List.length_eq_zero_iff.1 h);obtain⟨c,rfl⟩:=h.sl kN;rw[linS,if_neg h0];exact written_run hd S x l c kN hl e
theorem slice_pre(S:St)(rows:List (List D))(c:Option Nat)(i:Nat)(h:i+1≤rows.length):Kt S 4 (.sl 4 rows c) none (some (.int .i64 (i+1:Nat))) none=some (.sl 4 (rows.take (i+1)) (c.map (·-0))):=by
 have h0:(0:Int)≤((i+1:Nat):Int):=by omega
 simp only[Kt,Fe,Jv,H5,if_pos h0,Int.toNat_natCast];simp[h]
theorem RM.det_le(y:RM):-1≤y.det∧y.det≤1:=by
 unfold RM.det;have:y.e % 3<3:=Nat.mod_lt _ (by decide);split<;>omega
structure GQ (x:CM) (l:List RM) (i:Nat) (w:WM):Prop where
 wb:∀y,WB (setRow w y) (20+310*i)
 q:(i=0∧w=w0 x)∨(i≠0∧TQ x l i w∧RQ x l i w)
theorem GQ.start(x:CM)(l:List RM):GQ x l 0 (w0 x):=⟨fun y=>⟨by simp[setRow],by show 0≤_;omega,by show 0≤_;omega,by show 0≤_;omega,fun m hm=>by
 have:m=0:=(List.mem_replicate.1 (show m∈List.replicate (x.ctl+1) 0 from hm)).2
 omega⟩,.inl ⟨rfl,rfl⟩⟩
theorem GQ.pr{x:CM}{l:List RM}{i:Nat}{w:WM}(h:GQ x l i w):w.page≠0→w.row≠none:=by
 rcases h.q with⟨_,rfl⟩ | ⟨_,h1,_⟩
 ·
  intro h;exact absurd rfl h
 obtain⟨a,_,hr⟩:=h1.row;intro _;rw[hr];simp
theorem GQ.en{x:CM}{l:List RM}{i:Nat}{w:WM}(h:GQ x l i w):w.ended=false:=by
 rcases h.q with⟨_,rfl⟩ | ⟨_,h1,_⟩
 ·
  rfl
 exact h1.ended
theorem GQ.len{x:CM}{l:List RM}{i:Nat}{w:WM}(h:GQ x l i w):w.tot.length=x.ctl+1:=by
 rcases h.q with⟨_,rfl⟩ | ⟨_,h1,_⟩
 ·
  simp[w0]
 exact h1.len
theorem GQ.wbp{x:CM}{l:List RM}{i:Nat}{w:WM}(h:GQ x l i w)(hp:w.page≠0):WB w (20+310*i):=by
 obtain⟨y,hy⟩:=Option.ne_none_iff_exists'.1 (h.pr hp);have:=h.wb y;exact⟨h.pr hp,this.page,this.line,this.lines,this.tot⟩
theorem GQ.next{x:CM}{l:List RM}{i:Nat}{w:WM}(h:GQ x l i w){y:RM}(hy:l[i]?=some y)(hi:i<90:=by omega):GQ x l (i+1) (Jp x w y y.det):=by
 refine⟨fun y'=>?_,.inr ⟨by omega,?_⟩⟩
 ·
  have:=((h.wb y).gen h.pr (by omega) (by omega) h.len y.det).1.setRow y';rwa [show 20+310*i+310=20+310*(i+1) by omega]at this
 rcases h.q with⟨rfl,rfl⟩ | ⟨h0,h1,h2⟩
 ·
  exact⟨TQ.first x hy _,RQ.first x hy⟩
 obtain⟨j,rfl⟩:∃j,i=j+1:=⟨i-1,by omega⟩;exact⟨h1.next x hy _,RQ.next x h1 h2 hy⟩
theorem GQ.lns{x:CM}{l:List RM}{i:Nat}{w:WM}(h:GQ x l (i+1) w)(hi:i<l.length){y:RM}(hy:l[i]?=some y):w.lines=linS x (l.take (i+1)) false:=by
 rcases h.q with⟨h0,_⟩ | ⟨_,_,h2⟩
 ·
  omega
 have xw:l.take (i+1)≠[]:=fun e=>by have:=congrArg List.length e;rw[List.length_take]at this;simp only[List.length_nil]at this;omega
 rw[linS,if_neg xw,all_take x l i (by omega),←h2.1];rfl
theorem GQ.fin{x:CM}{l:List RM}{w:WM}(h:GQ x l l.length w):(H8 x w).lines=linS x l true:=by
 rcases h.q with⟨h0,rfl⟩ | ⟨h0,h1,h2⟩
 ·
  have hl:l=[]:=List.length_eq_zero_iff.1 h0;rw[linS,if_pos hl];rfl
 have hl:l≠[]:=fun e=>h0 (by rw[e];rfl);obtain⟨i,hi⟩:∃i,l.length=i+1:=⟨l.length-1,by omega⟩;rw[hi]at h1 h2;rw[linS,if_neg hl,←term_eq x h1 h2 hi];rfl
theorem GQ.flen{x:CM}{l:List RM}{i:Nat}{w:WM}(h:GQ x l i w)(hi:i≤90:=by omega):(H8 x w).lines.length≤50000:=by
 unfold H8;split
 ·
  rcases h.q with⟨_,rfl⟩ | ⟨_,h1,_⟩
  ·
   show 0≤_;omega
  exact absurd ‹_› h1.page
 rename_i hp;have hw:=h.wbp hp;have hct:=x.ctl_lt;obtain⟨hBf0,hnf⟩:=WB.foot (x:=x) (x.ctl+1-0) (x.ctl+1) hw (by omega) h.len (Nat.le_refl _) (by omega);have hT7:=Kq (x:=x) hBf0 (by omega) hnf (k:=7) (lv:=0) (by omega);have hBp:=hBf0.pres (x:=x) (by omega) hnf hT7;have hBb:=(hBp.bottom (x:=x) (by omega) (by rw[(Iw x _ _).2.1];exact hnf)).2;split
 ·
  have:=hBp.lines;show (Dz x _ _).lines.length≤_;exact Nat.le_trans this (by omega)
 have:=hBb.lines;exact Nat.le_trans this (by omega)
theorem law3_run{d:Nat}(hd:61≤d)(S:St)(x:CM)(l:List RM)(ls:D)(qW:LsD ls l)(hl:l.length≤40)(hLv:∀d S,60≤d→Bd LP NN d 8 [] S=some (.bool true,S,false)):Bd LP NN d 3 [.agg x.row,ls] S=some (.bool true,S,false):=by
 obtain⟨d0,rfl⟩:∃e,d=e+1:=⟨d-1,by omega⟩;have xg:=qW.len;have qp:∀m H,Aac m H ls=some ls:=fun m H=>by rcases qW with⟨_,rfl⟩ | ⟨c,rfl⟩<;>rfl
 have rW:ls.freeV=true:=by rcases qW with⟨_,rfl⟩ | ⟨c,rfl⟩<;>rfl
 have hgtF:(((l.length:Nat):Int)>40)=False:=eq_false (by omega);have hof:∀d S,18≤d→Bd LP NN d 10 [.agg x.row] S=some (.agg (x.rep false),S,false):=fun d S h=>of_run h S x;obtain⟨rN,⟨SN,g,gm,gt,rfl,hW0,_,_⟩,hcN⟩:=new_run (d:=d0) (by omega) [] 0 x;obtain⟨HN,loN⟩:=SN;rw[←x.rep_b false]at hcN;have hLn0:=X7 (d:=d0) (by omega) loN hW0 (by show 0≤_;omega);have hlen0:lenD false (Md (List.map lnR ([]:List (Nat × Nat × List UInt8))))=some (.int .i64 0):=rfl;refine run_pure (F:=F3) rfl (by simp only[LP,snapVs,Bh,zs,zm,CM.row,qp]<;>exact rfl) rfl (by simp only[LP,zf,zm,rW];try rfl) (by simp only[F3,zv]<;>exact rfl) (by omega) ?_;intro d he;obtain rfl:=Nat.succ.inj he;refine Ad (xo8 (h:=?_));refine Aw (Aa (Af ?_));refine Ai (Ad (Ae rfl (Ac (by simp only[zo,xg]<;>exact rfl) ?_)));apply Ac (by simp only[zo,Bf,hgtF,decide_false]<;>exact rfl);refine Aa (Af ?_);refine Dw ?_;refine Ak (Bi rfl (Ad (xo0 (h:=Ac (by simp only[zo];exact hof _ _ (by omega)) ?_))));apply Ac (by simp only[zo];exact hcN);refine Ag rfl (Lh (h:=Jo (h:=Ag rfl (Ag rfl ?_))));refine Aa (Af ?_);refine Ai (Ad (Ae rfl (xo2 (h:=Ag rfl (En 0 (b:=false) ?_)))));refine Ap rfl (Ae rfl (Ap rfl (Ac (by simp only[zo];exact hLn0) ?_)));refine Ap rfl (xo3 (h:=?_));refine Ap rfl (xo2 (h:=xo3 (h:=?_)));refine Aa (Af ?_);refine Dw ?_;refine Ak (Bi rfl (Ai (Ad (Aw (Aa (Af ?_))))));refine Aq (D5 (fun n env S'=>∃(i:Nat) (K:List Z9) (lo:Nat) (w:WM) (u3 u5 u7 u8 u9 u10 u11 u12:D),i≤l.length∧WS K g gm gt x w∧GQ x l i w∧n=l.length-i∧S'=⟨K,lo⟩∧env=[.agg x.row,ls,.cptr x.row 0,u3,.ptr g 0 0 0,u5,.int .i64 (i:Nat),u7,u8,u9,u10,u11,u12]) (l.length) (by omega) (⟨0,_,_,w0 x,_,_,_,_,_,_,_,_,by omega,hW0,.start x l,by omega,rfl,rfl⟩) ?_);rintro n env S' ⟨i,K,lo,w,u3,u5,u7,u8,u9,u10,u11,u12,hi,yg,hQ,hnA,rfl,rfl⟩;have hB:=hQ.wb;refine Ai (Ad (Ae rfl (Ae rfl (Ac (by simp only[zo,xg]<;>exact rfl) ?_))));refine xo2 (h:=?_);refine Aa (Af ?_);refine Bj (by simp only[opd,zv]<;>exact rfl) (fun xZ=>?_) (fun xZ=>?_)
 ·
  have yB:i<l.length:=by have:=of_decide_eq_true xZ;omega
  obtain⟨c,rfl⟩:=qW.sl (by omega);obtain⟨y,hy⟩:∃y,l[i]?=some y:=⟨_,Lg yB⟩;have ug:((0:Int)≤((i:Nat):Int))=True:=eq_true (by omega);have yH:=Dt i (by omega);have hlr:(l.map RM.row)[i]?=some y.row:=by rw[Lp_,hy];rfl
  have hp4:=part4 y.row_len;obtain⟨rG,⟨T,rfl,hWT,hKT,hlT⟩,hcG⟩:=gen_run (d:=d0) (by omega) lo yg (hB y) hQ.pr (by omega) (by omega) hQ.en y.det y.det_le (some 3);obtain⟨HT,loT⟩:=T;have hQn:=hQ.next hy
  have hBn:=hQn.wb y;have hLn:=X7 (d:=d0) (by omega) loT hWT (by have:=hBn.lines;show (Jp x w y y.det).lines.length≤_;have h2:(setRow (Jp x w y y.det) y).lines.length=(Jp x w y y.det).lines.length:=rfl;omega);have vS:=fun S=>slice_pre S (l.map RM.row) c i (by rw[List.length_map];omega);obtain⟨z,hz,hcW⟩:=writ (d:=d0) (by omega) ⟨HT,loT⟩ x (l:=l.take (i+1)) (.inr ⟨c.map (·-0),rfl⟩) (by rw[List.length_take];omega) false;rw[List.map_take]at hcW;have hcS:=same_run (d:=d0) (by omega) ⟨HT,loT⟩ (rs:=(Jp x w y y.det).lines) (by have h2:(setRow (Jp x w y y.det) y).lines.length=(Jp x w y y.det).lines.length:=rfl;have:=hBn.lines;omega) (Z5 _) (z2:=z) (by rw[hQn.lns yB hy];exact hz);refine Ak (Bi rfl (Ai (Aq (Ai (Eh ?_)))));refine Bc rfl rfl (Bc rfl rfl (Bc rfl rfl (Az (by simp only[zl,zm,Df,Int.toNat_natCast,ug,hlr]<;>exact rfl) rfl ?_)));refine Az (by simp only[zl,zm,Fh,hp4]<;>exact rfl) rfl ?_;refine Az (by simp only[zo];exact rdet_run (by omega) _ y) rfl ?_;refine Bc rfl rfl (Bc rfl rfl (Az (by simp only[zl,zm,Df,Int.toNat_natCast,ug,hlr]<;>exact rfl) rfl ?_));refine Az (by simp only[zl,zm,Fh,hp4]<;>exact rfl) rfl ?_;refine Az (by simp only[zo];exact rof_run (by omega) _ y) rfl ?_;refine Az (by simp only[zo];exact hcG) rfl ?_;refine xo28 (h:=D9 rfl rfl (dw_kq 0 (b:=false) ?_));refine Cb rfl (Bc rfl rfl (Cb rfl (Az (by simp only[zo];exact hLn) rfl ?_)));refine Cb rfl (Az (by simp only[zl,zm,zd,Au,List.drop]<;>exact rfl) rfl ?_);refine Cb rfl (Bc rfl rfl (Cb rfl (Bc rfl rfl (Cb rfl (Aj (by simp only[zo,Bf,yH]<;>exact rfl) rfl rfl ?_)))));refine Cb rfl (Az (by simp only[opd,zv,Ar,aop,LOp.loud,lop,if_true,Ee];rw[vS];exact rfl) rfl ?_);refine Cb rfl (Az (by simp only[zo];exact hcW) rfl ?_);refine Cb rfl (Az (by simp only[zo];exact hcS) rfl ?_);refine Cb rfl (Aj (by simp only[zo,unD]<;>exact rfl) rfl rfl ?_);refine xo6 (h:=?_);refine Ce (Af ?_);refine Dw ?_;refine Ak (D8 (Bi rfl (Am (Ae rfl (Ac (by simp only[zo,Bf,yH]<;>exact rfl) ?_)))));refine Ag rfl (Aa (Gh (by simp only[ze]<;>exact rfl) ?_));exact⟨l.length-(i+1),by omega,i+1,_,_,Jp x w y y.det,_,_,_,_,_,_,_,_,by omega,hWT,hQn,rfl,rfl,rfl⟩
 have yV:i=l.length:=by have:=of_decide_eq_false xZ;omega
 subst yV;obtain⟨rT,⟨T,rfl,hWT,hKT,hlT⟩,hcT⟩:=term_run (d:=d0) (by omega) lo yg hQ.wbp (by omega) hQ.en;obtain⟨HT,loT⟩:=T;have hfl:=hQ.fin;have hll:=hQ.flen;have hLn:=X7 (d:=d0) (by omega) loT hWT (by show (H8 x w).lines.length≤_;omega);obtain⟨z,hz,hcW⟩:=writ (d:=d0) (by omega) ⟨HT,loT⟩ x qW (by omega) true;have hcS:=same_run (d:=d0) (by omega) ⟨HT,loT⟩ (rs:=(H8 x w).lines) (by omega) (Z5 _) (z2:=z) (by rw[hfl];exact hz);have hcS2:=same_run (d:=d0) (by omega) ⟨HT,loT⟩ (rs:=(H8 x w).lines) (by omega) (Z5 _) (Z5 _);have hcA2:=term_again (d:=d0) (by omega) loT hWT rfl;have hlv:=hLv d0 ⟨HT,loT⟩ (by omega);have hbs:=beq_self_eq_true (((endW (H8 x w)).lines.length:Nat):Int);refine Dh (Gj (Hu (Gl (Bi rfl (Ad (Ae rfl (Ac (by simp only[zo];exact hcT) ?_)))))));refine Ag rfl (Aa (Af ?_));refine Ad (Ae rfl (Ac (by simp only[zo];exact hLn) ?_));refine Ag rfl (Aa (Af ?_));refine Ad (Ae rfl (xo2 (h:=Ag rfl (En 0 (b:=true) ?_))));refine Ap rfl (Ae rfl (Ap rfl (xo47 (h:=?_))));refine Ap rfl (Ae rfl (Ap rfl (Ac (by simp only[zo];exact hcW) ?_)));refine Ap rfl (Ac (by simp only[zo];exact hcS) ?_);refine xo3 (h:=Ag rfl (En 0 (b:=true) ?_));refine Ap rfl (Ae rfl (Ap rfl (Ac (by simp only[zo,cap_clipR,List.length_map]<;>exact rfl) ?_)));refine Ap rfl (Ae rfl (Ap rfl (Ac (by simp only[zo,len_clipR,List.length_map]<;>exact rfl) ?_)));refine Ap rfl (Ac (by simp only[zo,Bf,hbs]<;>exact rfl) ?_);refine xo3 (h:=Ag rfl (En 0 (b:=true) ?_));refine Ap rfl (Ae rfl (Ap rfl (Ac (by simp only[zo];exact hcA2) ?_)));refine Ap rfl (xo2 (h:=xo3 (h:=Ag rfl (En 0 (b:=true) ?_))));refine Ap rfl (Ae rfl (Ap rfl (Ac (by simp only[zo];exact hLn) ?_)));refine Ap rfl (Ae rfl (Ap rfl (Ac (by simp only[zo];exact hcS2) ?_)));refine xo3 (h:=Ag rfl (En 0 (b:=true) ?_));refine Ap rfl (Ac (by simp only[zo];exact hlv) ?_);refine xo3 (h:=Ag rfl (Aa ?_));refine Af ?_;apply A7;refine⟨_,by simp only[F3,resultD,Ba,resD,zg]<;>exact rfl,?_⟩;rfl
set_option maxRecDepth 1000000
def lvX (r:List D):List D:=.int .u8 2::.int .u8 0::.str ⟨#[88]⟩::.int .i64 0::.int .i64 0::.bool false::.bool false::.bool false::.bool false::.bool false::.int .i64 1::r
def lvN (r:List D):List D:=.int .u8 4::.int .u8 0::.str ⟨#[57,57]⟩::.int .i64 2::.int .i64 0::.bool false::.bool false::.bool false::.bool false::.bool false::.int .i64 2::r
def lvE (r:List D):List D:=.int .u8 5::.int .u8 0::.str ⟨#[90,57]⟩::.int .i64 2::.int .i64 0::.bool false::.bool false::.bool false::.bool false::.bool false::.int .i64 2::r
def lvZ (r:List D):List D:=.int .u8 5::.int .u8 0::.str ⟨#[90,90,57]⟩::.int .i64 3::.int .i64 0::.bool false::.bool false::.bool false::.bool false::.bool false::.int .i64 3::r
def lvP0:List (List D):=[[.sl 11 [(lvX []),(lvN [])] (some 2),.sl 1 [[.int .i64 0]] (some 1),.int .i64 0,.int .i64 0,.int .i64 0,.sl 4 [[.int .u8 4,.int .i64 0,.bool false,.sl 2 [[.int .i64 1,.sl 15 [(.int .i64 3::lvE [.int .u8 2,.nils,.int .i64 1])] (some 1)]] (some 1)],[.int .u8 5,.int .i64 1,.bool false,.sl 2 [[.int .i64 1,.sl 15 [(.int .i64 1::lvX [.int .u8 2,.nils,.int .i64 0]),(.int .i64 3::lvZ [.int .u8 3,.nils,.int .i64 0])] (some 2)]] (some 1)],[.int .u8 5,.int .i64 0,.bool false,.sl 2 [[.int .i64 1,.sl 15 [(.int .i64 3::lvZ [.int .u8 3,.nils,.int .i64 1])] (some 1)]] (some 1)]] (some 3),.sl 2 [[.int .i64 1,.int .i64 1],[.int .i64 1,.int .i64 0]] (some 2)]]
def lvP11:List (List D):=[(.int .i64 1::lvX [.int .u8 2,.nils,.int .i64 0])]
def lvR:List D:=lvP0.headD []
def lvH0:List Z9:=[⟨64,11,[(lvZ [])],0,0,false⟩,⟨64,11,[(lvE [])],0,0,false⟩,⟨37,7,lvP0,0,0,false⟩,⟨82,15,lvP11,0,0,false⟩]
def ch (x:Option (D × St × Bool)) (k:St→Option (List (D × Bool))):Option (List (D × Bool)):=match x with
 | some (d,S,w)=>(k S).map ((d,w)::·)
 | none=>none
theorem ch_ok{x:Option (D × St × Bool)}{k:St→Option (List (D × Bool))}{d:D}{w:Bool}{l:List (D × Bool)}(h:ch x k=some ((d,w)::l)):∃S,x=some (d,S,w)∧k S=some l:=by
 unfold ch at h;split at h
 ·
  rename_i d' S w'
  cases hk:k S with
  | none=>rw[hk]at h;cases h
  | some l'=>rw[hk]at h;cases h;exact⟨S,rfl,hk⟩
 cases h
theorem lv_zz9(d:Nat)(S:St):E5 LP NN (d+59) 28 [.str ⟨#[90,90,57]⟩] S=some (.agg (lvZ []),S,false):=by kernel_rfl
theorem lv_z9(d:Nat)(S:St):E5 LP NN (d+59) 28 [.str ⟨#[90,57]⟩] S=some (.agg (lvE []),S,false):=by kernel_rfl
theorem lv_chain(d:Nat):(ch (E5 LP NN (d+59) 9 [.agg lvR] ⟨lvH0,0⟩) fun S1=>ch (E5 LP NN (d+59) 12 [.ptr 6 0 0 0,.int .i64 0,.sl 12 [lvX [.sl 1 (bR [65]) none],lvN [.sl 1 (bR [48,53]) none]] (some 2)] S1) fun S2=>ch (E5 LP NN (d+59) 12 [.ptr 6 0 0 0,.int .i64 0,.sl 12 [lvX [.sl 1 (bR [65]) none],lvN [.sl 1 (bR [49,48]) none]] (some 2)] S2) fun S3=>ch (E5 LP NN (d+59) 12 [.ptr 6 0 0 0,.int .i64 0,.sl 12 [lvX [.sl 1 (bR [66]) none],lvN [.sl 1 (bR [48,55]) none]] (some 2)] S3) fun S4=>ch (E5 LP NN (d+59) 17 [.ptr 6 0 0 0] S4) fun S5=>ch (E5 LP NN (d+59) 11 [.ptr 6 0 0 0] S5) fun S6=>some [])=some [(.tup [.ptr 6 0 0 0,.int .i64 0],true),(.int .i64 0,true),(.int .i64 0,true),(.int .i64 0,true),(.int .i64 0,true),(.sl 3 ([(1,1,[32,32,32,53]),(1,2,[32,32,49,48]),(1,3,[65,32,32,49,53]),(1,4,[32,32,32,55]),(1,5,[66,32,32,32,55]),(1,6,[32,32,32,50,50])].map lnR) (some 6),false)]:=by kernel_rfl
theorem lv_x1(d:Nat)(S:St):E5 LP NN (d+59) 21 [.sl 3 ([(1,1,[32,32,32,53]),(1,2,[32,32,49,48]),(1,3,[65,32,32,49,53]),(1,4,[32,32,32,55]),(1,5,[66,32,32,32,55]),(1,6,[32,32,32,50,50])].map lnR) (some 6)] S=some (.str ⟨#[32,32,32,53,10,32,32,49,48,10,65,32,32,49,53,10,32,32,32,55,10,66,32,32,32,55,10,32,32,32,50,50,10]⟩,S,false):=by kernel_rfl
theorem lives_run:∀(d:Nat) (S:St),60≤d→Bd LP NN d 8 [] S=some (.bool true,S,false):=by
 intro d S hd;obtain⟨e,rfl⟩:∃e,d=e+60:=⟨d-60,by omega⟩;obtain⟨S1,hg0,yu⟩:=ch_ok (lv_chain e);obtain⟨S2,zi,zX⟩:=ch_ok yu;obtain⟨S3,uz,hc3⟩:=ch_ok zX;obtain⟨S4,hg3,hc4⟩:=ch_ok hc3;obtain⟨S5,hg4,hc5⟩:=ch_ok hc4;obtain⟨S6,hg5,hc6⟩:=ch_ok hc5;have zT:IntKind.i64.wrap (0+1)=1:=by decide
 have uG:IntKind.i64.wrap (1+1)=2:=by decide
 have hw3:IntKind.i64.wrap (2+1)=3:=by decide
 refine run_pure (F:=F8) rfl (by simp only[LP,snapVs,zm]<;>exact rfl) rfl (by simp only[LP,zm];try rfl) (by simp only[F8,zv]<;>exact rfl) (by omega) ?_;intro d he;obtain rfl:d=e+59:=by omega
 refine Ad (Aw (Aa (Af ?_)));refine Ad (Ac (by simp only[zo];exact fast_ok (lv_zz9 e _)) ?_);apply Ac (by simp only[zl,zm,lvZ]<;>exact rfl);apply Ac (by simp only[zl,zm,Bg,overlay,Bh,zs,zc,zf,List.take,List.drop,lvZ]<;>exact rfl);refine Aa (Af ?_);refine Ad (Ac (by simp only[zo];exact fast_ok (lv_z9 e _)) ?_);apply Ac (by simp only[zl,zm,lvE]<;>exact rfl);apply Ac (by simp only[zl,zm,Bg,overlay,Bh,zs,zc,zf,List.take,List.drop,lvE]<;>exact rfl);refine Aa (Af ?_);refine Ad (Ac (by simp only[zo];exact G5 (by omega) _ (n:=1) (by omega) (by omega)) ?_);apply Ac (by simp only[zo,shT];exact Ju (by omega) _ (n:=2) (by omega) (by omega));apply Ac (by simp only[zl,zm,C9,List.replicate,snapVs,Bh,zs,zc,zf,shT,shN]<;>exact rfl);apply Ac (by simp only[zl,zm,C9,List.replicate,snapVs,zs,zc,zf,shT,shN]<;>exact rfl);refine xo73 (h:=xo73 (h:=Ac (by simp only[zl,zm,C9,List.replicate,snapVs,Bh,zs,zc,zf,shT,shN]<;>exact rfl) ?_));refine xo73 (h:=Ac (by simp only[zl,zm,shT,shN]<;>exact rfl) ?_);apply Ac (by simp only[zl,zm,Bg,overlay,Bh,zs,zc,zf,List.take,List.drop,shT,shN]<;>exact rfl);refine Aa (Af ?_);refine Ad (Ac (by simp only[zo];exact G5 (by omega) _ (n:=1) (by omega) (by omega)) ?_);refine xo57 (h:=Ac (by simp only[zl,zm,shT]<;>exact rfl) ?_);apply Ac (by simp only[zl,zm,Bg,overlay,Bh,zs,zc,zf,List.take,List.drop,shT]<;>exact rfl);refine Aa (Af ?_);refine Ad (xo0 (h:=Px (h:=xo45 (h:=Px (h:=xo45 (h:=Px (h:=xo0 (h:=xo0 (h:=Px (h:=xo45 (h:=Px (h:=xo45 (h:=Px (h:=xo0 (h:=Px (h:=xo45 (h:=Px (h:=xo45 (h:=Px (h:=xo45 (h:=xo1 (h:=Ac (by simp only[zl,zm,Bg,overlay,zs,zc,zf,List.take,List.drop]<;>exact rfl) ?_))))))))))))))))))))));refine Aa (Af ?_);refine Ad (xo0 (h:=Ac (by simp only[zo];exact fast_ok hg0) ?_));refine Ag rfl (Lh (h:=Jo (h:=Ag rfl (Ag rfl ?_))));refine Aa (Af ?_);refine Ad (Ac (by simp only[zl,zm,C9,List.replicate,snapVs,zs,zc,zf]<;>exact rfl) ?_);refine Ag rfl (Aa (Af ?_));refine Ai (Ad (Aw (Aa (Af ?_))));refine Aq (Ku (F7 (Ai (Ad (Ae rfl (xo46 (h:=?_)))))));refine Aa (Af ?_);refine Ja ?_;refine Ak (Bi rfl (Ai (Aq (Ai (Fb (by simp only[newsVals,zw]<;>exact rfl) (by simp only[zw,St.eta]<;>exact rfl) ?_)))));refine Bc rfl rfl (Az (by simp only[zo];exact G5 (by omega) _ (n:=1) (by omega) (by omega)) rfl ?_);refine Bc rfl rfl (Bc rfl rfl (Az (by simp only[zl,zm,Df,Int.toNat_zero,Int.le_refl,shT]<;>exact rfl) rfl ?_));refine xo50 (h:=Aj (by simp only[opd,zv,Ar,aop,LOp.loud,if_false,Bool.false_eq_true];exact congrArg (Option.map fun r=>(r,_,false)) (show pop (.slice true 0 false true false) [.str ⟨#[65,48,53]⟩,.int .i64 1]=some (.str (mkS [65])) from rfl)) rfl rfl ?_);refine Az (by simp only[zl,zm,shT,Fz]<;>exact rfl) rfl ?_;refine xo49 (h:=Az (by simp only[zo,shT];exact Ju (by omega) _ (n:=2) (by omega) (by omega)) rfl ?_);refine Bc rfl rfl (Bc rfl rfl (Az (by simp only[zl,zm,Df,Int.toNat_zero,Int.le_refl,shT,shN]<;>exact rfl) rfl ?_));refine xo55 (h:=Aj (by simp only[opd,zv,Ar,aop,LOp.loud,if_false,Bool.false_eq_true];exact congrArg (Option.map fun r=>(r,_,false)) (show pop (.slice true 0 true false false) [.str ⟨#[65,48,53]⟩,.int .i64 1]=some (.str (mkS [48,53])) from rfl)) rfl rfl ?_);refine Az (by simp only[zl,zm,shT,shN,Fz]<;>exact rfl) rfl ?_;refine xo54 (h:=xo56 (h:=Az (by simp only[zo,shT,shN];exact fast_ok zi) rfl ?_));apply Aj (by simp only[zo,Bf,shT,shN]<;>exact rfl) rfl rfl;refine Ce (Af ?_);refine Dw ?_;refine Ak (D8 (Bi rfl (Am (Ae rfl (Ac (by simp only[zo,Bf,zT]<;>exact rfl) ?_)))));refine Ag rfl (Aa (Zp (by simp only[ze]<;>exact rfl) ?_));refine F7 (Ai (Ad (Ae rfl (xo46 (h:=?_)))));refine Aa (Af ?_);refine Ja ?_;refine Ak (Bi rfl (Ai (Aq (Ai (Fb (by simp only[newsVals,zw]<;>exact rfl) (by simp only[zw,St.eta]<;>exact rfl) ?_)))));refine Bc rfl rfl (Az (by simp only[zo];exact G5 (by omega) _ (n:=1) (by omega) (by omega)) rfl ?_);refine Bc rfl rfl (Bc rfl rfl (Az (by simp only[zl,zm,Df,shT]<;>exact rfl) rfl ?_));refine xo50 (h:=Aj (by simp only[opd,zv,Ar,aop,LOp.loud,if_false,Bool.false_eq_true];exact congrArg (Option.map fun r=>(r,_,false)) (show pop (.slice true 0 false true false) [.str ⟨#[65,49,48]⟩,.int .i64 1]=some (.str (mkS [65])) from rfl)) rfl rfl ?_);refine Az (by simp only[zl,zm,shT,Fz]<;>exact rfl) rfl ?_;refine xo49 (h:=Az (by simp only[zo,shT];exact Ju (by omega) _ (n:=2) (by omega) (by omega)) rfl ?_);refine Bc rfl rfl (Bc rfl rfl (Az (by simp only[zl,zm,Df,shT,shN]<;>exact rfl) rfl ?_));refine xo55 (h:=Aj (by simp only[opd,zv,Ar,aop,LOp.loud,if_false,Bool.false_eq_true];exact congrArg (Option.map fun r=>(r,_,false)) (show pop (.slice true 0 true false false) [.str ⟨#[65,49,48]⟩,.int .i64 1]=some (.str (mkS [49,48])) from rfl)) rfl rfl ?_);refine Az (by simp only[zl,zm,shT,shN,Fz]<;>exact rfl) rfl ?_;refine xo54 (h:=xo56 (h:=Az (by simp only[zo,shT,shN];exact fast_ok uz) rfl ?_));apply Aj (by simp only[zo,Bf,shT,shN]<;>exact rfl) rfl rfl;refine Ce (Af ?_);refine Dw ?_;refine Ak (D8 (Bi rfl (Am (Ae rfl (Ac (by simp only[zo,Bf,uG]<;>exact rfl) ?_)))));refine Ag rfl (Aa (Zp (by simp only[ze]<;>exact rfl) ?_));refine F7 (Ai (Ad (Ae rfl (xo46 (h:=?_)))));refine Aa (Af ?_);refine Ja ?_;refine Ak (Bi rfl (Ai (Aq (Ai (Fb (by simp only[newsVals,zw]<;>exact rfl) (by simp only[zw,St.eta]<;>exact rfl) ?_)))));refine Bc rfl rfl (Az (by simp only[zo];exact G5 (by omega) _ (n:=1) (by omega) (by omega)) rfl ?_);refine Bc rfl rfl (Bc rfl rfl (Az (by simp only[zl,zm,Df,shT]<;>exact rfl) rfl ?_));refine xo50 (h:=Aj (by simp only[opd,zv,Ar,aop,LOp.loud,if_false,Bool.false_eq_true];exact congrArg (Option.map fun r=>(r,_,false)) (show pop (.slice true 0 false true false) [.str ⟨#[66,48,55]⟩,.int .i64 1]=some (.str (mkS [66])) from rfl)) rfl rfl ?_);refine Az (by simp only[zl,zm,shT,Fz]<;>exact rfl) rfl ?_;refine xo49 (h:=Az (by simp only[zo,shT];exact Ju (by omega) _ (n:=2) (by omega) (by omega)) rfl ?_);refine Bc rfl rfl (Bc rfl rfl (Az (by simp only[zl,zm,Df,shT,shN]<;>exact rfl) rfl ?_));refine xo55 (h:=Aj (by simp only[opd,zv,Ar,aop,LOp.loud,if_false,Bool.false_eq_true];exact congrArg (Option.map fun r=>(r,_,false)) (show pop (.slice true 0 true false false) [.str ⟨#[66,48,55]⟩,.int .i64 1]=some (.str (mkS [48,55])) from rfl)) rfl rfl ?_);refine Az (by simp only[zl,zm,shT,shN,Fz]<;>exact rfl) rfl ?_;refine xo54 (h:=xo56 (h:=Az (by simp only[zo,shT,shN];exact fast_ok hg3) rfl ?_));apply Aj (by simp only[zo,Bf,shT,shN]<;>exact rfl) rfl rfl;refine Ce (Af ?_);refine Dw ?_;refine Ak (D8 (Bi rfl (Am (Ae rfl (Ac (by simp only[zo,Bf,hw3]<;>exact rfl) ?_)))));refine Ag rfl (Aa (Zp (by simp only[ze]<;>exact rfl) ?_));refine F7 (Ai (Ad (Ae rfl (xo46 (h:=?_)))));refine Aa (Af ?_);refine Dw ?_;refine Dh (Gj (lu_e (Gl (Bi rfl (Ad (Ae rfl (Ac (by simp only[zo];exact fast_ok hg4) ?_)))))));refine Ag rfl (Aa (Af ?_));refine Ad (Ae rfl (xo2 (h:=Ag rfl (En 0 (b:=true) ?_))));refine Ap rfl (Ae rfl (Ap rfl (xo2 (h:=xo3 (h:=Ag rfl (En 0 (b:=true) ?_))))));refine Ap rfl (Ae rfl (Ap rfl (Ac (by simp only[zo];exact fast_ok hg5) ?_)));refine Ap rfl (Ac (by simp only[zo];exact fast_ok (lv_x1 e _)) ?_);refine Ap rfl (Ac (by simp only[zo,Bf,beq_self_eq_true]<;>exact rfl) ?_);refine xo3 (h:=Ag rfl (Aa ?_));refine Af ?_;apply A7;refine⟨_,by simp only[F8,resultD,Ba,resD,zg]<;>exact rfl,?_⟩;rfl
theorem law3_big{d:Nat}(hd:61≤d)(S:St)(x:CM)(l:List RM)(ls:D)(qW:LsD ls l)(hl:40<l.length):Bd LP NN d 3 [.agg x.row,ls] S=some (.bool true,S,false):=by
 have xg:=qW.len;have qp:∀m H,Aac m H ls=some ls:=fun m H=>by rcases qW with⟨_,rfl⟩ | ⟨c,rfl⟩<;>rfl
 have rW:ls.freeV=true:=by rcases qW with⟨_,rfl⟩ | ⟨c,rfl⟩<;>rfl
 have hgtT:(((l.length:Nat):Int)>40)=True:=eq_true (by omega);refine run_pure (F:=F3) rfl (by simp only[LP,snapVs,Bh,zs,zm,CM.row,qp]<;>exact rfl) rfl (by simp only[LP,zf,zm,rW];try rfl) (by simp only[F3,zv]<;>exact rfl) (by omega) ?_;rintro d rfl;refine Ad (xo8 (h:=?_));refine Aw (Aa (Af ?_));refine Ai (Ad (Ae rfl (Ac (by simp only[zo,xg]<;>exact rfl) ?_)));apply Ac (by simp only[zo,Bf,hgtT,decide_true]<;>exact rfl);refine Aa (Af ?_);refine Ja ?_;refine Ad (Ac (by simp only[zo];exact lives_run _ _ (by omega)) ?_);refine Ag rfl (Aa (Af ?_));refine A7 (Nu ?_);refine⟨_,by simp only[F3,resultD,Ba,resD,zg]<;>exact rfl,?_⟩;rfl
theorem law3{d:Nat}(hd:61≤d)(S:St)(x:CM)(l:List RM)(ls:D)(qW:LsD ls l):Bd LP NN d 3 [.agg x.row,ls] S=some (.bool true,S,false):=by
 by_cases h:l.length≤40
 ·
  exact law3_run hd S x l ls qW h lives_run
 exact law3_big hd S x l ls qW (by omega)
open Go.ChangeShapes Go.WideShapes Go.ChangeAt Go.RowKit
set_option maxRecDepth 100000
theorem own:ownKnob Tryz.prog.godebug=none:=by kernel_rfl
theorem laidOut:laidOutB Tryz.prog=true:=by kernel_rfl
theorem ty4:Tryz.prog.underlying 4=some .bool:=by kernel_rfl
theorem ty5:Tryz.prog.underlying 5=some (.int .u8):=by kernel_rfl
theorem ty22:Tryz.prog.underlying 22=some (.int .u16):=by kernel_rfl
theorem ty23:Tryz.prog.underlying 23=some (.array 3 5):=by kernel_rfl
theorem ty26:Tryz.prog.underlying 26=some (.slice 43):=by kernel_rfl
noncomputable def fs43:Array Field:=match Tryz.prog.underlying 43 with
  | some (.struct fs)=>fs
  | _=>#[]
theorem ty43:∃fs:Array Field,Tryz.prog.underlying 43=some (.struct fs)∧fs.size=4∧fs.toList.map (·.type)=[5,5,22,5]:=⟨fs43,by kernel_rfl,by kernel_rfl,by kernel_rfl⟩
noncomputable def fs25:Array Field:=match Tryz.prog.underlying 25 with
  | some (.struct fs)=>fs
  | _=>#[]
theorem ty25:Tryz.prog.underlying 25=some (.struct fs25):=by kernel_rfl
theorem ty25':fs25.size=5∧fs25.toList.map (·.type)=[5,22,5,5,23]:=⟨by kernel_rfl,by kernel_rfl⟩
theorem J4{fs:Array Field}{ts:List TypeId}(ht:fs.toList.map (·.type)=ts){j:Nat}{t:TypeId}(hj:ts[j]?=some t):∃f:Field,fs[j]?=some f∧f.type=t:=by
  rw[←ht,Lp_]at hj;rw[←Array.getElem?_toList]
  cases e:fs.toList[j]? with
  | none=>rw[e]at hj;cases hj
  | some f=>rw[e]at hj;exact⟨f,rfl,Option.some.inj hj⟩
theorem u16_nat{n:Int}(h:(Lit.int .u16 n).wf=true):∃m:Nat,n=m∧m<65536:=by
  have b:0≤n∧n≤65535:=by simpa [Lit.wf,IntKind.min,IntKind.max,IntKind.signed,IntKind.bits] using h
  exact⟨n.toNat,by omega,by omega⟩
def U1:List (String × DataW Unit):=Rows.reportsLinesRow.laid
theorem door_met(os:Os)(args:Array Value):laidMetH Tryz.prog U1 ((World.laidAll Tryz.prog os U1).forCall (fun _ _=>0) ⟨#[],args,[]⟩).memory:=by
  rw[MakeChecks.laidMetH_plain _ _ _ (by kernel_rfl)];exact laidMet_laidAll _ (by kernel_rfl) (by kernel_rfl)
theorem vr_agg{w:World}{ρ:Aaa}{H:List Z9}{ds:List D}{cs:Array Value}(h:VL w ρ H ds cs.toList)(hc:ds.all D.Aag=true):VR w ρ H (.agg ds) (.agg cs):=by
  have:=VR.agg (w:=w) (ρ:=ρ) (H:=H) ds cs.toList h.len hc fun j d v hd hv=>h.get hd hv;simpa using this
theorem caseArg{ds:List D}(h:Sh Tryz.prog 3 25 ds):∃x:CM,ds=x.row:=by
  obtain⟨hn,ht⟩:=ty25';obtain⟨parts,rfl,hp,hf⟩:=Sh.struct ty25 h;obtain⟨f0,g0,t0⟩:=J4 ht (j:=0) rfl;obtain⟨f1,g1,t1⟩:=J4 ht (j:=1) rfl;obtain⟨f2,g2,t2⟩:=J4 ht (j:=2) rfl;obtain⟨f3,g3,t3⟩:=J4 ht (j:=3) rfl;obtain⟨f4,g4,t4⟩:=J4 ht (j:=4) rfl;obtain⟨r0,h0,s0⟩:=hf 0 _ g0;obtain⟨r1,h1,s1⟩:=hf 1 _ g1;obtain⟨r2,h2,s2⟩:=hf 2 _ g2;obtain⟨r3,h3,s3⟩:=hf 3 _ g3;obtain⟨r4,h4,s4⟩:=hf 4 _ g4;rw[t0]at s0;rw[t1]at s1;rw[t2]at s2;rw[t3]at s3;rw[t4]at s4;obtain⟨n0,rfl,w0⟩:=Sh.int ty5 s0;obtain⟨n1,rfl,w1⟩:=Sh.int ty22 s1;obtain⟨n2,rfl,w2⟩:=Sh.int ty5 s2;obtain⟨n3,rfl,w3⟩:=Sh.int ty5 s3;obtain⟨ps,rfl,hl,ha⟩:=Sh.array ty23 s4
  match ps,hl,ha with
  | [a0, a1, a2], _, ha =>
    obtain⟨n4,rfl,w4⟩:=Sh.int ty5 (ha a0 (by simp));obtain⟨n5,rfl,w5⟩:=Sh.int ty5 (ha a1 (by simp));obtain⟨n6,rfl,w6⟩:=Sh.int ty5 (ha a2 (by simp));obtain⟨m0,rfl,k0⟩:=Py w0;obtain⟨m1,rfl,k1⟩:=u16_nat w1;obtain⟨m2,rfl,k2⟩:=Py w2;obtain⟨m3,rfl,k3⟩:=Py w3;obtain⟨m4,rfl,k4⟩:=Py w4;obtain⟨m5,rfl,k5⟩:=Py w5;obtain⟨m6,rfl,k6⟩:=Py w6;rw[hn]at hp
    match parts,hp,h0,h1,h2,h3,h4 with
    | [p0, p1, p2, p3, p4], _, h0, h1, h2, h3, h4 =>
      simp at h0 h1 h2 h3 h4;subst h0 h1 h2 h3 h4;exact⟨⟨m0,m1,m2,m3,m4,m5,m6,k0,k1,k2,k3,k4,k5,k6⟩,rfl⟩
theorem rowsArg{ds:List D}(h:Sh Tryz.prog 3 26 ds):∃(x:D) (l:List RM),ds=[x]∧LsD x l:=by
  have e1:Tryz.prog.cellsOf 43=4:=by kernel_rfl
  obtain⟨fs,hu,hn,ht⟩:=ty43;obtain⟨x,rows,rfl,hS,_,hr⟩:=Sh.slice ty26 h;rw[e1]at hS
  obtain⟨l,rfl⟩:=rows_of (f:=RM.row) (rows:=rows) (fun r hr'=>by
    obtain⟨parts,rfl,hp,hf⟩:=Sh.struct hu (hr r hr');obtain⟨f0,g0,t0⟩:=J4 ht (j:=0) rfl;obtain⟨f1,g1,t1⟩:=J4 ht (j:=1) rfl;obtain⟨f2,g2,t2⟩:=J4 ht (j:=2) rfl;obtain⟨f3,g3,t3⟩:=J4 ht (j:=3) rfl;obtain⟨r0,h0,s0⟩:=hf 0 _ g0;obtain⟨r1,h1,s1⟩:=hf 1 _ g1;obtain⟨r2,h2,s2⟩:=hf 2 _ g2;obtain⟨r3,h3,s3⟩:=hf 3 _ g3;rw[t0]at s0;rw[t1]at s1;rw[t2]at s2;rw[t3]at s3;obtain⟨n0,rfl,w0⟩:=Sh.int ty5 s0;obtain⟨n1,rfl,w1⟩:=Sh.int ty5 s1;obtain⟨n2,rfl,w2⟩:=Sh.int ty22 s2;obtain⟨n3,rfl,w3⟩:=Sh.int ty5 s3;obtain⟨m0,rfl,k0⟩:=Py w0;obtain⟨m1,rfl,k1⟩:=Py w1;obtain⟨m2,rfl,k2⟩:=u16_nat w2;obtain⟨m3,rfl,k3⟩:=Py w3;rw[hn]at hp
    match parts,hp,h0,h1,h2,h3 with
    | [p0, p1, p2, p3], _, h0, h1, h2, h3 =>
      simp at h0 h1 h2 h3;subst h0 h1 h2 h3
      exact⟨⟨m0,m1,m2,m3,k0,k1,k2,k3⟩,rfl⟩)
  refine⟨x,l,rfl,?_⟩;rcases hS with⟨h1,h2⟩ | ⟨c,h1⟩
  · exact .inl ⟨List.map_eq_nil_iff.1 h2,h1⟩
  exact .inr ⟨c,h1⟩
theorem CM.cells(x:CM):x.row.all D.Aag=true:=rfl
theorem glob_ok{W:World}(h:laidMetH Tryz.prog U1 W):GlobOK GT W:=by
  rw[MakeChecks.laidMetH_plain _ _ _ (by kernel_rfl)]at h;intro g row hg;unfold GT at hg;split at hg
  · cases hg;exact Zy h (x:=(U1[2]'(by decide))) (List.getElem_mem _) (n:=3) (t:=((Tryz.prog.globals[1]?).map (·.type)).getD 0) (by kernel_rfl) (by kernel_rfl) (by kernel_rfl) (by kernel_rfl)
  · cases hg;exact Zy h (x:=(U1[6]'(by decide))) (List.getElem_mem _) (n:=3) (t:=((Tryz.prog.globals[2]?).map (·.type)).getD 0) (by kernel_rfl) (by kernel_rfl) (by kernel_rfl) (by kernel_rfl)
  · cases hg;exact Zy h (x:=(U1[8]'(by decide))) (List.getElem_mem _) (n:=3) (t:=((Tryz.prog.globals[3]?).map (·.type)).getD 0) (by kernel_rfl) (by kernel_rfl) (by kernel_rfl) (by kernel_rfl)
  · cases hg;exact Zy h (x:=(U1[7]'(by decide))) (List.getElem_mem _) (n:=3) (t:=((Tryz.prog.globals[4]?).map (·.type)).getD 0) (by kernel_rfl) (by kernel_rfl) (by kernel_rfl) (by kernel_rfl)
  cases hg
end Go.Proofs.YtbhnlppboegmjaaGreatDoor
/- Proved here: what functions compute in an abstract machine; no condition. -/
import Derived.Test.YtlhdliikahebhaaGreatDoorM11
namespace Go.Proofs.YtlhdliikahebhaaGreatDoor
set_option linter.unusedSimpArgs false
set_option linter.unusedVariables false
set_option maxRecDepth 100000
set_option maxHeartbeats 4000000
theorem wnum57_run{d:Nat}(hd:15≤d){sg0:Bool}{n:Nat}(h2:2≤n)(h6:n≤6)(o:Xh)(b:UInt8)(dg:List UInt8){bs:List UInt8}{x:D}(st la:Int){t:List Xh}(hA:AT bs t x)(hl:bs.length<1000):∃x' t' la',(∀lo,Ae LP NN d 321 [.ptr 1 0 0 0,.int .u8 57] ⟨o::WR sg0 n (b::dg) x st la::t,lo⟩=some (.tup [],⟨o::WR sg0 n dg x' (nst 57 st b) la'::t',min lo 1⟩,true))∧AT (bs++[if nst 57 st b==1 then 32 else b]) t' x':=by
 obtain⟨x',t',la',hp,hA'⟩:=wput_run (d:=d-1) (by omega) h2 h6 o dg (nst 57 st b) la hA hl b (nst 57 st b==1);have wS:min (t.length+1+1) 1=1:=by omega
 have vU:=hA.cell;refine⟨x',t',la',fun lo=>?_,hA'⟩;have zz:=aI @List.getElem?_cons_zero.{0} (aI @List.getElem?_cons_succ.{0} (aI @List.set_cons_zero.{0} (aI @List.set_cons_succ.{0} (aI @List.length_cons.{0} (aI @WR.eq_1 (aI @Gt (aI vU.1 (aI vU.2.1 (aI vU.2.2 wS)))))))));refine raz (hb:=?_);rintro d rfl;refine g9 (q:=Fy 0 (h:=fun hg=>?_) (k:=fun hg=>?_))
 ·
  have h0:st=0:=eq_of_beq hg;have hn:nst 57 st b=2:=if_pos (.inl rfl);rw[hn]at hp;refine g21 (q:=Bb 0 (b:=false) (h:=g28 (q:=Aa (by simp only[opd,zv,Al,aop,LOp.loud,Bool.false_eq_true,if_false];rw[Du _ (b::dg) 1 1 rfl (by simp)];exact rfl) (g11 (q:=Bb 0 (b:=true) (h:=g21 (q:=Aa (by simp only[zo,zz];exact hp _) (g1 (q:=?_)))))))));simp only[ze];refine fq (h:=?_);simp[leave,LP,Xt,Xp,snap,D.Xr,D.Xq,D.free,D.Xw,Bl,Ah,wS,WR,hn]
 have h0:st≠0:=by rw[beq_eq_false_iff_ne]at hg;exact hg
 have hn:nst 57 st b=2:=if_pos (.inl rfl);rw[hn]at hp;refine g19 (q:=Bb 0 (b:=false) (h:=g28 (q:=Aa (by simp only[opd,zv,Al,aop,LOp.loud,Bool.false_eq_true,if_false];rw[Du _ (b::dg) 1 1 rfl (by simp)];exact rfl) (g11 (q:=Bb 0 (b:=true) (h:=g21 (q:=Aa (by simp only[zo,zz];exact hp _) (g1 (q:=?_)))))))));simp only[ze];refine fq (h:=?_);simp[leave,LP,Xt,Xp,snap,D.Xr,D.Xq,D.free,D.Xw,Bl,Ah,wS,WR,hn]
def zrun:List UInt8→Int→Int
 | [],st=>st
 | b::l,st=>zrun l (nst 90 st b)
def K3:List UInt8→Int→List UInt8
 | [],_=>[]
 | b::l,st=>(if nst 90 st b==1 then 32 else b)::K3 l (nst 90 st b)
theorem zrun_snoc(b:UInt8):∀(l:List UInt8) (st:Int),zrun (l++[b]) st=nst 90 (zrun l st) b
 | [],_=>rfl
 | c::l,st=>zrun_snoc b l _
theorem zout_snoc(b:UInt8):∀(l:List UInt8) (st:Int),K3 (l++[b]) st=K3 l st++[if nst 90 (zrun l st) b==1 then 32 else b]
 | [],_=>rfl
 | c::l,st=>by rw[List.cons_append,K3,zout_snoc b l,K3];rfl
theorem R4:∀(l:List UInt8) (st:Int),(K3 l st).length=l.length
 | [],_=>rfl
 | c::l,st=>by rw[K3,List.length_cons,R4 l,List.length_cons]
def edS (dg:List UInt8):List UInt8:=K3 (dg.take (dg.length-1)) 0++dg.drop (dg.length-1)
theorem pic_tab:∀n,n<7→∀i,i<n→(Dp true n)[i]?=some (if i+1=n then 57 else 90):=by decide +kernel
theorem pic_tab2:∀n,n<7→(Dp true n).size=n:=by decide +kernel
theorem digZ_run{d:Nat}(hd:1≤d)(S:St)(p q:ByteArray):Ae LP NN d 320 [.agg [.str p,.str q,.int .u8 0],.int .u8 90] S=some (.bool true,S,false):=by
 obtain⟨d,rfl⟩:∃d',d=d'+1:=⟨d-1,by omega⟩
 kernel_rfl
theorem dig9_run{d:Nat}(hd:1≤d)(S:St)(p q:ByteArray):Ae LP NN d 320 [.agg [.str p,.str q,.int .u8 0],.int .u8 57] S=some (.bool true,S,false):=by
 obtain⟨d,rfl⟩:∃d',d=d'+1:=⟨d-1,by omega⟩
 kernel_rfl
theorem wwrite_run{d:Nat}(hd:17≤d){sg0:Bool}{nn:Nat}(h2:2≤nn)(h6:nn≤6)(o:Xh)(dg:List UInt8)(hdg:dg.length=nn)(lo:Nat):∃r,(fun r=>∃x t st la,r=(D.sl 1 (bR (edS dg)) none,(⟨o::WR sg0 nn [] x st la::t,min lo 1⟩:St),true)) r∧Ae LP NN d 283 [.ptr 1 0 0 0] ⟨o::WR sg0 nn dg .X4 0 0::[],lo⟩=some r:=by
 have h7:nn<7:=by omega
 refine Kc (F:=F283) (P:=fun r=>∃x t st la,r=(D.sl 1 (bR (edS dg)) none,(⟨o::WR sg0 nn [] x st la::t,min lo 1⟩:St),true)) rfl (by simp only[LP,Ah,Bl,zs,zm,zv,Bool.false_and]<;>exact rfl) rfl (by simp only[LP,zf,zm];try rfl) (by simp only[F283,P283,mkP,zv]<;>exact rfl) (by omega) ?_;rintro d rfl;have zz:=aI @List.getElem?_cons_zero.{0} (aI @List.getElem?_cons_succ.{0} (aI @List.set_cons_zero.{0} (aI @List.set_cons_succ.{0} (aI @List.length_cons.{0} (aI @WR.eq_1 (aI (pic_tab2 nn h7) (aI (show min 2 1=1 from rfl) (show min 1 1=1 from rfl))))))));refine g26 (q:=Bq (fun n env S'=>∃(i:Nat) (x:D) (t:List Xh) (st la:Int) (bs:List UInt8) (u2 u3 u4 u7 u8 u9 u10 u11 u12:D),i≤nn∧n=nn-i∧S'=⟨o::WR sg0 nn (dg.drop i) x st la::t,1⟩∧env=[.ptr 1 0 0 0,.X4,u2,u3,u4,.int .i64 (nn:Nat),.int .i64 (i:Nat),u7,u8,u9,u10,u11,u12]∧AT bs t x∧bs.length=i∧((i<nn∧bs=K3 (dg.take i) 0∧st=zrun (dg.take i) 0)∨(i=nn∧bs=edS dg))) (nn) (by omega) (⟨0,.X4,[],_,_,[],_,_,_,_,_,_,_,_,_,by omega,by omega,rfl,rfl,.inl ⟨rfl,rfl,rfl⟩,rfl,.inl ⟨by omega,rfl,rfl⟩⟩) ?_);rintro n env S' ⟨i,x,t,st,la,bs,u2,u3,u4,u7,u8,u9,u10,u11,u12,hi,kL,rfl,rfl,hA,wD,hcase⟩;refine g6 (q:=Bz (ht:=fun xZ=>?_) (hf:=fun xZ=>?_))
 ·
  have yC:i<nn:=by have:=of_decide_eq_true xZ;omega
  have xq:i<dg.length:=by omega
  have vK:=Bu i (by omega);have h0i:(0:Int)≤(i:Int):=by omega
  have kP:=pic_tab nn (by omega) i yC;obtain⟨-,hbs,xH⟩ | ⟨h,-⟩:=hcase
  rotate_left
  ·
   omega
  rw[List.drop_eq_getElem_cons xq];have zz:=aI vK (aI h0i (aI @Int.toNat_natCast (aI (show (57:UInt8).toNat=57 from rfl) (aI (show (90:UInt8).toNat=90 from rfl) zz))));by_cases hk:i+1=nn
  rotate_left
  ·
   rw[if_neg hk]at kP;obtain⟨x',t',la',hp,hA'⟩:=wnum90_run (d:=d) (by omega) h2 h6 o dg[i] (dg.drop (i+1)) st la hA (by omega);have hp1:=hp 1;rw[show min 1 1=1 from rfl]at hp1;have zz:=aI vK (aI kP (aI h0i (aI @Int.toNat_natCast (aI (show (57:UInt8).toNat=57 from rfl) (aI (show (90:UInt8).toNat=90 from rfl) zz)))));refine g30 (q:=Aa (by simp only[zo,zz];exact digZ_run (d:=d) (by omega) _ _ _) (g7 (q:=Aa (by simp only[zo,zz];exact hp1) (g9 (q:=?_)))));exact⟨nn-(i+1),by omega,i+1,x',t',nst 90 st dg[i],la',bs++[if (nst 90 st dg[i]==1)=true then 32 else dg[i]],_,_,_,_,_,_,_,_,_,by omega,rfl,rfl,rfl,hA',by rw[Ll_,wD];rfl,.inl ⟨by omega,by rw[List.take_succ_eq_append_getElem xq,zout_snoc,←xH,←hbs],by rw[List.take_succ_eq_append_getElem xq,zrun_snoc,←xH]⟩⟩
  rw[if_pos hk]at kP;obtain⟨x',t',la',hp,hA'⟩:=wnum57_run (d:=d) (by omega) h2 h6 o dg[i] (dg.drop (i+1)) st la hA (by omega);have hp1:=hp 1;rw[show min 1 1=1 from rfl]at hp1;have hn57:nst 57 st dg[i]=2:=if_pos (.inl rfl);rw[hn57]at hA'
  have hed:bs++[dg[i]]=edS dg:=by
   rw[edS,show dg.length-1=i by omega,hbs,List.drop_eq_getElem_cons xq,List.drop_of_length_le (by omega)]
  have zz:=aI vK (aI kP (aI h0i (aI @Int.toNat_natCast (aI (show (57:UInt8).toNat=57 from rfl) (aI (show (90:UInt8).toNat=90 from rfl) zz)))));refine g30 (q:=Aa (by simp only[zo,zz];exact dig9_run (d:=d) (by omega) _ _ _) (g7 (q:=Aa (by simp only[zo,zz];exact hp1) (g9 (q:=?_)))));exact⟨nn-(i+1),by omega,i+1,x',t',nst 57 st dg[i],la',bs++[dg[i]],_,_,_,_,_,_,_,_,_,by omega,rfl,rfl,rfl,hA',by rw[Ll_,wD];rfl,.inr ⟨by omega,hed⟩⟩
 have hi':nn=i:=by have:=of_decide_eq_false xZ;omega
 subst hi';obtain⟨h,-⟩ | ⟨-,rfl⟩:=hcase
 ·
  omega
 rcases hA with⟨h,-,-⟩ | ⟨v,rfl,rfl⟩
 ·
  rw[h]at wD;simp at wD;omega
 have wm:∀(w:Xh),Av 5 1 1 2 (.msl 2 v 0 (edS dg).length none) (byteRows (mkS (List.replicate 0 32))) ⟨o::w::[⟨5,1,bR (edS dg),v,1,true⟩],1⟩=some (.msl 2 (v+1) 0 (edS dg).length none,⟨o::w::[⟨5,1,bR (edS dg),v+1,1,true⟩],1⟩,true):=fun w=>by
  have hb:(edS dg).length≤140737488355328:=by omega
  simp[Av,rowsOf,setAt,Ga,byteRows,mkS,hb]
 have hT:(bR (edS dg)).take (edS dg).length=bR (edS dg):=by rw[←Ga,List.take_length]
 rw[List.drop_of_length_le (by omega:dg.length≤nn)];refine g15 (q:=Bb 0 (b:=false) (h:=g31 (q:=Bz (ht:=fun hcAF=>?_) (hf:=fun hcAF=>?_))))
 ·
  refine g3 (q:=Aa (by simp only[zo,zz];exact rep_run (by omega) _ 32 0 (by omega)) (g10 (q:=Aa (by simp only[Al,aop,LOp.loud,lop,if_true,opd,zv,Lz,Ls_,zn,List.length_cons,WR];exact wm _) ?_)));refine g4 (q:=?_);refine⟨_,⟨.msl 2 v 0 (edS dg).length none,[⟨5,1,bR (edS dg),v+1,1,true⟩],st,la,rfl⟩,?_⟩;refine fq (h:=?_);simp[leave,LP,Xt,Xp,snap,D.Xr,D.Xq,D.free,D.Xw,Ah,hT,WR]
 refine g9 (q:=Aa (by simp only[Al,aop,LOp.loud,lop,if_true,opd,zv,Lz,Ls_,zn,List.length_cons,WR];exact wm _) ?_);refine g4 (q:=?_);refine⟨_,⟨.msl 2 v 0 (edS dg).length none,[⟨5,1,bR (edS dg),v+1,1,true⟩],st,la,rfl⟩,?_⟩;refine fq (h:=?_);simp[leave,LP,Xt,Xp,snap,D.Xr,D.Xq,D.free,D.Xw,Ah,hT,WR]
theorem Ky{d:Nat}(hd:16≤d)(S:St){n:Nat}(h2:2≤n)(h6:n≤6):Ae LP NN d 100 [.agg (shpE n)] S=some (.int .i64 0,S,false):=by
 have:=pcheck_run (d:=d) (by omega) S (by omega) true n (by omega) h6;rwa [shpR_E (by omega)]at this
theorem ekind_run{d:Nat}(hd:17≤d)(S:St){n:Nat}(h2:2≤n)(h6:n≤6):Ae LP NN d 225 [.agg (shpE n),.int .u8 5] S=some (.int .i64 0,S,false):=by
 have zz:=@shpE.eq_1;refine rpz (hb:=?_);rintro d rfl;refine g11 (q:=Aa (by simp only[zo,zz];exact Ky (by omega) _ h2 h6) (g24 (q:=?_)));exact fq (h:=rfl)
theorem clip_op(S:St)(rows:List (List D))(c:Option Nat):D5 S 1 (.sl 1 rows c) none (some (.int .i64 (rows.length:Nat))) (some (.int .i64 (rows.length:Nat)))=some (Lj (.sl 1 rows c)):=(SlD.of 1 rows c).slice_clip S
theorem clip_run{d:Nat}(hd:1≤d)(S:St)(rows:List (List D))(c:Option Nat):Ae LP NN d 47 [.sl 1 rows c] S=some (.sl 1 rows (some rows.length),S,false):=by
 have zz:=@clip_op;refine rpz (hb:=?_);rintro d rfl;refine g9 (q:=Aa (by simp only[zo,Kq,I8,Nt,Kr,Lj,zz]<;>exact rfl) (g1 (q:=Aa (by simp only[zo,Kq,I8,Nt,Kr,Lj,zz]<;>exact rfl) (Aa (by simp only[opd,zv,Al,aop,LOp.loud,lop,if_true,Bt,Option.map_some,Lj,zz]<;>exact rfl) (g4 (q:=?_))))));exact fq (h:=rfl)
theorem edit_nz{d:Nat}(hd:18≤d)(S:St){n:Nat}(h2:2≤n)(h6:n≤6){s:List UInt8}{ng:Bool}(h:Nrm ng s)(hl:s.length≤n)(hs0:(s==[48])=false):Ae LP NN d 226 [.agg [.bool ng,.str (mkS s),.int .i64 0],.agg (shpE n)] S=some (.sl 1 (bR (edS (pad n s))) none,S,false):=by
 obtain⟨_,⟨x,t,st,la,rfl⟩,hw⟩:=wwrite_run (sg0:=ng) (d:=d-1) (by omega) h2 h6 ⟨351,3,[[.str (Dp true n),.str ⟨#[]⟩,.int .u8 0]],0,0,false⟩ (pad n s) (by rw[Jf];omega) 0;have zz:=aI @Ag (aI @Ai (aI @Ad (aI @shpE.eq_1 (aI @picD.eq_1 (aI @m48 (aI hs0 (aI @List.getElem?_cons_zero.{0} (aI @List.getElem?_cons_succ.{0} (aI @List.set_cons_zero.{0} (aI @List.set_cons_succ.{0} (aI @List.length_cons.{0} @WR.eq_1)))))))))));refine rpz (hb:=?_);rintro d rfl;refine g10 (q:=Aa (by simp only[zo,zz];exact (eof_run (d:=d) (by omega) _ h2 h6)) (g18 (q:=dw_kz 0 (b:=false) (h:=g21 (q:=Bb 0 (b:=false) (h:=g17 (q:=Aa (by simp only[zo,zz];exact rdig_run (by omega) _ h n (by omega) (by omega) hl) (g21 (q:=Aa (by simp only[zo,zz];exact hw) (g4 (q:=?_)))))))))));exact fq (h:=rfl)
theorem edS_zero:∀n,n<7→2≤n→bR (edS (pad n [48]))=List.replicate (n-1) [.int .u8 32]++[[.int .u8 48]]
 | 0,_,h=>by omega
 | 1,_,h=>by omega
 | 2,_,_=>rfl
 | 3,_,_=>rfl
 | 4,_,_=>rfl
 | 5,_,_=>rfl
 | 6,_,_=>rfl
 | n+7,h,_=>by omega
theorem edit_run{d:Nat}(hd:20≤d)(S:St){n:Nat}(h2:2≤n)(h6:n≤6){s:List UInt8}{ng:Bool}(h:Nrm ng s)(hl:s.length≤n):Ae LP NN d 226 [.agg [.bool ng,.str (mkS s),.int .i64 0],.agg (shpE n)] S=some (.sl 1 (bR (edS (pad n s))) none,S,false):=by
 by_cases e:s=[48]
 ·
  subst e;obtain rfl:ng=false:=by have:=h.sg;rw[show nz [48]=false from rfl,Bool.and_false]at this;exact this.symm
  rw[edS_zero n (by omega) h2];exact ezer_run hd S h2 h6
 exact edit_nz (by omega) S h2 h6 h hl (beq_eq_false_iff_ne.2 e)
theorem Qx(dg:List UInt8):(edS dg).length=dg.length:=by
 rw[edS,Ll_,R4,List.length_take,List.length_drop];omega
theorem Mt{ng:Bool}{l:List UInt8}(h:Nrm ng l){n:Nat}(h1:1≤n)(h2:n≤62):Nrm (ng&&nz (Ei n l)) (strip (Ei n l))∧(strip (Ei n l)).length≤n:=by
 have h3:=Ul h h1;have h4:=Qu n l;refine⟨Nrm.of ng (Ei n l) h3 (by have:=L9 (Ei n l);omega),?_⟩;obtain⟨a,-⟩:=J8 (Ei n l) (by intro e;rw[e]at h4;simp at h4;omega);omega
theorem strip0_rep(x:List UInt8):∀k,Bh (List.replicate k 48++x)=Bh x
 | 0=>rfl
 | k+1=>by
  rw[List.replicate_succ,List.cons_append,Bh,List.dropWhile_cons,if_pos (by decide)];exact strip0_rep x k
theorem U7{x:List UInt8}{n:Nat}(h:strip x=x)(hl:x.length≤n):strip (Ei n x)=x:=by
 rw[Ei,show (pad n x).length-n=0 by rw[Jf];omega,List.drop_zero,pad,strip,strip0_rep];exact h
theorem lastN_id{ng:Bool}{l:List UInt8}(h:Nrm ng l){n:Nat}(h1:1≤n)(h2:n≤62):strip (Ei n (strip (Ei n l)))=strip (Ei n l) :=
 U7 (Mt h h1 h2).1.st (Mt h h1 h2).2
theorem P6{d:Nat}(hd:22≤d)(S:St){n:Nat}(h2:2≤n)(h6:n≤6){ng:Bool}{l:List UInt8}(h:Nrm ng l):Ae LP NN d 151 [.agg [.bool ng,.str (mkS l),.int .i64 0],.agg (shpE n)] S=some (.tup [.sl 1 (bR (edS (pad n (strip (Ei n l))))) (some n),.int .i64 0],S,false):=by
 obtain⟨hn,qy⟩:=Mt h (n:=n) (by omega) (by omega);have zz:=aI @shpE.eq_1 @Bool.false_and;refine rpz (hb:=?_);rintro d rfl;refine g12 (q:=Aa (by simp only[zo,zz];exact ekind_run (by omega) _ h2 h6) (g17 (q:=Aa (by simp only[zo,zz];exact Tm (by omega) _ h) (g27 (q:=Aa (by simp only[zo,zz];exact Wz (by omega) _ h n (by omega) (by omega)) (g22 (q:=Aa (by simp only[zo,zz];exact edit_run (by omega) _ h2 h6 hn qy) (Aa (by simp only[zo,zz];exact clip_run (by omega) _ _ _) (g5 (q:=fq (h:=?_)))))))))));rw[Ga,Qx,Jf,show n-(strip (Ei n l)).length+(strip (Ei n l)).length=n by omega];rfl
theorem storeE_run{d:Nat}(hd:24≤d)(S:St){n:Nat}(h2:2≤n)(h6:n≤6){ng:Bool}{l:List UInt8}(h:Nrm ng l):Ae LP NN d 104 [.agg [.bool ng,.str (mkS l),.int .i64 0],.agg (shpE n),.int .u8 0] S=some (.tup [.sl 1 (bR (edS (pad n (strip (Ei n l))))) (some n),.bool (!decide (l.length≤n)),.int .i64 0],S,false):=by
 have hE:=fun S:St=>P6 (d:=d-1) (by omega) S h2 h6 (Mt h (n:=n) (by omega) (by omega)).1;rw[lastN_id h (by omega) (by omega)]at hE;have zz:=aI @shpE.eq_1 @Bool.false_and;refine rpz (hb:=?_);rintro d rfl;refine g14 (q:=Aa (by simp only[zo,zz];exact J6 (by omega) _ _ l h) (g2 (q:=Bb 0 (b:=false) (h:=g3 (q:=Aa (by simp only[zo,zz];exact Ky (by omega) _ h2 h6) (g4 (q:=Bb 0 (b:=false) (h:=g15 (q:=Bb 0 (b:=true) (h:=g20 (q:=Aa (by simp only[zo,zz];exact round_run (by omega) _ h) (g31 (q:=Aa (by simp only[zo,zz];exact Uf (by omega) _ h n (by omega) (by omega)) (g14 (q:=Aa (by simp only[zo,zz];exact Wz (by omega) _ h n (by omega) (by omega)) (g31 (q:=Aa (by simp only[zo,zz];exact hE _) (g12 (q:=Bb 0 (b:=false) (h:=g12 (q:=?_)))))))))))))))))))));exact fq (h:=rfl)
theorem h9:shpR true 1=[.int .u8 4,.int .u8 0,.str (Dp true 1),.int .i64 1,.int .i64 0,.bool false,.bool false,.bool false,.bool false,.bool false,.int .i64 1]:=rfl
def K9 (b:UInt8) (l:List UInt8):List UInt8:=if l.take 1==[b] then l.drop 1 else l
theorem cutM_le(b:UInt8)(l:List UInt8):(K9 b l).length≤l.length:=by
 unfold K9;split
 ·
  simp
 exact Nat.le_refl _
def Lt (b:UInt8) (l:List UInt8):Option Nat:=(List.range l.length).find? fun i=>(mkS l)[i]! == b
theorem idxB_lt{b:UInt8}{l:List UInt8}{i:Nat}(h:Lt b l=some i):i<l.length:=List.mem_range.1 (List.mem_of_find?_eq_some h)
def idxV (b:UInt8) (l:List UInt8):Int:=match Lt b l with
 | some i=>(i:Nat)
 | none=>-1
theorem pre1_len{l:List UInt8}{b:UInt8}(h:(l.take 1==[b])=true):1≤l.length:=by
 cases l with
 | nil=>simp at h
 | cons a l=>simp
theorem pre1_nil{l:List UInt8}{b:UInt8}(h:¬1≤l.length):(l.take 1==[b])=false:=by
 cases l with
 | nil=>rfl
 | cons a l=>simp at h
theorem hasPg_run{d:Nat}(hd:1≤d)(S:St){l:List UInt8}{b:UInt8}(hl:l.length≤1000000):Ae LP NN d 269 [.str (mkS l),.str (mkS [b])] S=some (.bool (l.take 1==[b]),S,false):=by
 have zz:=aI @Ag (aI @Ai (aI @Ad @List.length_singleton.{0}));refine rpz (hb:=?_);rintro d rfl;refine g13 (q:=Fy 0 (h:=fun hg=>?_) (k:=fun hg=>?_))
 ·
  refine g7 (q:=Aa (by simp only[opd,zv,Al,aop,LOp.loud,Bool.false_eq_true,if_false,Ad];rw[Ox _ l 1 _ rfl (by have:=of_decide_eq_true hg;omega)];exact rfl) (g9 (q:=?_)));exact fq (h:=rfl)
 refine g11 (q:=fq (h:=?_));rw[pre1_nil (by have:=of_decide_eq_false hg;omega)];rfl
theorem cutP4g_run{d:Nat}(hd:2≤d)(S:St){l:List UInt8}{b:UInt8}(hl:l.length≤1000000):Ae LP NN d 230 [.str (mkS l),.str (mkS [b])] S=some ((.tup [.str (mkS (K9 b l)),.bool (l.take 1==[b])]),S,false):=by
 have zz:=aI @Ag (aI @Ai (aI @Ad @List.length_singleton.{0}));refine rpz (hb:=?_);rintro d rfl;refine g11 (q:=Aa (by simp only[zo,zz];exact hasPg_run (by omega) _ hl) (g3 (q:=Bz (ht:=fun hc=>?_) (hf:=fun hc=>?_))))
 ·
  refine g9 (q:=fq (h:=?_));rw[K9,show (l.take 1==[b])=false by simpa using hc];rfl
 refine g7 (q:=Aa (by simp only[opd,zv,Al,aop,LOp.loud,Bool.false_eq_true,if_false,Ad];rw[Du _ l 1 _ rfl (pre1_len (by simpa using hc))];exact rfl) (g5 (q:=fq (h:=?_))));rw[K9,show (l.take 1==[b])=true by simpa using hc];rfl
theorem Gr{d:Nat}(hd:3≤d)(S:St){l:List UInt8}{b:UInt8}(hl:l.length≤1000000):Ae LP NN d 157 [.str (mkS l),.str (mkS [b])] S=some ((.tup [.str (mkS (K9 b l)),.bool (l.take 1==[b])]),S,false):=by
 have zz:=aI @Ag (aI @Ai @Ad);refine rpz (hb:=?_);rintro d rfl;refine g10 (q:=Aa (by simp only[zo,zz];exact cutP4g_run (by omega) _ hl) (g7 (q:=?_)));exact fq (h:=rfl)
theorem trimP3g_run{d:Nat}(hd:2≤d)(S:St){l:List UInt8}{b:UInt8}(hl:l.length≤1000000):Ae LP NN d 231 [.str (mkS l),.str (mkS [b])] S=some ((.str (mkS (K9 b l))),S,false):=by
 have zz:=aI @Ag (aI @Ai (aI @Ad @List.length_singleton.{0}));refine rpz (hb:=?_);rintro d rfl;refine g10 (q:=Aa (by simp only[zo,zz];exact hasPg_run (by omega) _ hl) (g2 (q:=Bz (ht:=fun hc=>?_) (hf:=fun hc=>?_))))
 ·
  refine g5 (q:=Aa (by simp only[opd,zv,Al,aop,LOp.loud,Bool.false_eq_true,if_false,Ad];rw[Du _ l 1 _ rfl (pre1_len hc)];exact rfl) (g5 (q:=fq (h:=?_))));rw[K9,if_pos hc];rfl
 refine g9 (q:=fq (h:=?_));rw[K9,if_neg (by simpa using hc)];rfl
theorem Kj{d:Nat}(hd:3≤d)(S:St){l:List UInt8}{b:UInt8}(hl:l.length≤1000000):Ae LP NN d 158 [.str (mkS l),.str (mkS [b])] S=some ((.str (mkS (K9 b l))),S,false):=by
 have zz:=aI @Ag (aI @Ai @Ad);refine rpz (hb:=?_);rintro d rfl;refine g9 (q:=Aa (by simp only[zo,zz];exact trimP3g_run (by omega) _ hl) (g4 (q:=?_)));exact fq (h:=rfl)
theorem idxBg_run{d:Nat}(hd:1≤d)(S:St){l:List UInt8}{b:UInt8}:Ae LP NN d 303 [.str (mkS l),.int .u8 (b.toNat:Nat)] S=some (.int .i64 (idxV b l),S,false):=by
 have zz:=aI @Ag (aI @Ai (aI @Ad @u8n));refine rpz (hb:=?_);rintro d rfl;refine g14 (q:=fq (h:=?_));unfold idxV Lt;rfl
theorem idxB_self(b:UInt8):Lt b [b]=some 0:=by
 unfold Lt
 rw[show List.range [b].length=[0] from rfl,List.find?_cons_of_pos (by
  rw[beq_iff_eq,getElem!_pos (mkS [b]) 0 (by rw[Ad];exact Nat.one_pos)]
  simp[mkS,ByteArray.getElem_eq_getElem_data])]
theorem idxV_self{b:UInt8}{l:List UInt8}(h:([b]==l)=true):idxV b l=0:=by
 have h:=eq_of_beq h;subst h;rw[idxV,idxB_self];rfl
theorem idxg_run{d:Nat}(hd:2≤d)(S:St){l:List UInt8}{b:UInt8}:Ae LP NN d 266 [.str (mkS l),.str (mkS [b])] S=some (.int .i64 (idxV b l),S,false):=by
 have zz:=aI @Ag (aI @Ai (aI @Ad (aI @n1 (aI @Gt (aI @List.length_singleton.{0} @List.getElem?_cons_zero.{0})))));refine rpz (hb:=?_);rintro d rfl;refine g19 (q:=Bb 0 (b:=false) (h:=g10 (q:=Bz (ht:=fun hc=>?_) (hf:=fun hc=>?_))))
 ·
  refine g8 (q:=fq (h:=?_));rw[idxV_self (by simpa using hc)];rfl
 refine g13 (q:=Aa (by simp only[zo,zz];exact idxBg_run (by omega) _) (g6 (q:=?_)));exact fq (h:=rfl)
theorem cut5_some{d:Nat}(hd:3≤d)(S:St){l:List UInt8}{b:UInt8}{i:Nat}(hi:Lt b l=some i)(hl:l.length≤1000000):Ae LP NN d 232 [.str (mkS l),.str (mkS [b])] S=some (.tup [.str (mkS (l.take i)),.str (mkS (l.drop (i+1))),.bool true],S,false):=by
 have zh:=idxB_lt hi;have hv:idxV b l=(i:Nat):=by rw[idxV,hi]
 have h0:decide (((i:Nat):Int)≥0)=true:=decide_eq_true (by omega);have hw:IntKind.i64.wrap (((i:Nat):Int)+1)=((i+1:Nat):Int):=by rw[IntKind.wrap_i64];omega
 have zz:=aI @Ag (aI @Ai (aI @Ad (aI h0 (aI hw (aI @List.length_singleton.{0} @n1)))));refine rpz (hb:=?_);rintro d rfl;refine g12 (q:=Aa (by simp only[zo,zz];exact (idxg_run (by omega) _).trans (by rw[hv])) (g14 (q:=Co (by simp only[opd,zv,Al,aop,LOp.loud,Bool.false_eq_true,if_false,Ad,hw];rw[Ox _ l i _ rfl (by omega)];exact rfl) rfl rfl (g5 (q:=Co (by simp only[opd,zv,Al,aop,LOp.loud,Bool.false_eq_true,if_false,Ad,hw];rw[Du _ l (i+1) _ rfl (by omega)];exact rfl) rfl rfl (g7 (q:=?_)))))));exact fq (h:=rfl)
theorem cut5_none{d:Nat}(hd:3≤d)(S:St){l:List UInt8}{b:UInt8}(hi:Lt b l=none):Ae LP NN d 232 [.str (mkS l),.str (mkS [b])] S=some (.tup [.str (mkS l),.str ⟨#[]⟩,.bool false],S,false):=by
 have hv:idxV b l=-1:=by rw[idxV,hi]
 have zz:=aI @Ag (aI @Ai @Ad);refine rpz (hb:=?_);rintro d rfl;refine g12 (q:=Aa (by simp only[zo,zz];exact (idxg_run (by omega) _).trans (by rw[hv])) (g21 (q:=?_)));exact fq (h:=rfl)
theorem M5{d:Nat}(hd:4≤d)(S:St){l:List UInt8}{b:UInt8}{i:Nat}(hi:Lt b l=some i)(hl:l.length≤1000000):Ae LP NN d 159 [.str (mkS l),.str (mkS [b])] S=some (.tup [.str (mkS (l.take i)),.str (mkS (l.drop (i+1))),.bool true],S,false):=by
 have zz:=aI @Ag (aI @Ai @Ad);refine rpz (hb:=?_);rintro d rfl;refine g11 (q:=Aa (by simp only[zo,zz];exact cut5_some (by omega) _ hi hl) (g9 (q:=?_)));exact fq (h:=rfl)
theorem cut_no{d:Nat}(hd:4≤d)(S:St){l:List UInt8}{b:UInt8}(hi:Lt b l=none):Ae LP NN d 159 [.str (mkS l),.str (mkS [b])] S=some (.tup [.str (mkS l),.str ⟨#[]⟩,.bool false],S,false):=by
 have zz:=aI @Ag (aI @Ai @Ad);refine rpz (hb:=?_);rintro d rfl;refine g11 (q:=Aa (by simp only[zo,zz];exact cut5_none (by omega) _ hi) (g9 (q:=?_)));exact fq (h:=rfl)
def Q9 (b:UInt8) (l:List UInt8):Bool:=l.drop (l.length-1)==[b]
theorem sufB_pos{b:UInt8}{l:List UInt8}(h:Q9 b l=true):1≤l.length:=by
 cases l with
 | nil=>simp[Q9]at h
 | cons a l=>simp
theorem sufB_nil{b:UInt8}{l:List UInt8}(h:¬1≤l.length):Q9 b l=false:=by
 cases l with
 | nil=>rfl
 | cons a l=>simp at h
def zt:Nat→List UInt8→List UInt8 × Nat
 | 0,l=>(l,0)
 | s+1,l=>if Q9 48 l then zt s (l.take (l.length-1)) else (l,s+1)
theorem zt_no{s:Nat}{l:List UInt8}(h:Q9 48 l=false):zt s l=(l,s):=by
 cases s with
 | zero=>rfl
 | succ s=>rw[zt,if_neg (by rw[h];decide)]
theorem zt_yes{s:Nat}{l:List UInt8}(h:Q9 48 l=true):zt (s+1) l=zt s (l.take (l.length-1)):=by rw[zt,if_pos h]
theorem zt_le:∀(s:Nat) (l:List UInt8),(zt s l).1.length≤l.length∧(zt s l).2≤s
 | 0,l=>⟨Nat.le_refl _,Nat.le_refl _⟩
 | s + 1, l => by
  rw[zt];split
  ·
   have h:=zt_le s (l.take (l.length-1));have:(l.take (l.length-1)).length≤l.length:=by rw[List.length_take];omega
   exact⟨Nat.le_trans h.1 this,by omega⟩
  exact⟨Nat.le_refl _,Nat.le_refl _⟩
def K7 (neg:Bool) (l:List UInt8) (s:Nat):List D:=if Bh l=[] then [.bool false,.str ⟨#[48]⟩,.int .i64 0] else [.bool neg,.str (mkS (zt s (Bh l)).1),.int .i64 ((zt s (Bh l)).2:Nat)]
theorem sfx5_run{d:Nat}(hd:1≤d)(S:St){l:List UInt8}{b:UInt8}(hl:l.length≤1000000):Ae LP NN d 285 [.str (mkS l),.str (mkS [b])] S=some (.bool (Q9 b l),S,false):=by
 have hw:∀_:1≤l.length,IntKind.i64.wrap (((l.length:Nat):Int)-1)=((l.length-1:Nat):Int):=fun h=>by rw[IntKind.wrap_i64];omega
 have zz:=aI @Ag (aI @Ai (aI @Ad (aI @n1 @List.length_singleton.{0})));refine rpz (hb:=?_);rintro d rfl;refine g13 (q:=Fy 0 (h:=fun hg=>?_) (k:=fun hg=>?_))
 ·
  have h1:1≤l.length:=by have:=of_decide_eq_true hg;omega
  have hw:=hw h1;have zz:=aI hw zz;refine g13 (q:=Aa (by simp only[opd,zv,Al,aop,LOp.loud,Bool.false_eq_true,if_false,Ad];rw[Du _ l (l.length-1) _ rfl (by omega)];exact rfl) (g9 (q:=?_)));exact fq (h:=rfl)
 refine g14 (q:=fq (h:=?_));rw[sufB_nil (by have:=of_decide_eq_false hg;omega)];rfl
theorem sfx_run{d:Nat}(hd:2≤d)(S:St){l:List UInt8}{b:UInt8}(hl:l.length≤1000000):Ae LP NN d 233 [.str (mkS l),.str (mkS [b])] S=some (.bool (Q9 b l),S,false):=by
 have zz:=aI @Ag (aI @Ai @Ad);refine rpz (hb:=?_);rintro d rfl;refine g9 (q:=Aa (by simp only[zo,zz];exact sfx5_run (by omega) _ hl) (g4 (q:=?_)));exact fq (h:=rfl)
theorem I7{d:Nat}(hd:4≤d)(S:St)(neg:Bool)(l:List UInt8)(s:Nat)(hl:l.length≤1000)(xg:(Bh l).length≤62)(hs:s≤62):Ae LP NN d 161 [.bool neg,.str (mkS l),.int .i64 (s:Nat)] S=some (.tup [.agg (K7 neg l s),.int .i64 0],S,false):=by
 have zz:=aI @Ag (aI @Ai @Ad);refine rpz (hb:=?_);rintro d rfl;refine g9 (q:=Aa (by simp only[zo,zz];exact trimL0_run (by omega) _ l (by omega)) (g10 (q:=Bz (ht:=fun hc=>?_) (hf:=fun hc=>?_))))
 ·
  refine g9 (q:=fq (h:=?_));have h0:Bh l=[]:=(eqNil _).1 hc;rw[K7,if_pos h0];rfl
 refine g4 (q:=Bq (fun n env S'=>∃(c:List UInt8) (u5 u6 u7 u8:D),c.length≤62∧n≤s∧zt n c=zt s (Bh l)∧S'=⟨[⟨176,3,[[.bool false,.str ⟨#[]⟩,.int .i64 0]],0,0,false⟩],0⟩∧env=[.bool neg,.str (mkS c),.int .i64 (n:Nat),.ptr 0 0 0 0,.int .i64 0,u5,u6,u7,u8]) (s) (by omega) (⟨_,_,_,_,_,xg,Nat.le_refl _,rfl,rfl,rfl⟩) ?_);rintro n env S' ⟨c,u5,u6,u7,u8,hc62,hns,hz,rfl,rfl⟩;have yw:c.length≤1000000:=by omega
 have wB:decide (((n:Nat):Int)<0)=false:=decide_eq_false (by omega);have hmx:(if ((c.length:Nat):Int)≤((n:Nat):Int) then ((n:Nat):Int) else ((c.length:Nat):Int))≤62:=by split<;>omega
 have zz:=aI wB zz;refine g6 (q:=Fy 0 (h:=fun hgFA=>?_) (k:=fun hgFA=>?_))
 ·
  have hn0:0<n:=by have:=of_decide_eq_true hgFA;omega
  have uE:n-1+1=n:=by omega
  refine g3 (q:=Aa (by simp only[zo,zz];exact sfx_run (b:=48) (by omega) _ yw) (g3 (q:=Bz (ht:=fun hcFAT=>?_) (hf:=fun hcFAT=>?_))))
  ·
   have y8:=sufB_pos hcFAT;have hw1:IntKind.i64.wrap (((c.length:Nat):Int)-1)=((c.length-1:Nat):Int):=by rw[IntKind.wrap_i64];omega
   have hw2:IntKind.i64.wrap (((n:Nat):Int)-1)=((n-1:Nat):Int):=by rw[IntKind.wrap_i64];omega
   have zz:=aI hw1 (aI hw2 zz);refine g8 (q:=Aa (by simp only[opd,zv,Al,aop,LOp.loud,Bool.false_eq_true,if_false,Ad];rw[Ox _ c (c.length-1) _ rfl (by omega)];exact rfl) (g7 (q:=?_)));exact⟨n-1,by omega,c.take (c.length-1),_,_,_,_,by rw[List.length_take];omega,by omega,by rw[←hz,←zt_yes hcFAT,uE],rfl,rfl⟩
  have hz':zt s (Bh l)=(c,n):=by rw[←hz];exact zt_no hcFAT
  refine g25 (q:=Au (by simp only[opd,zv,zz]<;>(rw[decide_eq_false_iff_not.2];split<;>omega)) (g13 (q:=fq (h:=?_))));have h0:¬Bh l=[]:=fun h=>by rw[h]at hc;simp at hc
  rw[K7,if_neg h0,hz'];rfl
 obtain rfl:n=0:=by have:=of_decide_eq_false hgFA;omega
 have hz':zt s (Bh l)=(c,0):=by rw[←hz];rfl
 refine g31 (q:=Au (by simp only[opd,zv,zz]<;>(rw[decide_eq_false_iff_not.2];split<;>omega)) (g13 (q:=fq (h:=?_))));have h0:¬Bh l=[]:=fun h=>by rw[h]at hc;simp at hc
 rw[K7,if_neg h0,hz'];rfl
theorem zt_fix:∀(s:Nat) (l:List UInt8),zt (zt s l).2 (zt s l).1=zt s l
 | 0,l=>rfl
 | s + 1, l => by
  by_cases h:Q9 48 l=true
  ·
   rw[zt_yes h];exact zt_fix s _
  have h:Q9 48 l=false:=by simpa using h
  rw[zt_no h,zt_no h]
theorem Ow{a:UInt8}{l:List UInt8}(h:(a==48)=false):Bh (a::l)=a::l:=by
 show (a::l).dropWhile (·==48)=a::l;rw[List.dropWhile_cons,if_neg (by simpa using h)]
theorem Uc{a:UInt8}{l:List UInt8}(h:Bh (a::l)=a::l):(a==48)=false:=by
 cases e:a==48 with
 | false=>rfl
 | true =>
  have h':(a::l).dropWhile (·==48)=a::l:=h;rw[List.dropWhile_cons,if_pos e]at h';have:(l.dropWhile (·==(48:UInt8))).length≤l.length:=(List.dropWhile_sublist (·==(48:UInt8))).length_le;have h2:=congrArg List.length h';simp at h2;omega
theorem zt_keep:∀(s:Nat) (l:List UInt8),l≠[]→Bh l=l→(zt s l).1≠[]∧Bh (zt s l).1=(zt s l).1∧∃k,(zt s l).1=l.take k
 | 0,l,h1,h2=>⟨h1,h2,l.length,by simp[zt]⟩
 | s + 1, l, h1, h2 => by
  by_cases h:Q9 48 l=true
  ·
   rw[zt_yes h]
   match l,h1,h2,h with
   | [a],_,h2,h =>
    exfalso;have h3:=Uc h2;simp only[Q9,List.length_singleton,Nat.sub_self,List.drop_zero,beq_iff_eq,List.cons.injEq,and_true]at h;rw[h]at h3;simp at h3
   | a::b::l,_,h2,h =>
    have e:(a::b::l).take ((a::b::l).length-1)=a::(b::l).take l.length:=by simp
    have ih:=zt_keep s ((a::b::l).take ((a::b::l).length-1)) (by rw[e];simp) (by rw[e];exact Ow (Uc h2));obtain⟨i1,i2,k,i3⟩:=ih;refine⟨i1,i2,min k ((a::b::l).length-1),?_⟩;rw[i3,List.take_take]
  have h:Q9 48 l=false:=by simpa using h
  rw[zt_no h];exact⟨h1,h2,l.length,by simp⟩
structure NrmS (neg:Bool) (l:List UInt8) (s:Nat):Prop where
 num:Dq l=true
 len:l.length≤62
 sc:s≤62
 fix:K7 neg l s=[.bool neg,.str (mkS l),.int .i64 (s:Nat)]
theorem NrmS.of(neg:Bool)(l:List UInt8)(s:Nat)(h1:Dq l=true)(h2:(Bh l).length≤62)(hs:s≤62):∃neg' c t,K7 neg l s=[.bool neg',.str (mkS c),.int .i64 (t:Nat)]∧t≤s∧NrmS neg' c t:=by
 by_cases h0:Bh l=[]
 ·
  refine⟨false,[48],0,by rw[K7,if_pos h0];rfl,Nat.zero_le _,rfl,by decide,by decide,?_⟩;rw[K7,if_pos (show Bh [48]=[] by decide)];rfl
 obtain⟨k1,k2,k,k3⟩:=zt_keep s (Bh l) h0 (Lr l);have yh:=zt_le s (Bh l);refine⟨neg,(zt s (Bh l)).1,(zt s (Bh l)).2,by rw[K7,if_neg h0],yh.2,?_,by omega,by omega,?_⟩
 ·
  simp only[Dq,Bool.and_eq_true,Bool.not_eq_true',beq_eq_false_iff_ne,ne_eq]at h1 ⊢;refine⟨k1,?_⟩;rw[k3,List.all_eq_true];intro x hx;obtain⟨j,hj⟩:=Gm l;have hm:x∈l:=by rw[hj];exact List.mem_append_right _ (List.mem_of_mem_take hx)
  exact List.all_eq_true.1 h1.2 x hm
 rw[K7,if_neg (by rw[k2];exact k1),k2,zt_fix]
theorem dp_true_n_bad{d:Nat}(hd:6≤d)(S:St){l m:List UInt8}(hl:l.length≤1000)(hb:(l.take 1==[45])=true)(hm:K9 45 l=m)(zV:m.length≤1000)(hi:Lt 46 m=none)(hn:Dq m=false):Ae LP NN d 102 [.str (mkS l)] S=some (.tup [.agg [.bool false,.str ⟨#[]⟩,.int .i64 0],.int .i64 4],S,false):=by
 have zz:=aI @Ag (aI @Ai (aI @Ad (aI @m45 (aI @m43 (aI @m46 (aI @List.append_nil.{0} (aI @Bool.not_false (aI @Bool.not_true (aI hb (aI hm hn))))))))));refine rpz (hb:=?_);rintro d rfl;refine g14 (q:=Au (by simp only[opd,zv,zz]<;>(rw[decide_eq_false (by omega:¬((l.length:Nat):Int)>1000)])) (g5 (q:=Aa (by simp only[zo,zz];exact Gr (by omega) _ (by omega)) (g20 (q:=Aa (by simp only[zo,zz];exact cut_no (by omega) _ hi) (g14 (q:=Bb 0 (b:=false) (h:=g9 (q:=Aa (by simp only[zo,Ec,zb,Int.reduceEq,Int.reduceToNat,Int.reduceLT,Hd,Fj,Ad,List.append_nil];rw[if_neg (by rw[show IntKind.i64.max=9223372036854775807 from rfl];simp only[List.length_nil,List.length_take,List.length_drop];omega)];exact rfl) (g1 (q:=Aa (by simp only[zo,zz];exact Gz (by omega) _ m (by omega)) (g15 (q:=?_)))))))))))));exact fq (h:=rfl)
theorem dp_true_n_ok{d:Nat}(hd:6≤d)(S:St){l m:List UInt8}(hl:l.length≤1000)(hb:(l.take 1==[45])=true)(hm:K9 45 l=m)(zV:m.length≤1000)(hi:Lt 46 m=none)(hn:Dq m=true){ng:Bool}{c:List UInt8}{t:Nat}(yF:K7 true m 0=[.bool ng,.str (mkS c),.int .i64 (t:Nat)])(uj:(Bh m).length≤62):Ae LP NN d 102 [.str (mkS l)] S=some (.tup [.agg [.bool ng,.str (mkS c),.int .i64 (t:Nat)],.int .i64 0],S,false):=by
 have zz:=aI @Ag (aI @Ai (aI @Ad (aI @m45 (aI @m43 (aI @m46 (aI @List.append_nil.{0} (aI @Bool.not_false (aI @Bool.not_true (aI hb (aI hm hn))))))))));refine rpz (hb:=?_);rintro d rfl;refine g14 (q:=Au (by simp only[opd,zv,zz]<;>(rw[decide_eq_false (by omega:¬((l.length:Nat):Int)>1000)])) (g5 (q:=Aa (by simp only[zo,zz];exact Gr (by omega) _ (by omega)) (g20 (q:=Aa (by simp only[zo,zz];exact cut_no (by omega) _ hi) (g14 (q:=Bb 0 (b:=false) (h:=g9 (q:=Aa (by simp only[zo,Ec,zb,Int.reduceEq,Int.reduceToNat,Int.reduceLT,Hd,Fj,Ad,List.append_nil];rw[if_neg (by rw[show IntKind.i64.max=9223372036854775807 from rfl];simp only[List.length_nil,List.length_take,List.length_drop];omega)];exact rfl) (g1 (q:=Aa (by simp only[zo,zz];exact Gz (by omega) _ m (by omega)) (g13 (q:=Aa (by simp only[zo,Ec,zb,Int.reduceEq,Int.reduceToNat,Int.reduceLT,Hd,Fj,Ad,List.append_nil];rw[if_neg (by rw[show IntKind.i64.max=9223372036854775807 from rfl];simp only[List.length_nil,List.length_take,List.length_drop];omega)];exact rfl) (g2 (q:=Aa (by simp only[zo,zz];exact (I7 (by omega) _ true m 0 zV uj (by omega)).trans (by rw[yF])) (g7 (q:=?_)))))))))))))))));exact fq (h:=rfl)
theorem dp_true_s_bad{d:Nat}(hd:6≤d)(S:St){l m:List UInt8}(hl:l.length≤1000)(hb:(l.take 1==[45])=true)(hm:K9 45 l=m)(zV:m.length≤1000){i:Nat}(hi:Lt 46 m=some i)(zU:(m.drop (i+1)==[])=false)(hn:Dq (m.take i++m.drop (i+1))=false):Ae LP NN d 102 [.str (mkS l)] S=some (.tup [.agg [.bool false,.str ⟨#[]⟩,.int .i64 0],.int .i64 4],S,false):=by
 have zz:=aI @Ag (aI @Ai (aI @Ad (aI @m45 (aI @m43 (aI @m46 (aI @List.append_nil.{0} (aI @Bool.not_false (aI @Bool.not_true (aI hb (aI hm (aI hn zU)))))))))));refine rpz (hb:=?_);rintro d rfl;refine g14 (q:=Au (by simp only[opd,zv,zz]<;>(rw[decide_eq_false (by omega:¬((l.length:Nat):Int)>1000)])) (g5 (q:=Aa (by simp only[zo,zz];exact Gr (by omega) _ (by omega)) (g20 (q:=Aa (by simp only[zo,zz];exact M5 (by omega) _ hi (by omega)) (g14 (q:=Bb 0 (b:=true) (h:=g6 (q:=Bb 0 (b:=false) (h:=g5 (q:=Aa (by simp only[zo,Ec,zb,Int.reduceEq,Int.reduceToNat,Int.reduceLT,Hd,Fj,Ad,List.append_nil];rw[if_neg (by rw[show IntKind.i64.max=9223372036854775807 from rfl];simp only[List.length_nil,List.length_take,List.length_drop];omega)];exact rfl) (g1 (q:=Aa (by simp only[zo,zz];exact Gz (by omega) _ (m.take i++m.drop (i+1)) (by simp only[Ll_,List.length_take,List.length_drop];omega)) (g15 (q:=?_)))))))))))))));exact fq (h:=rfl)
theorem dp_true_s_ok{d:Nat}(hd:6≤d)(S:St){l m:List UInt8}(hl:l.length≤1000)(hb:(l.take 1==[45])=true)(hm:K9 45 l=m)(zV:m.length≤1000){i:Nat}(hi:Lt 46 m=some i)(zU:(m.drop (i+1)==[])=false)(hn:Dq (m.take i++m.drop (i+1))=true){ng:Bool}{c:List UInt8}{t:Nat}(yF:K7 true (m.take i++m.drop (i+1)) (m.drop (i+1)).length=[.bool ng,.str (mkS c),.int .i64 (t:Nat)])(uj:(Bh (m.take i++m.drop (i+1))).length≤62)(hs62:(m.drop (i+1)).length≤62):Ae LP NN d 102 [.str (mkS l)] S=some (.tup [.agg [.bool ng,.str (mkS c),.int .i64 (t:Nat)],.int .i64 0],S,false):=by
 have zz:=aI @Ag (aI @Ai (aI @Ad (aI @m45 (aI @m43 (aI @m46 (aI @List.append_nil.{0} (aI @Bool.not_false (aI @Bool.not_true (aI hb (aI hm (aI hn zU)))))))))));refine rpz (hb:=?_);rintro d rfl;refine g14 (q:=Au (by simp only[opd,zv,zz]<;>(rw[decide_eq_false (by omega:¬((l.length:Nat):Int)>1000)])) (g5 (q:=Aa (by simp only[zo,zz];exact Gr (by omega) _ (by omega)) (g20 (q:=Aa (by simp only[zo,zz];exact M5 (by omega) _ hi (by omega)) (g14 (q:=Bb 0 (b:=true) (h:=g6 (q:=Bb 0 (b:=false) (h:=g5 (q:=Aa (by simp only[zo,Ec,zb,Int.reduceEq,Int.reduceToNat,Int.reduceLT,Hd,Fj,Ad,List.append_nil];rw[if_neg (by rw[show IntKind.i64.max=9223372036854775807 from rfl];simp only[List.length_nil,List.length_take,List.length_drop];omega)];exact rfl) (g1 (q:=Aa (by simp only[zo,zz];exact Gz (by omega) _ (m.take i++m.drop (i+1)) (by simp only[Ll_,List.length_take,List.length_drop];omega)) (g13 (q:=Aa (by simp only[zo,Ec,zb,Int.reduceEq,Int.reduceToNat,Int.reduceLT,Hd,Fj,Ad,List.append_nil];rw[if_neg (by rw[show IntKind.i64.max=9223372036854775807 from rfl];simp only[List.length_nil,List.length_take,List.length_drop];omega)];exact rfl) (g2 (q:=Aa (by simp only[zo,zz];exact (I7 (by omega) _ true (m.take i++m.drop (i+1)) (m.drop (i+1)).length (by simp only[Ll_,List.length_take,List.length_drop];omega) uj hs62).trans (by rw[yF])) (g7 (q:=?_)))))))))))))))))));exact fq (h:=rfl)
theorem dp_true_s_dot{d:Nat}(hd:6≤d)(S:St){l m:List UInt8}(hl:l.length≤1000)(hb:(l.take 1==[45])=true)(hm:K9 45 l=m)(zV:m.length≤1000){i:Nat}(hi:Lt 46 m=some i)(zU:(m.drop (i+1)==[])=true):Ae LP NN d 102 [.str (mkS l)] S=some (.tup [.agg [.bool false,.str ⟨#[]⟩,.int .i64 0],.int .i64 4],S,false):=by
 have zz:=aI @Ag (aI @Ai (aI @Ad (aI @m45 (aI @m43 (aI @m46 (aI @List.append_nil.{0} (aI @Bool.not_false (aI @Bool.not_true (aI hb (aI hm zU))))))))));refine rpz (hb:=?_);rintro d rfl;refine g14 (q:=Au (by simp only[opd,zv,zz]<;>(rw[decide_eq_false (by omega:¬((l.length:Nat):Int)>1000)])) (g5 (q:=Aa (by simp only[zo,zz];exact Gr (by omega) _ (by omega)) (g20 (q:=Aa (by simp only[zo,zz];exact M5 (by omega) _ hi (by omega)) (g14 (q:=Bb 0 (b:=true) (h:=g6 (q:=Bb 0 (b:=true) (h:=g18 (q:=?_)))))))))));exact fq (h:=rfl)
theorem dp_false_n_bad{d:Nat}(hd:6≤d)(S:St){l m:List UInt8}(hl:l.length≤1000)(hb:(l.take 1==[45])=false)(hm:K9 43 l=m)(zV:m.length≤1000)(hi:Lt 46 m=none)(hn:Dq m=false):Ae LP NN d 102 [.str (mkS l)] S=some (.tup [.agg [.bool false,.str ⟨#[]⟩,.int .i64 0],.int .i64 4],S,false):=by
 have zz:=aI @Ag (aI @Ai (aI @Ad (aI @m45 (aI @m43 (aI @m46 (aI @List.append_nil.{0} (aI @Bool.not_false (aI @Bool.not_true (aI hb (aI hm hn))))))))));refine rpz (hb:=?_);rintro d rfl;refine g14 (q:=Au (by simp only[opd,zv,zz]<;>(rw[decide_eq_false (by omega:¬((l.length:Nat):Int)>1000)])) (g5 (q:=Aa (by simp only[zo,zz];exact Gr (by omega) _ (by omega)) (g17 (q:=Aa (by simp only[zo,zz];exact Kj (by omega) _ (by omega)) (g6 (q:=Aa (by simp only[zo,zz];exact cut_no (by omega) _ hi) (g14 (q:=Bb 0 (b:=false) (h:=g9 (q:=Aa (by simp only[zo,Ec,zb,Int.reduceEq,Int.reduceToNat,Int.reduceLT,Hd,Fj,Ad,List.append_nil];rw[if_neg (by rw[show IntKind.i64.max=9223372036854775807 from rfl];simp only[List.length_nil,List.length_take,List.length_drop];omega)];exact rfl) (g1 (q:=Aa (by simp only[zo,zz];exact Gz (by omega) _ m (by omega)) (g15 (q:=?_)))))))))))))));exact fq (h:=rfl)
theorem dp_false_n_ok{d:Nat}(hd:6≤d)(S:St){l m:List UInt8}(hl:l.length≤1000)(hb:(l.take 1==[45])=false)(hm:K9 43 l=m)(zV:m.length≤1000)(hi:Lt 46 m=none)(hn:Dq m=true){ng:Bool}{c:List UInt8}{t:Nat}(yF:K7 false m 0=[.bool ng,.str (mkS c),.int .i64 (t:Nat)])(uj:(Bh m).length≤62):Ae LP NN d 102 [.str (mkS l)] S=some (.tup [.agg [.bool ng,.str (mkS c),.int .i64 (t:Nat)],.int .i64 0],S,false):=by
 have zz:=aI @Ag (aI @Ai (aI @Ad (aI @m45 (aI @m43 (aI @m46 (aI @List.append_nil.{0} (aI @Bool.not_false (aI @Bool.not_true (aI hb (aI hm hn))))))))));refine rpz (hb:=?_);rintro d rfl;refine g14 (q:=Au (by simp only[opd,zv,zz]<;>(rw[decide_eq_false (by omega:¬((l.length:Nat):Int)>1000)])) (g5 (q:=Aa (by simp only[zo,zz];exact Gr (by omega) _ (by omega)) (g17 (q:=Aa (by simp only[zo,zz];exact Kj (by omega) _ (by omega)) (g6 (q:=Aa (by simp only[zo,zz];exact cut_no (by omega) _ hi) (g14 (q:=Bb 0 (b:=false) (h:=g9 (q:=Aa (by simp only[zo,Ec,zb,Int.reduceEq,Int.reduceToNat,Int.reduceLT,Hd,Fj,Ad,List.append_nil];rw[if_neg (by rw[show IntKind.i64.max=9223372036854775807 from rfl];simp only[List.length_nil,List.length_take,List.length_drop];omega)];exact rfl) (g1 (q:=Aa (by simp only[zo,zz];exact Gz (by omega) _ m (by omega)) (g13 (q:=Aa (by simp only[zo,Ec,zb,Int.reduceEq,Int.reduceToNat,Int.reduceLT,Hd,Fj,Ad,List.append_nil];rw[if_neg (by rw[show IntKind.i64.max=9223372036854775807 from rfl];simp only[List.length_nil,List.length_take,List.length_drop];omega)];exact rfl) (g2 (q:=Aa (by simp only[zo,zz];exact (I7 (by omega) _ false m 0 zV uj (by omega)).trans (by rw[yF])) (g7 (q:=?_)))))))))))))))))));exact fq (h:=rfl)
theorem dp_false_s_bad{d:Nat}(hd:6≤d)(S:St){l m:List UInt8}(hl:l.length≤1000)(hb:(l.take 1==[45])=false)(hm:K9 43 l=m)(zV:m.length≤1000){i:Nat}(hi:Lt 46 m=some i)(zU:(m.drop (i+1)==[])=false)(hn:Dq (m.take i++m.drop (i+1))=false):Ae LP NN d 102 [.str (mkS l)] S=some (.tup [.agg [.bool false,.str ⟨#[]⟩,.int .i64 0],.int .i64 4],S,false):=by
 have zz:=aI @Ag (aI @Ai (aI @Ad (aI @m45 (aI @m43 (aI @m46 (aI @List.append_nil.{0} (aI @Bool.not_false (aI @Bool.not_true (aI hb (aI hm (aI hn zU)))))))))));refine rpz (hb:=?_);rintro d rfl;refine g14 (q:=Au (by simp only[opd,zv,zz]<;>(rw[decide_eq_false (by omega:¬((l.length:Nat):Int)>1000)])) (g5 (q:=Aa (by simp only[zo,zz];exact Gr (by omega) _ (by omega)) (g17 (q:=Aa (by simp only[zo,zz];exact Kj (by omega) _ (by omega)) (g6 (q:=Aa (by simp only[zo,zz];exact M5 (by omega) _ hi (by omega)) (g14 (q:=Bb 0 (b:=true) (h:=g6 (q:=Bb 0 (b:=false) (h:=g5 (q:=Aa (by simp only[zo,Ec,zb,Int.reduceEq,Int.reduceToNat,Int.reduceLT,Hd,Fj,Ad,List.append_nil];rw[if_neg (by rw[show IntKind.i64.max=9223372036854775807 from rfl];simp only[List.length_nil,List.length_take,List.length_drop];omega)];exact rfl) (g1 (q:=Aa (by simp only[zo,zz];exact Gz (by omega) _ (m.take i++m.drop (i+1)) (by simp only[Ll_,List.length_take,List.length_drop];omega)) (g15 (q:=?_)))))))))))))))));exact fq (h:=rfl)
theorem dp_false_s_ok{d:Nat}(hd:6≤d)(S:St){l m:List UInt8}(hl:l.length≤1000)(hb:(l.take 1==[45])=false)(hm:K9 43 l=m)(zV:m.length≤1000){i:Nat}(hi:Lt 46 m=some i)(zU:(m.drop (i+1)==[])=false)(hn:Dq (m.take i++m.drop (i+1))=true){ng:Bool}{c:List UInt8}{t:Nat}(yF:K7 false (m.take i++m.drop (i+1)) (m.drop (i+1)).length=[.bool ng,.str (mkS c),.int .i64 (t:Nat)])(uj:(Bh (m.take i++m.drop (i+1))).length≤62)(hs62:(m.drop (i+1)).length≤62):Ae LP NN d 102 [.str (mkS l)] S=some (.tup [.agg [.bool ng,.str (mkS c),.int .i64 (t:Nat)],.int .i64 0],S,false):=by
 have zz:=aI @Ag (aI @Ai (aI @Ad (aI @m45 (aI @m43 (aI @m46 (aI @List.append_nil.{0} (aI @Bool.not_false (aI @Bool.not_true (aI hb (aI hm (aI hn zU)))))))))));refine rpz (hb:=?_);rintro d rfl;refine g14 (q:=Au (by simp only[opd,zv,zz]<;>(rw[decide_eq_false (by omega:¬((l.length:Nat):Int)>1000)])) (g5 (q:=Aa (by simp only[zo,zz];exact Gr (by omega) _ (by omega)) (g17 (q:=Aa (by simp only[zo,zz];exact Kj (by omega) _ (by omega)) (g6 (q:=Aa (by simp only[zo,zz];exact M5 (by omega) _ hi (by omega)) (g14 (q:=Bb 0 (b:=true) (h:=g6 (q:=Bb 0 (b:=false) (h:=g5 (q:=Aa (by simp only[zo,Ec,zb,Int.reduceEq,Int.reduceToNat,Int.reduceLT,Hd,Fj,Ad,List.append_nil];rw[if_neg (by rw[show IntKind.i64.max=9223372036854775807 from rfl];simp only[List.length_nil,List.length_take,List.length_drop];omega)];exact rfl) (g1 (q:=Aa (by simp only[zo,zz];exact Gz (by omega) _ (m.take i++m.drop (i+1)) (by simp only[Ll_,List.length_take,List.length_drop];omega)) (g13 (q:=Aa (by simp only[zo,Ec,zb,Int.reduceEq,Int.reduceToNat,Int.reduceLT,Hd,Fj,Ad,List.append_nil];rw[if_neg (by rw[show IntKind.i64.max=9223372036854775807 from rfl];simp only[List.length_nil,List.length_take,List.length_drop];omega)];exact rfl) (g2 (q:=Aa (by simp only[zo,zz];exact (I7 (by omega) _ false (m.take i++m.drop (i+1)) (m.drop (i+1)).length (by simp only[Ll_,List.length_take,List.length_drop];omega) uj hs62).trans (by rw[yF])) (g7 (q:=?_)))))))))))))))))))));exact fq (h:=rfl)
theorem dp_false_s_dot{d:Nat}(hd:6≤d)(S:St){l m:List UInt8}(hl:l.length≤1000)(hb:(l.take 1==[45])=false)(hm:K9 43 l=m)(zV:m.length≤1000){i:Nat}(hi:Lt 46 m=some i)(zU:(m.drop (i+1)==[])=true):Ae LP NN d 102 [.str (mkS l)] S=some (.tup [.agg [.bool false,.str ⟨#[]⟩,.int .i64 0],.int .i64 4],S,false):=by
 have zz:=aI @Ag (aI @Ai (aI @Ad (aI @m45 (aI @m43 (aI @m46 (aI @List.append_nil.{0} (aI @Bool.not_false (aI @Bool.not_true (aI hb (aI hm zU))))))))));refine rpz (hb:=?_);rintro d rfl;refine g14 (q:=Au (by simp only[opd,zv,zz]<;>(rw[decide_eq_false (by omega:¬((l.length:Nat):Int)>1000)])) (g5 (q:=Aa (by simp only[zo,zz];exact Gr (by omega) _ (by omega)) (g17 (q:=Aa (by simp only[zo,zz];exact Kj (by omega) _ (by omega)) (g6 (q:=Aa (by simp only[zo,zz];exact M5 (by omega) _ hi (by omega)) (g14 (q:=Bb 0 (b:=true) (h:=g6 (q:=Bb 0 (b:=true) (h:=g18 (q:=?_)))))))))))));exact fq (h:=rfl)
theorem Kl(l:List UInt8):(Bh l).length≤l.length:=(List.dropWhile_sublist (·==(48:UInt8))).length_le
theorem dparse_gen(l:List UInt8)(hl:l.length≤60):∃r:D,(∀d,6≤d→∀S,Ae LP NN d 102 [.str (mkS l)] S=some (r,S,false)) ∧
  (r=.tup [.agg [.bool false,.str ⟨#[]⟩,.int .i64 0],.int .i64 4]∨∃ng c t,r=.tup [.agg [.bool ng,.str (mkS c),.int .i64 (t:Nat)],.int .i64 0]∧t≤60∧NrmS ng c t):=by
 cases hb:l.take 1==[45] with
 | true =>
  generalize hm:K9 45 l=m;have zV:m.length≤60:=by rw[←hm];exact Nat.le_trans (cutM_le _ l) hl
  cases hi:Lt 46 m with
  | none =>
   cases hn:Dq m with
   | false=>exact⟨_,fun d hd S=>dp_true_n_bad hd S (by omega) hb hm (by omega) hi hn,.inl rfl⟩
   | true =>
    have uj:(Bh m).length≤62:=by have:=Kl m;omega
    obtain⟨ng,c,t,yF,ht,hN⟩:=NrmS.of true m 0 hn uj (by omega);exact⟨_,fun d hd S=>dp_true_n_ok hd S (by omega) hb hm (by omega) hi hn yF uj,.inr ⟨ng,c,t,rfl,by omega,hN⟩⟩
  | some i =>
   have zh:=idxB_lt hi;have hdl:(m.drop (i+1)).length≤60:=by rw[List.length_drop];omega
   cases zU:m.drop (i+1)==[] with
   | true=>exact⟨_,fun d hd S=>dp_true_s_dot hd S (by omega) hb hm (by omega) hi zU,.inl rfl⟩
   | false =>
    cases hn:Dq (m.take i++m.drop (i+1)) with
    | false=>exact⟨_,fun d hd S=>dp_true_s_bad hd S (by omega) hb hm (by omega) hi zU hn,.inl rfl⟩
    | true =>
     have uj:(Bh (m.take i++m.drop (i+1))).length≤62:=by
      have:=Kl (m.take i++m.drop (i+1));simp only[Ll_,List.length_take,List.length_drop]at this;omega
     obtain⟨ng,c,t,yF,ht,hN⟩:=NrmS.of true _ (m.drop (i+1)).length hn uj (by omega);exact⟨_,fun d hd S=>dp_true_s_ok hd S (by omega) hb hm (by omega) hi zU hn yF uj (by omega),.inr ⟨ng,c,t,rfl,by omega,hN⟩⟩
 | false =>
  generalize hm:K9 43 l=m;have zV:m.length≤60:=by rw[←hm];exact Nat.le_trans (cutM_le _ l) hl
  cases hi:Lt 46 m with
  | none =>
   cases hn:Dq m with
   | false=>exact⟨_,fun d hd S=>dp_false_n_bad hd S (by omega) hb hm (by omega) hi hn,.inl rfl⟩
   | true =>
    have uj:(Bh m).length≤62:=by have:=Kl m;omega
    obtain⟨ng,c,t,yF,ht,hN⟩:=NrmS.of false m 0 hn uj (by omega);exact⟨_,fun d hd S=>dp_false_n_ok hd S (by omega) hb hm (by omega) hi hn yF uj,.inr ⟨ng,c,t,rfl,by omega,hN⟩⟩
  | some i =>
   have zh:=idxB_lt hi;have hdl:(m.drop (i+1)).length≤60:=by rw[List.length_drop];omega
   cases zU:m.drop (i+1)==[] with
   | true=>exact⟨_,fun d hd S=>dp_false_s_dot hd S (by omega) hb hm (by omega) hi zU,.inl rfl⟩
   | false =>
    cases hn:Dq (m.take i++m.drop (i+1)) with
    | false=>exact⟨_,fun d hd S=>dp_false_s_bad hd S (by omega) hb hm (by omega) hi zU hn,.inl rfl⟩
    | true =>
     have uj:(Bh (m.take i++m.drop (i+1))).length≤62:=by
      have:=Kl (m.take i++m.drop (i+1));simp only[Ll_,List.length_take,List.length_drop]at this;omega
     obtain⟨ng,c,t,yF,ht,hN⟩:=NrmS.of false _ (m.drop (i+1)).length hn uj (by omega);exact⟨_,fun d hd S=>dp_false_s_ok hd S (by omega) hb hm (by omega) hi zU hn yF uj (by omega),.inr ⟨ng,c,t,rfl,by omega,hN⟩⟩
theorem Lv{d:Nat}(hd:6≤d)(S:St)(neg:Bool)(l:List UInt8)(t:Nat)(h:NrmS neg l t):Ae LP NN d 169 [.agg [.bool neg,.str (mkS l),.int .i64 (t:Nat)]] S=some (.int .i64 0,S,false):=by
 have ht0:decide (((t:Nat):Int)<0)=false:=decide_eq_false (by omega);have ht62:decide (((t:Nat):Int)>62)=false:=decide_eq_false (by have:=h.sc;omega);have zz:=aI @Ag (aI @Ai (aI @Ad (aI h.num (aI @Bool.not_true (aI (big62 h.len) (aI ht0 ht62))))));refine rpz (hb:=?_);rintro d rfl;refine g11 (q:=Aa (by simp only[zo,zz];exact Gz (by omega) _ l (by have:=h.len;omega)) (g2 (q:=Bb 0 (b:=false) (h:=g10 (q:=Bb 0 (b:=false) (h:=g8 (q:=Bb 0 (b:=false) (h:=g21 (q:=Aa (by simp only[zo,zz];exact (I7 (by omega) _ neg l t (by have:=h.len;omega) (Nat.le_trans (Kl l) h.len) h.sc).trans (by rw[h.fix])) (g13 (q:=Bb 0 (b:=false) (h:=g18 (q:=?_)))))))))))));exact fq (h:=rfl)
theorem dcutS_run{d:Nat}(hd:7≤d)(S:St){neg:Bool}{l:List UInt8}{t q:Nat}(h:NrmS neg l t)(ht:0<t)(hq:q=min l.length t)(uj:(Bh (l.take (l.length-q)++List.replicate q 48)).length≤62){ng:Bool}{c:List UInt8}{t':Nat}(yF:K7 neg (l.take (l.length-q)++List.replicate q 48) t=[.bool ng,.str (mkS c),.int .i64 (t':Nat)]):Ae LP NN d 171 [.agg [.bool neg,.str (mkS l),.int .i64 (t:Nat)],.int .i64 0] S=some (.tup [.agg [.bool ng,.str (mkS c),.int .i64 (t':Nat)],.bool (Dk 48 (D8 48 (l.drop (l.length-q)))==[]),.int .i64 0],S,false):=by
 have xg:=h.len;have hsc:=h.sc;have yK:decide ((0:Int)≥((t:Nat):Int))=false:=decide_eq_false (by omega);have kF:IntKind.i64.wrap (((t:Nat):Int)-0)=((t:Nat):Int):=by rw[IntKind.wrap_i64];omega
 have xM:(if ((t:Nat):Int)<((l.length:Nat):Int) then ((t:Nat):Int) else ((l.length:Nat):Int))=((q:Nat):Int):=by split<;>omega
 have hw:IntKind.i64.wrap (((l.length:Nat):Int)-((q:Nat):Int))=((l.length-q:Nat):Int):=by rw[IntKind.wrap_i64];omega
 have zz:=aI @Ag (aI @Ai (aI @Ad (aI yK (aI kF (aI xM hw)))));refine rpz (hb:=?_);rintro d rfl;refine g12 (q:=Aa (by simp only[zo,zz];exact Lv (by omega) _ neg l t h) (g59 (q:=Aa (by simp only[opd,zv,Al,aop,LOp.loud,Bool.false_eq_true,if_false,Ad,hw];rw[Du _ l (l.length-q) _ rfl (by omega)];exact rfl) (g14 (q:=Co (by simp only[opd,zv,Al,aop,LOp.loud,Bool.false_eq_true,if_false,Ad,hw];rw[Ox _ l (l.length-q) _ rfl (by omega)];exact rfl) rfl rfl (g1 (q:=Ao (by simp only[zo,zz];exact repz_run (by omega) _ q (by omega)) (by simp only[Ac,zo,zq]<;>exact rfl) rfl (Co (by simp only[zo,Ec,zb,Int.reduceEq,Int.reduceToNat,Int.reduceLT,Hd,Fj,Ad];rw[if_neg (by rw[show IntKind.i64.max=9223372036854775807 from rfl];simp only[List.length_replicate,List.length_take];omega)];exact rfl) rfl rfl (g2 (q:=Ao (by simp only[zo,zz];exact (I7 (by omega) _ neg (l.take (l.length-q)++List.replicate q 48) t (by simp only[Ll_,List.length_take,List.length_replicate];omega) uj h.sc).trans (by rw[yF])) (by simp only[Ac,zo,zq]<;>exact rfl) rfl (g3 (q:=Ao (by simp only[zo]<;>exact rfl) rfl rfl (g8 (q:=Ao (by simp only[zo,zz];exact T9 (by omega) _ (by rw[List.length_drop];omega)) (by simp only[Ac,zo,zq]<;>exact rfl) rfl (g8 (q:=fq (h:=?_)))))))))))))))));simp only[Df,leave,Ah,Bl,zs,zf,zk]
def S9 (l:List UInt8) (t:Nat):Int:=if l.length<t then -1 else match l.drop (l.length-t) with
 | []=>0
 | a::r=>if a.toNat<53 then -1 else if 53<a.toNat||!(Dk 48 (D8 48 r)==[]) then 1 else 0
theorem half_run{d:Nat}(hd:3≤d)(S:St){neg:Bool}{l:List UInt8}{t:Nat}(hl:l.length≤62)(yh:t≤l.length){a:UInt8}{r:List UInt8}(har:l.drop (l.length-t)=a::r):Ae LP NN d 288 [.agg [.bool neg,.str (mkS l),.int .i64 (t:Nat)],.int .i64 0] S=some (.int .i64 (S9 l t),S,false):=by
 have kF:IntKind.i64.wrap (((t:Nat):Int)-0)=((t:Nat):Int):=by rw[IntKind.wrap_i64];omega
 have wX:decide (((t:Nat):Int)>((l.length:Nat):Int))=false:=decide_eq_false (by omega);have hw:IntKind.i64.wrap (((l.length:Nat):Int)-((t:Nat):Int))=((l.length-t:Nat):Int):=by rw[IntKind.wrap_i64];omega
 have yI:r.length≤1000000:=by have:=congrArg List.length har;rw[List.length_drop,List.length_cons]at this;omega
 have zz:=aI @Ag (aI @Ai (aI @Ad (aI kF (aI wX (aI hw (aI @Gt @List.getElem?_cons_zero.{0}))))));refine rpz (hb:=?_);rintro d rfl;refine g37 (q:=Aa (by simp only[opd,zv,Al,aop,LOp.loud,Bool.false_eq_true,if_false,Ad];rw[Du _ l (l.length-t) _ rfl (by omega),har];exact rfl) (g13 (q:=Bz (ht:=fun hc=>?_) (hf:=fun hc=>?_))))
 ·
  refine g8 (q:=fq (h:=?_))
  have hv:S9 l t=-1:=by
   rw[S9,if_neg (by omega),har];show (if a.toNat<53 then (-1:Int) else if (decide (53<a.toNat)||!(Dk 48 (D8 48 r)==[]))=true then 1 else 0)=_;rw[if_pos (by have:=of_decide_eq_true hc;omega)]
  rw[hv];rfl
 refine g6 (q:=Fy 0 (h:=fun hgF=>?_) (k:=fun hgF=>?_))
 ·
  refine g17 (q:=fq (h:=?_))
  have hv:S9 l t=1:=by
   rw[S9,if_neg (by omega),har];show (if a.toNat<53 then (-1:Int) else if (decide (53<a.toNat)||!(Dk 48 (D8 48 r)==[]))=true then 1 else 0)=_;rw[if_neg (by have:=of_decide_eq_false hc;omega),if_pos (by rw[decide_eq_true (by have:=of_decide_eq_true hgF;omega)];rfl)]
  rw[hv];rfl
 refine g3 (q:=Aa (by simp only[opd,zv,Al,aop,LOp.loud,Bool.false_eq_true,if_false,Ad];rw[Du _ (a::r) 1 1 rfl (by simp)];exact rfl) (g1 (q:=Aa (by simp only[zo,zz];exact T9 (by omega) _ yI) (g6 (q:=Bz (ht:=fun hcFF=>?_) (hf:=fun hcFF=>?_))))))
 ·
  refine g8 (q:=fq (h:=?_))
  have hv:S9 l t=1:=by
   rw[S9,if_neg (by omega),har];show (if a.toNat<53 then (-1:Int) else if (decide (53<a.toNat)||!(Dk 48 (D8 48 r)==[]))=true then 1 else 0)=_;rw[if_neg (by have:=of_decide_eq_false hc;omega),if_pos (by have h:(!Dk 48 (D8 48 r)==[])=true:=hcFF;rw[h,Bool.or_true])]
  rw[hv];rfl
 refine g9 (q:=fq (h:=?_))
 have hv:S9 l t=0:=by
  rw[S9,if_neg (by omega),har];show (if a.toNat<53 then (-1:Int) else if (decide (53<a.toNat)||!(Dk 48 (D8 48 r)==[]))=true then 1 else 0)=_;rw[if_neg (by have:=of_decide_eq_false hc;omega),if_neg (by have h:(!Dk 48 (D8 48 r)==[])=false:=hcFF;rw[h,decide_eq_false (by have:=of_decide_eq_false hgF;omega)];decide)]
 rw[hv];rfl
theorem half_big{d:Nat}(hd:3≤d)(S:St){neg:Bool}{l:List UInt8}{t:Nat}(hl:l.length≤62)(ht:t≤62)(yh:l.length<t):Ae LP NN d 288 [.agg [.bool neg,.str (mkS l),.int .i64 (t:Nat)],.int .i64 0] S=some (.int .i64 (-1),S,false):=by
 have kF:IntKind.i64.wrap (((t:Nat):Int)-0)=((t:Nat):Int):=by rw[IntKind.wrap_i64];omega
 have wX:decide (((t:Nat):Int)>((l.length:Nat):Int))=true:=decide_eq_true (by omega);have zz:=aI @Ag (aI @Ai (aI @Ad (aI kF wX)));refine rpz (hb:=?_);rintro d rfl;refine g33 (q:=?_);exact fq (h:=rfl)
theorem half_all{neg:Bool}{l:List UInt8}{t:Nat}(hl:l.length≤62)(ht:t≤62)(h0:0<t):∃z:Int,∀d,3≤d→∀S,Ae LP NN d 288 [.agg [.bool neg,.str (mkS l),.int .i64 (t:Nat)],.int .i64 0] S=some (.int .i64 z,S,false):=by
 by_cases yh:t≤l.length
 ·
  cases har:l.drop (l.length-t) with
  | nil =>
   have:=congrArg List.length har;rw[List.length_drop,List.length_nil]at this;omega
  | cons a r=>exact⟨_,fun d hd S=>half_run hd S hl yh har⟩
 exact⟨_,fun d hd S=>half_big hd S hl ht (by omega)⟩
theorem away_run{d:Nat}(hd:5≤d)(S:St){neg:Bool}{l:List UInt8}{t:Nat}(hl:l.length≤62)(ht:t≤62)(h0:0<t){nb:Bool}{nd:ByteArray}{ns:Int}:Ae LP NN d 238 [.agg [.bool neg,.str (mkS l),.int .i64 (t:Nat)],.agg [.bool nb,.str nd,.int .i64 ns],.int .i64 0,.int .u8 0] S=some (.bool false,S,false):=by
 obtain⟨z,hz⟩:=half_all (neg:=neg) hl ht h0;have zz:=aI @Ag (aI @Ai @Ad);refine rpz (hb:=?_);rintro d rfl;refine g11 (q:=Aa (by simp only[zo,zz];exact hz _ (by omega) _) (g60 (q:=g43 (q:=?_))));exact fq (h:=rfl)
theorem rchkS_run{d:Nat}(hd:7≤d)(S:St){neg:Bool}{l:List UInt8}{t:Nat}(h:NrmS neg l t):Ae LP NN d 237 [.agg [.bool neg,.str (mkS l),.int .i64 (t:Nat)],.int .i64 1,.int .i64 0] S=some (.int .i64 0,S,false):=by
 have zz:=aI @Ag (aI @Ai @Ad);refine rpz (hb:=?_);rintro d rfl;refine g10 (q:=Aa (by simp only[zo,zz];exact Lv (by omega) _ neg l t h) (g2 (q:=Bb 0 (b:=false) (h:=g6 (q:=Bb 0 (b:=false) (h:=g6 (q:=Bb 0 (b:=false) (h:=g6 (q:=Bb 0 (b:=false) (h:=g16 (q:=?_)))))))))));exact fq (h:=rfl)
theorem roundS_run{d:Nat}(hd:8≤d)(S:St){neg:Bool}{l:List UInt8}{t q:Nat}(h:NrmS neg l t)(ht:0<t)(hq:q=min l.length t)(uj:(Bh (l.take (l.length-q)++List.replicate q 48)).length≤62){ng:Bool}{c:List UInt8}{t':Nat}(yF:K7 neg (l.take (l.length-q)++List.replicate q 48) t=[.bool ng,.str (mkS c),.int .i64 (t':Nat)]):Ae LP NN d 170 [.agg [.bool neg,.str (mkS l),.int .i64 (t:Nat)],.int .i64 0,.int .u8 0] S=some (.tup [.agg [.bool ng,.str (mkS c),.int .i64 (t':Nat)],.int .i64 0],S,false):=by
 have zz:=aI @Ag (aI @Ai @Ad);refine rpz (hb:=?_);rintro d rfl;refine g12 (q:=Aa (by simp only[zo,zz];exact rchkS_run (by omega) _ h) (g2 (q:=Bb 0 (b:=false) (h:=g14 (q:=Aa (by simp only[zo,zz];exact dcutS_run (by omega) _ h ht hq uj yF) (g17 (q:=Bb 0 (b:=false) (h:=g6 (q:=Bz (ht:=fun hc=>?_) (hf:=fun hc=>?_))))))))))
 ·
  refine g11 (q:=fq (h:=?_));simp only[Df,leave,Ah,Bl,zs,zf,zk]
 refine g14 (q:=Aa (by simp only[zo,zz];exact away_run (by omega) _ h.len h.sc ht) (g15 (q:=fq (h:=?_))));simp only[Df,leave,Ah,Bl,zs,zf,zk]
theorem sufB_snoc(b:UInt8)(l:List UInt8):Q9 b (l++[b])=true:=by
 unfold Q9;rw[Ll_,List.length_singleton,Nat.add_sub_cancel,List.drop_left];exact beq_self_eq_true _
theorem zt_zeros:∀(t:Nat) (x:List UInt8),zt t (x++List.replicate t 48)=(x,0)
 | 0,x=>by simp[zt]
 | t + 1, x => by
  have e:∀y:List UInt8,(y++[(48:UInt8)]).take ((y++[(48:UInt8)]).length-1)=y:=fun y=>by
   rw[Ll_,List.length_singleton,Nat.add_sub_cancel,List.take_left]
  rw[List.replicate_succ',←Lo_,zt_yes (sufB_snoc _ _),e];exact zt_zeros t x
theorem mkS_inj{a b:List UInt8}(h:mkS a=mkS b):a=b:=by
 have:=congrArg (fun s:ByteArray=>s.data.toList) h;simpa [mkS] using this
theorem NrmS.head{neg:Bool}{l:List UInt8}{t:Nat}(h:NrmS neg l t)(ht:0<t):Bh l=l:=by
 have hf:=h.fix;unfold K7 at hf;by_cases h0:Bh l=[]
 ·
  rw[if_pos h0]at hf;simp only[List.cons.injEq,D.int.injEq,true_and,and_true]at hf;omega
 rw[if_neg h0]at hf;simp only[List.cons.injEq,D.str.injEq,D.int.injEq,true_and,and_true]at hf;have h1:=mkS_inj hf.1;have yh:=(zt_le t (Bh l)).1;rw[h1]at yh;obtain⟨k,hk⟩:=Gm l;have xg:=congrArg List.length hk;rw[Ll_,List.length_replicate]at xg;have vO:k=0:=by omega
 rw[vO]at hk;simpa using hk.symm
theorem Nf:∀n,Bh (List.replicate n 48)=[]
 | 0=>rfl
 | n+1=>by
  show (List.replicate (n+1) (48:UInt8)).dropWhile (·==48)=[];rw[List.replicate_succ,List.dropWhile_cons,if_pos (by decide)];exact Nf n
theorem cut_nrm{neg:Bool}{l:List UInt8}{t q:Nat}(h:NrmS neg l t)(ht:0<t)(hq:q=min l.length t) :
  ∃ng c,K7 neg (l.take (l.length-q)++List.replicate q 48) t=[.bool ng,.str (mkS c),.int .i64 ((0:Nat):Int)]∧Nrm ng c∧(Bh (l.take (l.length-q)++List.replicate q 48)).length≤62:=by
 have xg:=h.len;have hh:=h.head ht;by_cases yh:l.length≤t
 ·
  have e:l.take (l.length-q)++List.replicate q (48:UInt8)=List.replicate q 48:=by
   rw[show l.length-q=0 by omega,List.take_zero,List.nil_append]
  rw[e];refine⟨false,[48],?_,⟨rfl,by decide,by decide,rfl⟩,by rw[Nf];decide⟩;rw[K7,if_pos (Nf q)];rfl
 have hqt:q=t:=by omega
 subst hqt;obtain⟨k,hk⟩:∃k,l.length-q=k+1:=⟨l.length-q-1,by omega⟩
 match l,hh,hk,h,xg with
 | [],_,hk,_,_=>simp at hk
 | a :: l', hh, hk, h, xg =>
  have ha:=Uc hh;have e:(a::l').take ((a::l').length-q)=a::l'.take k:=by rw[hk,List.take_succ_cons]
  have hs0:Bh (a::l'.take k)=a::l'.take k:=Ow ha;have hsw:Bh (a::l'.take k++List.replicate q 48)=a::l'.take k++List.replicate q 48:=Ow ha;rw[e];have zy:(l'.take k).length≤l'.length:=by rw[List.length_take];omega
  refine⟨neg,a::l'.take k,?_,⟨?_,?_,?_,?_⟩,?_⟩
  ·
   rw[K7,if_neg (by rw[hsw];simp),hsw,zt_zeros]
  ·
   have h1:=h.num;simp only[Dq,Bool.and_eq_true,Bool.not_eq_true',beq_eq_false_iff_ne,ne_eq,List.all_cons]at h1 ⊢;exact⟨by simp,h1.2.1,List.all_eq_true.2 fun x hx=>List.all_eq_true.1 h1.2.2 x (List.mem_of_mem_take hx)⟩
  ·
   simp only[List.length_cons]at xg ⊢;omega
  ·
   rw[strip,if_neg (by rw[hs0];simp),hs0]
  ·
   rw[nz,hs0];simp
  rw[hsw,Ll_,List.length_replicate];simp only[List.length_cons]at xg hk ⊢;rw[List.length_take];omega
theorem storeS_run{d:Nat}(hd:24≤d)(S:St){n:Nat}(h2:2≤n)(h6:n≤6){neg:Bool}{l:List UInt8}{t q:Nat}(h0:NrmS neg l t)(ht:0<t)(hq:q=min l.length t)(uj:(Bh (l.take (l.length-q)++List.replicate q 48)).length≤62){ng:Bool}{c:List UInt8}(yF:K7 neg (l.take (l.length-q)++List.replicate q 48) t=[.bool ng,.str (mkS c),.int .i64 ((0:Nat):Int)])(h:Nrm ng c):Ae LP NN d 104 [.agg [.bool neg,.str (mkS l),.int .i64 (t:Nat)],.agg (shpE n),.int .u8 0] S=some (.tup [.sl 1 (bR (edS (pad n (strip (Ei n c))))) (some n),.bool (!decide (c.length≤n)),.int .i64 0],S,false):=by
 have hE:=fun S:St=>P6 (d:=d-1) (by omega) S h2 h6 (Mt h (n:=n) (by omega) (by omega)).1;rw[lastN_id h (by omega) (by omega)]at hE;have zz:=aI @shpE.eq_1 @Bool.false_and;refine rpz (hb:=?_);rintro d rfl;refine g14 (q:=Aa (by simp only[zo,zz];exact Lv (by omega) _ _ l t h0) (g2 (q:=Bb 0 (b:=false) (h:=g3 (q:=Aa (by simp only[zo,zz];exact Ky (by omega) _ h2 h6) (g4 (q:=Bb 0 (b:=false) (h:=g15 (q:=Bb 0 (b:=true) (h:=g20 (q:=Aa (by simp only[zo,zz];exact roundS_run (by omega) _ h0 ht hq uj yF) (g31 (q:=Aa (by simp only[zo,zz];exact Uf (by omega) _ h n (by omega) (by omega)) (g14 (q:=Aa (by simp only[zo,zz];exact Wz (by omega) _ h n (by omega) (by omega)) (g31 (q:=Aa (by simp only[zo,zz];exact hE _) (g12 (q:=Bb 0 (b:=false) (h:=g12 (q:=?_)))))))))))))))))))));exact fq (h:=rfl)
theorem NrmS.nrm{neg:Bool}{l:List UInt8}(h:NrmS neg l 0):Nrm neg l:=by
 have hf:=h.fix;unfold K7 at hf;by_cases h0:Bh l=[]
 ·
  rw[if_pos h0]at hf;simp only[List.cons.injEq,D.str.injEq,D.bool.injEq,and_true]at hf;have h1:[(48:UInt8)]=l:=mkS_inj hf.2.1;have h2:=hf.1;subst h1 h2;exact⟨rfl,by decide,by decide,rfl⟩
 rw[if_neg h0]at hf;simp only[List.cons.injEq,D.str.injEq,and_true,true_and,zt]at hf;have h1:=mkS_inj hf;exact⟨h.num,h.len,by rw[strip,if_neg h0,h1],by rw[nz,h1];have:l≠[]:=fun e=>h0 (by rw[e];rfl);simp[this]⟩
theorem store_any{neg:Bool}{l:List UInt8}{t:Nat}(h:NrmS neg l t){n:Nat}(h2:2≤n)(h6:n≤6):∃ng c,Nrm ng c∧∀d,24≤d→∀S,Ae LP NN d 104 [.agg [.bool neg,.str (mkS l),.int .i64 (t:Nat)],.agg (shpE n),.int .u8 0] S=some (.tup [.sl 1 (bR (edS (pad n (strip (Ei n c))))) (some n),.bool (!decide (c.length≤n)),.int .i64 0],S,false):=by
 by_cases ht:0<t
 ·
  obtain⟨ng,c,yF,hc,uj⟩:=cut_nrm h ht rfl;exact⟨ng,c,hc,fun d hd S=>storeS_run hd S h2 h6 h ht rfl uj yF hc⟩
 obtain rfl:t=0:=by omega
 exact⟨neg,l,h.nrm,fun d hd S=>storeE_run hd S h2 h6 h.nrm⟩
theorem typedG_bad{d:Nat}(hd:26≤d)(S:St){n:Nat}(h2:2≤n)(h6:n≤6){a b c:Nat}{op:List (List D)}{l:List UInt8}(hl:l.length≤1000)(hpar:∀d,6≤d→∀S,Ae LP NN d 102 [.str (mkS (trimB l))] S=some (.tup [.agg [.bool false,.str ⟨#[]⟩,.int .i64 0],.int .i64 4],S,false)):Ae LP NN d 45 [.agg [.int .i64 (a:Nat),.int .i64 (b:Nat),.int .u8 (c:Nat),.X4,.int .u8 5,.int .u8 0,.str (Dp true n),.int .i64 (n:Nat),.int .i64 0,.bool false,.bool false,.bool false,.bool false,.bool false,.int .i64 (n:Nat),.sl 5 op (some 1)],.str (mkS l)] S=some (.tup [.X4,.bool false],S,false):=by
 have zz:=aI @Ag (aI @Ai @Ad);refine rpz (hb:=?_);rintro d rfl;refine g15 (q:=Bb 0 (b:=false) (h:=g15 (q:=Aa (by simp only[zo,zz];exact trimB_run (by omega) _ (by omega)) (Aa (by simp only[zo,zz];exact hpar _ (by omega) _) (g25 (q:=?_))))));exact fq (h:=rfl)
theorem typedG_ok{d:Nat}(hd:26≤d)(S:St){n:Nat}(h2:2≤n)(h6:n≤6){a b c:Nat}{op:List (List D)}{l:List UInt8}(hl:l.length≤1000){neg:Bool}{e e':List UInt8}{t:Nat}(hpar:∀d,6≤d→∀S,Ae LP NN d 102 [.str (mkS (trimB l))] S=some (.tup [.agg [.bool neg,.str (mkS e),.int .i64 (t:Nat)],.int .i64 0],S,false))(xH:∀d,24≤d→∀S,Ae LP NN d 104 [.agg [.bool neg,.str (mkS e),.int .i64 (t:Nat)],.agg (shpE n),.int .u8 0] S=some (.tup [.sl 1 (bR (edS (pad n (strip (Ei n e'))))) (some n),.bool (!decide (e'.length≤n)),.int .i64 0],S,false)):Ae LP NN d 45 [.agg [.int .i64 (a:Nat),.int .i64 (b:Nat),.int .u8 (c:Nat),.X4,.int .u8 5,.int .u8 0,.str (Dp true n),.int .i64 (n:Nat),.int .i64 0,.bool false,.bool false,.bool false,.bool false,.bool false,.int .i64 (n:Nat),.sl 5 op (some 1)],.str (mkS l)] S=some (.tup [.sl 1 (bR (edS (pad n (strip (Ei n e'))))) (some n),.bool (decide (e'.length≤n))],S,false):=by
 have zz:=aI @Ag (aI @Ai (aI @Ad @Bool.not_not));refine rpz (hb:=?_);rintro d rfl;refine g15 (q:=Bb 0 (b:=false) (h:=g15 (q:=Aa (by simp only[zo,zz];exact trimB_run (by omega) _ (by omega)) (Aa (by simp only[zo,zz];exact hpar _ (by omega) _) (g23 (q:=Aa (by simp only[zo,zz];exact xH _ (by omega) _) (g15 (q:=Bb 0 (b:=true) (h:=g11 (q:=?_))))))))));exact fq (h:=rfl)
theorem typed_any{n:Nat}(h2:2≤n)(h6:n≤6)(l:List UInt8)(hl:l.length≤60):∃(x:D) (ok:Bool),(∀(a b c:Nat) (op:List (List D)) d,26≤d→∀S,Ae LP NN d 45 [.agg [.int .i64 (a:Nat),.int .i64 (b:Nat),.int .u8 (c:Nat),.X4,.int .u8 5,.int .u8 0,.str (Dp true n),.int .i64 (n:Nat),.int .i64 0,.bool false,.bool false,.bool false,.bool false,.bool false,.int .i64 (n:Nat),.sl 5 op (some 1)],.str (mkS l)] S=some (.tup [x,.bool ok],S,false))∧(∃ys,SlD 1 ys x)∧(ok=true→∃ng e,Nrm ng e∧e.length≤n∧x=.sl 1 (bR (edS (pad n (strip (Ei n e))))) (some n)):=by
 have zQ:=trimB_le l;obtain⟨r,hr,hc⟩:=dparse_gen (trimB l) (by omega);rcases hc with rfl | ⟨ng,e,t,rfl,ht,hN⟩
 ·
  exact⟨.X4,false,fun a b c op d hd S=>typedG_bad hd S h2 h6 (by omega) hr,⟨[],.inl ⟨rfl,rfl⟩⟩,fun h=>by cases h⟩
 obtain⟨ng',e',hN',hs⟩:=store_any hN h2 h6;exact⟨_,_,fun a b c op d hd S=>typedG_ok hd S h2 h6 (by omega) hr hs,⟨_,.of 1 _ _⟩,fun h=>⟨ng',e',hN',of_decide_eq_true h,rfl⟩⟩
end Go.Proofs.YtlhdliikahebhaaGreatDoor
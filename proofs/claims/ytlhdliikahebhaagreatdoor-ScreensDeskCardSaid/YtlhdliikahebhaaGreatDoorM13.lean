/- Proved here: what functions compute in an abstract machine; no condition. -/
import Derived.Test.YtlhdliikahebhaaGreatDoorTF
import Derived.Test.YtlhdliikahebhaaGreatDoorJB
import Derived.WalkKit
import Derived.ProofKit
import Derived.OpenShut
import Derived.ShutString
import Derived.ChangeOld
import Derived.Below
import Derived.LaidMore
import Derived.Lay
import Derived.SevenTiedAt
import Derived.Stop.Joined
import Derived.Test.YtlhdliikahebhaaGreatDoorN12
namespace Go.Proofs.YtlhdliikahebhaaGreatDoor
set_option linter.unusedSimpArgs false
set_option linter.unusedVariables false
set_option maxRecDepth 100000
set_option maxHeartbeats 4000000
theorem isDig_of{c:UInt8}(h1:decide (((c.toNat:Nat):Int)<48)=false)(h2:decide (((c.toNat:Nat):Int)>57)=false):Dw c=true:=by
 rw[decide_eq_false_iff_not]at h1 h2;rw[Dw,Bool.and_eq_true,decide_eq_true_eq,decide_eq_true_eq];omega
theorem isDig_no{l:List UInt8}{c:UInt8}(hc:c∈l)(h:((c.toNat:Nat):Int)<48∨((c.toNat:Nat):Int)>57):Dq l=false:=by
 rw[Dq,Bool.and_eq_false_iff];right;rw[List.all_eq_false];refine⟨c,hc,?_⟩;rw[Dw,Bool.and_eq_true,decide_eq_true_eq,decide_eq_true_eq];omega
theorem isNum_of{l:List UInt8}(h0:(l==[])=false)(h:∀j,j<l.length→∀c,l[j]?=some c→Dw c=true):Dq l=true:=by
 rw[Dq,h0,Bool.not_false,Bool.true_and,List.all_eq_true];intro c hc;obtain⟨j,hj,e⟩:=List.getElem_of_mem hc;exact h j hj c (by rw[Lg hj,e])
theorem U8{l:List UInt8}(h:l≠[]):strip (48::l)=strip l:=by
 have:Bh (48::l)=Bh l:=by rw[Bh,Bh,List.dropWhile_cons,if_pos (by decide)]
 rw[strip,strip,this]
theorem strip_ne{c:UInt8}(l:List UInt8)(h:¬(c==48)=true):strip (c::l)=c::l:=by
 rw[strip,Bh,List.dropWhile_cons,if_neg h];rfl
theorem strip_one(l:List UInt8)(h:l.length≤1)(h0:l≠[]):strip l=l:=by
 match l,h with
 | [],_=>exact absurd rfl h0
 | [c], _ =>
  by_cases hc:c=48
  ·
   subst hc;rfl
  exact strip_ne [] (by simpa using hc)
 | a::b::l,h=>simp at h
theorem lskip_le(b:UInt8)(l:List UInt8):(Dk b l).length≤l.length:=(List.dropWhile_suffix _).length_le
def fitP (nu:Bool) (n:Nat) (l:List UInt8):Option (List UInt8):=if nu then (if Dq (D8 32 (Dk 32 l))=true∧(strip (D8 32 (Dk 32 l))).length≤n then some (List.replicate (n-(strip (D8 32 (Dk 32 l))).length) 32++strip (D8 32 (Dk 32 l))) else none) else none
theorem Us{n:Nat}{l t:List UInt8}(ht:t=D8 32 (Dk 32 l))(h:Dq t=false):fitP true n l=none:=by
 rw[fitP,if_pos rfl,←ht,if_neg (by rw[h];exact fun e=>Bool.false_ne_true e.1)]
theorem fitP_big{n:Nat}{l t:List UInt8}(ht:t=D8 32 (Dk 32 l))(h:¬(strip t).length≤n):fitP true n l=none:=by
 rw[fitP,if_pos rfl,←ht,if_neg (fun e=>h e.2)]
theorem fitP_ok{n:Nat}{l t:List UInt8}(ht:t=D8 32 (Dk 32 l))(h:Dq t=true)(h2:(strip t).length≤n):fitP true n l=some (List.replicate (n-(strip t).length) 32++strip t):=by
 rw[fitP,if_pos rfl,←ht,if_pos ⟨h,h2⟩]
def fitD:Option (List UInt8)→D
 | none=>.tup [.str ⟨#[]⟩,.bool false]
 | some b=>.tup [.str (mkS b),.bool true]
theorem fitted_N{d:Nat}(hd:8≤d)(S:St)(f:FM)(hnu:f.nu=true){l:List UInt8}(hl:l.length≤100):Ae LP NN d 11 [.agg f.row,.str (mkS l)] S=some (fitD (fitP true f.size l),S,false):=by
 have xC:=f.size_le;have zz:=aI @Ag (aI @Ai (aI @Ad (aI @Gt @FM.row.eq_1)));refine rpz (hb:=?_);rintro d rfl;refine g15 (q:=Au (by simp only[opd,zv,zz]<;>(exact congrArg (fun b=>D.bool (!b)) hnu)) (g2 (q:=Ry (fun env S'=>∃(u8:D),S'=⟨[],0⟩∧env=[.agg f.row,.str (mkS (Dk 32 l)),.X7 f.row 0,.str ⟨#[]⟩,.bool false,.undef,.bool (!f.nu),.undef,u8,.undef,.undef,.undef,.undef,.undef,.undef,.undef]) ?_ ?_)))
 ·
  refine g1 (q:=Bq (fun n env S'=>∃(l':List UInt8) (u8:D),Dk 32 l'=Dk 32 l∧l'.length=n∧S'=⟨[],0⟩∧env=[.agg f.row,.str (mkS l'),.X7 f.row 0,.str ⟨#[]⟩,.bool false,.undef,.bool (!f.nu),.undef,u8,.undef,.undef,.undef,.undef,.undef,.undef,.undef]) (l.length) (by omega) (⟨l,_,rfl,rfl,rfl,rfl⟩) ?_);rintro n env S' ⟨l',u8,hl',rfl,rfl,rfl⟩;refine g7 (q:=Fy 0 (h:=fun hgB=>?_) (k:=fun hgB=>?_))
  ·
   obtain⟨c,l'',rfl⟩:∃c l'',l'=c::l'':=by
    cases l' with
    | nil=>simp at hgB
    | cons c l=>exact⟨c,l,rfl⟩
   rename List UInt8=>l'
   have zz:=aI @List.getElem?_cons_zero.{0} zz;refine g9 (q:=Bz (ht:=fun hcBT=>?_) (hf:=fun hcBT=>?_))
   ·
    have h32:(c==32)=true:=u8beq (b:=32) hcBT;refine g5 (q:=Aa (by simp only[opd,zv,Al,aop,LOp.loud,Bool.false_eq_true,if_false];rw[Du _ _ 1 1 rfl (by simp)];exact rfl) (g4 (q:=?_)));exact⟨l'.length,by simp,l',_,by rw[←hl',Dk,Dk,List.dropWhile_cons,if_pos h32],rfl,rfl,rfl⟩
   refine g4 (q:=U2 rfl ?_);exact⟨_,rfl,by rw[←hl',Dk,List.dropWhile_cons,if_neg (u8bne (b:=32) hcBT)]<;>rfl⟩
  obtain rfl:l'=[]:=by
   cases l' with
   | nil=>rfl
   | cons c l=>have:=of_decide_eq_false hgB;simp at this
  refine g11 (q:=U2 rfl ?_);exact⟨_,rfl,by rw[←hl']<;>rfl⟩
 rintro env S' ⟨u8,rfl,rfl⟩;refine Ry (fun env S'=>∃(u8 u9:D),S'=⟨[],0⟩∧env=[.agg f.row,.str (mkS (D8 32 (Dk 32 l))),.X7 f.row 0,.str ⟨#[]⟩,.bool false,.undef,.bool (!f.nu),.undef,u8,u9,.undef,.undef,.undef,.undef,.undef,.undef]) ?_ ?_
 ·
  refine g1 (q:=Bq (fun n env S'=>∃(l':List UInt8) (u9:D),D8 32 l'=D8 32 (Dk 32 l)∧l'.length=n∧n≤100∧S'=⟨[],0⟩∧env=[.agg f.row,.str (mkS l'),.X7 f.row 0,.str ⟨#[]⟩,.bool false,.undef,.bool (!f.nu),.undef,u8,u9,.undef,.undef,.undef,.undef,.undef,.undef]) ((Dk 32 l).length) (by have:=lskip_le 32 l;omega) (⟨Dk 32 l,_,rfl,rfl,by have:=(List.dropWhile_suffix (·==(32:UInt8)) (l:=l)).length_le;exact Nat.le_trans this hl,rfl,rfl⟩) ?_);rintro n env S' ⟨l',u9,hl',rfl,yh,rfl,rfl⟩;refine g7 (q:=Fy 0 (h:=fun hgXC=>?_) (k:=fun hgXC=>?_))
  ·
   obtain⟨l'',c,rfl⟩:∃l'' c,l'=l''++[c]:=by
    rcases List.eq_nil_or_concat l' with h | ⟨a,b,h⟩
    ·
     subst h;simp at hgXC
    exact⟨a,b,by simpa using h⟩
   rename List UInt8=>l'
   have hw:IntKind.i64.wrap (((l'++[c]).length:Nat)-1:Int)=(l'.length:Int):=by rw[IntKind.wrap_i64];simp at yh ⊢;omega
   have kP:(l'++[c])[l'.length]?=some c:=by simp
   have h0:(0:Int)≤(l'.length:Int):=by omega
   have zz:=aI hw (aI kP (aI h0 (aI @Int.toNat_natCast zz)));refine g15 (q:=Bz (ht:=fun hcXCT=>?_) (hf:=fun hcXCT=>?_))
   ·
    have h32:(c==32)=true:=u8beq (b:=32) hcXCT;refine g8 (q:=Aa (by simp only[opd,zv,Al,aop,LOp.loud,Bool.false_eq_true,if_false];rw[Ox _ (l'++[c]) l'.length _ rfl (by simp),List.take_left];exact rfl) (g4 (q:=?_)));exact⟨l'.length,by simp,l',_,by rw[←hl',Nk,if_pos h32],rfl,by simp at yh;omega,rfl,rfl⟩
   refine g4 (q:=U2 rfl ?_);exact⟨_,_,rfl,by rw[←hl',Nk,if_neg (u8bne (b:=32) hcXCT)]<;>rfl⟩
  obtain rfl:l'=[]:=by
   cases l' with
   | nil=>rfl
   | cons c l=>have:=of_decide_eq_false hgXC;simp at this
  refine g14 (q:=U2 rfl ?_);exact⟨_,_,rfl,by rw[←hl']<;>rfl⟩
 rintro env S' ⟨u8,u9,rfl,rfl⟩;obtain⟨t,ht⟩:∃t,t=D8 32 (Dk 32 l):=⟨_,rfl⟩;rw[←ht];have zQ:t.length≤100:=by rw[ht];exact Nat.le_trans (Sd 32 _) (Nat.le_trans (List.dropWhile_suffix (·==(32:UInt8)) (l:=l)).length_le hl)
 refine g7 (q:=Bz (ht:=fun hcXY=>?_) (hf:=fun hcXY=>?_))
 ·
  refine g8 (q:=fq (h:=?_));rw[Us ht (by rw[eq_of_beq hcXY];rfl)];rfl
 have ht0:t≠[]:=beq_eq_false_iff_ne.1 hcXY;refine g9 (q:=Bq (fun n env S'=>∃(i:Nat) (u11 u12:D),i≤t.length∧n=t.length-i∧S'=⟨[],0⟩∧env=[.agg f.row,.str (mkS t),.X7 f.row 0,.str ⟨#[]⟩,.bool false,.int .i64 (i:Nat),.bool (!f.nu),.undef,u8,u9,.bool (t==[]),u11,u12,.undef,.undef,.undef]∧∀j,j<i→∀c,t[j]?=some c→Dw c=true) (t.length) (by omega) (⟨0,_,_,by omega,by omega,rfl,rfl,fun j h=>absurd h (by omega)⟩) ?_);rintro n env S' ⟨i,u11,u12,hi,kL,rfl,rfl,xw⟩;refine g9 (q:=Bz (ht:=fun kX=>?_) (hf:=fun kX=>?_))
 ·
  have xq:i<t.length:=by have:=of_decide_eq_true kX;omega
  have vK:=Bu i (by omega);have h0i:(0:Int)≤(i:Int):=by omega
  obtain⟨c,hti⟩:∃c,t[i]?=some c:=⟨t[i],Lg xq⟩;have kM:c∈t:=Lm hti;have zz:=aI vK (aI hti (aI h0i (aI @Int.toNat_natCast zz)));refine g11 (q:=Fy 0 (h:=fun qN=>?_) (k:=fun qN=>?_))
  ·
   refine g20 (q:=fq (h:=?_));rw[Us ht (isDig_no kM (.inl (of_decide_eq_true qN)))];rfl
  refine g11 (q:=Bz (ht:=fun vg=>?_) (hf:=fun vg=>?_))
  ·
   refine g12 (q:=fq (h:=?_));rw[Us ht (isDig_no kM (.inr (of_decide_eq_true vg)))];rfl
  have hdg:Dw c=true:=isDig_of qN vg;refine g9 (q:=?_)
  exact⟨t.length-(i+1),by omega,i+1,_,_,by omega,rfl,rfl,rfl,fun j hj c hc=>by
   by_cases hji:j=i
   ·
    subst hji;rw[hti]at hc;cases hc;exact hdg
   exact xw j (by omega) c hc⟩
 have hi':t.length=i:=by have:=of_decide_eq_false kX;omega
 subst hi';have hnum:Dq t=true:=isNum_of hcXY xw;refine g5 (q:=Ry (fun env S'=>∃(u8 u9 u12 u13:D),S'=⟨[],0⟩∧env=[.agg f.row,.str (mkS (strip t)),.X7 f.row 0,.str ⟨#[]⟩,.bool false,.int .i64 (t.length:Nat),.bool (!f.nu),.undef,u8,u9,.bool (t==[]),.bool (decide (((t.length:Nat):Int)<((t.length:Nat):Int))),u12,u13,.undef,.undef]) ?_ ?_)
 ·
  refine g1 (q:=Bq (fun n env S'=>∃(l':List UInt8) (u13:D),strip l'=strip t∧l'≠[]∧l'.length=n∧n≤100∧S'=⟨[],0⟩∧env=[.agg f.row,.str (mkS l'),.X7 f.row 0,.str ⟨#[]⟩,.bool false,.int .i64 (t.length:Nat),.bool (!f.nu),.undef,u8,u9,.bool (t==[]),.bool (decide (((t.length:Nat):Int)<((t.length:Nat):Int))),u12,u13,.undef,.undef]) (t.length) (by omega) (⟨t,_,rfl,ht0,rfl,zQ,rfl,rfl⟩) ?_);rintro n env S' ⟨l',u13,hl',zG,rfl,yh,rfl,rfl⟩;refine g7 (q:=Fy 0 (h:=fun wP=>?_) (k:=fun wP=>?_))
  ·
   obtain⟨c,l'',rfl⟩:∃c l'',l'=c::l'':=by
    cases l' with
    | nil=>simp at wP
    | cons c l=>exact⟨c,l,rfl⟩
   rename List UInt8=>l'
   have zz:=aI @List.getElem?_cons_zero.{0} zz;refine g9 (q:=Bz (ht:=fun wY=>?_) (hf:=fun wY=>?_))
   ·
    have h48:c=48:=by have:=u8beq (b:=48) wY;simpa using this
    have xA:l'≠[]:=by
     rintro rfl;simp at wP
    refine g5 (q:=Aa (by simp only[opd,zv,Al,aop,LOp.loud,Bool.false_eq_true,if_false];rw[Du _ _ 1 1 rfl (by simp)];exact rfl) (g4 (q:=?_)));exact⟨l'.length,by simp,l',_,by rw[←hl',h48,U8 xA],xA,rfl,by simp at yh;omega,rfl,rfl⟩
   refine g4 (q:=U2 rfl ?_);exact⟨_,_,_,_,rfl,by rw[←hl',strip_ne _ (u8bne (b:=48) wY)]⟩
  have h1:l'.length≤1:=by have:=of_decide_eq_false wP;omega
  refine g11 (q:=U2 rfl ?_);exact⟨_,_,_,_,rfl,by rw[←hl',strip_one _ h1 zG]⟩
 rintro env S' ⟨u8,u9,u12,u13,rfl,rfl⟩;refine g6 (q:=?_)
 first
  | refine Aa (by simp only[zo,zz];exact Ii (by omega) _ f) ?_
  | refine Aa (by simp only[zo,zz];exact Ii (by omega) _ f) ?_
  | refine Aa (by simp only[zo,zz];exact Ii (by omega) _ f) ?_
 refine g3 (q:=Bz (ht:=fun vo=>?_) (hf:=fun vo=>?_))
 ·
  refine g8 (q:=fq (h:=?_));rw[fitP_big ht (by have:=of_decide_eq_true vo;omega)];rfl
 have rz:(strip t).length≤f.size:=by have:=of_decide_eq_false vo;omega
 refine g4 (q:=Bq (fun n env S'=>∃(k:Nat) (u14 u15:D),k+(strip t).length≤f.size∧n=f.size-(k+(strip t).length)∧S'=⟨[],0⟩∧env=[.agg f.row,.str (mkS (List.replicate k 32++strip t)),.X7 f.row 0,.str ⟨#[]⟩,.bool false,.int .i64 (t.length:Nat),.bool (!f.nu),.undef,u8,u9,.bool (t==[]),.bool (decide (((t.length:Nat):Int)<((t.length:Nat):Int))),u12,u13,u14,u15]) (f.size-(strip t).length) (by omega) (⟨0,_,_,by omega,by omega,rfl,rfl⟩) ?_);rintro n env S' ⟨k,u14,u15,hk,kL,rfl,rfl⟩;refine g6 (q:=?_)
 first
  | refine Aa (by simp only[zo,zz];exact Ii (by omega) _ f) ?_
  | refine Aa (by simp only[zo,zz];exact Ii (by omega) _ f) ?_
  | refine Aa (by simp only[zo,zz];exact Ii (by omega) _ f) ?_
 refine g3 (q:=Bz (ht:=fun wH=>?_) (hf:=fun wH=>?_))
 ·
  have hltk:k+(strip t).length<f.size:=by have:=of_decide_eq_true wH;simp at this;omega
  refine g5 (q:=Aa (by simp only[zo,Ec,zb,Int.reduceEq,Int.reduceToNat,Int.reduceLT,m32,Fj,Ad];first | (rw[if_neg (by rw[show IntKind.i64.max=9223372036854775807 from rfl];simp only[Ll_,List.length_replicate,List.length_singleton];omega)];exact rfl) | exact rfl) (g4 (q:=?_)));exact⟨f.size-(k+1+(strip t).length),by omega,k+1,_,_,by omega,rfl,rfl,by rw[List.replicate_succ,List.cons_append]<;>exact rfl⟩
 have yK:f.size≤k+(strip t).length:=by have:=of_decide_eq_false wH;simp at this;omega
 refine g13 (q:=fq (h:=?_));rw[fitP_ok ht hnum rz,show f.size-(strip t).length=k by omega];rfl
theorem zout_two:∀l:List UInt8,K3 l 2=l
 | []=>rfl
 | b::l=>by
  have h:nst 90 2 b=2:=by unfold nst;split<;>rfl
  rw[K3,h,zout_two l];rfl
theorem zout_lead{x:List UInt8}(hx:∀st:Int,st=0∨st=1→K3 x st=x):∀(k:Nat) (st:Int),st=0∨st=1→K3 (List.replicate k 48++x) st=List.replicate k 32++x
 | 0,st,h=>hx st h
 | k+1,st,h=>by
  have h1:nst 90 st 48=1:=by rcases h with rfl | rfl<;>rfl
  rw[List.replicate_succ,List.cons_append,K3,h1,zout_lead hx k 1 (.inr rfl),List.replicate_succ];rfl
theorem zout_head{c:UInt8}(l:List UInt8)(h:c≠48)(st:Int):K3 (c::l) st=c::l:=by
 have h1:nst 90 st c=2:=if_pos (.inr h);rw[K3,h1,zout_two];rfl
theorem edS_pad{s:List UInt8}{n:Nat}(h:strip s=s)(h0:s≠[])(hl:s.length≤n):edS (pad n s)=List.replicate (n-s.length) 32++s:=by
 have hp:0<s.length:=List.length_pos_iff.2 h0;have e:(pad n s).length-1=(n-s.length)+(s.length-1):=by rw[Jf];omega
 rw[edS,e,pad];rw[List.take_append,List.drop_append,List.length_replicate,show n-s.length+(s.length-1)-(n-s.length)=s.length-1 by omega,List.take_of_length_le (by simp),List.drop_of_length_le (l:=List.replicate (n-s.length) 48) (by simp),List.nil_append,zout_lead ?_ _ 0 (.inl rfl),Lo_,List.take_append_drop];intro st _
 match s,h,h0 with
 | [c],_,_=>rfl
 | c::b::l,h,_ =>
  refine zout_head _ ?_ st;rintro rfl;rw[U8 (by simp)]at h;have h2:=J8 (b::l) (by simp);have:=congrArg List.length h;simp at this;have:=h2.1;simp at this;omega
theorem lskip_dig{l:List UInt8}(h:l.all Dw=true):Dk 32 l=l:=by
 cases l with
 | nil=>rfl
 | cons c l =>
  have hc:=isDig_le (List.all_eq_true.1 h c (List.mem_cons_self));unfold Dk;rw[List.dropWhile_cons,if_neg];intro e;rw[beq_iff_eq]at e;subst e;exact absurd hc.1 (by decide)
theorem rskip_dig{l:List UInt8}(h:l.all Dw=true):D8 32 l=l:=by
 have h':l.reverse.all Dw=true:=by rw[List.all_reverse];exact h
 have:=lskip_dig h';unfold Dk at this;unfold D8;rw[this,List.reverse_reverse]
theorem D6.edS{V:List UInt8}(h:D6 V):edS V=List.replicate (6-(strip V).length) 32++strip V:=by
 have:=edS_pad (n:=6) (Rc V) (by
  intro e;have:=(J8 V h.ne).2
  rw[e]at this;cases this) h.le
 rwa [h.pad]at this
theorem fit_V{V:List UInt8}(h:D6 V):fitP true 6 V=some (edS V):=by
 rw[fitP_ok (t:=V) (by rw[lskip_dig h.dig,rskip_dig h.dig]) h.num h.le,h.edS]
def decL (n:Nat):List UInt8:=if n<10 then [UInt8.ofNat (48+n)] else decL (n / 10)++[UInt8.ofNat (48+n % 10)]
termination_by n
decreasing_by omega
theorem isDig_nat{k:Nat}(h:k<10):Dw (UInt8.ofNat (48+k))=true:=by
 match k,h with
 | 0,_ | 1,_ | 2,_ | 3,_ | 4,_ | 5,_ | 6,_ | 7,_ | 8,_ | 9,_=>rfl
theorem decL_dig:∀n,(decL n).all Dw=true:=by
 intro n
 induction n using Nat.strongRecOn with
 | _ n ih =>
  rw[decL];split
  ·
   rename_i h;rw[List.all_cons,isDig_nat h];rfl
  rw[List.all_append,ih (n / 10) (by omega),List.all_cons,isDig_nat (Nat.mod_lt _ (by decide))];rfl
theorem decL_len:∀k n,n<10 ^ (k+1)→(decL n).length≤k+1
 | 0,n,h=>by rw[decL,if_pos (by omega)];simp
 | k + 1, n, h => by
  rw[decL];split
  ·
   simp
  have:=decL_len k (n / 10) (by rw[Nat.pow_succ]at h;omega);rw[Ll_];simp;omega
theorem digB_dec{n:Nat}(h:n<10):Fu n=mkS (decL n):=by
 rw[decL,if_pos h];unfold Fu;rw[if_pos h];rfl
def sixL (n:Nat):List UInt8:=(List.replicate 6 48++decL n).drop (decL n).length
theorem sixL_D6{n:Nat}(h:n<1000000):D6 (sixL n):=by
 have hl:(sixL n).length=6:=by unfold sixL;rw[List.length_drop,Ll_];simp
 refine⟨hl,?_⟩
 have ha:(sixL n).all Dw=true:=by
  rw[List.all_eq_true];intro c hc;have hc:=List.mem_of_mem_drop hc;rcases List.mem_append.1 hc with h1 | h1
  ·
   rw[List.mem_replicate]at h1;rw[h1.2];rfl
  exact List.all_eq_true.1 (decL_dig n) c h1
 unfold Dq;rw[ha,Bool.and_true]
 cases hs:sixL n with
 | nil=>rw[hs]at hl;cases hl
 | cons a l=>rfl
theorem dig_step{d:Nat}(hd:1≤d)(S:St){n:Nat}(h10:¬n<10)(hn:n<1000000000)(xg:(decL (n / 10)).length+[UInt8.ofNat (48+n % 10)].length≤1000)(ih1:∀d' S,d=d'+1→Ae LP NN d' 9 [.int .i64 ((n / 10:Nat):Int)] S=some (.str (mkS (decL (n / 10))),S,false))(ih2:∀d' S,d=d'+1→Ae LP NN d' 9 [.int .i64 ((n % 10:Nat):Int)] S=some (.str (mkS [UInt8.ofNat (48+n % 10)]),S,false)):Ae LP NN d 9 [.int .i64 (n:Nat)] S=some (.str (mkS (decL n)),S,false):=by
 have xq:decide (((n:Nat):Int)<10)=false:=decide_eq_false (by omega);have hq:IntKind.i64.wrap (((n:Nat):Int).tdiv 10)=((n / 10:Nat):Int):=by rw[IntKind.wrap_i64,Int.tdiv_eq_ediv_of_nonneg (by omega)];omega
 have hr:((n:Nat):Int).tmod 10=((n % 10:Nat):Int):=tmod_nat n 10;have xA:((10:Int)=0)=False:=eq_false (by decide);refine rpq (hb:=?_);rintro d rfl;have ih1:=fun S=>ih1 d S rfl;have ih2:=fun S=>ih2 d S rfl;have zz:=aI xq (aI hq (aI hr xA));refine g19 (q:=?_)
 first
  | refine Aa (by simp only[zo,zz];exact ih1 _) ?_
  | refine Aa (by simp only[zo,zz];exact ih2 _) ?_
 refine g2 (q:=?_)
 first
  | refine Aa (by simp only[zo,zz];exact ih1 _) ?_
  | refine Aa (by simp only[zo,zz];exact ih2 _) ?_
 refine Aa (by simp only[opd,zv,Al,aop,LOp.loud,pop,if_false,Bool.false_eq_true];rw[sadd _ _ xg];exact rfl) (g4 (q:=fq (h:=?_)));rw[decL.eq_1 n,if_neg h10];rfl
theorem decN_run:∀k n,n<10 ^ (k+1)→k≤7→∀(d:Nat) S,k+6≤d→Ae LP NN d 9 [.int .i64 (n:Nat)] S=some (.str (mkS (decL n)),S,false):=by
 intro k
 have base:∀(n:Nat),n<10→∀(d:Nat) S,6≤d→Ae LP NN d 9 [.int .i64 (n:Nat)] S=some (.str (mkS (decL n)),S,false):=fun n h d S hd=>by
  rw[digits_run hd S n (by omega),digB_dec h]
 induction k with
 | zero=>intro n h _ d S hd;exact base n (by omega) d S (by omega)
 | succ k ih =>
  intro n h hk d S hd;by_cases h10:n<10
  ·
   exact base n h10 d S (by omega)
  have hn:n<1000000000:=by
   have:10 ^ (k+1+1)≤10 ^ 9:=Nat.pow_le_pow_right (by decide) (by omega);omega
  have h1:n / 10<10 ^ (k+1):=by rw[Nat.pow_succ]at h;omega
  refine dig_step (by omega) S h10 hn ?_ (fun d' S e=>ih (n / 10) h1 (by omega) d' S (by omega)) (fun d' S e=>?_)
  ·
   have:=decL_len k (n / 10) h1;simp;omega
  rw[base (n % 10) (Nat.mod_lt _ (by decide)) d' S (by omega),decL,if_pos (Nat.mod_lt _ (by decide))]
theorem grid_runH{d:Nat}(hd:12≤d){H:List Xh}{g v0:Nat}{gr0:Bool}{P:List (FM × List UInt8)}{vs:List ByteArray}{vx:D}(hg:H[g]?=some ⟨27,6,Cr (P.map (·.1)),v0,2,gr0⟩)(vV:SlD 1 (Cx vs) vx)(hP:P.length≤256)(hvn:vs.length=P.length)
  (xW:∀(i:Nat) (p:FM × List UInt8),P[i]?=some p→p.2.length=p.1.size∧(if p.1.kind=1 then p.2=p.1.text.data.toList else vs[i]?=some (mkS p.2))) (lo:Nat) :
  Ae LP NN d 13 [.msl g v0 0 P.length none,vx] ⟨H,lo⟩=some (.sl 1 (De (Ak P) 24) none,⟨H,lo⟩,false):=by
 have hgX:¬H.length≤g:=by have:=Aj hg;omega
 have zz:=aI vV.len (aI @Gh (aI @List.length_map.{0,0} (aI @FM.row.eq_1 (aI @Bd (aI @Bf (aI @Cb (aI @Ca (aI hg (aI hgX (aI vV.Xp vV.Xq))))))))));refine raz (hb:=?_);rintro d rfl;refine g17 (q:=Bq (fun n env S'=>∃(i q:Nat) (l:List Xh) (xo u13 u5 u6 u7 u8 u9 u10 u11 u12 u14 u15 u16 u17 u18 u19:D),i≤24∧n=24-i∧S'=⟨l,H.length⟩∧env=[.msl g v0 0 P.length none,vx,.X4,xo,.int .i64 ((i+1:Nat):Int),u5,u6,u7,u8,u9,u10,u11,u12,u13,u14,u15,u16,u17,u18,u19]∧RLi l q xo (Ui (Ak P) i)∧l[g]?=some ⟨27,6,Cr (P.map (·.1)),v0,2,gr0⟩∧H.length≤l.length∧H.length≤q) (24) (by omega) (⟨0,H.length,H,.X4,_,_,_,_,_,_,_,_,_,_,_,_,_,_,_,by omega,by omega,rfl,rfl,.inl ⟨rfl,rfl⟩,hg,Nat.le_refl _,Nat.le_refl _⟩) ?_);rintro n env S' ⟨i,q,l,xo,u13,u5,u6,u7,u8,u9,u10,u11,u12,u14,u15,u16,u17,u18,u19,hi,kL,rfl,rfl,hO,hgA,hlA,hqA⟩;refine g7 (q:=Bz (ht:=fun xZ=>?_) (hf:=fun xZ=>?_))
 ·
  have hi24:i<24:=by have:=of_decide_eq_true xZ;omega
  have vK:=Bu (i+1) (by omega);have zz:=aI vK zz;refine g21 (q:=Bq (fun n env S'=>∃(j:Nat) (l2:List Xh) (v8 v9 v10 v11 v12 v14 v15 v16 v17 v18 v19:D),j≤80∧n=80-j∧S'=⟨l2,H.length⟩∧env=[.msl g v0 0 P.length none,vx,.X4,xo,.int .i64 ((i+1:Nat):Int),.str (mkS (I6 P i j)),.int .i64 (tn (I6 P i j):Nat),.int .i64 ((j+1:Nat):Int),v8,v9,v10,v11,v12,.bool (decide (((i+1:Nat):Int)≤24)),v14,v15,v16,v17,v18,v19]∧RLi l2 q xo (Ui (Ak P) i)∧l2[g]?=some ⟨27,6,Cr (P.map (·.1)),v0,2,gr0⟩∧H.length≤l2.length) (80) (by omega) (⟨0,l,_,_,_,_,_,_,_,_,_,_,_,by omega,by omega,rfl,rfl,hO,hgA,hlA⟩) ?_);rintro n env S' ⟨j,l2,v8,v9,v10,v11,v12,v14,v15,v16,v17,v18,v19,hj,hnj,rfl,rfl,hO2,hgB,hlB⟩;refine g7 (q:=Bz (ht:=fun vw=>?_) (hf:=fun vw=>?_))
  ·
   have hj80:j<80:=by have:=of_decide_eq_true vw;omega
   have hwj:=Bu (j+1) (by omega);have zz:=aI hwj zz;refine g16 (q:=Bq (fun n env S'=>∃(k:Nat) (l4:List Xh) (w10 w11 w12 w15 w16 w17 w18:D),k≤P.length∧n=P.length-k∧S'=⟨l4,H.length⟩∧env=[.msl g v0 0 P.length none,vx,.X4,xo,.int .i64 ((i+1:Nat):Int),.str (mkS (I6 P i j)),.int .i64 (tn (I6 P i j):Nat),.int .i64 ((j+1:Nat):Int),.str (mkS [Dr P i j k]),.int .i64 (k:Nat),w10,w11,w12,.bool (decide (((i+1:Nat):Int)≤24)),.bool (decide (((j+1:Nat):Int)≤80)),w15,w16,w17,w18,v19]∧RLi l4 q xo (Ui (Ak P) i)∧l4[g]?=some ⟨27,6,Cr (P.map (·.1)),v0,2,gr0⟩∧H.length≤l4.length) (P.length) (by omega) (⟨0,l2,_,_,_,_,_,_,_,by omega,by omega,rfl,rfl,hO2,hgB,hlB⟩) ?_);rintro n env S' ⟨k,l4,w10,w11,w12,w15,w16,w17,w18,hk,hnk2,rfl,rfl,vJ,q9,hlC⟩;refine g9 (q:=Bz (ht:=fun zL=>?_) (hf:=fun zL=>?_))
   ·
    have xq:k<P.length:=by have:=of_decide_eq_true zL;omega
    have kC:=Bu k (by omega);obtain⟨f,bs,hPe⟩:∃f bs,P[k]=(f,bs):=⟨_,_,rfl⟩;have hPk:P[k]?=some (f,bs):=by rw[Lg xq,hPe]
    have hfe:(P.map (·.1))[k]'(by rw[List.length_map];exact xq)=f:=by rw[List.getElem_map,hPe]
    have yD:=Jc (l:=P.map (·.1)) (i:=k) (by rw[List.length_map];exact xq);rw[hfe]at yD;have hik0:(0:Int)≤(k:Int):=by omega
    have hik1:(k:Int)<(P.length:Int):=by omega
    have hm4:min H.length l4.length=H.length:=by omega
    have wD:bs.length=f.size:=(xW k _ hPk).1;have wC:=cellT_succ (r:=i) (c:=j) xq;rw[hPe]at wC;simp only[cstep]at wC;have hln:=f.line_le;have hcn:=f.column_le;have xC:=f.size_le;have uO:=f.kind_le;have hw1:IntKind.i64.wrap (((f.column:Nat):Int)+((f.size:Nat):Int))=((f.column+f.size:Nat):Int):=by rw[IntKind.wrap_i64];omega
    have zz:=aI kC (aI yD (aI hw1 (aI q9 (aI hik0 (aI hik1 (aI hm4 (aI @Int.toNat_natCast zz)))))));refine g17 (q:=?_);have zz:=aI vV.fpi zz;refine g1 (q:=Ao (by simp only[zo,zz];exact Sr (by omega) _ f) (by simp only[Ac,zo,zq,vV.fpi]<;>exact rfl) (by first | rfl | (simp[show ob 1 1=[true] from rfl,Xo,Ay,Ar,Cf,Ap,Bn,djl,djr,djs,Am,Af,Az,Ba];done)) (g3 (q:=dw_sq 0 (h:=fun yZ=>?_) (k:=fun yZ=>?_))))
    ·
     have xk:Dr P i j (k+1)=Dr P i j k:=by
      rw[wC,if_neg];rintro⟨h1,h2,h3⟩;have h:=yZ;rw[bne_iff_ne]at h;omega
     refine g27 (q:=?_);exact⟨P.length-(k+1),by omega,k+1,_,_,_,_,_,_,_,_,by omega,rfl,rfl,by rw[xk]<;>exact rfl,vJ.more _,by rw[Bj (Aj q9)];exact q9,by rw[Ll_];omega⟩
    refine g5 (q:=Ao (by simp only[zo,zz];exact Fv (by omega) _ f) (by simp only[Ac,zo,zq,vV.fpi]<;>exact rfl) (by first | rfl | (simp[show ob 95 7=[true,false,true,true,true,true,true] from rfl,Xo,Ay,Ar,Cf,Ap,Bn,djl,djr,djs,Am,Af,Az,Ba];done)) (g4 (q:=dw_sq 0 (h:=fun yM=>?_) (k:=fun yM=>?_))))
    ·
     have xk:Dr P i j (k+1)=Dr P i j k:=by
      rw[wC,if_neg];rintro⟨h1,h2,h3⟩;have:=of_decide_eq_true yM;omega
     refine g21 (q:=?_);exact⟨P.length-(k+1),by omega,k+1,_,_,_,_,_,_,_,_,by omega,rfl,rfl,by rw[xk]<;>exact rfl,vJ.more _,by rw[Bj (Aj q9)];exact q9,by rw[Ll_];omega⟩
    refine g5 (q:=Ao (by simp only[zo,zz];exact Fv (by omega) _ f) (by simp only[Ac,zo,zq,vV.fpi]<;>exact rfl) (by first | rfl | (simp[show ob 6143 13=[true,false,true,true,true,true,true,true,true,true,true,true,true] from rfl,Xo,Ay,Ar,Cf,Ap,Bn,djl,djr,djs,Am,Af,Az,Ba];done)) (g3 (q:=Ao (by simp only[zo,zz];exact Ii (by omega) _ f) (by simp only[Ac,zo,zq,vV.fpi]<;>exact rfl) (by first | rfl | (simp[show ob 30719 15=[true,true,true,false,true,true,true,true,true,true,true,true,true,true,true] from rfl,Xo,Ay,Ar,Cf,Ap,Bn,djl,djr,djs,Am,Af,Az,Ba];done)) (g7 (q:=Bz (ht:=fun yx=>?_) (hf:=fun yx=>?_))))))
    ·
     have xk:Dr P i j (k+1)=Dr P i j k:=by
      rw[wC,if_neg];rintro⟨h1,h2,h3⟩;have:=of_decide_eq_true yx;omega
     refine g10 (q:=?_);exact⟨P.length-(k+1),by omega,k+1,_,_,_,_,_,_,_,_,by omega,rfl,rfl,by rw[xk]<;>exact rfl,vJ.more _,by rw[Bj (Aj q9)];exact q9,by rw[Ll_];omega⟩
    have hli:f.line=i+1:=by
     have h:=yZ;rw[bne_eq_false_iff_eq]at h;omega
    have y8:f.column≤j+1:=by have:=of_decide_eq_false yM;omega
    have w9:j+1<f.column+f.size:=by have:=of_decide_eq_false yx;omega
    have wU:k<vs.length:=by omega
    have hiv:=fun (S:St)=>vV.iaddrN S .i64 (Iz wU);have hw2:IntKind.i64.wrap (((j+1:Nat):Int)-((f.column:Nat):Int))=((j+1-f.column:Nat):Int):=by rw[IntKind.wrap_i64];omega
    have hw3:=Bu (j+1-f.column) (by omega);obtain⟨b,hb⟩:∃b,b=bs[j+1-f.column]'(by omega):=⟨_,rfl⟩
    have hdt:(bs.drop (j+1-f.column)).take (j+1-f.column+1-(j+1-f.column))=[b]:=by
     rw[show j+1-f.column+1-(j+1-f.column)=1 from by omega,List.drop_eq_getElem_cons (by omega),hb];rfl
    have hz1:((0:Int)≤((j+1-f.column+1:Nat):Int))=True:=eq_true (by omega);have hz2:((0:Int)≤((j+1-f.column:Nat):Int))=True:=eq_true (by omega);have hz3:(j+1-f.column≤j+1-f.column+1∧j+1-f.column+1≤bs.length)=True:=eq_true ⟨by omega,by omega⟩;have qM:bs.getD (j+1-f.column) 0=b:=by rw[List.getD_eq_getElem?_getD,Lg (by omega),hb];rfl
    have yN:Dr P i j (k+1)=prn b:=by
     rw[wC,if_pos ⟨by omega,by omega,by omega⟩,qM]
    have rX:=(xW k _ hPk).2;simp only at rX;have zz:=aI hiv (aI hw2 (aI hw3 (aI hdt (aI hz1 (aI hz2 (aI hz3 (aI @Ad (aI @Ib (aI @Gt (aI @Int.toNat_natCast zz))))))))));by_cases y7:f.kind=1
    ·
     rw[if_pos y7]at rX;have hft:f.text=mkS bs:=by rw[rX];exact (str_rows f.text).symm
     have e1:(((f.kind:Nat):Int)==1)=true:=by rw[beq_iff_eq];omega
     have zz:=aI e1 (aI hft zz);refine g15 (q:=Aa (by simp only[zo,zz];exact Ik (by omega) _ f) (g6 (q:=Aa (by simp only[zo,zz];exact L8 (by omega) _ f) (g7 (q:=Aa (by simp only[zo,zz];exact Fv (by omega) _ f) (g20 (q:=Fy 0 (h:=fun xS=>?_) (k:=fun xS=>?_))))))))
     ·
      have xk:Dr P i j (k+1)=46:=by
       have:=of_decide_eq_true xS;rw[yN,prn,if_neg];intro h;rw[Bool.and_eq_true]at h;have:=of_decide_eq_true h.1;omega
      refine g18 (q:=?_);exact⟨P.length-(k+1),by omega,k+1,_,_,_,_,_,_,_,_,by omega,rfl,rfl,by rw[xk]<;>exact rfl,vJ.more _,by rw[Bj (Aj q9)];exact q9,by rw[Ll_];omega⟩
     refine g9 (q:=Bz (ht:=fun xQ=>?_) (hf:=fun xQ=>?_))
     ·
      have xk:Dr P i j (k+1)=46:=by
       have:=of_decide_eq_true xQ;rw[yN,prn,if_neg];intro h;rw[Bool.and_eq_true]at h;have:=of_decide_eq_true h.2;omega
      refine g11 (q:=?_);exact⟨P.length-(k+1),by omega,k+1,_,_,_,_,_,_,_,_,by omega,rfl,rfl,by rw[xk]<;>exact rfl,vJ.more _,by rw[Bj (Aj q9)];exact q9,by rw[Ll_];omega⟩
     have xk:Dr P i j (k+1)=b:=by
      have:=of_decide_eq_false xS;have:=of_decide_eq_false xQ;rw[yN,prn,if_pos];rw[Bool.and_eq_true];exact⟨decide_eq_true (by omega),decide_eq_true (by omega)⟩
     refine g9 (q:=?_);exact⟨P.length-(k+1),by omega,k+1,_,_,_,_,_,_,_,_,by omega,rfl,rfl,by rw[xk]<;>exact rfl,vJ.more _,by rw[Bj (Aj q9)];exact q9,by rw[Ll_];omega⟩
    rw[if_neg y7]at rX;have hvk:vs[k]=mkS bs:=by rw[Lg wU]at rX;exact Option.some.inj rX
    have e1:(((f.kind:Nat):Int)==1)=false:=by rw[beq_eq_false_iff_ne];omega
    have zz:=aI e1 (aI hvk zz);refine g15 (q:=Aa (by simp only[zo,zz];exact Ik (by omega) _ f) (g10 (q:=Aa (by simp only[zo,zz];exact Fv (by omega) _ f) (g20 (q:=Fy 0 (h:=fun xR=>?_) (k:=fun xR=>?_))))))
    ·
     have xk:Dr P i j (k+1)=46:=by
      have:=of_decide_eq_true xR;rw[yN,prn,if_neg];intro h;rw[Bool.and_eq_true]at h;have:=of_decide_eq_true h.1;omega
     refine g18 (q:=?_);exact⟨P.length-(k+1),by omega,k+1,_,_,_,_,_,_,_,_,by omega,rfl,rfl,by rw[xk]<;>exact rfl,vJ.more _,by rw[Bj (Aj q9)];exact q9,by rw[Ll_];omega⟩
    refine g9 (q:=Bz (ht:=fun xP=>?_) (hf:=fun xP=>?_))
    ·
     have xk:Dr P i j (k+1)=46:=by
      have:=of_decide_eq_true xP;rw[yN,prn,if_neg];intro h;rw[Bool.and_eq_true]at h;have:=of_decide_eq_true h.2;omega
     refine g11 (q:=?_);exact⟨P.length-(k+1),by omega,k+1,_,_,_,_,_,_,_,_,by omega,rfl,rfl,by rw[xk]<;>exact rfl,vJ.more _,by rw[Bj (Aj q9)];exact q9,by rw[Ll_];omega⟩
    have xk:Dr P i j (k+1)=b:=by
     have:=of_decide_eq_false xR;have:=of_decide_eq_false xP;rw[yN,prn,if_pos];rw[Bool.and_eq_true];exact⟨decide_eq_true (by omega),decide_eq_true (by omega)⟩
    refine g9 (q:=?_);exact⟨P.length-(k+1),by omega,k+1,_,_,_,_,_,_,_,_,by omega,rfl,rfl,by rw[xk]<;>exact rfl,vJ.more _,by rw[Bj (Aj q9)];exact q9,by rw[Ll_];omega⟩
   have hk':k=P.length:=by have:=of_decide_eq_false zL;omega
   subst hk';have hsadd:=sadd (I6 P i j) [Dr P i j P.length] (by rw[Jn];simp;omega);have h32:(⟨#[32]⟩:ByteArray).toList=[32]:=Ag [32];have zz:=aI @Ag (aI h32 zz);refine g9 (q:=Aa (by simp only[Al,aop,LOp.loud,pop,if_false,Bool.false_eq_true,opd,zv,hsadd,Option.map_some]<;>exact rfl) (g9 (q:=Bz (ht:=fun za=>?_) (hf:=fun za=>?_))))
   ·
    have kr:¬Dr P i j P.length=32:=by
     intro e;have h:=za;rw[e]at h;simp at h
    refine g12 (q:=?_);exact⟨80-(j+1),by omega,j+1,_,_,_,_,_,_,_,_,_,_,_,_,by omega,rfl,rfl,by rw[Ql,Qw,Na,if_neg kr,Jn]<;>exact rfl,vJ,q9,hlC⟩
   have kr:Dr P i j P.length=32:=by
    have h:=za;simpa using h
   refine g9 (q:=?_);exact⟨80-(j+1),by omega,j+1,_,_,_,_,_,_,_,_,_,_,_,_,by omega,rfl,rfl,by rw[Ql,Qw,Na,if_pos kr]<;>exact rfl,vJ,q9,hlC⟩
  have hj80:j=80:=by have:=of_decide_eq_false vw;omega
  subst hj80;have zQ:=tn_le (I6 P i 80);rw[Jn]at zQ;have hz1:((0:Int)≤((tn (I6 P i 80):Nat):Int))=True:=eq_true (by omega);have hz2:(0≤tn (I6 P i 80)∧tn (I6 P i 80)≤80)=True:=eq_true ⟨by omega,zQ⟩;obtain⟨x3,l3,q3,wm,rR,hq3,rW,hkp⟩:=hO2.app (lo:=H.length) (row:=[.str (mkS ((I6 P i 80).take (tn (I6 P i 80))))]) (.inl hqA) (by rw[Sj];omega);have zz:=aI hz1 (aI hz2 (aI @Ad (aI @Ib (aI @Jn (aI @Int.toNat_natCast (aI @List.drop_zero.{0} (aI @Nat.sub_zero zz)))))));refine Jk (sk_e (lk_e (bk_e (sk_n rfl (M4 (ow_me rfl (ow_me rfl (ow_me rfl (Aa (by simp only[zo,Bt,Ch,Er,Dj,zm,zz]<;>exact rfl) (Aa (by simp only[zl,zm,Dm,List.replicate,Ah,Bl,zs,zc,zf,zz]<;>exact rfl) (Aa (by simp only[Al,aop,LOp.loud,lop,if_true,opd,zv];exact wm) (g10 (q:=?_)))))))))))));exact⟨24-(i+1),by omega,i+1,q3,l3,x3,_,_,_,_,_,_,_,_,_,_,_,_,_,_,_,by omega,rfl,rfl,rfl,by rw[orow_succ];exact rR,hkp _ _ hgB (by show (27:Nat)≠9;decide),by omega,by rcases hq3 with rfl | rfl<;>omega⟩
 have hi24:i=24:=by have:=of_decide_eq_false xZ;omega
 subst hi24;refine g12 (q:=?_);rcases hO with⟨rfl,hbad⟩ | ⟨vs2,rfl,ho⟩
 ·
  have:=congrArg List.length hbad;rw[Sj]at this;cases this
 refine fq (h:=?_);simp[leave,LP,Xt,Xp,snap,D.Xr,D.Xq,D.free,D.Xw,ho,orow_24]
theorem apl{H:List Xh}{ga lo:Nat}{xa:D}(hA:H[ga]?=some ⟨32,4,[[.str nmA,xa,.int .i64 ((1:Nat):Int),.int .i64 ((12:Nat):Int)]],0,0,false⟩)(xU:lo≤H.length)(call:Aq):Al call (.append 32 4 56 0) [.msl H.length 0 0 0 none,.msl ga 0 0 1 none] ⟨H++[⟨32,4,[],0,0,false⟩],lo⟩=some (.msl H.length 1 0 1 none,⟨H++[SLo xa],lo⟩,true):=by
 have hl:=Aj hA;have hm:min lo H.length=lo:=by omega
 simp[Al,aop,LOp.loud,lop,Bo,Da,Av,rowsOf,setAt,Bj hl,hA,hm,SLo]
theorem clone30_run{d:Nat}(hd:1≤d){H:List Xh}{ga:Nat}{xa:D}(hA:H[ga]?=some ⟨32,4,[[.str nmA,xa,.int .i64 ((1:Nat):Int),.int .i64 ((12:Nat):Int)]],0,0,false⟩)(lo:Nat):Ae LP NN d 30 [.msl ga 0 0 1 none] ⟨H,lo⟩=some (.msl H.length 1 0 1 none,⟨H++[SLo xa],min lo H.length⟩,true):=by
 have hal:=Aj hA;have wK:¬H.length≤ga:=by omega
 have zz:=aI (fun l=>@Bj _ l _ hal) (aI hA (aI @Bd (aI @Bf wK)));refine raz (hb:=?_);rintro d rfl;refine g19 (q:=Aa (by simp only[opd,zv];exact apl hA (Nat.le_refl _) _) (g4 (q:=fq (h:=?_))));simp[leave,LP,Xt,Xp,snap,D.Xr,D.Xq,D.free,D.Xw,Ah,wK,SLo]
theorem snew_desk{d:Nat}(hd:2≤d){H:List Xh}{ga:Nat}{xa:D}(hA:H[ga]?=some ⟨32,4,[[.str nmA,xa,.int .i64 ((1:Nat):Int),.int .i64 ((12:Nat):Int)]],0,0,false⟩)(lo:Nat):Ae LP NN d 7 [.msl ga 0 0 1 none,.ifc 52 (.agg [])] ⟨H,lo⟩=some (.ptr (H.length+1) 0 0 0,⟨H++[SLo xa,DKo H.length],min lo H.length⟩,true):=by
 have hal:=Aj hA;have wK:¬H.length≤ga:=by omega
 have zz:=aI @Bd (aI @Bf (aI hA wK));refine raz (hb:=?_);rintro d rfl;refine g8 (q:=Aa (by simp only[zo,zz];exact clone30_run (by omega) hA _) (g7 (q:=fq (h:=?_))));simp[leave,LP,Xt,Xp,snap,D.Xr,D.Xq,D.free,D.Xw,Ah,DKo]
theorem clone30_nil{d:Nat}(hd:1≤d)(H:List Xh)(lo:Nat):Ae LP NN d 30 [.X4] ⟨H,lo⟩=some (.X4,⟨H,lo⟩,false):=by
 refine raq (hb:=?_);rintro d rfl;refine g20 (q:=fq (h:=?_));simp[leave,LP,Xt,Xp,snap,D.Xr,D.Xq,D.free,D.Xw]
theorem snew_nil{d:Nat}(hd:2≤d)(H:List Xh)(lo:Nat):Ae LP NN d 7 [.X4,.nili] ⟨H,lo⟩=some (.ptr H.length 0 0 0,⟨H++[⟨106,2,[[.X4,.nili]],0,0,false⟩],min lo H.length⟩,true):=by
 have zz:=aI @Bd @Bf;refine raz (hb:=?_);rintro d rfl;refine g8 (q:=Aa (by simp only[zo,zz];exact clone30_nil (by omega) _ _) (g7 (q:=fq (h:=?_))));simp[leave,LP,Xt,Xp,snap,D.Xr,D.Xq,D.free,D.Xw,Ah]
theorem clone33_nil{d:Nat}(hd:1≤d)(S:St):Ae LP NN d 33 [.X4] S=some (.X4,S,false):=by
 refine rpq (hb:=?_);rintro d rfl;refine g20 (q:=?_);exact fq (h:=rfl)
theorem clone33_e{d:Nat}(hd:1≤d)(S:St)(c:Option Nat):Ae LP NN d 33 [.sl 1 [] c] S=some (.sl 1 [] (some 0),S,false):=by
 refine rpq (hb:=?_);rintro d rfl;refine g24 (q:=?_);exact fq (h:=rfl)
theorem aps{rows:List (List D)}{c:Option Nat}(hn:rows≠[])(hb:rows.length≤1000)(call:Aq):Al call (.append 9 1 16 1) [.sl 1 [] (some 0),.sl 1 rows c] ⟨[],0⟩=some (.msl 0 0 0 rows.length none,⟨[⟨9,1,rows,0,1,true⟩],0⟩,true):=by
 have h1:rows.isEmpty=false:=by cases rows with
  | nil=>exact absurd rfl hn
  | cons a l=>rfl
 have h2:rows.length*16≤140737488355328:=by omega
 simp[Al,aop,LOp.loud,lop,Bo,Bw,Av,newAt,hn,h2]
theorem clone33_s{d:Nat}(hd:1≤d)(S:St){rows:List (List D)}(c:Option Nat)(hn:rows≠[])(hb:rows.length≤1000):Ae LP NN d 33 [.sl 1 rows c] S=some (.sl 1 rows none,S,false):=by
 have zz:=hb;refine rpz (hb:=?_);rintro d rfl;refine g19 (q:=Aa (by simp only[opd,zv];exact aps hn hb _) (g4 (q:=fq (h:=?_))));simp[Df,leave,Xt,Xp,snap,D.Xr,D.Xq,D.free,D.Xw]
theorem clone33_run{d:Nat}(hd:1≤d){rows:List (List D)}{x:D}(hS:SlD 1 rows x)(hb:rows.length≤1000):∃y,SlD 1 rows y∧∀S,Ae LP NN d 33 [x] S=some (y,S,false):=by
 rcases hS with⟨rfl,rfl⟩ | ⟨c,rfl⟩
 ·
  exact⟨.X4,.inl ⟨rfl,rfl⟩,fun S=>clone33_nil hd S⟩
 by_cases h:rows=[]
 ·
  subst h;exact⟨_,.of _ _ _,fun S=>clone33_e hd S c⟩
 exact⟨_,.of _ _ _,fun S=>clone33_s hd S c h hb⟩
theorem clip32_run{d:Nat}(hd:1≤d)(S:St){x:D}{rows:List (List D)}(hS:SlD 1 rows x):Ae LP NN d 32 [x] S=some (Lj x,S,false):=by
 have zu:=hS.slice_clip;have zz:=aI zu (aI hS.len (aI hS.Xp hS.Xq));refine rpz (hb:=?_);rintro d rfl;refine g12 (q:=xo0 (h:=g4 (q:=fq (h:=?_))));simp only[Df,leave,hS.clip.Xp,hS.clip.Xt,hS.clip.Xr,List.length_nil,Nat.le_refl,Nat.zero_le,if_true,Bool.false_eq_true,if_false]
theorem lay_cell:layS.Xv=true∧layS.val=true∧layS.cells=[layS]∧layS.free=true:=⟨rfl,rfl,rfl,rfl⟩
theorem lay_snap(m:Nat)(H:List Xh):snap m H layS=some layS:=rfl
theorem mnew_run{d:Nat}(hd:24≤d){rows:List (List D)}{inn:D}(yC:SlD 1 rows inn)(qZ:rows.length≤1000)(H:List Xh)(gk:Nat)(lo:Nat):∃z,SlD 1 rows z∧Ae LP NN d 8 [.agg [layS,.int .i64 6],inn,.ifr 48 (.ptr gk 0 0 0)] ⟨H,lo⟩=some (.tup [.ptr (H.length+1) 0 0 0,.int .i64 0],⟨H++[⟨37,2,[[layS,.int .i64 6]],0,0,false⟩,(STo (.sl 1 (bR (List.replicate 6 48)) (some 6)) z .X4 gk)],min lo H.length⟩,true):=by
 obtain⟨y,hyS,hy⟩:=clone33_run (d:=d-1) (by omega) yC qZ;have hz:=hyS.clip;refine⟨Lj y,hz,?_⟩;obtain⟨z,hze⟩:∃z,z=Lj y:=⟨_,rfl⟩;have hc32:=fun S:St=>clip32_run (d:=d-1) (by omega) S hyS;rw[←hze]at hz hc32 ⊢;refine Ho (F:=F8) rfl (by simp only[LP,Ah,Bl,zs,zm,zv,yC.Xp,yC.Xq,lay_snap,lay_cell.2.2.2,Bool.false_and,Bool.and_false]<;>exact rfl) rfl (by simp only[LP,zf,zm,yC.Xp,yC.Xq,lay_snap,lay_cell.2.2.2,Bool.false_and,Bool.and_false];try rfl) (by simp only[F8,P8,mkP,zv]<;>exact rfl) (by omega) ?_;rintro d rfl;have zz:=aI @Bd (aI @Bf (aI hz.Xv (aI hz.val (aI hz.cells (aI lay_cell.1 (aI lay_cell.2.1 (aI lay_cell.2.2.1 lay_cell.2.2.2)))))));refine g10 (q:=Aa (by simp only[zo,zz];exact snew_run (by omega) _) (g22 (q:=Ao (by simp only[zo,zz];exact hy _) (by simp only[Ac,zo,zq]<;>exact rfl) (by first | rfl | (simp[show ob 4 3=[true,false,false] from rfl,Xo,Ay,Ar,Cf,Ap,Bn,djl,djr,djs,Am,Af,Az,Ba,Cq,Bv,Cc,Aw,hz.Xo,hz.plain];done) | (simp[show ob 4 3=[true,false,false] from rfl,Xo,Ay,Ar,Cf,Ap,Bn,djl,djr,djs,Am,Af,Az,Ba,Cq,Bv,Cc,Aw,hz.Xo,hz.plain];omega)) (Ao (by simp only[zo,zz];exact hc32 _) (by simp only[Ac,zo,zq]<;>exact rfl) (by first | rfl | (simp[show ob 12 4=[true,true,false,false] from rfl,Xo,Ay,Ar,Cf,Ap,Bn,djl,djr,djs,Am,Af,Az,Ba,Cq,Bv,Cc,Aw,hz.Xo,hz.plain];done) | (simp[show ob 12 4=[true,true,false,false] from rfl,Xo,Ay,Ar,Cf,Ap,Bn,djl,djr,djs,Am,Af,Az,Ba,Cq,Bv,Cc,Aw,hz.Xo,hz.plain];omega)) (g2 (q:=?_))))));have zz:=aI hz.Xo (aI hz.plain zz);refine g6 (q:=fq (h:=?_));simp[leave,LP,Xt,Xp,snap,D.Xr,D.Xq,D.free,D.Xw,Ah,Bl,STo,layS];rfl
def FM.big (f:FM):FM:={ f with nu:=true,si:=5,h:=⟨f.h.1,f.h.2.1,f.h.2.2.1,by decide⟩ }
def Eh (l:List FM):List FM:=l.map FM.big
theorem Dz(l:List FM):(Eh l).length=l.length:=by simp[Eh]
theorem Pz(l:List FM):Big (Eh l):=by
 intro f hf;unfold Eh at hf;rw[List.mem_map]at hf;obtain⟨g,_,rfl⟩:=hf;exact⟨rfl,rfl⟩
def Mr (l:List FM) (i:Nat):List FM:=Eh (l.take i)++l.drop i
theorem modL_len{l:List FM}{i:Nat}(h:i≤l.length):(Mr l i).length=l.length:=by
 unfold Mr;rw[Ll_,Dz,List.length_take,List.length_drop];omega
theorem modL_0(l:List FM):Mr l 0=l:=by simp[Mr,Eh]
theorem modL_all(l:List FM):Mr l l.length=Eh l:=by simp[Mr]
theorem modL_at{l:List FM}{i:Nat}(h:i<l.length):(Mr l i)[i]?=some l[i]:=by
 unfold Mr;rw[Lr_ (by rw[Dz,List.length_take];omega),Dz,List.length_take,List.getElem?_drop];rw[show i+(i-min i l.length)=i by omega,Lg h]
theorem modL_set{l:List FM}{i:Nat}(h:i<l.length):(Mr l i).set i l[i].big=Mr l (i+1):=by
 unfold Mr;rw[List.set_append_right _ _ (by rw[Dz,List.length_take];omega),Dz,List.length_take,show i-min i l.length=0 by omega,List.drop_eq_getElem_cons h,List.set_cons_zero];rw[List.take_succ_eq_append_getElem h];unfold Eh;rw[List.map_append,Lo_];rfl
theorem modR_at{l:List FM}{i:Nat}(h:i<l.length):(Cr (Mr l i))[i]?=some l[i].row:=by
 unfold Cr;rw[Lp_,modL_at h];rfl
theorem modR_set{l:List FM}{i:Nat}(h:i<l.length):(Cr (Mr l i)).set i l[i].big.row=Cr (Mr l (i+1)):=by
 rw[←modL_set h];unfold Cr;rw[List.map_set]
def plS (V:List UInt8) (f:FM):ByteArray:=mkS (if f.kind=3 then bl6 else edS V)
def plL (V:List UInt8) (l:List FM) (i:Nat):List ByteArray:=(l.map (plS V)).take i
theorem plL_succ{V:List UInt8}{l:List FM}{i:Nat}(h:i<l.length):Cx (plL V l (i+1))=Cx (plL V l i)++[[.str (plS V l[i])]]:=by
 unfold Cx plL;rw[List.take_succ_eq_append_getElem (by rw[List.length_map];exact h),List.map_append,List.getElem_map];rfl
theorem plL_len{V:List UInt8}{l:List FM}{i:Nat}(h:i≤l.length):(plL V l i).length=i:=by
 unfold plL;rw[List.length_take,List.length_map];omega
theorem plL_all(V:List UInt8)(l:List FM):plL V l l.length=l.map (plS V):=by
 unfold plL;exact List.take_of_length_le (by rw[List.length_map];exact Nat.le_refl _)
theorem PV_grid{V:List UInt8}(hV:D6 V){l:List FM}(hl:Big l):∀(i:Nat) (p:FM × List UInt8),(PV l V)[i]?=some p→p.2.length=p.1.size∧(if p.1.kind=1 then p.2=p.1.text.data.toList else (l.map (plS V))[i]?=some (mkS p.2)):=by
 intro i p hp;unfold PV at hp;rw[Lp_]at hp
 cases hi:l[i]? with
 | none=>rw[hi]at hp;cases hp
 | some f =>
  rw[hi]at hp;simp only[Option.map_some,Oi]at hp;subst hp;obtain⟨hnu,xC⟩:=hl f (Lm hi);refine⟨valF_len hV xC,?_⟩;by_cases h1:f.kind=1
  ·
   rw[if_pos h1];show Wm V f=_;unfold Wm;rw[if_pos h1]
  rw[if_neg h1,Lp_,hi];show some (plS V f)=some (mkS (Wm V f));unfold plS Wm;rw[if_neg h1]
def fmX:FM:=⟨0,0,0,5,true,false,by decide⟩
theorem fmX_row:fmX.row=[.int .u8 0,.int .u8 0,.int .u8 0,.int .u8 5,.bool true,.bool false]:=rfl
theorem unblank{V:List UInt8}(hV:D6 V){i:Nat}(hi:i<6):∃b v,(edS V)[i]?=some b∧V[i]?=some v∧((b=32∧v=48)∨(b≠32∧b=v)):=by
 obtain⟨b,v,hb,hv,h⟩:=edS_at (V:=V) (i:=i) (by rw[hV.len];exact hi);refine⟨b,v,hb,hv,?_⟩;rcases h with rfl | h
 ·
  refine .inr ⟨?_,rfl⟩;rintro rfl;have:=isDig_le (List.all_eq_true.1 hV.dig 32 (Lm hv));exact absurd this.1 (by decide)
 exact .inl h
theorem curV_end{V:List UInt8}{ws:List (Nat × List UInt8)}(h:0<ws.length):∃p,ws[ws.length-1]?=some p∧Ws V ws ws.length=p.2:=by
 obtain⟨p,hp⟩:∃p,ws[ws.length-1]?=some p:=⟨_,Lg (by omega)⟩;refine⟨p,hp,?_⟩;obtain⟨j,hj⟩:∃j,ws.length=j+1:=⟨ws.length-1,by omega⟩;rw[hj,Nat.add_sub_cancel]at hp;rw[hj];show (ws[j]?.map (·.2)).getD V=_;rw[hp];rfl
theorem bytesR_S(l:List UInt8):byteRows (mkS l)=bR l:=by simp[byteRows,mkS,bR]
def SBo (x0:D):Xh:=⟨32,4,[[.str nmA,Br x0,.int .i64 ((1:Nat):Int),.int .i64 ((12:Nat):Int)]],0,0,false⟩
structure LawS (l:List FM) (lx x z:D) (V:List UInt8) (ou:D) (H:List Xh) (gs gB gl gk gm:Nat) (rows:List (List D)) (x0:D):Prop where
 fl:FL H gs x0 rows
 rw_:RW (Eh l) rows
 sb:H[gB]?=some (SBo x0)
 sl:H[gl]?=some (SLo (Br x0))
 dk:H[gk]?=some (DKo gl)
 st:H[gm]?=some (STo (.sl 1 (bR V) (some 6)) z ou gk)
 hx:(l=[]∧x=lx)∨∃gx,x=.msl gx 1 0 l.length none∧H[gx]?=some ⟨27,6,Cr (Eh l),1,2,true⟩
theorem LawS.keep{l:List FM}{lx x z z':D}{V V':List UInt8}{ou ou':D}{H H':List Xh}{gs gB gl gk gm:Nat}{rows:List (List D)}{x0:D}(h:LawS l lx x z V ou H gs gB gl gk gm rows x0)(hk:∀(k:Nat) (o:Xh),H[k]?=some o→o.elem≠63→o.elem≠72→H'[k]?=some o)(xH:H'[gm]?=some (STo (.sl 1 (bR V') (some 6)) z' ou' gk)):LawS l lx x z' V' ou' H' gs gB gl gk gm rows x0 where
 fl:=h.fl.keep2 fun o ho he=>hk _ _ ho (by rw[he];decide) (by rw[he];decide)
 rw_:=h.rw_
 sb:=hk _ _ h.sb (by show (32:Nat)≠63;decide) (by show (32:Nat)≠72;decide)
 sl:=hk _ _ h.sl (by show (32:Nat)≠63;decide) (by show (32:Nat)≠72;decide)
 dk:=hk _ _ h.dk (by show (106:Nat)≠63;decide) (by show (106:Nat)≠72;decide)
 st:=xH
 hx:=by
  rcases h.hx with hx | ⟨gx,h1,h2⟩
  ·
   exact .inl hx
  exact .inr ⟨gx,h1,hk _ _ h2 (by show (27:Nat)≠63;decide) (by show (27:Nat)≠72;decide)⟩
theorem LawS.more{l:List FM}{lx x z:D}{V:List UInt8}{ou:D}{H:List Xh}{gs gB gl gk gm:Nat}{rows:List (List D)}{x0:D}(h:LawS l lx x z V ou H gs gB gl gk gm rows x0)(m:List Xh):LawS l lx x z V ou (H++m) gs gB gl gk gm rows x0 :=
 h.keep (fun k o ho _ _=>by rw[Bj (Aj ho)];exact ho) (by rw[Bj (Aj h.st)];exact h.st)
theorem LawS.len{l:List FM}{lx x z:D}{V:List UInt8}{ou:D}{H:List Xh}{gs gB gl gk gm:Nat}{rows:List (List D)}{x0:D}(h:LawS l lx x z V ou H gs gB gl gk gm rows x0)(zi:SlD 6 (Cr l) lx):Hr false x=some (.int .i64 (l.length:Nat)):=by
 rcases h.hx with⟨rfl,rfl⟩ | ⟨gx,rfl,_⟩
 ·
  rw[zi.len,Gh]
 rfl
theorem LawS.at_{l:List FM}{lx x z:D}{V:List UInt8}{ou:D}{H:List Xh}{gs gB gl gk gm:Nat}{rows:List (List D)}{x0:D}(h:LawS l lx x z V ou H gs gB gl gk gm rows x0){i:Nat}(hi:i<l.length)(lo:Nat):∃A,Fe ⟨H,lo⟩ 6 x (.int .i64 (i:Nat))=some A∧G6 6 true ⟨H,lo⟩ A=some (.agg ((Eh l)[i]'(by rw[Dz];exact hi)).row):=by
 rcases h.hx with⟨rfl,_⟩ | ⟨gx,rfl,hg⟩
 ·
  exact absurd hi (by simp)
 have hi':i<(Eh l).length:=by rw[Dz];exact hi
 have hr:=Jc hi';have hl:(Cr (Eh l)).length=l.length:=by rw[Gh,Dz]
 refine⟨.ptr gx 1 i 0,?_,?_⟩
 ·
  simp[Fe,rowsOf,hg,hi]
 simp[G6,rowsOf,hg,hr,Ci,FM.row]
theorem LawS.snapx{l:List FM}{lx x z:D}{V:List UInt8}{ou:D}{H:List Xh}{gs gB gl gk gm:Nat}{rows:List (List D)}{x0:D}(vR:LawS l lx x z V ou H gs gB gl gk gm rows x0)(zi:SlD 6 (Cr l) lx)(t:List Xh):Xp (H++t).length (H++t) x=some x:=by
 rcases vR.hx with⟨rfl,rfl⟩ | ⟨gx,rfl,hg⟩
 ·
  exact zi.Xp _ _
 have xJ:=Aj hg;have hn:¬(H++t).length≤gx:=by rw[Ll_];omega
 rw[Md,Jm,Bj xJ,hg];simp;omega
theorem law_grid{d:Nat}(hd:20≤d){l:List FM}{lx x z:D}{V:List UInt8}{ou:D}{H:List Xh}{gs gB gl gk gm:Nat}{rows:List (List D)}{x0:D}(vR:LawS l lx x z V ou H gs gB gl gk gm rows x0)(zi:SlD 6 (Cr l) lx)(hV:D6 V)(zX:l.length≤8){S:St}{xp:D}(hA:AppS H 0 9 1 (Cx ((Eh l).map (plS V))) S xp):Ae LP NN d 13 [x,xp] S=some (.sl 1 (De (Ak (PV (Eh l) V)) 24) none,S,false):=by
 obtain⟨t,rfl⟩:∃t,S=⟨H++t,0⟩:=by
  rcases hA with⟨_,rfl,_⟩ | ⟨v,rfl,_⟩
  ·
   exact⟨[],by simp⟩
  exact⟨_,rfl⟩
 obtain⟨y,hyS,hys⟩:=hA.snap (H++t).length;have hx1:=vR.snapx zi t;rw[run_snap (args':=[x,y]) rfl (by simp only[Ah];rw[hx1,hys]) (by simp only[Ah];rw[hx1,hyS.Xp])];have hf:=PV_grid hV (Pz l);rcases vR.hx with⟨rfl,rfl⟩ | ⟨gx,rfl,hg⟩
 ·
  exact grid_run (by omega) _ (P:=PV (Eh []) V) zi hyS (by rw[U4];simp[Eh]) rfl hf
 have:=grid_runH (d:=d) (by omega) (P:=PV (Eh l) V) (H:=H++t) (g:=gx) (vs:=(Eh l).map (plS V)) (by rw[Bj (Aj hg),PV_fst];exact hg) hyS (by rw[U4,Dz];omega) (by rw[U4,List.length_map]) hf 0;rw[U4,Dz]at this;exact this
theorem ba_mkS(b:ByteArray):b=mkS b.data.toList:=by unfold mkS;simp
theorem pad_D6{ng:Bool}{e:List UInt8}(h:Nrm ng e):D6 (pad 6 (strip (Ei 6 e))):=by
 have hn:=Ul h (n:=6) (by omega);have hl:=Qu 6 e
 have hs:(strip (Ei 6 e)).length≤6:=by
  have:=(J8 (Ei 6 e) (by intro c;rw[c]at hl;cases hl)).1;omega
 have hd:(Ei 6 e).all Dw=true:=by
  simp only[Dq,Bool.and_eq_true]at hn;exact hn.2
 have hp:(pad 6 (strip (Ei 6 e))).length=6:=by rw[Jf];omega
 refine⟨hp,?_⟩
 have ha:(pad 6 (strip (Ei 6 e))).all Dw=true:=by
  unfold pad;rw[List.all_append,strip_dig _ hd,Bool.and_true,List.all_eq_true];intro c hc;rw[List.mem_replicate]at hc;rw[hc.2];rfl
 unfold Dq;rw[ha,Bool.and_true]
 cases hx:pad 6 (strip (Ei 6 e)) with
 | nil=>rw[hx]at hp;cases hp
 | cons a l=>rfl
theorem law_T(ls:List ByteArray)(h20:∀j (hj:j<ls.length),ls[j].size≤20):∃T:Nat→Nat→D × Bool,OkT T∧∀l0,Big l0→∀i j p (hi:i<l0.length) (hj:j<ls.length),3≤l0[i].kind→(∀d',26≤d'→∀S,Ae LP NN d' 45 [.agg (Gs l0[i] p),.str ls[j]] S=some (.tup [(T i j).1,.bool (T i j).2],S,false))∧∃ys,SlD 1 ys (T i j).1:=by
 have key:∀j:Nat,∃q:D × Bool,(q.2=true→∃W,D6 W∧q.1=edD W)∧∀hj:j<ls.length,(∀(a b c:Nat) (op:List (List D)) d,26≤d→∀S,Ae LP NN d 45 [.agg [.int .i64 (a:Nat),.int .i64 (b:Nat),.int .u8 (c:Nat),.X4,.int .u8 5,.int .u8 0,.str (Dp true 6),.int .i64 ((6:Nat):Int),.int .i64 0,.bool false,.bool false,.bool false,.bool false,.bool false,.int .i64 ((6:Nat):Int),.sl 5 op (some 1)],.str ls[j]] S=some (.tup [q.1,.bool q.2],S,false))∧∃ys,SlD 1 ys q.1:=by
  intro j;by_cases hj:j<ls.length
  ·
   have hb:ls[j]=mkS ls[j].data.toList:=ba_mkS _;obtain⟨x,ok,h1,h2,h3⟩:=typed_any (n:=6) (by omega) (by omega) ls[j].data.toList (by have:=h20 j hj;simp;exact Nat.le_trans this (by omega));rw[←hb]at h1;refine⟨(x,ok),fun e=>?_,fun _=>⟨h1,h2⟩⟩;obtain⟨ng,e',hN,yh,rfl⟩:=h3 e;exact⟨_,pad_D6 hN,rfl⟩
  exact⟨(.X4,false),fun e=>(by cases e),fun h=>absurd h hj⟩
 refine⟨fun _ j=>Classical.choose (key j),fun i j e=>(Classical.choose_spec (key j)).1 e,fun l0 hB i j p hi hj hk=>?_⟩;obtain⟨h1,h2⟩:=(Classical.choose_spec (key j)).2 hj;refine⟨fun d' hd S=>?_,h2⟩;obtain⟨hnu,xC⟩:=hB l0[i] (List.getElem_mem hi);obtain⟨tx,op,nu,r1,r2,hrf,kE,yR,y7,wW⟩:=Ke l0[i] p;obtain⟨rfl,rfl,rfl⟩:=wW (by omega);have hrx:Gs l0[i] p=[.int .i64 (l0[i].line:Nat),.int .i64 (l0[i].column:Nat),.int .u8 (l0[i].kind:Nat),.X4,.int .u8 5,.int .u8 0,.str (Dp true 6),.int .i64 ((6:Nat):Int),.int .i64 0,.bool false,.bool false,.bool false,.bool false,.bool false,.int .i64 ((6:Nat):Int),.sl 5 [tkR 1 ⟨#[78]⟩ p 12] (some 1)]:=by rw[hrf,xC,hnu];rfl
 rw[hrx];exact h1 _ _ _ _ d' hd S
theorem accF_out{T:Nat→Nat→D × Bool}{m:Nat}:∀{l:List FM} {i used:Nat} {out:List (Nat × D)} {r:Nat × List (Nat × D)},H7 T m l i used out=some r→r.2.length≤out.length+l.length
 | [],i,used,out,r,h=>by cases h;simp
 | f :: l, i, used, out, r, h => by
  unfold H7 at h;split at h
  ·
   have:=accF_out h;simp;omega
  split at h
  ·
   cases h
  have:=accF_out h;simp at this;simp;omega
theorem TL_nil(H:List Xh)(go:Nat):TL H go .X4 (Fp (Q6 [])):=.inl ⟨rfl,rfl⟩
theorem law_acc{d:Nat}(hd:40≤d){l:List FM}{lx x z:D}{V:List UInt8}{ou:D}{H:List Xh}{gs gB gl gk gm:Nat}{rows:List (List D)}{x0:D}(vR:LawS l lx x z V ou H gs gB gl gk gm rows x0){xl:D}{ls:List ByteArray}(hV:D6 V)(hz:SlD 1 (Cx ls) z)(wE:SlD 1 (Cx ls) xl)(zX:l.length≤8)(qZ:ls.length≤12)(h20:∀j (hj:j<ls.length),ls[j].size≤20){g22:Nat}{ro:Xh}(ho:H[g22]?=some ro)(hro:ro.elem=72) :
  ∃(y z3:D) (u go:Nat) (e:Int) (H3 H4:List Xh) (wr wr4:Bool) (ws:List (Nat × List UInt8)),Ae LP NN d 16 [.agg [.str nmA,Br x0,.int .i64 ((1:Nat):Int),.int .i64 ((12:Nat):Int)],xl] ⟨H,0⟩=some (.tup [y,.int .i64 (u:Nat),.int .i64 e],⟨H3,0⟩,wr)∧LawS l lx x z V ou H3 gs gB gl gk gm rows x0∧H3[g22]?=some ro∧Ae LP NN d 14 [.ptr gk 0 0 0,.ptr gm 0 0 0,saidD ⟨#[65,67,67,69,80,84]⟩ nmA,.int .i64 0] ⟨H3,0⟩=some (.agg [.bool true,.X4,.str ⟨#[]⟩,.bool false,.int .i64 e],⟨H4,0⟩,wr4)∧LawS l lx x z3 (Ws V ws ws.length) ou H4 gs gB gl gk gm rows x0∧H4[g22]?=some ro∧TL H4 go y (Fp (Q6 ws))∧Hr false z3=some (.int .i64 ((ls.length-u:Nat):Int))∧D6 (Ws V ws ws.length)∧u≤ls.length∧(e=0∨(e=7∧ws=[]))∧ws.length≤1000∧∀p∈ws,D6 p.2:=by
 obtain⟨T,hOk,hT0⟩:=law_T ls h20;have wD:=Dz l;have hT:=hT0 (Eh l) (Pz l);obtain⟨v,hS⟩:=vR.fl.src;obtain⟨r,hr,zC⟩:=Od (d:=d) (by omega) (T:=T) (lo:=0) hS vR.rw_ wE (by omega) (by omega) (fun i j p hi hj hk=>⟨fun d' e S=>(hT i j p hi hj hk).1 d' (by omega) S,(hT i j p hi hj hk).2⟩) nmA 1 12 (Nat.zero_le _)
 cases hacF:H7 T ls.length (Eh l) 0 0 [] with
 | none =>
  rw[hacF]at hr;simp only[AccR]at hr;subst hr;have hdo:=doAccN (d:=d) (by omega) hV vR.st vR.fl vR.rw_ (Pz l) (by omega) hz (by omega) hT vR.dk vR.sl hacF 0;exact⟨.X4,z,0,0,7,H,H,false,false,[],zC,vR,ho,hdo,vR,ho,TL_nil _ _,by rw[hz.len,Fg];rfl,hV,Nat.zero_le _,.inr ⟨rfl,rfl⟩,by simp,fun p hp=>by cases hp⟩
 | some uo =>
  obtain⟨u,o⟩:=uo;obtain⟨ws,rfl,qW⟩:=accF_ws hOk (l0:=Eh l) (l:=Eh l) (by simp) ⟨[],rfl,fun p hp=>by cases hp⟩ hacF
  have hwl:ws.length≤1000:=by
   have:=accF_out hacF;rw[O9]at this;simp at this;omega
  rw[hacF]at hr;simp only[AccR]at hr;obtain⟨y,H3,go,wr,rfl,hTL,hHl,hHk,hu⟩:=hr;have hL3:LawS l lx x z V ou H3 gs gB gl gk gm rows x0:=vR.keep (fun k o ho _ _=>(hHk k (Aj ho)).trans ho) ((hHk gm (Aj vR.st)).trans vR.st);have ho3:=(hHk g22 (Aj ho)).trans ho;obtain⟨r,⟨H4,rfl,h1,h2,h3⟩,hdo⟩:=doAccS (d:=d) (by omega) hV hL3.st hL3.fl hL3.rw_ (Pz l) (by omega) hz (by omega) hT hL3.dk hL3.sl hacF qW hwl 0;rw[Nat.zero_min]at hdo;have hu':u≤ls.length:=accF_u hacF
  have xA:∀(k:Nat) (o:Xh),H3[k]?=some o→o.elem≠63→k≠gm:=fun k o ho he=>by
   rintro rfl;rw[hL3.st]at ho;cases ho;exact he rfl
  refine⟨y,Cu u z,u,go,0,H3,H4,wr,true,ws,zC,hL3,ho3,hdo,hL3.keep (fun k o ho he _=>(h2 k (Aj ho) (xA k o ho he)).trans ho) h3,(h2 g22 (Aj ho3) (xA _ _ ho3 (by rw[hro];decide))).trans ho3,hTL.keep2 fun o ho he=>(h2 go (Aj ho) (xA _ _ ho (by rw[he];decide))).trans ho,?_,curV_D6 hV qW _,hu',.inl rfl,hwl,fun p hp=>(qW p hp).1⟩;rw[(hz.drop u).len,List.length_drop,Fg]
theorem lawD_run{d:Nat}(hd:60≤d)(S:St){l:List FM}{nn:Nat}{ls:List ByteArray}{lx xl:D}(zi:SlD 6 (Cr l) lx)(wE:SlD 1 (Cx ls) xl)(hnn:nn<4294967296):Ae LP NN d 3 [lx,.int .u32 (nn:Nat),xl] S=some (.bool true,S,false):=by
 have zz:=aI zi.len (aI wE.len (aI @Fg (aI @Gh (aI @Bd (aI @Bf (aI @Cb (aI @Ca (aI zi.Xp (aI zi.Xq (aI wE.Xp wE.Xq))))))))));refine rpz (hb:=?_);rintro d rfl;refine g12 (q:=Fy 0 (h:=fun hg=>?_) (k:=fun hg=>?_))
 ·
  refine g9 (q:=Aa (by simp only[zo,zz];exact Qp (by omega) _) (g5 (q:=?_)));exact fq (h:=rfl)
 refine g9 (q:=Bz (ht:=fun hcF=>?_) (hf:=fun hcF=>?_))
 ·
  refine g2 (q:=Aa (by simp only[zo,zz];exact Qp (by omega) _) (g5 (q:=?_)));exact fq (h:=rfl)
 have zX:l.length≤8:=by have:=of_decide_eq_false hg;omega
 have qZ:ls.length≤12:=by have:=of_decide_eq_false hcF;omega
 refine g9 (q:=Bq (fun n env S'=>∃(i:Nat) (u38 u39 u40:D),i≤ls.length∧n=ls.length-i∧S'=⟨[],0⟩∧env=[lx,.int .u32 (nn:Nat),xl,.bool false,.int .i64 (i:Nat),.undef,.undef,.undef,.undef,.undef,.undef,.undef,.undef,.undef,.undef,.undef,.undef,.undef,.undef,.undef,.undef,.undef,.undef,.undef,.undef,.undef,.undef,.undef,.undef,.undef,.undef,.undef,.undef,.undef,.undef,.undef,.undef,.undef,u38,u39,u40,.undef,.undef,.undef,.undef,.undef,.undef,.undef,.undef,.undef,.undef,.undef,.undef,.undef,.undef]∧∀j (hj:j<ls.length),j<i→ls[j].size≤20) (ls.length) (by omega) (⟨0,_,_,_,by omega,by omega,rfl,rfl,fun j hj h=>absurd h (by omega)⟩) ?_);rintro n env S' ⟨i,u38,u39,u40,hi,kL,rfl,rfl,xw⟩;refine g9 (q:=Bz (ht:=fun hcFFA=>?_) (hf:=fun hcFFA=>?_))
 ·
  have xq:i<ls.length:=by have:=of_decide_eq_true hcFFA;omega
  have vK:=Bu i (by omega);have yD:=fun (S:St)=>wE.iaddrN S .i64 (Iz xq);have zz:=aI vK (aI yD zz);refine g14 (q:=Bz (ht:=fun hcFFAT=>?_) (hf:=fun hcFFAT=>?_))
  ·
   refine g2 (q:=Aa (by simp only[zo,zz];exact Qp (by omega) _) (g9 (q:=?_)));exact fq (h:=rfl)
  have yS:ls[i].size≤20:=by have:=of_decide_eq_false hcFFAT;omega
  refine g9 (q:=?_)
  exact⟨ls.length-(i+1),by omega,i+1,_,_,_,by omega,rfl,rfl,rfl,fun j hj hji=>by
   by_cases e:j=i
   ·
    subst e;exact yS
   exact xw j hj (by omega)⟩
 have hi':i=ls.length:=by have:=of_decide_eq_false hcFFA;omega
 subst hi';refine g12 (q:=Bq (fun n env S'=>∃(i:Nat) (Hp:List Xh) (x u38 u39 u40 u41:D),i≤l.length∧n=l.length-i∧S'=⟨Hp,0⟩∧env=[x,.int .u32 (nn:Nat),xl,.bool false,.int .i64 (ls.length:Nat),.int .i64 (i:Nat),.undef,.undef,.undef,.undef,.undef,.undef,.undef,.undef,.undef,.undef,.undef,.undef,.undef,.undef,.undef,.undef,.undef,.undef,.undef,.undef,.undef,.undef,.undef,.undef,.undef,.undef,.undef,.undef,.undef,.undef,.undef,.undef,u38,u39,u40,u41,.undef,.undef,.undef,.undef,.undef,.undef,.undef,.undef,.undef,.undef,.undef,.undef,.undef]∧Hp.length=i∧((i=0∧x=lx)∨(0<i∧x=.msl (i-1) 1 0 l.length none∧Hp[i-1]?=some ⟨27,6,Cr (Mr l i),1,2,true⟩))) (l.length) (by omega) (⟨0,[],lx,_,_,_,_,by omega,by omega,rfl,rfl,rfl,.inl ⟨rfl,rfl⟩⟩) ?_);rintro n env S' ⟨i,Hp,x,u38,u39,u40,u41,hi,kL,rfl,rfl,wV,hx⟩
 have hxlen:Hr false x=some (.int .i64 (l.length:Nat)):=by
  rcases hx with⟨-,rfl⟩ | ⟨-,rfl,-⟩
  ·
   rw[zi.len,Gh]
  rfl
 have zz:=aI hxlen zz;refine g9 (q:=Bz (ht:=fun qO=>?_) (hf:=fun qO=>?_))
 ·
  have xq:i<l.length:=by have:=of_decide_eq_true qO;rw[wV]at *;omega
  have vK:=Bu i (by omega);have hi0:(0:Int)≤(i:Int):=by omega
  have wO:(i:Int)<(l.length:Int):=by omega
  have zV:=modL_len (l:=l) (i:=i) hi;have rz:=Gh (Mr l i);rw[zV]at rz
  have yT:∀call:Aq,Al call (.append 27 6 6 2) [.msl Hp.length 0 0 0 none,x] ⟨Hp++[⟨27,6,[],0,2,false⟩],0⟩=some (.msl Hp.length 1 0 l.length none,⟨Hp++[⟨27,6,Cr (Mr l i),1,2,true⟩],0⟩,true):=fun call=>by
   have hr:Bw ⟨Hp++[⟨27,6,[],0,2,false⟩],0⟩ 6 x=some (Cr (Mr l i)):=by
    rcases hx with⟨rfl,rfl⟩ | ⟨h0,rfl,hg⟩
    ·
     rw[modL_0];exact zi.read _
    simp[Bw,rowsOf,Bj (Aj hg),hg];exact List.take_of_length_le (by rw[rz];exact Nat.le_refl _)
   have hb:l.length*6≤140737488355328:=by omega
   simp[Al,aop,LOp.loud,lop,Bo,hr,Av,rowsOf,setAt,rz,hb]
  have xO:=modR_at xq;have qY:∀r:List D,((Cr (Mr l i)).set i r)[i]?=some r:=fun r=>List.getElem?_set_self (by rw[rz];exact xq);have yI:∀r:List D,((Cr (Mr l i)).set i r).length=l.length:=fun r=>by rw[List.length_set,rz]
  have zz:=aI vK (aI hi0 (aI wO (aI xO (aI qY (aI yI (aI rz (aI @FM.row.eq_1 (aI @Int.toNat_natCast (aI @List.set_set.{0} (aI @Nat.zero_min zz))))))))));refine g8 (q:=Aa (by simp only[opd,zv];exact yT _) (g27 (q:=?_)));exact⟨l.length-(i+1),by omega,i+1,_,_,_,_,_,_,by omega,rfl,rfl,rfl,by simp[wV],.inr ⟨by omega,by rw[Nat.add_sub_cancel,←wV],by rw[Nat.add_sub_cancel];subst wV;rw[Bf,←modR_set xq];rfl⟩⟩
 have hi':i=l.length:=by have:=of_decide_eq_false qO;omega
 have hall20:∀j (hj:j<ls.length),ls[j].size≤20:=fun j hj=>xw j hj hj;have wD:=Dz l
 have hxx:(l=[]∧x=lx)∨∃gx,x=.msl gx 1 0 l.length none∧Hp[gx]?=some ⟨27,6,Cr (Eh l),1,2,true⟩:=by
  rcases hx with⟨h1,h2⟩ | ⟨h1,h2,h3⟩
  ·
   exact .inl ⟨List.length_eq_zero_iff.1 (by omega),h2⟩
  rw[hi',modL_all]at h3;exact .inr ⟨i-1,h2,by rw[hi'];exact h3⟩
 obtain⟨H',x0,gs,rows,wr,hof,hHl,hHk,hFL,hRW⟩:∃H' x0 gs rows wr,Ae LP NN d 5 [x] ⟨Hp,0⟩=some (.tup [.agg [.str nmA,Br x0,.int .i64 ((1:Nat):Int),.int .i64 ((12:Nat):Int)],.bool true],⟨H',0⟩,wr)∧Hp.length≤H'.length∧(∀k,k<Hp.length→H'[k]?=Hp[k]?)∧FL H' gs x0 rows∧RW (Eh l) rows:=by
  rcases hxx with⟨h1,h2⟩ | ⟨gx,h2,h3⟩
  ·
   subst h1 h2;obtain⟨H',x0,gs,rows,wr,h1,h2,h3,h4,h5,_⟩:=of_run (d:=d) (by omega) Hp 0 (Nat.zero_le _) (l:=[]) zi (by simp);exact⟨H',x0,gs,rows,wr,h1,h2,h3,h4,h5⟩
  obtain⟨H',x0,gs,rows,wr,h1,h4,h5,h6,h7,_⟩:=of_runH (d:=d) (by omega) Hp 0 (Nat.zero_le _) h3 (by omega);rw[wD]at h1;exact⟨H',x0,gs,rows,wr,by rw[h2];exact h1,h4,h5,h6,h7⟩
 obtain⟨v0,hS0⟩:=hFL.src;have hcv1:=hFL.clip_val.1;have hcv2:=hFL.clip_val.2;have xk:=hS0.cell
 have vP:Dl [[.str ⟨#[]⟩,.X4,.int .i64 0,.int .i64 0]] 4 [0] [.agg [.str nmA,Br x0,.int .i64 ((1:Nat):Int),.int .i64 ((12:Nat):Int)]]=some [[.str nmA,Br x0,.int .i64 ((1:Nat):Int),.int .i64 ((12:Nat):Int)]]:=by
  simp[Dl,D.val,D.cells,xk,Kt,Ro]
 have hdesk:=snew_desk (d:=d) (by omega) (H:=H'++[(SBo x0),⟨37,2,[[layS,.int .i64 6]],0,0,false⟩,⟨40,3,[[.int .i64 0,.int .i64 0,.int .i64 0]],0,0,false⟩,(SBo x0)]) (ga:=H'.length+3) (xa:=Br x0) (by rw[Bd];rfl) 0;simp only[Lo_,List.cons_append,List.nil_append,Ll_,List.length_cons,List.length_nil,Nat.add_assoc,Nat.reduceAdd,Nat.zero_min,Nat.zero_add]at hdesk;obtain⟨z,hz,hmach⟩:=mnew_run (d:=d) (by omega) wE (by rw[Fg];omega) (H'++[(SBo x0),⟨37,2,[[layS,.int .i64 6]],0,0,false⟩,⟨40,3,[[.int .i64 0,.int .i64 0,.int .i64 0]],0,0,false⟩,(SBo x0),SLo (Br x0),DKo (H'.length+4)]) (H'.length+5) 0;simp only[Lo_,List.cons_append,List.nil_append,Ll_,List.length_cons,List.length_nil,Nat.add_assoc,Nat.reduceAdd,Nat.zero_min,Nat.zero_add]at hmach;obtain⟨m,hm⟩:∃m,m=nn % 1000000:=⟨_,rfl⟩;have hm6:m<1000000:=by omega
 have hV:=sixL_D6 hm6;obtain⟨V,hVe⟩:∃V,V=sixL m:=⟨_,rfl⟩;rw[←hVe]at hV;have hrem:((nn:Nat):Int).tmod 1000000=((m:Nat):Int):=by rw[hm];exact tmod_nat nn 1000000
 have hne0:((1000000:Int)=0)=False:=eq_false (by decide);have hcv:IntKind.i64.wrap ((m:Nat):Int)=((m:Nat):Int):=by rw[IntKind.wrap_i64];omega
 have hdig:=fun S:St=>decN_run 5 m (by omega) (by omega) d S (by omega);have hdl:=decL_len 5 m (by omega)
 have xD:∀S:St,Option.map (fun r=>(r,S,false)) (Ec .add (.str ⟨#[48,48,48,48,48,48]⟩) (.str (mkS (decL m))))=some (.str (mkS (List.replicate 6 48++decL m)),S,false):=fun S=>by
  have:=sadd (List.replicate 6 48) (decL m) (by simp;omega);rw[show (⟨#[48,48,48,48,48,48]⟩:ByteArray)=mkS (List.replicate 6 48) from rfl,this];rfl
 have xC:(List.replicate 6 (48:UInt8)++decL m).length=6+(decL m).length:=by simp;omega
 have qW:IntKind.i64.wrap (((List.replicate 6 (48:UInt8)++decL m).length:Nat)-6:Int)=(((decL m).length:Nat):Int):=by rw[xC,IntKind.wrap_i64];omega
 have hpop:pop (.slice true 0 true false false) [.str (mkS (List.replicate 6 48++decL m)),.int .i64 (((decL m).length:Nat):Int)]=some (.str (mkS V)):=by
  rw[Du _ _ (decL m).length _ rfl (by omega),hVe];rfl
 have hbr:=bytesR_S V;have hput:=fun S:St=>put6V (d:=d) (by omega) S (V:=List.replicate 6 48) (W:=V) rfl hV.len none;have xW:=fun S:St=>fitted_N (d:=d) (by omega) S fmX rfl (l:=V) (by rw[hV.len];omega);rw[show fmX.size=6 from rfl,fit_V hV]at xW;simp only[fmX_row,fitD]at xW;have zz:=aI vP (aI xk (aI hcv1 (aI hcv2 (aI @Ad (aI hrem (aI hne0 (aI hcv (aI qW (aI hbr (aI @STo.eq_1 (aI @SBo.eq_1 (aI @List.append_assoc.{0} zz))))))))))));refine g8 (q:=Aa (by simp only[zo,zz,Nat.reduceAdd];exact hof) (g12 (q:=Aa (by simp only[zo,zz,Nat.reduceAdd];exact build_run (by omega) _) (g15 (q:=Dh 0 (b:=false) (by simp only[opd,zv,zz,Nat.reduceAdd]<;>rfl) (by simp only[zn]<;>exact rfl) (g9 (q:=Au (by simp only[opd,zv,zz,Nat.reduceAdd]<;>(first | rfl | simp)) (g8 (q:=Aa (by simp only[zo,zz,Nat.reduceAdd];exact hdesk) (g9 (q:=Aa (by simp only[zo,zz,Nat.reduceAdd];exact hmach) (g14 (q:=Au (by simp only[opd,zv,zz,Nat.reduceAdd]<;>(first | rfl | simp)) (g7 (q:=Aa (by simp only[zo,zz,Nat.reduceAdd];exact hdig _) (Aa (by simp only[opd,zv,Al,aop,LOp.loud,pop,if_false,Bool.false_eq_true];exact xD _) (g9 (q:=Aa (by simp only[opd,zv,Al,aop,LOp.loud,Bool.false_eq_true,if_false];rw[hpop];exact rfl) (g12 (q:=Aa (by simp only[zo,zz,Nat.reduceAdd];exact hput _) (g14 (q:=Au (by simp only[opd,zv,zz,Nat.reduceAdd]<;>(first | rfl | simp)) (g11 (q:=Ry (fun env S'=>∃(Hm:List Xh) (gB gl gk gm:Nat) (u4 u5 u7 u8 u9 u12 u14 u15 u38 u39 u40 u41 u42 u43 u44:D),S'=⟨Hm,0⟩∧env=[x,.int .u32 (nn:Nat),xl,.bool false,u4,u5,.ptr gB 0 0 0,u7,u8,u9,.ptr gk 0 0 0,.ptr gm 0 0 0,u12,.str (mkS V),u14,u15,.str (mkS (edS V)),.undef,.undef,.undef,.undef,.undef,.undef,.undef,.undef,.undef,.undef,.undef,.undef,.undef,.undef,.undef,.undef,.undef,.undef,.undef,.undef,.undef,u38,u39,u40,u41,u42,u43,u44,.undef,.undef,.undef,.undef,.undef,.undef,.undef,.undef,.undef,.undef]∧LawS l lx x z V .X4 Hm gs gB gl gk gm rows x0) ?_ ?_))))))))))))))))))))))))
 ·
  refine g3 (q:=Aa (by simp only[zo,zz,Nat.reduceAdd];exact xW _) (g6 (q:=U2 (by simp only[ze]<;>exact rfl) ?_)))
  exact⟨H'++[(SBo x0),⟨37,2,[[layS,.int .i64 6]],0,0,false⟩,⟨40,3,[[.int .i64 0,.int .i64 0,.int .i64 0]],0,0,false⟩,(SBo x0),SLo (Br x0),DKo (H'.length+4),⟨37,2,[[layS,.int .i64 6]],0,0,false⟩,STo (.sl 1 (bR V) (some 6)) z .X4 (H'.length+5)],H'.length,H'.length+4,H'.length+5,H'.length+7,_,_,_,_,_,_,_,_,_,_,_,_,_,_,_,rfl,rfl,{
   fl:=hFL.keep2 fun o ho he=>by rw[Bj (Aj ho)];exact ho
   rw_:=hRW
   sb:=Bf _ _
   sl:=Bd _ _ 4
   dk:=Bd _ _ 5
   st:=Bd _ _ 7
   hx:=by
    rcases hxx with h | ⟨gx,h1,h2⟩
    ·
     exact .inl h
    refine .inr ⟨gx,h1,?_⟩;have:=Aj h2
    rw[Bj (by omega),hHk _ this];exact h2 }⟩
 rintro env S' ⟨Hm,gB,gl,gk,gm,u4,u5,u7,u8,u9,u12,u14,u15,u38,u39,u40,u41,u42,u43,u44,rfl,rfl,vR⟩;have hxlen2:=vR.len zi;have zz:=aI hxlen2 zz;refine g12 (q:=Bq (fun n env S'=>∃(i:Nat) (xp u19 u45 u46:D),i≤l.length∧n=l.length-i∧env=[x,.int .u32 (nn:Nat),xl,.bool false,u4,u5,.ptr gB 0 0 0,u7,u8,u9,.ptr gk 0 0 0,.ptr gm 0 0 0,u12,.str (mkS V),u14,u15,.str (mkS (edS V)),xp,.int .i64 (i:Nat),u19,.undef,.undef,.undef,.undef,.undef,.undef,.undef,.undef,.undef,.undef,.undef,.undef,.undef,.undef,.undef,.undef,.undef,.undef,u38,u39,u40,u41,u42,u43,u44,u45,u46,.undef,.undef,.undef,.undef,.undef,.undef,.undef,.undef]∧AppS Hm 0 9 1 (Cx (plL V (Eh l) i)) S' xp) (l.length) (by omega) (⟨0,.X4,_,_,_,by omega,by omega,rfl,AppS.nil Hm 0 9 1⟩) ?_);rintro n env S' ⟨i,xp,u19,u45,u46,hi,kL,rfl,hA⟩
 obtain⟨t,rfl⟩:∃t,S'=⟨Hm++t,0⟩:=by
  rcases hA with⟨_,rfl,_⟩ | ⟨v,rfl,_⟩
  ·
   exact⟨[],by simp⟩
  exact⟨_,rfl⟩
 refine g9 (q:=He (by simp only[opd,zv,zz,Nat.reduceAdd]<;>exact rfl) (fun wI=>?_) (fun wI=>?_))
 ·
  have xq:i<l.length:=by have:=of_decide_eq_true wI;omega
  have vK:=Bu i (by omega);obtain⟨A,yD,wT⟩:=(vR.more t).at_ xq 0;obtain⟨fi,hfi⟩:∃f,f=(Eh l)[i]'(by rw[Dz];exact xq):=⟨_,rfl⟩;rw[←hfi]at wT;obtain⟨x',S1,yT,hA'⟩:=hA.app (Nat.zero_le _) 16 (new:=[[.str (plS V fi)]]) (c:=some 1) rfl (by rw[Fg,plL_len (by rw[Dz];omega)];simp;omega);rw[hfi]at hA';have hkr:=fun S:St=>Ik (d:=d) (by omega) S fi;have zz:=aI vK (aI yD (aI wT zz));by_cases xK:fi.kind=3
  ·
   have e3:(((fi.kind:Nat):Int)==3)=true:=by rw[beq_iff_eq];omega
   have wV:plS V fi=⟨#[32,32,32,32,32,32]⟩:=by unfold plS;rw[if_pos xK];rfl
   rw[wV]at yT;have zz:=aI e3 zz;refine g17 (q:=Aa (by simp only[zo,zz,Nat.reduceAdd];exact hkr _) (g3 (q:=Dn (by simp only[opd,zv,zz,Nat.reduceAdd]<;>(first | rfl | simp)) (g8 (q:=Aa (by simp only[Al,aop,LOp.loud,lop,if_true,opd,zv];exact yT) (g10 (q:=?_)))))));exact⟨l.length-(i+1),by omega,i+1,_,_,_,_,by omega,rfl,rfl,by rw[plL_succ (by rw[Dz];exact xq)];exact hA'⟩
  have e3:(((fi.kind:Nat):Int)==3)=false:=by rw[beq_eq_false_iff_ne];omega
  have wV:plS V fi=mkS (edS V):=by unfold plS;rw[if_neg xK]
  rw[wV]at yT;have zz:=aI e3 zz;refine g17 (q:=Aa (by simp only[zo,zz,Nat.reduceAdd];exact hkr _) (g3 (q:=Au (by simp only[opd,zv,zz,Nat.reduceAdd]<;>(first | rfl | simp)) (g6 (q:=Aa (by simp only[Al,aop,LOp.loud,lop,if_true,opd,zv];exact yT) (g10 (q:=?_)))))));exact⟨l.length-(i+1),by omega,i+1,_,_,_,_,by omega,rfl,rfl,by rw[plL_succ (by rw[Dz];exact xq)];exact hA'⟩
 have hi':i=l.length:=by have:=of_decide_eq_false wI;omega
 subst hi';rw[←Dz l,plL_all]at hA;have hgrid:=law_grid (d:=d) (by omega) vR zi hV zX hA;have hL1:=vR.more t;clear hA;generalize Hm++t=Hq at hL1 hgrid ⊢;refine g9 (q:=Aa (by simp only[zo,zz,Nat.reduceAdd];exact hgrid) (g8 (q:=Ry (fun env S'=>∃(k:Nat) (w45 w47:D),S'=⟨Hq,0⟩∧env=[x,.int .u32 (nn:Nat),xl,.bool false,u4,u5,.ptr gB 0 0 0,u7,u8,u9,.ptr gk 0 0 0,.ptr gm 0 0 0,u12,.str (mkS V),u14,u15,.str (mkS (edS V)),xp,.int .i64 (l.length:Nat),u19,.sl 1 (De (Ak (PV (Eh l) V)) 24) none,.int .i64 (k:Nat),.undef,.undef,.undef,.undef,.undef,.undef,.undef,.undef,.undef,.undef,.undef,.undef,.undef,.undef,.undef,.undef,u38,u39,u40,u41,u42,u43,u44,w45,u46,w47,.undef,.undef,.undef,.undef,.undef,.undef,.undef]∧k≤24∧Hf (Ak (PV (Eh l) V)) 24=k) ?_ ?_)))
 ·
  refine g1 (q:=Bq (fun n env S'=>∃(k:Nat) (u47:D),k≤24∧n=k∧S'=⟨Hq,0⟩∧env=[x,.int .u32 (nn:Nat),xl,.bool false,u4,u5,.ptr gB 0 0 0,u7,u8,u9,.ptr gk 0 0 0,.ptr gm 0 0 0,u12,.str (mkS V),u14,u15,.str (mkS (edS V)),xp,.int .i64 (l.length:Nat),u19,.sl 1 (De (Ak (PV (Eh l) V)) 24) none,.int .i64 (k:Nat),.undef,.undef,.undef,.undef,.undef,.undef,.undef,.undef,.undef,.undef,.undef,.undef,.undef,.undef,.undef,.undef,u38,u39,u40,u41,u42,u43,u44,.bool (decide (((l.length:Nat):Int)<((l.length:Nat):Int))),u46,u47,.undef,.undef,.undef,.undef,.undef,.undef,.undef]∧Hf (Ak (PV (Eh l) V)) 24=Hf (Ak (PV (Eh l) V)) k) (24) (by omega) (⟨24,_,by omega,rfl,rfl,rfl,rfl⟩) ?_);rintro n env S' ⟨k,u47,hk,hnk2,rfl,rfl,uU⟩;refine g6 (q:=Fy 0 (h:=fun zJ=>?_) (k:=fun zJ=>?_))
  ·
   have vO:0<k:=by have:=of_decide_eq_true zJ;omega
   have kC:IntKind.i64.wrap (((k:Nat):Int)-1)=((k-1:Nat):Int):=by rw[IntKind.wrap_i64];omega
   have hka:=fun S:St=>(SlD.of 1 (De (Ak (PV (Eh l) V)) 24) none).iaddrN S .i64 ((Hz (G:=(Ak (PV (Eh l) V))) (i:=24) (r:=k-1) (by omega)).trans (by rw[if_pos (by omega)]));have zz:=aI kC (aI hka zz);refine g15 (q:=He (by simp only[opd,zv,zz,Nat.reduceAdd]<;>exact rfl) (fun zB=>?_) (fun zB=>?_))
   ·
    have hem:empS (trS (Ak (PV (Eh l) V)) (k-1))=true:=zB
    have kN:Hf (Ak (PV (Eh l) V)) 24=Hf (Ak (PV (Eh l) V)) (k-1):=by
     rw[uU];obtain⟨j,rfl⟩:∃j,k=j+1:=⟨k-1,by omega⟩;rw[Hf,Nat.add_sub_cancel]at *;rw[if_pos hem]
    refine g10 (q:=?_);exact⟨k-1,by omega,k-1,_,by omega,rfl,rfl,rfl,kN⟩
   have qL:Hf (Ak (PV (Eh l) V)) 24=k:=by
    rw[uU];obtain⟨j,rfl⟩:∃j,k=j+1:=⟨k-1,by omega⟩;rw[Hf,if_neg];have h:empS (trS (Ak (PV (Eh l) V)) j)=false:=zB;rw[h];exact Bool.false_ne_true
   refine g4 (q:=U2 rfl ?_);exact⟨k,_,_,rfl,rfl,hk,qL⟩
  have vO:k=0:=by have:=of_decide_eq_false zJ;omega
  have qL:Hf (Ak (PV (Eh l) V)) 24=k:=by rw[uU,vO];rfl
  refine g9 (q:=Au (by simp only[opd,zv,zz,Nat.reduceAdd]) (g4 (q:=U2 rfl ?_)));exact⟨k,_,_,rfl,rfl,hk,qL⟩
 rintro env S' ⟨k,w45,w47,rfl,rfl,hk,qL⟩;obtain⟨r1,⟨l',ou',rfl,hou⟩,hdo⟩:=doDisp (d:=d) (by omega) hV hL1.st hL1.fl hL1.rw_ (Pz l) (by rw[Dz];omega) hL1.dk hL1.sl 0;rw[Nat.zero_min]at hdo;rw[qL]at hou;have qm:=fun (S:St) (v n:ByteArray)=>said_run (d:=d) (by omega) S v n;have hgm:=Aj hL1.st;have zz:=aI @at_S (aI @Tv (aI @set_S (aI @Re zz)));refine Ry (fun env S'=>∃(H2:List Xh) (g22:Nat) (w17 w45 w47:D),S'=⟨H2,0⟩∧env=[x,.int .u32 (nn:Nat),xl,.bool false,u4,u5,.ptr gB 0 0 0,u7,u8,u9,.ptr gk 0 0 0,.ptr gm 0 0 0,u12,.str (mkS V),u14,u15,.str (mkS (edS V)),w17,.int .i64 (l.length:Nat),u19,.sl 1 (De (Ak (PV (Eh l) V)) 24) none,.int .i64 (k:Nat),.ptr g22 0 0 0,.undef,.undef,.undef,.undef,.undef,.undef,.undef,.undef,.undef,.undef,.undef,.undef,.undef,.undef,.undef,u38,u39,u40,u41,u42,u43,u44,w45,u46,w47,.undef,.undef,.undef,.undef,.undef,.undef,.undef]∧LawS l lx x z V ou' H2 gs gB gl gk gm rows x0∧H2[g22]?=some ⟨72,5,[[.bool true,.X4,.str ⟨#[]⟩,.bool false,.int .i64 0]],0,0,false⟩∧((ou'=.X4∧Cs (Ak (PV (Eh l) V)) k=[])∨∃q,ou'=.msl q 0 0 (Cs (Ak (PV (Eh l) V)) k).length none∧H2[q]?=some ⟨9,1,Cs (Ak (PV (Eh l) V)) k,0,1,true⟩)) ?_ ?_
 ·
  refine g3 (q:=Aa (by simp only[zo,zz,Nat.reduceAdd];exact qm _ _ _) (Aa (by simp only[zo,zz,Nat.reduceAdd];exact hdo) (g3 (q:=U2 (by simp only[ze]<;>exact rfl) ?_))))
  exact⟨Hq.set gm (STo (.sl 1 (bR V) (some 6)) z ou' gk)++(l'++[⟨72,5,[[.bool true,.X4,.str ⟨#[]⟩,.bool false,.int .i64 0]],0,0,false⟩]),Hq.length+l'.length,_,_,_,by first | rfl | simp,rfl,hL1.keep (fun k o ho he _=>by
    rw[La_ (by rw[List.length_set];exact Aj ho),Ln_ ?_]
    ·
     exact ho
    ·
     rintro rfl;rw[hL1.st]at ho;cases ho
     exact he rfl) (by rw[La_ (by rw[List.length_set];exact hgm),List.getElem?_set_self hgm]),by
    have:=at_S Hq (l'++[(⟨72,5,[[.bool true,.X4,.str ⟨#[]⟩,.bool false,.int .i64 0]],0,0,false⟩:Xh)]) gm l'.length (STo (.sl 1 (bR V) (some 6)) z ou' gk)
    rw[this];simp,by
    rcases hou with h | ⟨q,h1,h2⟩
    ·
     exact .inl h
    refine .inr ⟨Hq.length+q,h1,?_⟩
    rw[at_S,Bj (Aj h2)];exact h2⟩
 rintro env S' ⟨H2,g22,w17,w45,w47,rfl,rfl,hL2,ho2,hoq⟩;have yO:k≤24:=hk;have zy:=Gp (G:=(Ak (PV (Eh l) V))) yO
 have holen:Hr false ou'=some (.int .i64 (k:Nat)):=by
  rcases hoq with⟨h1,h2⟩ | ⟨q,h1,_⟩
  ·
   have:=congrArg List.length h2;rw[zy]at this;rw[h1,show k=0 from this];rfl
  rw[h1,zy];rfl
 have wF:=hL2.st;have zz:=aI holen (aI ho2 (aI wF (aI @STo.eq_1 (aI @bne_self_eq_false.{0} zz))));refine g7 (q:=Dh 0 (b:=false) (by simp only[opd,zv,zz,Nat.reduceAdd]<;>rfl) (by simp only[zn]<;>exact rfl) (g8 (q:=Dh 0 (b:=false) (by simp only[opd,zv,zz,Nat.reduceAdd]<;>rfl) (by simp only[zn]<;>exact rfl) (g17 (q:=Au (by simp only[opd,zv,zz,Nat.reduceAdd]<;>(first | rfl | simp)) (g9 (q:=Bq (fun n env S'=>∃(i:Nat) (w48 w49 w50:D),i≤k∧n=k-i∧S'=⟨H2,0⟩∧env=[x,.int .u32 (nn:Nat),xl,.bool false,u4,u5,.ptr gB 0 0 0,u7,u8,u9,.ptr gk 0 0 0,.ptr gm 0 0 0,u12,.str (mkS V),u14,u15,.str (mkS (edS V)),w17,.int .i64 (l.length:Nat),u19,.sl 1 (De (Ak (PV (Eh l) V)) 24) none,.int .i64 (k:Nat),.ptr g22 0 0 0,.int .i64 (i:Nat),.undef,.undef,.undef,.undef,.undef,.undef,.undef,.undef,.undef,.undef,.undef,.undef,.undef,.undef,u38,u39,u40,u41,u42,u43,u44,w45,u46,w47,w48,w49,w50,.undef,.undef,.undef,.undef]) (k) (by omega) (⟨0,_,_,_,by omega,by omega,rfl,rfl⟩) ?_)))))));rintro n env S' ⟨i,w48,w49,w50,hi,hnk3,rfl,rfl⟩;refine g8 (q:=He (by simp only[opd,zv,zz,Nat.reduceAdd]<;>exact rfl) (fun z8=>?_) (fun z8=>?_))
 ·
  have xq:i<k:=by have:=of_decide_eq_true z8;omega
  have vK:=Bu i (by omega);have hi0:(0:Int)≤(i:Int):=by omega
  have wO:(i:Int)<(k:Int):=by omega
  obtain⟨q,hq1,hq2⟩:∃q,ou'=.msl q 0 0 (Cs (Ak (PV (Eh l) V)) k).length none∧H2[q]?=some ⟨9,1,Cs (Ak (PV (Eh l) V)) k,0,1,true⟩:=by
   rcases hoq with⟨_,h⟩ | h
   ·
    have:=congrArg List.length h;rw[zy]at this;exact absurd this (by simp;omega)
   exact h
  rw[zy]at hq1;subst hq1;have hka:=Su (G:=(Ak (PV (Eh l) V))) xq yO;have kD:=fun S:St=>(SlD.of 1 (De (Ak (PV (Eh l) V)) 24) none).iaddrN S .i64 ((Hz (G:=(Ak (PV (Eh l) V))) (i:=24) (r:=i) (by omega)).trans (by rw[if_pos (by omega)]));have zz:=aI vK (aI hi0 (aI wO (aI hq2 (aI hka (aI kD (aI zy (aI @Int.toNat_natCast zz)))))));refine g20 (q:=Au (by simp only[opd,zv,zz,Nat.reduceAdd]<;>(first | rfl | simp)) (g9 (q:=?_)));exact⟨k-(i+1),by omega,i+1,_,_,_,by omega,rfl,rfl,rfl⟩
 have hi':i=k:=by have:=of_decide_eq_false z8;omega
 obtain⟨y,z3,u,go,e,H3,H4,wr3,wr4,ws,hac,hL3,ho3,hdo2,hL4,ho4,hTL,vT,hDV,hu,he,hwl,hD6⟩:=law_acc (d:=d) (by omega) hL2 hV hz wE zX qZ hall20 ho2 rfl;obtain⟨V3,hV3⟩:∃V3,V3=Ws V ws ws.length:=⟨_,rfl⟩;rw[←hV3]at hL4 hDV;have uR:=hL2.sb;have hg5:=Aj ho4
 have hne5:gm≠g22:=by
  rintro rfl;have:=hL4.st;rw[ho4]at this;cases this
 have hs5:∀o:Xh,(H4.set g22 o)[g22]?=some o:=fun o=>List.getElem?_set_self hg5;have hst5:∀o:Xh,(H4.set g22 o)[gm]?=some (STo (.sl 1 (bR V3) (some 6)) z3 ou' gk):=fun o=>by rw[Ln_ (by omega)];exact hL4.st
 have hwsu:IntKind.i64.wrap (((ls.length:Nat):Int)-((u:Nat):Int))=((ls.length-u:Nat):Int):=by rw[IntKind.wrap_i64];omega
 have hyl:Hr false y=some (.int .i64 (ws.length:Nat)):=by
  obtain⟨v0,h,-⟩:=hTL.src;rw[h,Iy,O9]
 have zz:=aI uR (aI @SBo.eq_1 (aI ho4 (aI hs5 (aI hst5 (aI hwsu (aI hyl (aI vT (aI @Nat.zero_min zz))))))));refine g9 (q:=Aa (by simp only[zo,zz,Nat.reduceAdd];exact hac) (g13 (q:=Aa (by simp only[zo,zz,Nat.reduceAdd];exact qm _ _ _) (Aa (by simp only[zo,zz,Nat.reduceAdd];exact hdo2) (g10 (q:=Dh 0 (b:=false) (by simp only[opd,zv,zz,Nat.reduceAdd]<;>rfl) (by simp only[zn]<;>exact rfl) (g10 (q:=Dh 0 (b:=false) (by simp only[opd,zv,zz,Nat.reduceAdd]<;>rfl) (by simp only[zn]<;>exact rfl) (g23 (q:=Au (by simp only[opd,zv,zz,Nat.reduceAdd]<;>(first | rfl | simp)) (g2 (q:=Ry (fun env S'=>∃(r23 r48 r49 r50 r51 w27 w28 w29 w30 w52 w53 w54:D),S'=⟨H4.set g22 ⟨72,5,[[.bool true,.X4,.str ⟨#[]⟩,.bool false,.int .i64 e]],0,0,false⟩,0⟩∧env=[x,.int .u32 (nn:Nat),xl,.bool false,u4,u5,.ptr gB 0 0 0,u7,u8,u9,.ptr gk 0 0 0,.ptr gm 0 0 0,u12,.str (mkS V3),u14,u15,.str (mkS (edS V)),w17,.int .i64 (l.length:Nat),u19,.sl 1 (De (Ak (PV (Eh l) V)) 24) none,.int .i64 (k:Nat),.ptr g22 0 0 0,r23,y,.int .i64 (u:Nat),.int .i64 e,w27,w28,w29,w30,.undef,.undef,.undef,.undef,.undef,.undef,.undef,u38,u39,u40,u41,u42,u43,u44,w45,u46,w47,r48,r49,r50,r51,w52,w53,w54]) ?_ ?_))))))))))))
 ·
  rcases he with rfl | ⟨rfl,rfl⟩
  rotate_left
  ·
   have hV3w:V3=V:=hV3;refine g5 (q:=Dh 0 (b:=false) (by simp only[opd,zv,zz,Nat.reduceAdd]<;>rfl) (by simp only[zn]<;>exact rfl) (g6 (q:=Au (by simp only[opd,zv,zz,Nat.reduceAdd]) (g1 (q:=U2 rfl ?_)))));exact⟨_,_,_,_,_,_,_,_,_,_,_,_,rfl,by rw[hV3w]⟩
  by_cases hw0:ws=[]
  ·
   subst hw0;have hV3w:V3=V:=hV3;have hgt0:decide ((((([]:List (Nat × List UInt8)).length:Nat)):Int)>0)=false:=rfl;have zz:=aI hgt0 zz;refine g5 (q:=Dh 0 (b:=true) (by simp only[opd,zv,zz,Nat.reduceAdd]<;>rfl) (by simp only[zn]<;>exact rfl) (g9 (q:=Au (by simp only[opd,zv,zz,Nat.reduceAdd]<;>(first | rfl | simp)) (g1 (q:=U2 rfl ?_)))));exact⟨_,_,_,_,_,_,_,_,_,_,_,_,rfl,by rw[hV3w]⟩
  have hwp:0<ws.length:=by
   cases ws with
   | nil=>exact absurd rfl hw0
   | cons a l=>simp
  have hgt0:decide (((ws.length:Nat):Int)>0)=true:=decide_eq_true (by omega);obtain⟨pw,hpw,hcw⟩:=curV_end (V:=V) hwp;obtain⟨W,hWe⟩:∃W,W=pw.2:=⟨_,rfl⟩;have hDW:D6 W:=by rw[hWe];exact hD6 pw (Lm hpw)
  have hWl:(bR (edS W)).length=6:=by rw[Ga,Qx,hDW.len]
  have hV3W:V3=W:=by rw[hV3,hcw,hWe]
  have hTL5:=hTL.keep2 (H':=H4.set g22 ⟨72,5,[[.bool true,.X4,.str ⟨#[]⟩,.bool false,.int .i64 0]],0,0,false⟩) fun o ho he=>by
   rw[Ln_ ?_]
   ·
    exact ho
   rintro rfl;rw[ho4]at ho;cases ho;exact absurd (show (72:Nat)=83 from he) (by decide)
  have zQ:(Fp (Q6 ws)).length=ws.length:=by rw[Iy,O9]
  obtain⟨vs,hy,hgo⟩:∃vs,y=.msl go vs 0 (Fp (Q6 ws)).length (some (Fp (Q6 ws)).length)∧(H4.set g22 ⟨72,5,[[.bool true,.X4,.str ⟨#[]⟩,.bool false,.int .i64 0]],0,0,false⟩)[go]?=some ⟨83,2,Fp (Q6 ws),vs,0,true⟩:=by
   rcases hTL5 with⟨_,h⟩ | h
   ·
    rw[h]at zQ;exact absurd zQ (by simp;omega)
   exact h
  have htr:=tyRows_at hpw;rw[←hWe]at htr;have zG:(0:Int)≤((ws.length-1:Nat):Int):=by omega
  have r9:((ws.length-1:Nat):Int)<((ws.length:Nat):Int):=by omega
  have hw1:IntKind.i64.wrap (((ws.length:Nat):Int)-1)=((ws.length-1:Nat):Int):=by rw[IntKind.wrap_i64];omega
  have zz:=aI hgt0 (aI hw1 (aI hy (aI hgo (aI htr (aI zQ (aI zG (aI r9 (aI @edD.eq_1 (aI @Int.toNat_natCast zz)))))))));refine g5 (q:=Dh 0 (b:=true) (by simp only[opd,zv,zz,Nat.reduceAdd]<;>rfl) (by simp only[zn]<;>exact rfl) (g9 (q:=Dn (by simp only[opd,zv,zz,Nat.reduceAdd]<;>(first | rfl | simp)) (g24 (q:=Bq (fun n env S'=>∃(i:Nat) (r23 r48 r49 r50 r51 w30 w52 w53 w54:D),i≤6∧n=6-i∧S'=⟨H4.set g22 ⟨72,5,[[.bool true,.X4,.str ⟨#[]⟩,.bool false,.int .i64 0]],0,0,false⟩,0⟩∧env=[x,.int .u32 (nn:Nat),xl,.bool false,u4,u5,.ptr gB 0 0 0,u7,u8,u9,.ptr gk 0 0 0,.ptr gm 0 0 0,u12,.str (mkS V),u14,u15,.str (mkS (edS V)),w17,.int .i64 (l.length:Nat),u19,.sl 1 (De (Ak (PV (Eh l) V)) 24) none,.int .i64 (k:Nat),.ptr g22 0 0 0,r23,y,.int .i64 (u:Nat),.int .i64 0,.str (mkS (W.take i)),.sl 1 (bR (edS W)) (some 6),.int .i64 (i:Nat),w30,.undef,.undef,.undef,.undef,.undef,.undef,.undef,u38,u39,u40,u41,u42,u43,u44,w45,u46,w47,r48,r49,r50,r51,w52,w53,w54]) (6) (by omega) (⟨0,_,_,_,_,_,_,_,_,_,by omega,by omega,rfl,rfl⟩) ?_)))));rintro n env S' ⟨i,r23,r48,r49,r50,r51,w30,w52,w53,w54,hi6,hnk6,rfl,rfl⟩;refine g9 (q:=He (by simp only[opd,zv,zz,Nat.reduceAdd]<;>exact rfl) (fun yg=>?_) (fun yg=>?_))
  ·
   have hlt6:i<6:=by have:=of_decide_eq_true yg;rw[hWl]at this;omega
   have hwi6:=Bu i (by omega);obtain⟨b,v,hb,hv,hbv⟩:=unblank hDW hlt6;have qz:=fun S:St=>(SlD.of 1 (bR (edS W)) (some 6)).iaddrN S .i64 (bR_at hb)
   have hWt:W.take (i+1)=W.take i++[v]:=by
    obtain⟨hh,hh2⟩:=List.getElem?_eq_some_iff.1 hv;rw[List.take_succ_eq_append_getElem hh,hh2]
   have hsad:=sadd (W.take i) [v] (by rw[List.length_take];simp;omega);have hbo:bytesOf [[.int .u8 (v.toNat:Nat)]]=some [v]:=E8 [v]
   have hsx:∀(S:St) (s:ByteArray),s=mkS [v]→Option.map (fun r=>(r,S,false)) (Ec .add (.str (mkS (W.take i))) (.str s))=some (.str (mkS (W.take i++[v])),S,false):=by
    rintro S s rfl;rw[hsad];rfl
   have zz:=aI hwi6 (aI qz (aI hbo (aI @Int.toNat_natCast zz)));rcases hbv with⟨rfl,rfl⟩ | ⟨hb32,rfl⟩
   ·
    have zz:=aI (show (32:UInt8).toNat=32 from rfl) zz;refine g20 (q:=Dn (by simp only[opd,zv,zz,Nat.reduceAdd]<;>(first | rfl | simp)) (g8 (q:=Aa (by simp only[zl,zm,Ct,zm,zz,Nat.reduceAdd]<;>exact rfl) (Aa (by simp only[opd,zv,Al,aop,LOp.loud,pop,if_false,Bool.false_eq_true];exact hsx _ _ rfl) (g10 (q:=?_))))));exact⟨6-(i+1),by omega,i+1,_,_,_,_,_,_,_,_,_,by omega,rfl,rfl,by rw[hWt]⟩
   have hb0:(((b.toNat:Nat):Int)==32)=false:=by rw[u8_32];exact decide_eq_false hb32
   have zz:=aI hb0 zz;refine g20 (q:=Au (by simp only[opd,zv,zz,Nat.reduceAdd]<;>(first | rfl | simp)) (g6 (q:=Aa (by simp only[zl,zm,Ct,zm,zz,Nat.reduceAdd]<;>exact rfl) (Aa (by simp only[opd,zv,Al,aop,LOp.loud,pop,if_false,Bool.false_eq_true];exact hsx _ _ rfl) (g10 (q:=?_))))));exact⟨6-(i+1),by omega,i+1,_,_,_,_,_,_,_,_,_,by omega,rfl,rfl,by rw[hWt]⟩
  have hi6e:i=6:=by have:=of_decide_eq_false yg;rw[hWl]at this;omega
  have hV3w:V3=W.take i:=by rw[hV3W,hi6e,←hDW.len,List.take_length]
  refine g9 (q:=U2 (by simp only[ze]<;>exact rfl) ?_);exact⟨_,_,_,_,_,_,_,_,_,_,_,_,rfl,by rw[hV3w]⟩
 rintro env S' ⟨r23,r48,r49,r50,r51,w27,w28,w29,w30,w52,w53,w54,rfl,rfl⟩
 have hL5:LawS l lx x z3 V3 ou' (H4.set g22 ⟨72,5,[[.bool true,.X4,.str ⟨#[]⟩,.bool false,.int .i64 e]],0,0,false⟩) gs gB gl gk gm rows x0:=hL4.keep (fun k o ho h1 h2=>by
   rw[Ln_ ?_]
   ·
    exact ho
   rintro rfl;rw[ho4]at ho;cases ho
   exact h2 rfl) (hst5 _)
 generalize H4.set g22 ⟨72,5,[[.bool true,.X4,.str ⟨#[]⟩,.bool false,.int .i64 e]],0,0,false⟩=H5 at hL5 ⊢;have hst6:=hL5.st;have hgl5:=Aj hst6;have yu:=fun S:St=>get6V (d:=d) (by omega) S hDV.len;have hdz:=fun lo=>doZ (d:=d) (by omega) (gm:=gm) hL5.fl hL5.dk hL5.sl lo;have zH:=fun lo=>doStage (d:=d) (by omega) (gm:=gm) hL5.fl hL5.dk hL5.sl lo;have hb6:bytesOf (bR V3)=some V3:=E8 V3;have hsv:(⟨V3.toArray⟩:ByteArray)=mkS V3:=rfl;have yF:=snew_nil (d:=d) (by omega) (H5++[⟨72,5,[[.bool true,.X4,.str ⟨#[]⟩,.bool false,.int .i64 9]],0,0,false⟩,⟨72,5,[[.bool true,.X4,.str ⟨#[]⟩,.bool false,.int .i64 9]],0,0,false⟩,⟨72,5,[[.bool false,.X4,.str ⟨#[]⟩,.bool false,.int .i64 0]],0,0,false⟩]) 0;simp only[Lo_,List.cons_append,List.nil_append,Ll_,List.length_cons,List.length_nil,Nat.add_assoc,Nat.reduceAdd,Nat.zero_min,Nat.zero_add]at yF;have zz:=aI hst6 (aI @STo.eq_1 (aI hb6 (aI hsv (aI @Ag (aI @beq_self_eq_true.{0} (aI (fun l=>@Bj _ l _ hgl5) (aI @E8 zz)))))));refine g7 (q:=Aa (by simp only[zo,zz,Nat.reduceAdd,Nat.reduceAdd];exact yu _) (g11 (q:=Aa (by simp only[zo,zz,Nat.reduceAdd,Nat.reduceAdd];exact qm _ _ _) ?_)))
 first
  | refine Aa (by simp only[zo,zz,Nat.reduceAdd,Nat.reduceAdd];exact hdz _) ?_
  | refine Aa (by simp only[zo,zz,Nat.reduceAdd,Nat.reduceAdd];exact zH _) ?_
  | refine Aa (by simp only[zo,zz,Nat.reduceAdd,Nat.reduceAdd];exact doNil (by omega) _) ?_
  | refine Aa (by simp only[zo,zz,Nat.reduceAdd,Nat.reduceAdd];exact Xa (by omega) (Bd _ _ 3) _) ?_
 refine g2 (q:=Aa (by simp only[zo,zz,Nat.reduceAdd,Nat.reduceAdd];exact qm _ _ _) ?_)
 first
  | refine Aa (by simp only[zo,zz,Nat.reduceAdd,Nat.reduceAdd];exact hdz _) ?_
  | refine Aa (by simp only[zo,zz,Nat.reduceAdd,Nat.reduceAdd];exact zH _) ?_
  | refine Aa (by simp only[zo,zz,Nat.reduceAdd,Nat.reduceAdd];exact doNil (by omega) _) ?_
  | refine Aa (by simp only[zo,zz,Nat.reduceAdd,Nat.reduceAdd];exact Xa (by omega) (Bd _ _ 3) _) ?_
 refine g15 (q:=Aa (by simp only[zo,zz,Nat.reduceAdd,Nat.reduceAdd];exact qm _ _ _) ?_)
 first
  | refine Aa (by simp only[zo,zz,Nat.reduceAdd,Nat.reduceAdd];exact hdz _) ?_
  | refine Aa (by simp only[zo,zz,Nat.reduceAdd,Nat.reduceAdd];exact zH _) ?_
  | refine Aa (by simp only[zo,zz,Nat.reduceAdd,Nat.reduceAdd];exact doNil (by omega) _) ?_
  | refine Aa (by simp only[zo,zz,Nat.reduceAdd,Nat.reduceAdd];exact Xa (by omega) (Bd _ _ 3) _) ?_
 refine g6 (q:=Aa (by simp only[zo,zz,Nat.reduceAdd,Nat.reduceAdd];exact yF) (g1 (q:=Aa (by simp only[zo,zz,Nat.reduceAdd,Nat.reduceAdd];exact qm _ _ _) ?_)))
 first
  | refine Aa (by simp only[zo,zz,Nat.reduceAdd,Nat.reduceAdd];exact hdz _) ?_
  | refine Aa (by simp only[zo,zz,Nat.reduceAdd,Nat.reduceAdd];exact zH _) ?_
  | refine Aa (by simp only[zo,zz,Nat.reduceAdd,Nat.reduceAdd];exact doNil (by omega) _) ?_
  | refine Aa (by simp only[zo,zz,Nat.reduceAdd,Nat.reduceAdd];exact Xa (by omega) (Bd _ _ 3) _) ?_
 refine g9 (q:=Dh 0 (b:=true) (by simp only[opd,zv,zz,Nat.reduceAdd,Nat.reduceAdd]<;>rfl) (by simp only[zn]<;>exact rfl) (g3 (q:=Aa (by simp only[zl,zm,Ct,zm,zz,Nat.reduceAdd,Nat.reduceAdd]<;>exact rfl) (g6 (q:=Dh 0 (b:=true) (by simp only[opd,zv,zz,Nat.reduceAdd,Nat.reduceAdd]<;>rfl) (by simp only[zn]<;>exact rfl) (g8 (q:=Dh 0 (b:=true) (by simp only[opd,zv,zz,Nat.reduceAdd,Nat.reduceAdd]<;>rfl) (by simp only[zn]<;>exact rfl) (g8 (q:=Dh 0 (b:=true) (by simp only[opd,zv,zz,Nat.reduceAdd,Nat.reduceAdd]<;>rfl) (by simp only[zn]<;>exact rfl) (g8 (q:=Dh 0 (b:=true) (by simp only[opd,zv,zz,Nat.reduceAdd,Nat.reduceAdd]<;>rfl) (by simp only[zn]<;>exact rfl) (g8 (q:=Dh 0 (b:=true) (by simp only[opd,zv,zz,Nat.reduceAdd,Nat.reduceAdd]<;>rfl) (by simp only[zn]<;>exact rfl) (g1 (q:=Aa (by simp only[zo,zz,Nat.reduceAdd,Nat.reduceAdd];exact Qp (by omega) _) (g5 (q:=?_)))))))))))))))));exact fq (h:=rfl)
end Go.Proofs.YtlhdliikahebhaaGreatDoor

/- Proved here: parts of the proof, joined (K84, K85, K86, K87, K88, K89, K90, K91, K92, K93, K94, K95, K96, K97, K98, K99, K100, K101, K102, K103, K104, K105, K106, K107, K108, K130, K131, K132, K133, K134, K135, K136, K137, K138, K139, RpP): an abstract machine, its soundness, what functions of the program compute in it; no condition. -/
import Derived.Test.YtbhnlppboegmjaaGreatDoorTie
import Derived.WalkKit
import Derived.ProofKit
import Derived.OpenShut
import Derived.ShutString
import Derived.ChangeOld
import Derived.Below
import Derived.LaidMore
import Derived.Lay
import Derived.SevenTiedAt
import Derived.Stop.Joined
import Derived.Test.YtbhnlppboegmjaaGreatDoorM4
namespace Go.Proofs.YtbhnlppboegmjaaGreatDoor
set_option linter.unusedSimpArgs false
set_option linter.unusedVariables false
set_option maxRecDepth 100000
set_option maxHeartbeats 4000000
theorem room_f(x:CM)(w:WM)(t:TG):(Hy x w t).row=w.row∧(Hy x w t).tot=w.tot∧(Hy x w t).ended=w.ended:=by
 have h0:(if Mc x w t then Es x w else w).row=w.row∧(if Mc x w t then Es x w else w).tot=w.tot∧(if Mc x w t then Es x w else w).ended=w.ended:=by
  split
  ·
   exact page_f x w
  exact⟨rfl,rfl,rfl⟩
 unfold Hy;split
 ·
  exact⟨rfl,rfl,rfl⟩
 split<;>exact h0
theorem Fw(x:CM)(w:WM)(t:TG):(Dr x w t).row=w.row∧(Dr x w t).tot=w.tot∧(Dr x w t).ended=w.ended:=by
 have h1:=Ea (Hy x w t) t.tl;have h2:=room_f x w t;exact⟨h1.1.trans h2.1,h1.2.2.1.trans h2.2.1,h1.2.2.2.2.trans h2.2.2⟩
theorem WB.room{w:WM}{n:Nat}(h:WB w n){x:CM}(hn:n≤50000)(ht:w.tot.length=x.ctl+1)(t:TG):WB (Hy x w t) (n+40):=by
 have h1:WB (if Mc x w t then Es x w else w) (n+21):=by
  split
  ·
   exact (h.page' hn ht).2
  exact⟨h.row,by have:=h.page;omega,by have:=h.line;omega,by have:=h.lines;omega,h.totM (by omega)⟩
 unfold Hy;split
 ·
  exact⟨h.row,by have:=h.page;omega,by have:=h.line;omega,by have:=h.lines;omega,h.totM (by omega)⟩
 rename_i hP;obtain⟨f1,f2,f3,f4,f5⟩:=x.pg hP;split
 ·
  exact⟨h1.row,by have:=h1.page;omega,by have:=h1.line;omega,by have:=h1.lines;omega,h1.totM (by omega)⟩
 exact⟨h1.row,by have:=h1.page;show (if Mc x w t then Es x w else w).page≤_;omega,by have:=h1.line;show max (if Mc x w t then Es x w else w).line (x.F-1)≤_;omega,by have:=h1.lines;show (if Mc x w t then Es x w else w).lines.length≤_;omega,h1.totM (by omega)⟩
theorem WB.pres{w:WM}{n:Nat}(h:WB w n){x:CM}(hn:n≤50000)(ht:w.tot.length=x.ctl+1){t:TG}(hT:TOK w t):WB (Dr x w t) (n+44):=by
 have h1:=h.room hn ht t;have h2:=room_f x w t;exact h1.write (tok_of h2.1 h2.2.1 (by have:=h1.page;omega) hT)
def headN (x:CM):Nat→Nat→WM→WM
 | _,0,w=>w
 | i,k+1,w=>headN x (i+1) k (Dr x w (x.tg 3 i))
def headW (x:CM) (w:WM) (l:Nat):WM:=headN x l (x.ctl+1-l) w
def WM.clr (w:WM) (i:Nat):WM:={ w with tot:=w.tot.set i 0 }
def footN (x:CM):Nat→Nat→WM→WM
 | _,0,w=>w
 | i,k+1,w=>footN x (i-1) k ((Dr x w (x.tg 5 (i-1))).clr (i-1))
def N8 (x:CM) (w:WM) (l:Nat):WM:=footN x (x.ctl+1) (x.ctl+1-l) w
theorem Jt(x:CM):∀(k i:Nat) (w:WM),(headN x i k w).row=w.row∧(headN x i k w).tot=w.tot∧(headN x i k w).ended=w.ended
 | 0,_,_=>⟨rfl,rfl,rfl⟩
 | k+1,i,w=>by
  have h:=Jt x k (i+1) (Dr x w (x.tg 3 i));have h2:=Fw x w (x.tg 3 i);exact⟨h.1.trans h2.1,h.2.1.trans h2.2.1,h.2.2.trans h2.2.2⟩
theorem WB.head{x:CM}:∀(k i:Nat) {w:WM} {n:Nat},WB w n→n+44*k≤50000→w.tot.length=x.ctl+1→i+k≤x.ctl+1→WB (headN x i k w) (n+44*k)
 | 0,_,_,_,h,_,_,_=>h
 | k+1,i,w,n,h,hn,ht,hi=>by
  have h1:=h.pres (x:=x) (by omega) ht (Ow (x:=x) h (by omega) ht (k:=3) (lv:=i) (by omega));have h2:=Fw x w (x.tg 3 i);have:=WB.head k (i+1) h1 (by omega) (by rw[h2.2.1];exact ht) (by omega);rw[show n+44+44*k=n+44*(k+1) by omega]at this;exact this
theorem WB.clr{w:WM}{n:Nat}(h:WB w n)(i:Nat):WB (w.clr i) n:=⟨h.row,h.page,h.line,h.lines,fun m hm=>by
 rcases List.mem_or_eq_of_mem_set hm with h1 | h1
 ·
  exact h.tot m h1
 subst h1;exact Nat.zero_le _⟩
theorem WS.tot{H:List Rf}{g gm gt:Nat}{x:CM}{w:WM}(h:WS H g gm gt x w)(tot':List Nat)(hl:tot'.length=x.ctl+1):WS (H.set gt ⟨57,3,tot'.map dcR,x.ctl,2,true⟩) g gm gt x { w with tot:=tot' }∧Keep H (H.set gt ⟨57,3,tot'.map dcR,x.ctl,2,true⟩):=by
 obtain⟨h1,h2⟩:=h.ne;obtain⟨lin,hw,xK⟩:=h.hw
 have key:∀(j:Nat) (o:Rf),H[j]?=some o→o.elem≠57∨o.kind≠2→(H.set gt ⟨57,3,tot'.map dcR,x.ctl,2,true⟩)[j]?=some o:=fun j o hj ho=>Bg hj (fun e=>by
  subst e;rw[h.ht]at hj;obtain rfl:=Option.some.inj hj
  simp at ho) _
 refine⟨⟨⟨lin,key _ _ hw (.inl (by simp[wO])),xK.keep fun j o hj he=>key j o hj (.inl (by rw[he];decide))⟩,key _ _ h.hm (.inl (by simp[mpO])),Bn h.ht _,hl⟩,by simp,fun j o hj hk=>key j o hj ?_⟩;rcases hk with hk | hk
 ·
  exact .inr (by rw[hk.1];decide)
 exact .inl (by rw[hk];decide)
theorem store_tot{H:List Rf}{gt v lo i m:Nat}{rows:List (List D)}(h:H[gt]?=some ⟨57,3,rows,v,2,true⟩)(hi:rows[i]?=some (dcR m))(n:Nat):Ca 3 ⟨H,lo⟩ (.ptr gt v i 0) (dcD n)=some ⟨H.set gt ⟨57,3,rows.set i (dcR n),v,2,true⟩,min lo gt⟩:=by
 have e1:Ro H.length H (.agg [.bool false,.str (mkS (dgs n)),.int .i64 0])=some (.agg [.bool false,.str (mkS (dgs n)),.int .i64 0]):=rfl;simp only[Ca,rowsOf,h,if_true,hi,dcR];simp[e1,dcD,D.val,D.cells,D.Ru,overlay,setAt,D.free,D.Rv]
theorem pres_tot(x:CM)(w:WM)(t:TG)(h:w.tot.length=x.ctl+1):(Dr x w t).tot.length=x.ctl+1:=by rw[(Fw x w t).2.1];exact h
theorem footN_f(x:CM):∀(k i:Nat) (w:WM),(footN x i k w).row=w.row∧(footN x i k w).ended=w.ended
 | 0,_,_=>⟨rfl,rfl⟩
 | k+1,i,w=>by
  have h:=footN_f x k (i-1) ((Dr x w (x.tg 5 (i-1))).clr (i-1));have h2:=Fw x w (x.tg 5 (i-1));exact⟨h.1.trans h2.1,h.2.trans h2.2.2⟩
theorem WB.foot{x:CM}:∀(k i:Nat) {w:WM} {n:Nat},WB w n→n+44*k≤50000→w.tot.length=x.ctl+1→i≤x.ctl+1→k≤i→WB (footN x i k w) (n+44*k)∧(footN x i k w).tot.length=x.ctl+1
 | 0,_,_,_,h,_,ht,_,_=>⟨h,ht⟩
 | k+1,i,w,n,h,hn,ht,hi,hk=>by
  have h1:=(h.pres (x:=x) (by omega) ht (Ow (x:=x) h (by omega) ht (k:=5) (lv:=i-1) (by omega))).clr (i-1);have h2:=pres_tot x w (x.tg 5 (i-1)) ht;have:=WB.foot k (i-1) h1 (by omega) (by simpa [WM.clr] using h2) (by omega) (by omega);rw[show n+44+44*k=n+44*(k+1) by omega]at this;exact this
def RM.key (y:RM) (i:Nat):UInt8:=if i=0 then y.A else y.B
def brkI (y0 y:RM) (c:Nat):Int:=if 1≤c∧y0.A≠y.A then 1 else if 2≤c∧y0.B≠y.B then 2 else -1
def addW (w:WM) (N:Nat):WM:={ w with tot:=w.tot.map (·+N) }
theorem slice_full(S:St)(rows:List (List D))(c:Option Nat):Ke S 3 (.sl 3 rows c) none (some (.int .i64 (rows.length:Nat))) (some (.int .i64 (rows.length:Nat)))=some (.sl 3 rows (some rows.length)):=by
 simp[Ke,D5,Ie,Gh]
theorem clip_nil(d:Nat)(S:St):F6 LP NN (d+1) 37 [.R4] S=some (.R4,S,false):=by kernel_rfl
theorem oclone_nil(d:Nat)(S:St):F6 LP NN (d+1) 38 [.R4] S=some (.R4,S,false):=by kernel_rfl
theorem clip_sl{d:Nat}(hd:1≤d)(S:St)(rows:List (List D))(c:Option Nat):Bl LP NN d 37 [.sl 3 rows c] S=some (.sl 3 rows (some rows.length),S,false):=by
 refine rq (F:=F37) rfl (by simp only[LP,Ay,zs]<;>exact rfl) (by simp only[F37,zv]<;>exact rfl) ?_;rintro d rfl;refine Ae (Bj (Aa (Ak ?_)));refine Ae (Al rfl (Al rfl (xo15 ?_)));refine Al rfl (xo15 ?_);apply Ac (by simp only[opd,zv,Az,aop,LOp.loud,lop,if_true,C8];rw[slice_full];exact rfl);refine Ar rfl (Aa (Ak ?_));apply Bp;refine⟨_,by simp only[F37,A7,Bo,Cv,zg]<;>exact rfl,?_⟩;rfl
theorem oclone_sl{d:Nat}(hd:1≤d)(S:St)(rows:List (List D))(hr:rows.length≠0)(yw:rows.length≤100000)(c:Option Nat):Bl LP NN d 38 [.sl 3 rows c] S=some (.sl 3 rows none,S,false):=by
 refine rq (F:=F38) rfl (by simp only[LP,Ay,zs]<;>exact rfl) (by simp only[F38,zv]<;>exact rfl) ?_;rintro d rfl;refine Ae (Bj (Aa (Ak ?_)));refine Ao (Ae (Al rfl (Qy ?_)));refine Aa (Ak ?_);refine Cc ?_;refine Bc (Bz rfl (Ae (xo28 ?_)));refine Al rfl (Ac (by simp only[opd,zv,Az,aop,LOp.loud,lop,if_true];exact Re 52 3 32 1 (by decide) hr (by omega) c _) ?_);refine Ar rfl (Aa (Ak ?_));apply Bp;refine⟨_,by simp only[F38,A7,Bo,Cv,zg,zm]<;>exact rfl,?_⟩;simp[leaveP,leave,Rs,Ro,snap,newAt,D.Rq,D.Rp,D.free];rfl
def G9 (rows:List (List D)):D:=if rows.isEmpty then .R4 else .sl 3 rows (some rows.length)
theorem clipR_ne{rows:List (List D)}(h:rows≠[]):G9 rows=.sl 3 rows (some rows.length):=by cases rows<;>simp_all [G9]
theorem LinAt.snapA{H:List Rf}{d:D}{rows:List (List D)}(h:LinAt H d rows)(m:Nat):∃y,Ay m H [d]=some [y]∧Ay m H [y]=some [y]∧((rows=[]∧y=.R4)∨(rows≠[]∧∃c,y=.sl 3 rows c)):=by
 rcases h with⟨h1,rfl⟩ | ⟨h1,rfl | ⟨g,v,rfl,h3⟩⟩
 ·
  exact⟨.R4,rfl,rfl,.inl ⟨h1,rfl⟩⟩
 ·
  exact⟨_,rfl,rfl,.inr ⟨h1,_,rfl⟩⟩
 exact⟨.sl 3 rows none,by simp[Ay,Ip,Hu,h3],rfl,.inr ⟨h1,_,rfl⟩⟩
theorem Oh{d:Nat}(hd:1≤d){H:List Rf}(low:Nat){l:D}{rows:List (List D)}(h:LinAt H l rows):Bl LP NN d 37 [l] ⟨H,low⟩=some (G9 rows,⟨H,low⟩,false):=by
 obtain⟨y,h1,h2,⟨rfl,rfl⟩ | ⟨h3,c,rfl⟩⟩:=h.snapA H.length
 ·
  rw[Np rfl h1 h2];obtain⟨d,rfl⟩:∃e,d=e+1:=⟨d-1,by omega⟩;exact fast_ok (clip_nil d _)
 rw[Np rfl h1 h2,clipR_ne h3];exact clip_sl hd _ _ _
theorem oclone_run{d:Nat}(hd:1≤d){H:List Rf}(low:Nat){l:D}{rows:List (List D)}(h:LinAt H l rows)(hl:rows.length≤100000):Bl LP NN d 38 [l] ⟨H,low⟩=some (slB true 3 rows none,⟨H,low⟩,false):=by
 obtain⟨y,h1,h2,⟨rfl,rfl⟩ | ⟨h3,c,rfl⟩⟩:=h.snapA H.length
 ·
  rw[Np rfl h1 h2];obtain⟨d,rfl⟩:∃e,d=e+1:=⟨d-1,by omega⟩;exact fast_ok (oclone_nil d _)
 have h4:rows.length≠0:=fun e=>h3 (List.length_eq_zero_iff.1 e);rw[Np rfl h1 h2,Jg h4];exact oclone_sl hd _ _ h4 hl _
theorem Pp(H:List Rf)(rows:List (List D)):LinAt H (G9 rows) rows:=by
 cases rows with
 | nil=>exact .inl ⟨rfl,rfl⟩
 | cons a l=>exact .inr ⟨by simp,.inl rfl⟩
theorem Eb(g v lo n:Nat)(c:Option Nat):Rn (.msl g v lo n c)=false:=rfl
theorem F3(sz:Nat)(rows:List (List D))(c:Option Nat):Rn (.sl sz rows c)=true:=rfl
theorem Fs(rows:List (List D)):Rn (G9 rows)=true:=by cases rows<;>rfl
theorem app_tot{H:List Rf}{gt v lo n:Nat}{rows:List (List D)}(h:H[gt]?=some ⟨57,3,rows,v,2,true⟩)(hn:n=rows.length)(hl:n≤1000):Ct 57 3 32 2 (.msl H.length 0 0 0 none) (.msl gt v 0 n none) ⟨H++[⟨57,3,[],0,2,false⟩],lo⟩=some (.msl H.length 1 0 n none,⟨H++[⟨57,3,rows,1,2,true⟩],min lo H.length⟩,true):=by
 have e2:rows.length*32≤140737488355328:=by omega
 subst hn;simp[Ct,rowsOf,Bu h,Co,Bt,e2,setAt]
theorem Eo{S S':St}(r:D)(hl:S'.low<S.heap.length)(hs:∀m H,Rs m H r=some r)(hm:isMsl r=false:=by rfl):leave false S r S'=some (r,⟨S'.heap,min S.low S'.low⟩,true):=by
 have h:¬S.heap.length≤S'.low:=by omega
 simp[-isMsl,leave,h,hs,hm]
theorem tclone_run{d:Nat}(hd:1≤d){H:List Rf}(low:Nat){gt v n:Nat}{rows:List (List D)}(h:H[gt]?=some ⟨57,3,rows,v,2,true⟩)(hr:rows≠[])(hn:n=rows.length)(hl:n≤1000)(x9:low≤H.length):Bl LP NN d 76 [.msl gt v 0 n none] ⟨H,low⟩=some (.msl H.length 1 0 n none,⟨H++[⟨57,3,rows,1,2,true⟩],low⟩,true):=by
 have hg:=Ff h;have vK:∀l,(H++l)[gt]?=_:=fun l=>Bu h l;refine Ee (F:=F76) rfl (by simp only[LP,Ay,zs,zm,h,Nat.not_le.2 hg]<;>exact rfl) rfl (by simp only[LP,zf,zm];try rfl) (by simp only[F76,zv]<;>exact rfl) (by omega) ?_;rintro d rfl;refine Ae (Bj (Aa (Ak ?_)));refine Ao (Ae (Al rfl (Qy ?_)));refine Aa (Ak ?_);refine Cc ?_;refine Bc (Bz rfl (Ae (xo28 ?_)));refine Al rfl (Ac (by simp only[opd,zv,Az,aop,LOp.loud,lop,if_true];exact app_tot h hn hl) ?_);refine Ar rfl (Aa (Ak ?_));apply Bp;refine⟨_,by simp only[F76,A7,Bo,Cv,zg]<;>exact rfl,?_⟩;show leave true _ _ _=_;subst hn;simp[leave,newR,newAt,x9]
def setRow (w:WM) (y:RM):WM:={ w with row:=some y }
def stA (w:WM) (y:RM):WM:={ w with page:=1,row:=some y }
def Mi (x:CM) (w:WM) (y:RM):WM:=headW x (((stA w y).write (x.tg 1 0).tl).write (x.tg 2 0).tl) 0
def Nb (x:CM) (w:WM) (y:RM) (b:Nat):WM:=headW x (setRow (N8 x w b) y) b
def brkN (w:WM) (y:RM) (c:Nat):Nat:=match w.row with
 | some y0=>(brkI y0 y c).toNat
 | none=>0
def Dq (x:CM) (w:WM) (y:RM):WM:=if w.page=0 then Mi x w y else if brkN w y x.ctl=0 then w else Nb x w y (brkN w y x.ctl)
def genA (x:CM) (w:WM) (y:RM):WM:=addW (setRow (Dq x w y) y) y.N
def Mv (x:CM) (w:WM) (y:RM) (det:Int):WM:=if det=0 then Dr x (genA x w y) (tD1 (x.nps 0)) else if det=1 then Dr x (genA x w y) tD2 else genA x w y
theorem WB.mono{w:WM}{n n':Nat}(h:WB w n)(hn:n≤n'):WB w n':=⟨h.row,by have:=h.page;omega,by have:=h.line;omega,by have:=h.lines;omega,h.totM hn⟩
theorem WB.setRow{w:WM}{n:Nat}(h:WB w n)(y:RM):WB (setRow w y) n:=⟨by simp[YtbhnlppboegmjaaGreatDoor.setRow],h.page,h.line,h.lines,h.tot⟩
theorem brkI_le(y0 y:RM)(c:Nat):brkI y0 y c=-1∨(1≤brkI y0 y c∧brkI y0 y c≤c):=by
 unfold brkI;split
 ·
  rename_i h;exact .inr ⟨by omega,by omega⟩
 split
 ·
  rename_i h;exact .inr ⟨by omega,by omega⟩
 exact .inl rfl
theorem WB.start{w:WM}{n:Nat}{y:RM}(h:WB (YtbhnlppboegmjaaGreatDoor.setRow w y) n)(h20:20≤n)(hn:n≤30000){x:CM}(ht:w.tot.length=x.ctl+1):WB (stA w y) n∧TOK (stA w y) (x.tg 1 0)∧WB ((stA w y).write (x.tg 1 0).tl) (n+4)∧TOK ((stA w y).write (x.tg 1 0).tl) (x.tg 2 0)∧WB (((stA w y).write (x.tg 1 0).tl).write (x.tg 2 0).tl) (n+8)∧(((stA w y).write (x.tg 1 0).tl).write (x.tg 2 0).tl).tot.length=x.ctl+1∧WB (Mi x w y) (n+140):=by
 have hc:=x.ctl_lt;have h1:WB (stA w y) n:=⟨by simp[stA],by show 1≤n;omega,h.line,h.lines,h.tot⟩;have t1:=Ow (x:=x) h1 (by omega) ht (k:=1) (lv:=0) (by omega);have h2:=h1.write t1;have e1:=Ea (stA w y) (x.tg 1 0).tl;have ht1:((stA w y).write (x.tg 1 0).tl).tot.length=x.ctl+1:=by rw[e1.2.2.1];exact ht
 have t2:=Ow (x:=x) h2 (by omega) ht1 (k:=2) (lv:=0) (by omega);have h3:=h2.write t2;have e2:=Ea ((stA w y).write (x.tg 1 0).tl) (x.tg 2 0).tl;have ht2:(((stA w y).write (x.tg 1 0).tl).write (x.tg 2 0).tl).tot.length=x.ctl+1:=by rw[e2.2.2.1];exact ht1
 exact⟨h1,t1,h2,t2,h3,ht2,(WB.head (x:=x) (x.ctl+1-0) 0 h3 (by omega) ht2 (by omega)).mono (by omega)⟩
theorem WB.brk{w:WM}{n:Nat}(h:WB w n)(hn:n≤30000){x:CM}(ht:w.tot.length=x.ctl+1)(y:RM){b:Nat}(hb:b≤x.ctl+1):WB (N8 x w b) (n+132)∧(N8 x w b).tot.length=x.ctl+1∧WB (YtbhnlppboegmjaaGreatDoor.setRow (N8 x w b) y) (n+132)∧WB (Nb x w y b) (n+264):=by
 have hc:=x.ctl_lt;obtain⟨h1,h2⟩:=WB.foot (x:=x) (x.ctl+1-b) (x.ctl+1) h (by omega) ht (Nat.le_refl _) (by omega);have h3:=h1.mono (n':=n+132) (by omega);exact⟨h3,h2,h3.setRow y,(WB.head (x:=x) (x.ctl+1-b) b (h3.setRow y) (by omega) h2 (by omega)).mono (by omega)⟩
theorem WB.first{w:WM}{n:Nat}{y:RM}(h:WB (YtbhnlppboegmjaaGreatDoor.setRow w y) n)(hr:w.page≠0→w.row≠none)(h20:20≤n)(hn:n≤30000){x:CM}(ht:w.tot.length=x.ctl+1):WB (Dq x w y) (n+264)∧(Dq x w y).tot.length=x.ctl+1:=by
 have hc:=x.ctl_lt;unfold Dq;split
 ·
  have:=h.start h20 hn ht;refine⟨this.2.2.2.2.2.2.mono (by omega),?_⟩;show (headN x 0 _ _).tot.length=_;rw[(Jt x _ _ _).2.1];exact this.2.2.2.2.2.1
 rename_i hp;have hw:WB w n:=⟨hr hp,h.page,h.line,h.lines,h.tot⟩;split
 ·
  exact⟨hw.mono (by omega),ht⟩
 have hb:brkN w y x.ctl≤x.ctl+1:=by
  unfold brkN;split
  ·
   rename_i y0 _;have:=brkI_le y0 y x.ctl;omega
  omega
 have:=hw.brk hn ht y hb;refine⟨this.2.2.2,?_⟩;show (headN x _ _ _).tot.length=_;rw[(Jt x _ _ _).2.1];exact this.2.1
theorem WB.genA{w:WM}{n:Nat}{y:RM}(h:WB (YtbhnlppboegmjaaGreatDoor.setRow w y) n)(hr:w.page≠0→w.row≠none)(h20:20≤n)(hn:n≤30000){x:CM}(ht:w.tot.length=x.ctl+1):WB (YtbhnlppboegmjaaGreatDoor.setRow (Dq x w y) y) (n+264)∧WB (YtbhnlppboegmjaaGreatDoor.genA x w y) (n+265)∧(YtbhnlppboegmjaaGreatDoor.genA x w y).tot.length=x.ctl+1:=by
 obtain⟨h1,h2⟩:=h.first hr h20 hn ht
 have hN:y.N<1000:=Nat.mod_lt _ (by decide);have h3:=h1.setRow y;refine⟨h3,⟨by simp[YtbhnlppboegmjaaGreatDoor.genA,addW,YtbhnlppboegmjaaGreatDoor.setRow],by have:=h3.page;show (Dq x w y).page≤_;exact Nat.le_succ_of_le this,by have:=h3.line;show (Dq x w y).line≤_;exact Nat.le_succ_of_le this,by have:=h3.lines;show (Dq x w y).lines.length≤_;exact Nat.le_succ_of_le this,fun m hm=>?_⟩,by simp[YtbhnlppboegmjaaGreatDoor.genA,addW,YtbhnlppboegmjaaGreatDoor.setRow,h2]⟩;obtain⟨m',hm',rfl⟩:=List.mem_map.1 hm;have:=h3.tot m' hm';omega
theorem WB.gen{w:WM}{n:Nat}{y:RM}(h:WB (YtbhnlppboegmjaaGreatDoor.setRow w y) n)(hr:w.page≠0→w.row≠none)(h20:20≤n)(hn:n≤30000){x:CM}(ht:w.tot.length=x.ctl+1)(det:Int):WB (Mv x w y det) (n+310)∧(Mv x w y det).tot.length=x.ctl+1:=by
 obtain⟨_,h1,h2⟩:=h.genA hr h20 hn ht;unfold Mv;split
 ·
  exact⟨(h1.pres (by omega) h2 (tok_D1 h1 _)).mono (by omega),pres_tot x _ _ h2⟩
 split
 ·
  exact⟨(h1.pres (by omega) h2 (tok_D2 h1)).mono (by omega),pres_tot x _ _ h2⟩
 exact⟨h1.mono (by omega),h2⟩
def termP (x:CM) (w:WM):WM:=Dr x (N8 x w 0) (x.tg 7 0)
def termW (x:CM) (w:WM):WM:=if w.page=0 then w else if x.P=0 then termP x w else Dm x (termP x w)
theorem clip_slB{d:Nat}(hd:1≤d)(S:St)(rows:List (List D)):Bl LP NN d 37 [slB true 3 rows none] S=some (G9 rows,S,false):=by
 cases rows with
 | nil =>
  obtain⟨d,rfl⟩:∃e,d=e+1:=⟨d-1,by omega⟩;exact fast_ok (clip_nil d S)
 | cons r l=>exact clip_sl hd S (r::l) none
theorem clipR_free(rows:List (List D)):(G9 rows).Rq=true:=by cases rows<;>rfl
theorem clipR_snap(rows:List (List D)):∀m H,Rs m H (G9 rows)=some (G9 rows):=fun m H=>by cases rows<;>rfl
def chgB (a b:RM) (lv:Nat):Bool:=(decide (1≤lv)&&a.A != b.A)||(decide (2≤lv)&&a.B != b.B)
def chgAt (l:List RM) (r lv:Nat):Bool:=match l[r]?,l[r+1]? with
 | some a,some b=>chgB a b lv
 | _,_=>false
def begF (l:List RM) (lv:Nat):Nat→Nat
 | 0=>0
 | r+1=>if chgAt l r lv then r+1 else begF l lv r
structure VM where
 page:Nat
 line:Nat
 body:Bool
 lines:List (Nat × Nat × List UInt8)
def vRow (x:CM) (pg ln:D) (bo:Bool) (lin:D):List D:=[.int .u8 (x.co:Nat),.int .u16 (x.gr:Nat),.int .u8 (x.bl:Nat),.int .u8 (x.np:Nat),.int .u8 (x.p0:Nat),.int .u8 (x.p1:Nat),.int .u8 (x.p2:Nat),pg,ln,.bool bo,lin]
def vO (x:CM) (pg ln:D) (bo:Bool) (lin:D):Rf:=⟨107,11,[vRow x pg ln bo lin],0,0,false⟩
def VS (H:List Rf) (g:Nat) (x:CM) (v:VM):Prop:=∃lin,H[g]?=some (vO x (.int .i64 (v.page:Nat)) (.int .i64 (v.line:Nat)) v.body lin)∧LinAt H lin (v.lines.map lnR)
def KeepV (H H':List Rf):Prop:=H.length≤H'.length∧∀(j:Nat) (o:Rf),H[j]?=some o→o.kind=0∧o.elem≠107→H'[j]?=some o
theorem KeepV.refl(H:List Rf):KeepV H H:=⟨Nat.le_refl _,fun _ _ h _=>h⟩
theorem KeepV.trans{H H' H'':List Rf}(h:KeepV H H')(h':KeepV H' H''):KeepV H H'':=⟨Nat.le_trans h.1 h'.1,fun j o h1 h2=>h'.2 j o (h.2 j o h1 h2) h2⟩
theorem KeepV.app(H l:List Rf):KeepV H (H++l):=⟨by simp,fun j o h _=>Bu h l⟩
theorem VS.lt{H:List Rf}{g:Nat}{x:CM}{v:VM}(h:VS H g x v):g<H.length:=by
 obtain⟨lin,hw,_⟩:=h;exact Ff hw
theorem VS.app{H:List Rf}{g:Nat}{x:CM}{v:VM}(h:VS H g x v)(l:List Rf):VS (H++l) g x v:=by
 obtain⟨lin,hw,hl⟩:=h;exact⟨lin,Bu hw l,hl.keep fun j o hj _=>Bu hj l⟩
theorem VS.set{H:List Rf}{g:Nat}{x:CM}{v:VM}(h:VS H g x v)(pg ln:Nat)(bo:Bool)(lin:D)(lines:List (Nat × Nat × List UInt8))(hl:LinAt H lin (lines.map lnR)):VS (H.set g (vO x (.int .i64 (pg:Nat)) (.int .i64 (ln:Nat)) bo lin)) g x ⟨pg,ln,bo,lines⟩:=by
 obtain⟨lin0,hw,_⟩:=h;refine⟨lin,Bn hw _,hl.keep fun j o hj he=>Bg hj (fun e=>?_) _⟩;subst e;rw[hw]at hj;obtain rfl:=Option.some.inj hj;simp[vO]at he
theorem KeepV.set{H:List Rf}{g:Nat}{x:CM}{v:VM}(h:VS H g x v)(o':Rf):KeepV H (H.set g o'):=by
 obtain⟨lin0,hw,_⟩:=h;refine⟨by simp,fun j o hj hk=>Bg hj (fun e=>?_) _⟩;subst e;rw[hw]at hj;obtain rfl:=Option.some.inj hj;simp[vO]at hk
structure VE (S T:St) (g:Nat) (x:CM) (v v':VM):Prop where
 ws:VS T.heap g x v'
 kp:KeepV S.heap T.heap
 lo:T.low≤g∨v'=v
 lm:T.low≤S.low
def VF (d f:Nat) (args:List D) (g:Nat) (x:CM) (v v':VM):Prop:=∀(H:List Rf) (low:Nat),VS H g x v→∃r,(∃T wr,r=(.tup [],T,wr)∧VE ⟨H,low⟩ T g x v v')∧Bl LP NN d f (.ptr g 0 0 0::args) ⟨H,low⟩=some r
theorem VF.go{d f:Nat}{args:List D}{g:Nat}{x:CM}{v v':VM}(h:VF d f args g x v v'){H:List Rf}(low:Nat)(hW:VS H g x v):∃H' lo' wr,Bl LP NN d f (.ptr g 0 0 0::args) ⟨H,low⟩=some (.tup [],⟨H',lo'⟩,wr)∧VS H' g x v'∧KeepV H H'∧(lo'≤g∨v'=v)∧lo'≤low:=by
 obtain⟨r,⟨T,wr,rfl,h1⟩,h2⟩:=h H low hW;exact⟨T.heap,T.low,wr,h2,h1.ws,h1.kp,h1.lo,h1.lm⟩
def VM.put (v:VM) (p:Nat) (s:List UInt8):VM:={ v with line:=v.line+p,lines:=v.lines++[(v.page,v.line+p,s)] }
theorem VS.put{K H':List Rf}{g:Nat}{x:CM}{v:VM}(h:VS K g x v){o:Rf}(ho:o.kind=0∧o.elem=107)(xJ:(K.set g o).length≤H'.length)(hf:∀(j:Nat) (o':Rf),(K.set g o)[j]?=some o'→(o'.kind=0∨o'.elem≠52)→H'[j]?=some o'){g' v':Nat}(p:Nat)(s:List UInt8)(hg':H'[g']?=some ⟨52,3,v.lines.map lnR++[lnR (v.page,v.line+p,s)],v',1,true⟩) :
  VS (H'.set g (vO x (.int .i64 (v.page:Nat)) (.int .i64 (v.line+p:Nat)) v.body (.msl g' v' 0 (v.lines.length+1) none))) g x (v.put p s)∧KeepV K (H'.set g (vO x (.int .i64 (v.page:Nat)) (.int .i64 (v.line+p:Nat)) v.body (.msl g' v' 0 (v.lines.length+1) none))):=by
 obtain⟨lin0,hw,_⟩:=h;have hg:H'[g]?=some o:=hf g o (Bn hw _) (.inl ho.1)
 have uj:g≠g':=fun e=>by
  subst e;have:=hg.symm.trans hg';obtain rfl:=Option.some.inj this;simp at ho
 refine⟨⟨_,Bn hg _,.inr ⟨by simp[VM.put],.inr ⟨g',v',by simp[VM.put],?_⟩⟩⟩,?_,fun j o' hj hk=>?_⟩
 ·
  rw[Ln_ uj,hg'];simp[VM.put]
 ·
  simpa using xJ
 have hj2:j≠g:=fun e=>by
  subst e;rw[hw]at hj;obtain rfl:=Option.some.inj hj;simp[vO]at hk
 rw[Ln_ (Ne.symm hj2)];exact hf j o' (by rw[Ln_ (Ne.symm hj2)];exact hj) (.inl hk.1)
def VM.top (x:CM) (v:VM):VM:=if x.paged&&x.has 1 then v.put 1 ([80,32]++Bw v.page 2) else v
def VM.bot (x:CM) (v:VM):VM:=if x.has 8 then ({ v with line:=x.last }:VM).put 2 ([66,32]++Bw v.page 2) else { v with line:=x.last }
def VM.brk (x:CM) (v:VM) (h:Nat) (fresh:Bool):Bool:=v.body&&(fresh||decide (x.last<max v.line (x.first-1)+h))
def VM.newp (x:CM) (v:VM):VM:=VM.top x { VM.bot x v with page:=(VM.bot x v).page+1,line:=0 }
def VM.room (x:CM) (v:VM) (h:Nat) (fresh:Bool):VM:=if x.paged then (if v.brk x h fresh then { VM.newp x v with line:=max (VM.newp x v).line (x.first-1),body:=true } else { v with line:=max v.line (x.first-1),body:=true }) else v
structure VB (v:VM) (n:Nat):Prop where
 page:v.page≤n
 line:v.line≤n
 lines:v.lines.length≤n
theorem VB.mono{v:VM}{n n':Nat}(h:VB v n)(hn:n≤n'):VB v n':=⟨by have:=h.page;omega,by have:=h.line;omega,by have:=h.lines;omega⟩
theorem VB.put{v:VM}{n:Nat}(h:VB v n)(p:Nat)(hp:p≤2)(s:List UInt8):VB (v.put p s) (n+2):=⟨by have:=h.page;show v.page≤_;omega,by have:=h.line;show v.line+p≤_;omega,by have:=h.lines;simp[VM.put];omega⟩
theorem VB.top{v:VM}{n:Nat}(h:VB v n)(x:CM):VB (VM.top x v) (n+2):=by
 unfold VM.top;split
 ·
  exact h.put 1 (by omega) _
 exact h.mono (by omega)
theorem CM.last_le(x:CM):x.last≤12∧3≤x.first∧x.first≤5∧x.first+3≤x.last:=by
 have h1:x.p1 % 3<3:=Nat.mod_lt _ (by decide);have h2:x.p2 % 4<4:=Nat.mod_lt _ (by decide)
 unfold CM.last CM.first
 omega
theorem VB.bot{v:VM}{n:Nat}(h:VB v n)(x:CM)(hn:12≤n):VB (VM.bot x v) (n+2):=by
 have h0:=x.last_le;have h1:VB ({ v with line:=x.last }:VM) n:=⟨h.page,by show x.last≤n;omega,h.lines⟩;unfold VM.bot;split
 ·
  exact h1.put 2 (by omega) _
 exact h1.mono (by omega)
theorem VB.newp{v:VM}{n:Nat}(h:VB v n)(x:CM)(hn:12≤n):VB ({ VM.bot x v with page:=(VM.bot x v).page+1,line:=0 }:VM) (n+3)∧VB (VM.newp x v) (n+5):=by
 have h1:=h.bot x hn;have h2:VB ({ VM.bot x v with page:=(VM.bot x v).page+1,line:=0 }:VM) (n+3):=⟨by have:=h1.page;show (VM.bot x v).page+1≤_;omega,Nat.zero_le _,by have:=h1.lines;show (VM.bot x v).lines.length≤_;omega⟩;exact⟨h2,h2.top x⟩
theorem VB.room{v:VM}{n:Nat}(hv:VB v n)(x:CM)(hn:12≤n)(h:Nat)(f:Bool):VB (v.room x h f) (n+5):=by
 have h0:=x.last_le;unfold VM.room;split
 ·
  split
  ·
   have h1:=(hv.newp x hn).2;exact⟨h1.page,by have:=h1.line;show max (VM.newp x v).line (x.first-1)≤_;omega,h1.lines⟩
  exact⟨by have:=hv.page;show v.page≤_;omega,by have:=hv.line;show max v.line (x.first-1)≤_;omega,by have:=hv.lines;show v.lines.length≤_;omega⟩
 exact hv.mono (by omega)
def CM.npb (x:CM) (k:Nat):Bool:=x.np / 2 ^ k % 2==1
def hTxt (y:RM) (i:Nat):List UInt8:=[72]++Bw i 1++[32]++[y.A]++[y.B]
def VM.headI (x:CM) (y:RM) (i:Nat) (v:VM):VM:=if x.has (2+i) then (v.room x 1 (x.npb (1+i))).put 1 (hTxt y i) else v
def VM.headN (x:CM) (y:RM):Nat→Nat→VM→VM
 | _,0,v=>v
 | i,k+1,v=>VM.headN x y (i+1) k (v.headI x y i)
def VM.head (x:CM) (v:VM) (l:Nat) (y:RM):VM:=VM.headN x y l (x.ctl+1-l) v
theorem VB.headI{v:VM}{n:Nat}(h:VB v n)(vU:12≤n)(x:CM)(y:RM)(i:Nat):VB (v.headI x y i) (n+7):=by
 unfold VM.headI;split
 ·
  exact (h.room x vU _ _).put 1 (by omega) _
 exact h.mono (by omega)
theorem VB.head(x:CM)(y:RM):∀(k i:Nat) {v:VM} {n:Nat},VB v n→12≤n→VB (VM.headN x y i k v) (n+7*k)
 | 0,_,_,_,h,_=>h
 | k+1,i,v,n,h,vU=>by
  have:=VB.head x y k (i+1) (h.headI vU x y i) (by omega);rwa [show n+7+7*k=n+7*(k+1) by omega]at this
def sumN (l:List RM) (b k:Nat):Nat:=(((l.drop b).take k).map RM.N).sum
def fTxt (l:List RM) (last i:Nat) (y:RM) (s:Nat):List UInt8:=[70]++Bw i 1++[32]++[y.A]++[y.B]++[32]++Bw s 6
def fSum (x:CM) (l:List RM) (last i:Nat):Nat:=sumN l (begF l (min i x.ctl) last) (last+1-begF l (min i x.ctl) last)
def VM.footI (x:CM) (l:List RM) (last:Nat) (y:RM) (i:Nat) (v:VM):VM :=
 if x.has (5+i) then (if x.blk i then ((v.room x 2 false).put 1 (fTxt l last i y (fSum x l last i))).put 1 [] else (v.room x 1 false).put 1 (fTxt l last i y (fSum x l last i))) else v
def VM.footN (x:CM) (l:List RM) (last:Nat) (y:RM):Nat→Nat→VM→VM
 | _,0,v=>v
 | i,k+1,v=>VM.footN x l last y (i-1) k (v.footI x l last y (i-1))
def VM.foot (x:CM) (v:VM) (lv:Nat) (l:List RM) (last:Nat) (y:RM):VM:=VM.footN x l last y (x.ctl+1) (x.ctl+1-lv) v
theorem VB.footI{v:VM}{n:Nat}(h:VB v n)(vU:12≤n)(x:CM)(l:List RM)(last:Nat)(y:RM)(i:Nat):VB (v.footI x l last y i) (n+9):=by
 unfold VM.footI;split
 ·
  split
  ·
   exact ((h.room x vU _ _).put 1 (by omega) _).put 1 (by omega) _
  exact ((h.room x vU _ _).put 1 (by omega) _).mono (by omega)
 exact h.mono (by omega)
theorem VB.foot(x:CM)(l:List RM)(last:Nat)(y:RM):∀(k i:Nat) {v:VM} {n:Nat},VB v n→12≤n→VB (VM.footN x l last y i k v) (n+9*k)
 | 0,_,_,_,h,_=>h
 | k+1,i,v,n,h,vU=>by
  have:=VB.foot x l last y k (i-1) (h.footI vU x l last y (i-1)) (by omega);rwa [show n+9+9*k=n+9*(k+1) by omega]at this
theorem begF_le(l:List RM)(lv:Nat):∀r,begF l lv r≤r
 | 0=>Nat.le_refl _
 | r + 1 => by
  rw[begF];split
  ·
   exact Nat.le_refl _
  have:=begF_le l lv r;omega
theorem Ox(l:List RM)(b k:Nat){y:RM}(h:l[b+k]?=some y):sumN l b (k+1)=sumN l b k+y.N:=by
 unfold sumN;rw[List.take_add_one,List.getElem?_drop,h];simp
def LinZ (z:D) (rows:List (List D)):Prop:=(rows=[]∧z=.R4)∨(rows≠[]∧∃c,z=.sl 3 rows c)
theorem LinAt.leaveP{H:List Rf}{d:D}{rows:List (List D)}(h:LinAt H d rows)(lo:Nat):∃z,LinZ z rows∧leaveP ⟨[],0⟩ d ⟨H,lo⟩=some (z,⟨[],0⟩,false):=by
 rcases h with⟨h1,rfl⟩ | ⟨h1,rfl | ⟨g,v,rfl,h3⟩⟩
 ·
  exact⟨.R4,.inl ⟨h1,rfl⟩,rfl⟩
 ·
  exact⟨_,.inr ⟨h1,_,rfl⟩,rfl⟩
 refine⟨.sl 3 rows none,.inr ⟨h1,_,rfl⟩,?_⟩;simp[YtbhnlppboegmjaaGreatDoor.leaveP,leave,O1,Ip,Hu,h3,D.Rq,D.Rp,D.free,D.Rv]
def VM.ini:VM:=⟨1,0,false,[]⟩
def lvD (a b:RM):Nat→Nat→Nat
 | 0,_=>0
 | n+1,k=>if chgB a b (k+1) then k+1 else lvD a b n (k+1)
def VM.fst (x:CM) (v:VM) (y:RM):VM:=VM.head x (VM.top x (if x.has 0 then v.put 1 [82,72] else v)) 0 y
def VM.nxt (x:CM) (v:VM) (l:List RM) (i:Nat) (a y:RM):VM:=if lvD a y x.ctl 0=0 then v else VM.head x (VM.foot x v (lvD a y x.ctl 0) l i a) (lvD a y x.ctl 0) y
def d0Txt (y:RM):List UInt8:=[y.A]++[y.B]++[32]++Bw y.N 3
def d1Txt (y:RM):List UInt8:=[32,32,32,32,32,32,32,32,32]++Bw y.N 3
def VM.det (x:CM) (v:VM) (y:RM):VM:=if y.det=0 then (v.room x 1 (x.npb 0)).put 1 (d0Txt y) else if y.det=1 then (v.room x 2 false).put 2 (d1Txt y) else v
def VM.rows (x : CM) (l : List RM) : Nat → VM → VM
 | 0,v=>v
 | i + 1, v => match l[i]? with
  | none=>VM.rows x l i v
  | some y => VM.det x (match i with
   | 0=>VM.fst x (VM.rows x l 0 v) y
   | j+1=>match l[j]? with
    | some a=>VM.nxt x (VM.rows x l (j+1) v) l j a y
    | none=>VM.rows x l (j+1) v) y
def VM.fin1 (x:CM) (v:VM) (l:List RM) (y:RM):VM:=VM.foot x v 0 l (l.length-1) y
def VM.fin2 (x:CM) (v:VM):VM:=if x.has 9 then (v.room x 1 false).put 1 [82,70] else v
def VM.fin (x:CM) (v:VM) (l:List RM) (y:RM):VM:=if x.paged then VM.bot x (VM.fin2 x (VM.fin1 x v l y)) else VM.fin2 x (VM.fin1 x v l y)
def VM.all (x:CM) (l:List RM) (e:Bool):VM:=if e then (match l[l.length-1]? with
 | some y=>VM.fin x (VM.rows x l l.length VM.ini) l y
 | none=>VM.rows x l l.length VM.ini) else VM.rows x l l.length VM.ini
theorem lvD_le(a b:RM):∀n k,lvD a b n k≤k+n
 | 0,k=>Nat.zero_le _
 | n + 1, k => by
  rw[lvD];split
  ·
   omega
  have:=lvD_le a b n (k+1);omega
theorem VB.fst{v:VM}{n:Nat}(h:VB v n)(vU:12≤n)(x:CM)(y:RM):VB (if x.has 0 then v.put 1 [82,72] else v) (n+2)∧VB (VM.top x (if x.has 0 then v.put 1 [82,72] else v)) (n+4)∧VB (VM.fst x v y) (n+25):=by
 have hc:=x.ctl_lt
 have h1:VB (if x.has 0 then v.put 1 [82,72] else v) (n+2):=by
  split
  ·
   exact h.put 1 (by omega) _
  exact h.mono (by omega)
 have h2:=h1.top x;exact⟨h1,h2,(VB.head x y (x.ctl+1-0) 0 h2 (by omega)).mono (by omega)⟩
theorem VB.nxt{v:VM}{n:Nat}(h:VB v n)(vU:12≤n)(x:CM)(l:List RM)(i:Nat)(a y:RM)(lv:Nat):VB (VM.foot x v lv l i a) (n+27)∧VB (VM.nxt x v l i a y) (n+48):=by
 have hc:=x.ctl_lt;have h1:∀lv,VB (VM.foot x v lv l i a) (n+27):=fun lv=>(VB.foot x l i a (x.ctl+1-lv) (x.ctl+1) h vU).mono (by omega);refine⟨h1 lv,?_⟩;unfold VM.nxt;split
 ·
  exact h.mono (by omega)
 exact (VB.head x y (x.ctl+1-_) _ (h1 _) (by omega)).mono (by omega)
theorem VB.det{v:VM}{n:Nat}(h:VB v n)(vU:12≤n)(x:CM)(y:RM):VB (VM.det x v y) (n+7):=by
 unfold VM.det;split
 ·
  exact (h.room x vU _ _).put 1 (by omega) _
 split
 ·
  exact (h.room x vU _ _).put 2 (by omega) _
 exact h.mono (by omega)
theorem VB.rows(x:CM)(l:List RM):∀i,VB (VM.rows x l i VM.ini) (12+55*i)
 | 0=>⟨by show 1≤_;omega,Nat.zero_le _,Nat.zero_le _⟩
 | i + 1 => by
  have ih:=VB.rows x l i;rw[VM.rows];split
  ·
   exact ih.mono (by omega)
  rename_i y _
  cases i with
  | zero =>
   have h1:=(ih.fst (by omega) x y).2.2;have h2:=h1.det (by omega) x y;exact VB.mono h2 (by omega)
  | succ j =>
   cases hj:l[j]? with
   | none =>
    have h2:=ih.det (by omega) x y;simp only[hj];exact VB.mono h2 (by omega)
   | some a =>
    have h1:=(ih.nxt (by omega) x l j a y 0).2;have h2:=h1.det (by omega) x y;simp only[hj];exact VB.mono h2 (by omega)
def VM.pre (x:CM) (l:List RM) (i:Nat) (y:RM):VM:=match i with
 | 0=>VM.fst x (VM.rows x l 0 VM.ini) y
 | j+1=>match l[j]? with
  | some a=>VM.nxt x (VM.rows x l (j+1) VM.ini) l j a y
  | none=>VM.rows x l (j+1) VM.ini
theorem rows_step(x:CM)(l:List RM){i:Nat}{y:RM}(h:l[i]?=some y):VM.rows x l (i+1) VM.ini=VM.det x (VM.pre x l i y) y:=by
 rw[VM.rows,h];cases i<;>rfl
theorem VB.pre(x:CM)(l:List RM){i:Nat}{y:RM}(h:l[i]?=some y):VB (VM.pre x l i y) (12+55*i+48):=by
 have ih:=VB.rows x l i;unfold VM.pre
 cases i with
 | zero=>exact VB.mono (ih.fst (by omega) x y).2.2 (by omega)
 | succ j =>
  cases hj:l[j]? with
  | none=>simp only[hj];exact VB.mono ih (by omega)
  | some a=>simp only[hj];exact (ih.nxt (by omega) x l j a y 0).2
def toV (w:WM):VM:=⟨w.page,w.line,w.body,w.lines⟩
theorem CM.P_iff(x:CM):x.P=0↔x.paged=false:=by
 unfold CM.P;cases x.paged<;>simp
theorem CM.L_eq(x:CM)(h:x.paged=true):x.L=x.last∧x.F=x.first:=by simp[CM.L,CM.F,h]
theorem toV_put(w:WM)(p:Nat)(s:List UInt8):toV (w.put p s)=(toV w).put p s:=rfl
theorem Ou(w:WM)(p:Nat)(its:List It):w.write [(p,its)]=w.put p (Dj w its):=rfl
theorem fillL1(i:Nat)(h:i<10):Bw i 1=[dgt i]:=by
 simp[Bw,dgt,Nat.mod_eq_of_lt h]
theorem rend_L2(w:WM)(a b:UInt8):Dj w [.lit 1 [a,b]]=[a,b]:=by simp[Dj,J2,It.col,It.txt]
theorem rend_LP(w:WM)(a:UInt8):Dj w [.lit 1 [a],.pag]=[a,32]++Bw w.page 2:=by simp[Dj,J2,It.col,It.txt]
theorem rend_H(w:WM)(y:RM)(hr:w.row=some y)(i:Nat)(hi:i<10):Dj w [.lit 1 [72,dgt i],.key 4 0,.key 5 1]=hTxt y i:=by simp[Dj,J2,It.col,It.txt,hr,hTxt,fillL1 i hi]
theorem rend_F(w:WM)(y:RM)(hr:w.row=some y)(i:Nat)(hi:i<10)(l:List RM)(last:Nat):Dj w [.lit 1 [70,dgt i],.key 4 0,.key 5 1,.tot i]=fTxt l last i y (w.tot.getD i 0):=by simp[Dj,J2,It.col,It.txt,hr,fTxt,fillL1 i hi]
theorem rend_D1(w:WM)(y:RM)(hr:w.row=some y):Dj w [.key 1 0,.key 2 1,.num 4]=d0Txt y:=by simp[Dj,J2,It.col,It.txt,hr,d0Txt]
theorem rend_D2(w:WM)(y:RM)(hr:w.row=some y):Dj w [.num 10]=d1Txt y:=by simp[Dj,J2,It.col,It.txt,hr,d1Txt,List.replicate]
theorem bot_eq(x:CM)(hp:x.paged=true)(w:WM):toV (Dm x w)=VM.bot x (toV w):=by
 have hL:=(x.L_eq hp).1;have e:x.tg 6 0=if x.has 8 then tPF else tZ:=by simp[CM.tg,hp]
 unfold Dm VM.bot;rw[e,hL];split
 ·
  show toV (WM.write _ [(2,[.lit 1 [66],.pag])])=_;rw[Ou,rend_LP];rfl
 rfl
theorem top_eq(x:CM)(w:WM):toV (w.write (x.tg 2 0).tl)=VM.top x (toV w):=by
 have e:x.tg 2 0=if x.paged&&x.has 1 then tPH else tZ:=by simp[CM.tg,Bool.and_comm]
 unfold VM.top;rw[e];split
 ·
  show toV (WM.write _ [(1,[.lit 1 [80],.pag])])=_;rw[Ou,rend_LP];rfl
 rfl
theorem top_body(x:CM)(v:VM)(b:Bool):VM.top x { v with body:=b }={ VM.top x v with body:=b }:=by
 unfold VM.top;split<;>rfl
theorem newp_eq(x:CM)(hp:x.paged=true)(w:WM):toV (Es x w)={ VM.newp x (toV w) with body:=false }:=by
 unfold Es VM.newp;rw[top_eq,←top_body,←bot_eq x hp w];rfl
theorem room_eq(x:CM)(w:WM)(t:TG)(f:Bool)(ht:t.tl≠[])(hf:x.paged=true→t.np=f):toV (Hy x w t)=(toV w).room x t.h f:=by
 unfold Hy VM.room
 cases hp:x.paged with
 | false=>rw[if_pos (x.P_iff.2 hp)];simp
 | true =>
  have h1:=x.L_eq hp;rw[if_neg (by rw[x.P_iff,hp];simp),if_neg ht]
  have hb:Mc x w t=(toV w).brk x t.h f:=by
   unfold Mc VM.brk;rw[h1.1,h1.2,hf hp,Nat.add_comm];rfl
  rw[hb];simp only[if_true]
  cases (toV w).brk x t.h f with
  | false=>simp only[Bool.false_eq_true,if_false];rw[h1.2];rfl
  | true =>
   simp only[if_true];have h2:=newp_eq x hp w;have h3:(Es x w).line=(VM.newp x (toV w)).line:=congrArg VM.line h2;have h4:(Es x w).page=(VM.newp x (toV w)).page:=congrArg VM.page h2;have h5:(Es x w).lines=(VM.newp x (toV w)).lines:=congrArg VM.lines h2;show (⟨(Es x w).page,max (Es x w).line (x.F-1),true,(Es x w).lines⟩:VM)=_;rw[h3,h4,h5,h1.2]
def InvV (x:CM) (v:VM):Prop:=x.paged=true→if v.body then v.line≤x.last else v.line≤2
theorem Kt{x:CM}{v:VM}(h:InvV x v)(n:Nat)(hn:n≤2)(f:Bool)(hp:x.paged=true):(v.room x n f).line+n≤x.last∧(v.room x n f).body=true:=by
 have hl:=x.last_le;have h0:=h hp;unfold VM.room;rw[if_pos hp]
 cases hb:v.brk x n f with
 | true =>
  simp only[if_true];refine⟨?_,trivial⟩
  have:(VM.newp x v).line≤1:=by
   unfold VM.newp VM.top;split
   ·
    simp[VM.put]
   simp
  show max (VM.newp x v).line (x.first-1)+n≤x.last;omega
 | false =>
  simp only[Bool.false_eq_true,if_false];refine⟨?_,trivial⟩;show max v.line (x.first-1)+n≤x.last
  cases hv:v.body with
  | true =>
   rw[hv,if_pos rfl]at h0
   have:¬(x.last<max v.line (x.first-1)+n):=fun h'=>by
    have:v.brk x n f=true:=by simp[VM.brk,hv,h']
    rw[hb]at this;simp at this
   omega
  | false =>
   rw[hv]at h0;simp at h0;omega
theorem Nw{x:CM}{v:VM}{p:Nat}(s:List UInt8)(h:x.paged=true→v.line+p≤x.last∧v.body=true):InvV x (v.put p s):=fun hp=>by
 obtain⟨h1,h2⟩:=h hp;show if v.body then v.line+p≤x.last else _
 rw[h2,if_pos rfl];exact h1
theorem inv_ub{x:CM}{v:VM}(h:InvV x v)(hp:x.paged=true):max v.line (x.first-1)≤x.last:=by
 have hl:=x.last_le;have h0:=h hp;split at h0<;>omega
theorem O7{x:CM}{w:WM}(h:InvV x (toV w)):Dr x w tZ=w:=by
 unfold Dr Hy;show (if x.P=0 then w else if tZ.tl=[] then (if Mc x w tZ then Es x w else w) else _:WM).write []=w;split
 ·
  rfl
 rename_i hP
 have hp:x.paged=true:=by
  cases h:x.paged with
  | true=>rfl
  | false=>exact absurd (x.P_iff.2 h) hP
 have h1:=inv_ub h hp;have h2:=x.L_eq hp
 have hb:Mc x w tZ=false:=by
  simp only[Mc,tZ,TG.h,Bool.false_or,Bool.and_eq_false_imp,decide_eq_false_iff_not,h2.1,h2.2,List.map_nil,List.sum_nil];intro _;have:(toV w).line=w.line:=rfl;rw[this]at h1;omega
 rw[if_pos (show tZ.tl=[] from rfl),hb];rfl
theorem pres1(x:CM)(w:WM)(t:TG)(f:Bool){p:Nat}{its:List It}(ht:t.tl=[(p,its)])(hf:x.paged=true→t.np=f):toV (Dr x w t)=((toV w).room x t.h f).put p (Dj (Hy x w t) its):=by
 unfold Dr;rw[ht,Ou,toV_put,room_eq x w t f (by rw[ht];simp) hf]
theorem Kh(x:CM)(w:WM)(t:TG):(Hy x w t).row=w.row:=(room_f x w t).1
theorem pres_H{x:CM}{w:WM}{y:RM}(hr:w.row=some y){i:Nat}(hi:i<3){b f:Bool}(hf:x.paged=true→b=f):toV (Dr x w (tH i b))=((toV w).room x 1 f).put 1 (hTxt y i):=by
 rw[pres1 x w (tH i b) f rfl hf,rend_H _ y ((Kh _ _ _).trans hr) i (by omega)];rfl
theorem pres_D1{x:CM}{w:WM}{y:RM}(hr:w.row=some y){b f:Bool}(hf:x.paged=true→b=f):toV (Dr x w (tD1 b))=((toV w).room x 1 f).put 1 (d0Txt y):=by
 rw[pres1 x w (tD1 b) f rfl hf,rend_D1 _ y ((Kh _ _ _).trans hr)];rfl
theorem pres_D2{x:CM}{w:WM}{y:RM}(hr:w.row=some y):toV (Dr x w tD2)=((toV w).room x 2 false).put 2 (d1Txt y):=by
 rw[pres1 x w tD2 false rfl (fun _=>rfl),rend_D2 _ y ((Kh _ _ _).trans hr)];rfl
theorem pres_RF{x:CM}{w:WM}:toV (Dr x w tRF)=((toV w).room x 1 false).put 1 [82,70]:=by
 rw[pres1 x w tRF false rfl (fun _=>rfl),rend_L2];rfl
theorem pres_F{x:CM}{w:WM}{y:RM}(hr:w.row=some y){i:Nat}(hi:i<3)(b:Bool)(l:List RM)(last:Nat):toV (Dr x w (tF i b))=if b then (((toV w).room x 2 false).put 1 (fTxt l last i y (w.tot.getD i 0))).put 1 [] else ((toV w).room x 1 false).put 1 (fTxt l last i y (w.tot.getD i 0)):=by
 have ht:∀b,(Hy x w (tF i b)).tot=w.tot:=fun b=>(room_f x w (tF i b)).2.1
 cases b with
 | false =>
  rw[pres1 x w (tF i false) false rfl (fun _=>rfl),rend_F _ y ((Kh _ _ _).trans hr) i (by omega) l last,ht];rfl
 | true =>
  unfold Dr;show toV (WM.write (WM.write _ [(1,[.lit 1 [70,dgt i],.key 4 0,.key 5 1,.tot i])]) [(1,[])])=_;rw[Ou,Ou,toV_put,toV_put,rend_F _ y ((Kh _ _ _).trans hr) i (by omega) l last,room_eq x w (tF i true) false (by simp[tF]) (fun _=>rfl),ht];rfl
theorem inv_headI{x:CM}{v:VM}(h:InvV x v)(y:RM)(i:Nat):InvV x (v.headI x y i):=by
 unfold VM.headI;split
 ·
  exact Nw _ fun hp=>Kt h 1 (by omega) _ hp
 exact h
theorem inv_footI{x:CM}{v:VM}(h:InvV x v)(l:List RM)(last:Nat)(y:RM)(i:Nat):InvV x (v.footI x l last y i):=by
 unfold VM.footI;split
 ·
  split
  ·
   refine Nw _ fun hp=>?_;have:=Kt h 2 (by omega) false hp;exact⟨by show (v.room x 2 false).line+1+1≤_;omega,this.2⟩
  exact Nw _ fun hp=>Kt h 1 (by omega) _ hp
 exact h
theorem nps_npb{x:CM}(hp:x.paged=true)(k:Nat):x.nps k=x.npb k:=by simp[CM.nps,CM.npb,hp]
theorem headI_eq{x:CM}{w:WM}{y:RM}(hr:w.row=some y)(hI:InvV x (toV w)){i:Nat}(hi:i<3):toV (Dr x w (x.tg 3 i))=(toV w).headI x y i:=by
 unfold VM.headI;have e:x.tg 3 i=if x.has (2+i) then tH i (x.nps (1+i)) else tZ:=rfl
 rw[e];split
 ·
  exact pres_H hr hi (fun hp=>nps_npb hp _)
 rw[O7 hI]
theorem headN_eq{x:CM}{y:RM}:∀(k i:Nat) {w:WM},w.row=some y→InvV x (toV w)→i+k≤3→toV (headN x i k w)=VM.headN x y i k (toV w)∧InvV x (toV (headN x i k w))
 | 0,_,_,_,hI,_=>⟨rfl,hI⟩
 | k+1,i,w,hr,hI,hk=>by
  have h1:=headI_eq hr hI (i:=i) (by omega);have h2:=headN_eq k (i+1) (w:=Dr x w (x.tg 3 i)) ((Fw x w _).1.trans hr) (by rw[h1];exact inv_headI hI y i) (by omega);rw[h1]at h2;exact h2
theorem toV_clr(w:WM)(i:Nat):toV (w.clr i)=toV w:=rfl
theorem getD_set(l:List Nat)(i j:Nat):(l.set i 0).getD j 0=if i=j then 0 else l.getD j 0:=by
 rw[List.getD_eq_getElem?_getD,List.getD_eq_getElem?_getD,List.getElem?_set];split
 ·
  split<;>rfl
 rfl
theorem footI_eq{x:CM}{w:WM}{a:RM}(hr:w.row=some a)(hI:InvV x (toV w)){i:Nat}(hi:i<3)(l:List RM)(last:Nat)(ht:w.tot.getD i 0=fSum x l last i):toV ((Dr x w (x.tg 5 i)).clr i)=(toV w).footI x l last a i:=by
 rw[toV_clr];unfold VM.footI;have e:x.tg 5 i=if x.has (5+i) then tF i (x.blk i) else tZ:=rfl
 rw[e];split
 ·
  rw[pres_F hr hi (x.blk i) l last,ht]
 rw[O7 hI]
theorem footN_eq{x:CM}{a:RM}(l:List RM)(last:Nat):∀(k i:Nat) {w:WM},w.row=some a→InvV x (toV w)→i≤3→k≤i→(∀j,j<i→w.tot.getD j 0=fSum x l last j)→toV (footN x i k w)=VM.footN x l last a i k (toV w)∧InvV x (toV (footN x i k w))
 | 0,_,_,_,hI,_,_,_=>⟨rfl,hI⟩
 | k + 1, i, w, hr, hI, hi, hk, ht => by
  have h1:=footI_eq hr hI (i:=i-1) (by omega) l last (ht (i-1) (by omega))
  have h2:=footN_eq l last k (i-1) (w:=(Dr x w (x.tg 5 (i-1))).clr (i-1)) ((Fw x w _).1.trans hr) (by rw[h1];exact inv_footI hI l last a (i-1)) (by omega) (by omega) (fun j hj=>by
   show ((Dr x w (x.tg 5 (i-1))).tot.set (i-1) 0).getD j 0=_;rw[getD_set,if_neg (by omega),(Fw x w _).2.1]
   exact ht j (by omega))
  rw[h1]at h2;exact h2
theorem footN_tot(x:CM):∀(k i:Nat) (w:WM),k≤i→∀j,(footN x i k w).tot.getD j 0=if i-k≤j∧j<i then 0 else w.tot.getD j 0
 | 0,i,w,_,j=>by rw[if_neg (by omega)];rfl
 | k + 1, i, w, hk, j => by
  have h:=footN_tot x k (i-1) ((Dr x w (x.tg 5 (i-1))).clr (i-1)) (by omega) j;rw[footN,h];show (if _ then 0 else ((Dr x w (x.tg 5 (i-1))).tot.set (i-1) 0).getD j 0)=_;rw[getD_set,(Fw x w _).2.1];by_cases h1:i-1=j
  ·
   rw[if_pos h1,ite_self,if_pos (by omega)]
  rw[if_neg h1];by_cases h2:i-1-k≤j∧j<i-1
  ·
   rw[if_pos h2,if_pos (by omega)]
  rw[if_neg h2,if_neg (by omega)]
theorem write_page(w:WM)(tl:List (Nat × List It)):(w.write tl).page=w.page:=(Ea w tl).2.1
theorem Lh(x:CM)(w:WM)(t:TG):w.page≤(Dr x w t).page:=by
 have h0:w.page≤(if Mc x w t then Es x w else w).page:=by
  split
  ·
   unfold Es;rw[write_page];show w.page≤(Dm x w).page+1;rw[(bottom_f x w).2.1];omega
  exact Nat.le_refl _
 unfold Dr;rw[write_page];unfold Hy;split
 ·
  exact Nat.le_refl _
 split<;>exact h0
theorem Mt(x:CM):∀(k i:Nat) (w:WM),w.page≤(headN x i k w).page
 | 0,_,_=>Nat.le_refl _
 | k+1,i,w=>Nat.le_trans (Lh x w _) (Mt x k (i+1) _)
theorem footN_page(x:CM):∀(k i:Nat) (w:WM),w.page≤(footN x i k w).page
 | 0,_,_=>Nat.le_refl _
 | k+1,i,w=>Nat.le_trans (Lh x w (x.tg 5 (i-1))) (footN_page x k (i-1) ((Dr x w (x.tg 5 (i-1))).clr (i-1)))
theorem lvD_brk(a y:RM)(c:Nat)(hc:c<3):(brkI a y c).toNat=lvD a y c 0:=by
 have h:∀p q:UInt8,(p != q)=!decide (p=q):=fun p q=>by rw[bne,Bool.eq_iff_iff];simp
 rcases (by omega:c=0∨c=1∨c=2) with rfl | rfl | rfl<;>by_cases h1:a.A=y.A<;>by_cases h2:a.B=y.B<;>simp[brkI,lvD,chgB,h1,h2]
theorem chg_lvD(a y:RM)(c j:Nat)(hc:c<3)(hj:j≤c):chgB a y j=decide (lvD a y c 0≠0∧lvD a y c 0≤j):=by
 rcases (by omega:c=0∨c=1∨c=2) with rfl | rfl | rfl<;>rcases (by omega:j=0∨j=1∨j=2) with rfl | rfl | rfl<;>first | omega | (by_cases h1:a.A=y.A<;>by_cases h2:a.B=y.B<;>simp[lvD,chgB,h1,h2])
theorem fSum_first(x:CM)(l:List RM){y:RM}(h:l[0]?=some y)(j:Nat):fSum x l 0 j=y.N:=by
 show sumN l 0 1=_;have:=Ox l 0 0 (y:=y) (by simpa using h);rw[this];simp[sumN]
theorem fSum_step(x:CM)(l:List RM){i:Nat}{a y:RM}(ha:l[i]?=some a)(hy:l[i+1]?=some y)(j:Nat):fSum x l (i+1) j=if chgB a y (min j x.ctl) then y.N else fSum x l i j+y.N:=by
 have e:chgAt l i (min j x.ctl)=chgB a y (min j x.ctl):=by simp[chgAt,ha,hy]
 unfold fSum;rw[begF,e];split
 ·
  have:=Ox l (i+1) 0 (y:=y) (by simpa using hy);rw[show i+1+1-(i+1)=0+1 by omega,this];simp[sumN]
 have hb:=begF_le l (min j x.ctl) i;rw[show i+1+1-begF l (min j x.ctl) i=(i+1-begF l (min j x.ctl) i)+1 by omega,Ox l _ _ (y:=y)];rw[show begF l (min j x.ctl) i+(i+1-begF l (min j x.ctl) i)=i+1 by omega];exact hy
structure TQ (x:CM) (l:List RM) (i:Nat) (w:WM):Prop where
 row:∃a,l[i-1]?=some a∧w.row=some a
 tot:∀j,j≤x.ctl→w.tot.getD j 0=fSum x l (i-1) j
 len:w.tot.length=x.ctl+1
 page:w.page≠0
 ended:w.ended=false
def w0 (x:CM):WM:=⟨0,0,false,none,List.replicate (x.ctl+1) 0,[],false⟩
theorem gen_keep(x:CM)(w:WM)(y:RM)(det:Int):(Mv x w y det).row=(genA x w y).row∧(Mv x w y det).tot=(genA x w y).tot∧(Mv x w y det).ended=(genA x w y).ended∧(genA x w y).page≤(Mv x w y det).page:=by
 unfold Mv;split
 ·
  exact⟨(Fw x _ _).1,(Fw x _ _).2.1,(Fw x _ _).2.2,Lh x _ _⟩
 split
 ·
  exact⟨(Fw x _ _).1,(Fw x _ _).2.1,(Fw x _ _).2.2,Lh x _ _⟩
 exact⟨rfl,rfl,rfl,Nat.le_refl _⟩
theorem genA_f(x:CM)(w:WM)(y:RM):(genA x w y).row=some y∧(genA x w y).tot=(Dq x w y).tot.map (·+y.N)∧(genA x w y).ended=(Dq x w y).ended∧(genA x w y).page=(Dq x w y).page:=⟨rfl,rfl,rfl,rfl⟩
theorem getD_map(l:List Nat)(N j:Nat)(h:j<l.length):(l.map (·+N)).getD j 0=l.getD j 0+N:=by
 simp[h]
theorem start_f(x:CM)(w:WM)(y:RM):(Mi x w y).tot=w.tot∧(Mi x w y).ended=w.ended∧1≤(Mi x w y).page:=by
 have h1:=Ea (stA w y) (x.tg 1 0).tl;have h2:=Ea ((stA w y).write (x.tg 1 0).tl) (x.tg 2 0).tl;have h3:=Jt x (x.ctl+1-0) 0 (((stA w y).write (x.tg 1 0).tl).write (x.tg 2 0).tl);have h4:=Mt x (x.ctl+1-0) 0 (((stA w y).write (x.tg 1 0).tl).write (x.tg 2 0).tl);rw[h2.2.1,h1.2.1]at h4;exact⟨h3.2.1.trans (h2.2.2.1.trans h1.2.2.1),h3.2.2.trans (h2.2.2.2.2.trans h1.2.2.2.2),h4⟩
theorem TQ.first(x:CM){l:List RM}{y:RM}(hy:l[0]?=some y)(det:Int):TQ x l 1 (Mv x (w0 x) y det):=by
 obtain⟨k1,k2,k3,k4⟩:=gen_keep x (w0 x) y det;obtain⟨a1,a2,a3,a4⟩:=genA_f x (w0 x) y;have e:Dq x (w0 x) y=Mi x (w0 x) y:=if_pos rfl;obtain⟨s1,s2,s3⟩:=start_f x (w0 x) y;refine⟨⟨y,hy,k1.trans a1⟩,fun j hj=>?_,?_,?_,?_⟩
 ·
  rw[k2,a2,e,s1,getD_map _ _ _ (by simp[w0];omega),fSum_first x l hy];simp[w0,List.getElem?_replicate];split<;>rfl
 ·
  rw[k2,a2,e,s1];simp[w0]
 ·
  rw[a4,e]at k4;omega
 rw[k3,a3,e,s2];rfl
theorem foot_len(x:CM):∀(k i:Nat) (w:WM),(footN x i k w).tot.length=w.tot.length
 | 0,_,_=>rfl
 | k+1,i,w=>by
  rw[footN,foot_len x k (i-1)];show ((Dr x w _).tot.set _ _).length=_;rw[List.length_set,(Fw x w _).2.1]
theorem TQ.next(x:CM){l:List RM}{i:Nat}{w:WM}(h:TQ x l (i+1) w){y:RM}(hy:l[i+1]?=some y)(det:Int):TQ x l (i+2) (Mv x w y det):=by
 obtain⟨a,ha,hr⟩:=h.row;have ha:l[i]?=some a:=ha;have hc:=x.ctl_lt;obtain⟨k1,k2,k3,k4⟩:=gen_keep x w y det;obtain⟨a1,a2,a3,a4⟩:=genA_f x w y;have hb:brkN w y x.ctl=lvD a y x.ctl 0:=by simp only[brkN,hr];exact lvD_brk a y x.ctl hc
 have hlv:=lvD_le a y x.ctl 0;have e:Dq x w y=if lvD a y x.ctl 0=0 then w else Nb x w y (lvD a y x.ctl 0):=by rw[Dq,if_neg h.page,hb]
 have xk:(Dq x w y).tot.length=x.ctl+1:=by
  rw[e];split
  ·
   exact h.len
  rw[Nb,headW,(Jt x _ _ _).2.1];exact (foot_len x _ _ w).trans h.len
 have htot:∀j,j≤x.ctl→(Dq x w y).tot.getD j 0=if chgB a y j then 0 else w.tot.getD j 0:=fun j hj=>by
  rw[chg_lvD a y x.ctl j hc hj,e];by_cases h0:lvD a y x.ctl 0=0
  ·
   rw[if_pos h0,if_neg (by simp[h0])]
  rw[if_neg h0,Nb,headW,(Jt x _ _ _).2.1];show (footN x (x.ctl+1) (x.ctl+1-lvD a y x.ctl 0) w).tot.getD j 0=_;rw[footN_tot x _ _ w (by omega) j];by_cases h1:lvD a y x.ctl 0≤j
  ·
   rw[if_pos (by omega),if_pos (by simp[h0,h1])]
  rw[if_neg (by omega),if_neg (by simp[h1])]
 refine⟨⟨y,hy,k1.trans a1⟩,fun j hj=>?_,by rw[k2,a2,List.length_map];exact xk,?_,?_⟩
 ·
  rw[k2,a2,getD_map _ _ _ (by omega),htot j hj];show _=fSum x l (i+1) j;rw[fSum_step x l ha hy j,Nat.min_eq_left hj];split
  ·
   omega
  rw[h.tot j hj];rfl
 ·
  have:w.page≤(Dq x w y).page:=by
   rw[e];split
   ·
    exact Nat.le_refl _
   exact Nat.le_trans (footN_page x _ _ w) (Mt x _ _ (setRow (N8 x w _) y))
  have:=h.page;omega
 rw[k3,a3,e];split
 ·
  exact h.ended
 rw[Nb,headW,(Jt x _ _ _).2.2];exact (footN_f x _ _ w).2.trans h.ended
def RQ (x:CM) (l:List RM) (i:Nat) (w:WM):Prop:=toV w=VM.rows x l i VM.ini∧InvV x (toV w)
theorem inv_det{x:CM}{v:VM}(h:InvV x v)(y:RM):InvV x (VM.det x v y):=by
 unfold VM.det;split
 ·
  exact Nw _ fun hp=>Kt h 1 (by omega) _ hp
 split
 ·
  exact Nw _ fun hp=>Kt h 2 (by omega) _ hp
 exact h
theorem det_eq{x:CM}{w:WM}{y:RM}:toV (Mv x w y y.det)=VM.det x (toV (Dq x w y)) y:=by
 have h:toV (genA x w y)=toV (Dq x w y):=rfl;have hr:(genA x w y).row=some y:=rfl;unfold Mv VM.det;split
 ·
  rw[pres_D1 hr (fun hp=>nps_npb hp 0),h]
 split
 ·
  rw[pres_D2 hr,h]
 rfl
theorem RQ.first(x:CM){l:List RM}{y:RM}(hy:l[0]?=some y):RQ x l 1 (Mv x (w0 x) y y.det):=by
 have hc:=x.ctl_lt;have e:Dq x (w0 x) y=Mi x (w0 x) y:=if_pos rfl
 have e1:toV ((stA (w0 x) y).write (x.tg 1 0).tl)=if x.has 0 then VM.ini.put 1 [82,72] else VM.ini:=by
  have e0:x.tg 1 0=if x.has 0 then tRH else tZ:=rfl
  rw[e0];split
  ·
   show toV (WM.write _ [(1,[.lit 1 [82,72]])])=_;rw[Ou,rend_L2];rfl
  rfl
 have e2:toV (((stA (w0 x) y).write (x.tg 1 0).tl).write (x.tg 2 0).tl)=VM.top x (if x.has 0 then VM.ini.put 1 [82,72] else VM.ini):=by rw[top_eq,e1]
 have hr:(((stA (w0 x) y).write (x.tg 1 0).tl).write (x.tg 2 0).tl).row=some y:=(Ea _ _).1.trans (Ea _ _).1
 have hI:InvV x (toV (((stA (w0 x) y).write (x.tg 1 0).tl).write (x.tg 2 0).tl)):=fun _=>by
  rw[e2];unfold VM.top;split<;>split<;>simp[VM.put,VM.ini]
 obtain⟨h1,h2⟩:=headN_eq (x:=x) (y:=y) (x.ctl+1-0) 0 hr hI (by omega);have h3:toV (Dq x (w0 x) y)=VM.fst x VM.ini y:=by rw[e];exact h1.trans (by rw[e2];rfl)
 have h4:VM.rows x l 1 VM.ini=VM.det x (VM.fst x VM.ini y) y:=by
  rw[rows_step x l hy];rfl
 unfold RQ;rw[det_eq,h3,h4];exact⟨rfl,inv_det (by rw[←h3,e];exact h2) y⟩
theorem RQ.next(x:CM){l:List RM}{i:Nat}{w:WM}(hT:TQ x l (i+1) w)(h:RQ x l (i+1) w){y:RM}(hy:l[i+1]?=some y):RQ x l (i+2) (Mv x w y y.det):=by
 have hc:=x.ctl_lt;obtain⟨a,ha,hr⟩:=hT.row;have ha:l[i]?=some a:=ha;obtain⟨hv,hI⟩:=h;have hb:brkN w y x.ctl=lvD a y x.ctl 0:=by simp only[brkN,hr];exact lvD_brk a y x.ctl hc
 have hlv:=lvD_le a y x.ctl 0;have e:Dq x w y=if lvD a y x.ctl 0=0 then w else Nb x w y (lvD a y x.ctl 0):=by rw[Dq,if_neg hT.page,hb]
 have h4:VM.rows x l (i+2) VM.ini=VM.det x (VM.nxt x (VM.rows x l (i+1) VM.ini) l i a y) y:=by
  rw[rows_step x l hy,VM.pre];simp only[ha]
 have h3:toV (Dq x w y)=VM.nxt x (VM.rows x l (i+1) VM.ini) l i a y∧InvV x (toV (Dq x w y)):=by
  rw[e,VM.nxt,←hv];split
  ·
   exact⟨rfl,hI⟩
  obtain⟨f1,f2⟩:=footN_eq (x:=x) l i (x.ctl+1-lvD a y x.ctl 0) (x.ctl+1) hr hI (by omega) (by omega) (fun j hj=>hT.tot j (by omega));obtain⟨g1,g2⟩:=headN_eq (x:=x) (y:=y) (x.ctl+1-lvD a y x.ctl 0) (lvD a y x.ctl 0) (w:=setRow (N8 x w (lvD a y x.ctl 0)) y) rfl f2 (by omega);exact⟨g1.trans (by show VM.headN x y _ _ (toV (footN x _ _ w))=_;rw[f1];rfl),g2⟩
 unfold RQ;rw[det_eq,h4,h3.1];exact⟨rfl,inv_det (by rw[←h3.1];exact h3.2) y⟩
theorem term_eq(x:CM){l:List RM}{i:Nat}{w:WM}(hT:TQ x l (i+1) w)(h:RQ x l (i+1) w)(hl:l.length=i+1):toV (termW x w)=VM.all x l true:=by
 have hc:=x.ctl_lt;obtain⟨a,ha,hr⟩:=hT.row;have ha:l[i]?=some a:=ha;obtain⟨hv,hI⟩:=h;obtain⟨f1,f2⟩:=footN_eq (x:=x) l i (x.ctl+1-0) (x.ctl+1) hr hI (by omega) (by omega) (fun j hj=>hT.tot j (by omega));have e7:x.tg 7 0=if x.has 9 then tRF else tZ:=rfl
 have e1:toV (N8 x w 0)=VM.fin1 x (VM.rows x l l.length VM.ini) l a:=by
  rw[VM.fin1,hl,Nat.add_sub_cancel,←hv];exact f1
 have e2:toV (termP x w)=VM.fin2 x (VM.fin1 x (VM.rows x l l.length VM.ini) l a):=by
  unfold termP VM.fin2;rw[e7,←e1];split
  ·
   rw[pres_RF]
  rw[O7 (show InvV x (toV (N8 x w 0)) from f2)]
 have e3:VM.all x l true=VM.fin x (VM.rows x l l.length VM.ini) l a:=by
  rw[VM.all,if_pos rfl,hl,Nat.add_sub_cancel,ha]
 rw[e3,termW,if_neg hT.page,VM.fin]
 cases hp:x.paged with
 | false=>rw[if_pos (x.P_iff.2 hp)];simpa using e2
 | true =>
  rw[if_neg (by rw[x.P_iff,hp];simp),if_pos rfl,bot_eq x hp,e2]
def LsD (ls:D) (l:List RM):Prop:=(l=[]∧ls=.R4)∨∃c,ls=.sl 4 (l.map RM.row) c
theorem LsD.len{ls:D}{l:List RM}(h:LsD ls l):Jr false ls=some (.int .i64 (l.length:Nat)):=by
 rcases h with⟨rfl,rfl⟩ | ⟨c,rfl⟩
 ·
  rfl
 show some (D.int .i64 ((l.map RM.row).length:Nat))=_;rw[List.length_map]
theorem LsD.sl{ls:D}{l:List RM}(h:LsD ls l)(hl:l.length≠0):∃c,ls=.sl 4 (l.map RM.row) c:=by
 rcases h with⟨rfl,rfl⟩ | h
 ·
  simp at hl
 exact h
def linS (x:CM) (l:List RM) (e:Bool):List (Nat × Nat × List UInt8):=if l=[] then [] else (VM.all x l e).lines
structure GQ (x:CM) (l:List RM) (i:Nat) (w:WM):Prop where
 wb:∀y,WB (setRow w y) (20+310*i)
 q:(i=0∧w=w0 x)∨(i≠0∧TQ x l i w∧RQ x l i w)
theorem GQ.start(x:CM)(l:List RM):GQ x l 0 (w0 x):=⟨fun y=>⟨by simp[setRow],by show 0≤_;omega,by show 0≤_;omega,by show 0≤_;omega,fun m hm=>by
 have:m=0:=(List.mem_replicate.1 (show m∈List.replicate (x.ctl+1) 0 from hm)).2
 omega⟩,.inl ⟨rfl,rfl⟩⟩
theorem GQ.pr{x:CM}{l:List RM}{i:Nat}{w:WM}(h:GQ x l i w):w.page≠0→w.row≠none:=by
 rcases h.q with⟨_,rfl⟩ | ⟨_,h1,_⟩
 ·
  intro h;exact absurd rfl h
 obtain⟨a,_,hr⟩:=h1.row;intro _;rw[hr];simp
theorem GQ.en{x:CM}{l:List RM}{i:Nat}{w:WM}(h:GQ x l i w):w.ended=false:=by
 rcases h.q with⟨_,rfl⟩ | ⟨_,h1,_⟩
 ·
  rfl
 exact h1.ended
theorem GQ.len{x:CM}{l:List RM}{i:Nat}{w:WM}(h:GQ x l i w):w.tot.length=x.ctl+1:=by
 rcases h.q with⟨_,rfl⟩ | ⟨_,h1,_⟩
 ·
  simp[w0]
 exact h1.len
theorem GQ.next{x:CM}{l:List RM}{i:Nat}{w:WM}(h:GQ x l i w){y:RM}(hy:l[i]?=some y)(hi:i<90:=by omega):GQ x l (i+1) (Mv x w y y.det):=by
 refine⟨fun y'=>?_,.inr ⟨by omega,?_⟩⟩
 ·
  have:=((h.wb y).gen h.pr (by omega) (by omega) h.len y.det).1.setRow y';rwa [show 20+310*i+310=20+310*(i+1) by omega]at this
 rcases h.q with⟨rfl,rfl⟩ | ⟨h0,h1,h2⟩
 ·
  exact⟨TQ.first x hy _,RQ.first x hy⟩
 obtain⟨j,rfl⟩:∃j,i=j+1:=⟨i-1,by omega⟩;exact⟨h1.next x hy _,RQ.next x h1 h2 hy⟩
theorem GQ.fin{x:CM}{l:List RM}{w:WM}(h:GQ x l l.length w):(termW x w).lines=linS x l true:=by
 rcases h.q with⟨h0,rfl⟩ | ⟨h0,h1,h2⟩
 ·
  have hl:l=[]:=List.length_eq_zero_iff.1 h0;rw[linS,if_pos hl];rfl
 have hl:l≠[]:=fun e=>h0 (by rw[e];rfl);obtain⟨i,hi⟩:∃i,l.length=i+1:=⟨l.length-1,by omega⟩;rw[hi]at h1 h2;rw[linS,if_neg hl,←term_eq x h1 h2 hi];rfl
set_option maxRecDepth 1000000
def lvX (r:List D):List D:=.int .u8 2::.int .u8 0::.str ⟨#[88]⟩::.int .i64 0::.int .i64 0::.bool false::.bool false::.bool false::.bool false::.bool false::.int .i64 1::r
def lvN (r:List D):List D:=.int .u8 4::.int .u8 0::.str ⟨#[57,57]⟩::.int .i64 2::.int .i64 0::.bool false::.bool false::.bool false::.bool false::.bool false::.int .i64 2::r
def lvE (r:List D):List D:=.int .u8 5::.int .u8 0::.str ⟨#[90,57]⟩::.int .i64 2::.int .i64 0::.bool false::.bool false::.bool false::.bool false::.bool false::.int .i64 2::r
def lvZ (r:List D):List D:=.int .u8 5::.int .u8 0::.str ⟨#[90,90,57]⟩::.int .i64 3::.int .i64 0::.bool false::.bool false::.bool false::.bool false::.bool false::.int .i64 3::r
def lvP0:List (List D):=[[.sl 11 [(lvX []),(lvN [])] (some 2),.sl 1 [[.int .i64 0]] (some 1),.int .i64 0,.int .i64 0,.int .i64 0,.sl 4 [[.int .u8 4,.int .i64 0,.bool false,.sl 2 [[.int .i64 1,.sl 15 [(.int .i64 3::lvE [.int .u8 2,.R4,.int .i64 1])] (some 1)]] (some 1)],[.int .u8 5,.int .i64 1,.bool false,.sl 2 [[.int .i64 1,.sl 15 [(.int .i64 1::lvX [.int .u8 2,.R4,.int .i64 0]),(.int .i64 3::lvZ [.int .u8 3,.R4,.int .i64 0])] (some 2)]] (some 1)],[.int .u8 5,.int .i64 0,.bool false,.sl 2 [[.int .i64 1,.sl 15 [(.int .i64 3::lvZ [.int .u8 3,.R4,.int .i64 1])] (some 1)]] (some 1)]] (some 3),.sl 2 [[.int .i64 1,.int .i64 1],[.int .i64 1,.int .i64 0]] (some 2)]]
def lvP11:List (List D):=[(.int .i64 1::lvX [.int .u8 2,.R4,.int .i64 0])]
def lvR:List D:=lvP0.headD []
def lvH0:List Rf:=[⟨64,11,[(lvZ [])],0,0,false⟩,⟨64,11,[(lvE [])],0,0,false⟩,⟨37,7,lvP0,0,0,false⟩,⟨82,15,lvP11,0,0,false⟩]
def ch (x:Option (D × St × Bool)) (k:St→Option (List (D × Bool))):Option (List (D × Bool)):=match x with
 | some (d,S,w)=>(k S).map ((d,w)::·)
 | none=>none
theorem ch_ok{x:Option (D × St × Bool)}{k:St→Option (List (D × Bool))}{d:D}{w:Bool}{l:List (D × Bool)}(h:ch x k=some ((d,w)::l)):∃S,x=some (d,S,w)∧k S=some l:=by
 unfold ch at h;split at h
 ·
  rename_i d' S w'
  cases hk:k S with
  | none=>rw[hk]at h;cases h
  | some l'=>rw[hk]at h;cases h;exact⟨S,rfl,hk⟩
 cases h
theorem lv_zz9(d:Nat)(S:St):F6 LP NN (d+59) 28 [.str ⟨#[90,90,57]⟩] S=some (.agg (lvZ []),S,false):=by kernel_rfl
theorem lv_z9(d:Nat)(S:St):F6 LP NN (d+59) 28 [.str ⟨#[90,57]⟩] S=some (.agg (lvE []),S,false):=by kernel_rfl
theorem lv_chain(d:Nat):(ch (F6 LP NN (d+59) 9 [.agg lvR] ⟨lvH0,0⟩) fun S1=>ch (F6 LP NN (d+59) 12 [.ptr 6 0 0 0,.int .i64 0,.sl 12 [lvX [.sl 1 (bR [65]) none],lvN [.sl 1 (bR [48,53]) none]] (some 2)] S1) fun S2=>ch (F6 LP NN (d+59) 12 [.ptr 6 0 0 0,.int .i64 0,.sl 12 [lvX [.sl 1 (bR [65]) none],lvN [.sl 1 (bR [49,48]) none]] (some 2)] S2) fun S3=>ch (F6 LP NN (d+59) 12 [.ptr 6 0 0 0,.int .i64 0,.sl 12 [lvX [.sl 1 (bR [66]) none],lvN [.sl 1 (bR [48,55]) none]] (some 2)] S3) fun S4=>ch (F6 LP NN (d+59) 17 [.ptr 6 0 0 0] S4) fun S5=>ch (F6 LP NN (d+59) 11 [.ptr 6 0 0 0] S5) fun S6=>some [])=some [(.tup [.ptr 6 0 0 0,.int .i64 0],true),(.int .i64 0,true),(.int .i64 0,true),(.int .i64 0,true),(.int .i64 0,true),(.sl 3 ([(1,1,[32,32,32,53]),(1,2,[32,32,49,48]),(1,3,[65,32,32,49,53]),(1,4,[32,32,32,55]),(1,5,[66,32,32,32,55]),(1,6,[32,32,32,50,50])].map lnR) (some 6),false)]:=by kernel_rfl
theorem lv_x1(d:Nat)(S:St):F6 LP NN (d+59) 21 [.sl 3 ([(1,1,[32,32,32,53]),(1,2,[32,32,49,48]),(1,3,[65,32,32,49,53]),(1,4,[32,32,32,55]),(1,5,[66,32,32,32,55]),(1,6,[32,32,32,50,50])].map lnR) (some 6)] S=some (.str ⟨#[32,32,32,53,10,32,32,49,48,10,65,32,32,49,53,10,32,32,32,55,10,66,32,32,32,55,10,32,32,32,50,50,10]⟩,S,false):=by kernel_rfl
theorem lives_run:∀(d:Nat) (S:St),60≤d→Bl LP NN d 8 [] S=some (.bool true,S,false):=by
 intro d S hd;obtain⟨e,rfl⟩:∃e,d=e+60:=⟨d-60,by omega⟩;obtain⟨S1,hg0,xW⟩:=ch_ok (lv_chain e);obtain⟨S2,yY,za⟩:=ch_ok xW;obtain⟨S3,wX,hc3⟩:=ch_ok za;obtain⟨S4,hg3,hc4⟩:=ch_ok hc3;obtain⟨S5,hg4,hc5⟩:=ch_ok hc4;obtain⟨S6,hg5,hc6⟩:=ch_ok hc5;have wP:IntKind.i64.wrap (0+1)=1:=by decide
 have uP:IntKind.i64.wrap (1+1)=2:=by decide
 have hw3:IntKind.i64.wrap (2+1)=3:=by decide
 refine run_pure (F:=F8) rfl (by simp only[LP,Ay]<;>exact rfl) rfl (by simp only[LP,zm];try rfl) (by simp only[F8,zv]<;>exact rfl) (by omega) ?_;intro d he;obtain rfl:d=e+59:=by omega
 refine Ae (Bj (Aa (Ak ?_)));refine Ae (Ac (by simp only[zo];exact fast_ok (lv_zz9 e _)) ?_);apply Ac (by simp only[zl,zm,lvZ]<;>exact rfl);apply Ac (by simp only[zl,zm,Ca,overlay,Cn,zs,zc,zf,List.take,List.drop,lvZ]<;>exact rfl);refine Aa (Ak ?_);refine Ae (Ac (by simp only[zo];exact fast_ok (lv_z9 e _)) ?_);apply Ac (by simp only[zl,zm,lvE]<;>exact rfl);apply Ac (by simp only[zl,zm,Ca,overlay,Cn,zs,zc,zf,List.take,List.drop,lvE]<;>exact rfl);refine Aa (Ak ?_);refine Ae (Ac (by simp only[zo];exact Nk (by omega) _ (n:=1) (by omega) (by omega)) ?_);apply Ac (by simp only[zo,shT];exact Q0 (by omega) _ (n:=2) (by omega) (by omega));apply Ac (by simp only[zl,zm,Cr,List.replicate,Ay,Cn,zs,zc,zf,shT,shN]<;>exact rfl);apply Ac (by simp only[zl,zm,Cr,List.replicate,Ay,zs,zc,zf,shT,shN]<;>exact rfl);refine xo38 ?_;refine xo38 ?_;apply Ac (by simp only[zl,zm,Cr,List.replicate,Ay,Cn,zs,zc,zf,shT,shN]<;>exact rfl);refine xo38 ?_;apply Ac (by simp only[zl,zm,shT,shN]<;>exact rfl);apply Ac (by simp only[zl,zm,Ca,overlay,Cn,zs,zc,zf,List.take,List.drop,shT,shN]<;>exact rfl);refine Aa (Ak ?_);refine Ae (Ac (by simp only[zo];exact Nk (by omega) _ (n:=1) (by omega) (by omega)) ?_);apply Ac (by simp only[zo,Gn,overlay,zc,List.take,List.drop,Nat.reduceAdd,Nat.reduceLeDiff,zm,shT]<;>exact rfl);apply Ac (by simp only[zl,zm,shT]<;>exact rfl);apply Ac (by simp only[zl,zm,Ca,overlay,Cn,zs,zc,zf,List.take,List.drop,shT]<;>exact rfl);refine Aa (Ak ?_);refine Ae (xo1 ?_);refine xo7 ?_;refine xo17 ?_;refine xo7 ?_;refine xo17 ?_;refine xo7 ?_;refine xo1 ?_;refine xo1 ?_;refine xo7 ?_;refine xo17 ?_;refine xo7 ?_;refine xo17 ?_;refine xo7 ?_;refine xo1 ?_;refine xo7 ?_;refine xo17 ?_;refine xo7 ?_;refine xo17 ?_;refine xo7 ?_;refine xo17 ?_;refine xo0 ?_;refine xo29 ?_;refine Aa (Ak ?_);refine Ae (xo1 ?_);apply Ac (by simp only[zo];exact fast_ok hg0);refine Ar rfl (xo23 ?_);refine xo20 ?_;refine Ar rfl (Ar rfl (Aa (Ak ?_)));refine Ae (Ac (by simp only[zl,zm,Cr,List.replicate,Ay,zs,zc,zf]<;>exact rfl) ?_);refine Ar rfl (Aa (Ak ?_));refine Ao (Ae (Bj (Aa (Ak ?_))));refine Be (Dp (Cy (Ao (Ae (Al rfl (Oq ?_))))));refine Aa (Ak ?_);refine Ga ?_;refine Bc (Bz rfl (Ao (Be (Ao (Du (by simp only[Ce,zw]<;>exact rfl) (by simp only[zw,St.eta]<;>exact rfl) ?_)))));refine Cf rfl rfl (Aw (by simp only[zo];exact Nk (by omega) _ (n:=1) (by omega) (by omega)) (by simp only[Ai,zo,zq]<;>exact rfl) (by first | rfl | (simp[show ob 0 1=[false] from rfl,Rn,Ap,Ag,Ba,Ah,Aq,dj,Af,Ab,Aj,Am,Bd,A9,Av];done)) ?_);refine Cf rfl rfl (Cf rfl rfl (Aw (by simp only[zl,zm,C9,Int.toNat_zero,Int.le_refl,shT]<;>exact rfl) (by simp only[Ai,zo,zq]<;>exact rfl) (by first | rfl | (simp[show ob 12 4=[true,true,false,false] from rfl,Rn,Ap,Ag,Ba,Ah,Aq,dj,Af,Ab,Aj,Am,Bd,A9,Av];done)) ?_));apply Aw (by simp only[zl,zm,zd,Au,List.take,List.drop,shT]<;>exact rfl) (by simp only[Ai,zo,zq]<;>exact rfl) (by first | rfl | (simp[show ob 28 5=[true,true,true,false,false] from rfl,Rn,Ap,Ag,Ba,Ah,Aq,dj,Af,Ab,Aj,Am,Bd,A9,Av];done));apply A8 (by simp only[opd,zv,Az,aop,LOp.loud,if_false,Bool.false_eq_true];exact congrArg (Option.map fun r=>(r,_,false)) (show pop (.slice true 0 false true false) [.str ⟨#[65,48,53]⟩,.int .i64 1]=some (.str (mkS [65])) from rfl)) rfl rfl;apply Aw (by simp only[zl,zm,shT,Gv]<;>exact rfl) (by simp only[Ai,zo,zq]<;>exact rfl) (by first | rfl | (simp[show ob 124 7=[true,true,true,true,true,false,false] from rfl,Rn,Ap,Ag,Ba,Ah,Aq,dj,Af,Ab,Aj,Am,Bd,A9,Av];done));refine xo39 rfl rfl ?_;apply Aw (by simp only[zo,shT];exact Q0 (by omega) _ (n:=2) (by omega) (by omega)) (by simp only[Ai,zo,zq]<;>exact rfl) (by first | rfl | (simp[show ob 2 9=[false,false,false,false,false,false,false,true,false] from rfl,Rn,Ap,Ag,Ba,Ah,Aq,dj,Af,Ab,Aj,Am,Bd,A9,Av];done));refine Cf rfl rfl (Cf rfl rfl (Aw (by simp only[zl,zm,C9,Int.toNat_zero,Int.le_refl,shT,shN]<;>exact rfl) (by simp only[Ai,zo,zq]<;>exact rfl) (by first | rfl | (simp[show ob 3072 12=[true,true,false,false,false,false,false,false,false,false,false,false] from rfl,Rn,Ap,Ag,Ba,Ah,Aq,dj,Af,Ab,Aj,Am,Bd,A9,Av];done)) ?_));apply Aw (by simp only[zl,zm,zd,Au,List.take,List.drop,shT,shN]<;>exact rfl) (by simp only[Ai,zo,zq]<;>exact rfl) (by first | rfl | (simp[show ob 7168 13=[true,true,true,false,false,false,false,false,false,false,false,false,false] from rfl,Rn,Ap,Ag,Ba,Ah,Aq,dj,Af,Ab,Aj,Am,Bd,A9,Av];done));apply A8 (by simp only[opd,zv,Az,aop,LOp.loud,if_false,Bool.false_eq_true];exact congrArg (Option.map fun r=>(r,_,false)) (show pop (.slice true 0 true false false) [.str ⟨#[65,48,53]⟩,.int .i64 1]=some (.str (mkS [48,53])) from rfl)) rfl rfl;apply Aw (by simp only[zl,zm,shT,shN,Gv]<;>exact rfl) (by simp only[Ai,zo,zq]<;>exact rfl) (by first | rfl | (simp[show ob 31744 15=[true,true,true,true,true,false,false,false,false,false,false,false,false,false,false] from rfl,Rn,Ap,Ag,Ba,Ah,Aq,dj,Af,Ab,Aj,Am,Bd,A9,Av];done));refine xo40 rfl rfl ?_;apply Aw (by simp only[zl,zm,Cr,List.replicate,Ay,Cn,zs,zc,zf,shT,shN]<;>exact rfl) (by simp only[Ai,zo,zq]<;>exact rfl) (by first | rfl | (simp[show ob 131070 17=[true,true,true,true,true,true,true,true,true,true,true,true,true,true,true,true,false] from rfl,Rn,Ap,Ag,Ba,Ah,Aq,dj,Af,Ab,Aj,Am,Bd,A9,Av];done));apply Aw (by simp only[zo,shT,shN];exact fast_ok yY) (by simp only[Ai,zo,zq]<;>exact rfl) (by first | rfl | (simp[show ob 262143 18=[true,true,true,true,true,true,true,true,true,true,true,true,true,true,true,true,true,true] from rfl,Rn,Ap,Ag,Ba,Ah,Aq,dj,Af,Ab,Aj,Am,Bd,A9,Av];done));apply A8 (by simp only[zo,Cg,shT,shN]<;>exact rfl) rfl rfl;refine Cw (Ak ?_);refine Cc ?_;refine Bc (Fu (Bz rfl (Br (Al rfl (Ac (by simp only[zo,Cg,wP]<;>exact rfl) ?_)))));refine Ar rfl (Aa (Qz (by simp only[ze]<;>exact rfl) ?_));refine Cy (Ao (Ae (Al rfl (Oq ?_))));refine Aa (Ak ?_);refine Ga ?_;refine Bc (Bz rfl (Ao (Be (Ao (Du (by simp only[Ce,zw]<;>exact rfl) (by simp only[zw,St.eta]<;>exact rfl) ?_)))));refine Cf rfl rfl (Aw (by simp only[zo];exact Nk (by omega) _ (n:=1) (by omega) (by omega)) (by simp only[Ai,zo,zq]<;>exact rfl) (by first | rfl | (simp[show ob 0 1=[false] from rfl,Rn,Ap,Ag,Ba,Ah,Aq,dj,Af,Ab,Aj,Am,Bd,A9,Av];done)) ?_);refine Cf rfl rfl (Cf rfl rfl (Aw (by simp only[zl,zm,C9,shT]<;>exact rfl) (by simp only[Ai,zo,zq]<;>exact rfl) (by first | rfl | (simp[show ob 12 4=[true,true,false,false] from rfl,Rn,Ap,Ag,Ba,Ah,Aq,dj,Af,Ab,Aj,Am,Bd,A9,Av];done)) ?_));apply Aw (by simp only[zl,zm,zd,Au,List.take,List.drop,shT]<;>exact rfl) (by simp only[Ai,zo,zq]<;>exact rfl) (by first | rfl | (simp[show ob 28 5=[true,true,true,false,false] from rfl,Rn,Ap,Ag,Ba,Ah,Aq,dj,Af,Ab,Aj,Am,Bd,A9,Av];done));apply A8 (by simp only[opd,zv,Az,aop,LOp.loud,if_false,Bool.false_eq_true];exact congrArg (Option.map fun r=>(r,_,false)) (show pop (.slice true 0 false true false) [.str ⟨#[65,49,48]⟩,.int .i64 1]=some (.str (mkS [65])) from rfl)) rfl rfl;apply Aw (by simp only[zl,zm,shT,Gv]<;>exact rfl) (by simp only[Ai,zo,zq]<;>exact rfl) (by first | rfl | (simp[show ob 124 7=[true,true,true,true,true,false,false] from rfl,Rn,Ap,Ag,Ba,Ah,Aq,dj,Af,Ab,Aj,Am,Bd,A9,Av];done));refine xo39 rfl rfl ?_;apply Aw (by simp only[zo,shT];exact Q0 (by omega) _ (n:=2) (by omega) (by omega)) (by simp only[Ai,zo,zq]<;>exact rfl) (by first | rfl | (simp[show ob 2 9=[false,false,false,false,false,false,false,true,false] from rfl,Rn,Ap,Ag,Ba,Ah,Aq,dj,Af,Ab,Aj,Am,Bd,A9,Av];done));refine Cf rfl rfl (Cf rfl rfl (Aw (by simp only[zl,zm,C9,shT,shN]<;>exact rfl) (by simp only[Ai,zo,zq]<;>exact rfl) (by first | rfl | (simp[show ob 3072 12=[true,true,false,false,false,false,false,false,false,false,false,false] from rfl,Rn,Ap,Ag,Ba,Ah,Aq,dj,Af,Ab,Aj,Am,Bd,A9,Av];done)) ?_));apply Aw (by simp only[zl,zm,zd,Au,List.take,List.drop,shT,shN]<;>exact rfl) (by simp only[Ai,zo,zq]<;>exact rfl) (by first | rfl | (simp[show ob 7168 13=[true,true,true,false,false,false,false,false,false,false,false,false,false] from rfl,Rn,Ap,Ag,Ba,Ah,Aq,dj,Af,Ab,Aj,Am,Bd,A9,Av];done));apply A8 (by simp only[opd,zv,Az,aop,LOp.loud,if_false,Bool.false_eq_true];exact congrArg (Option.map fun r=>(r,_,false)) (show pop (.slice true 0 true false false) [.str ⟨#[65,49,48]⟩,.int .i64 1]=some (.str (mkS [49,48])) from rfl)) rfl rfl;apply Aw (by simp only[zl,zm,shT,shN,Gv]<;>exact rfl) (by simp only[Ai,zo,zq]<;>exact rfl) (by first | rfl | (simp[show ob 31744 15=[true,true,true,true,true,false,false,false,false,false,false,false,false,false,false] from rfl,Rn,Ap,Ag,Ba,Ah,Aq,dj,Af,Ab,Aj,Am,Bd,A9,Av];done));refine xo40 rfl rfl ?_;apply Aw (by simp only[zl,zm,Cr,List.replicate,Ay,Cn,zs,zc,zf,shT,shN]<;>exact rfl) (by simp only[Ai,zo,zq]<;>exact rfl) (by first | rfl | (simp[show ob 131070 17=[true,true,true,true,true,true,true,true,true,true,true,true,true,true,true,true,false] from rfl,Rn,Ap,Ag,Ba,Ah,Aq,dj,Af,Ab,Aj,Am,Bd,A9,Av];done));apply Aw (by simp only[zo,shT,shN];exact fast_ok wX) (by simp only[Ai,zo,zq]<;>exact rfl) (by first | rfl | (simp[show ob 262143 18=[true,true,true,true,true,true,true,true,true,true,true,true,true,true,true,true,true,true] from rfl,Rn,Ap,Ag,Ba,Ah,Aq,dj,Af,Ab,Aj,Am,Bd,A9,Av];done));apply A8 (by simp only[zo,Cg,shT,shN]<;>exact rfl) rfl rfl;refine Cw (Ak ?_);refine Cc ?_;refine Bc (Fu (Bz rfl (Br (Al rfl (Ac (by simp only[zo,Cg,uP]<;>exact rfl) ?_)))));refine Ar rfl (Aa (Qz (by simp only[ze]<;>exact rfl) ?_));refine Cy (Ao (Ae (Al rfl (Oq ?_))));refine Aa (Ak ?_);refine Ga ?_;refine Bc (Bz rfl (Ao (Be (Ao (Du (by simp only[Ce,zw]<;>exact rfl) (by simp only[zw,St.eta]<;>exact rfl) ?_)))));refine Cf rfl rfl (Aw (by simp only[zo];exact Nk (by omega) _ (n:=1) (by omega) (by omega)) (by simp only[Ai,zo,zq]<;>exact rfl) (by first | rfl | (simp[show ob 0 1=[false] from rfl,Rn,Ap,Ag,Ba,Ah,Aq,dj,Af,Ab,Aj,Am,Bd,A9,Av];done)) ?_);refine Cf rfl rfl (Cf rfl rfl (Aw (by simp only[zl,zm,C9,shT]<;>exact rfl) (by simp only[Ai,zo,zq]<;>exact rfl) (by first | rfl | (simp[show ob 12 4=[true,true,false,false] from rfl,Rn,Ap,Ag,Ba,Ah,Aq,dj,Af,Ab,Aj,Am,Bd,A9,Av];done)) ?_));apply Aw (by simp only[zl,zm,zd,Au,List.take,List.drop,shT]<;>exact rfl) (by simp only[Ai,zo,zq]<;>exact rfl) (by first | rfl | (simp[show ob 28 5=[true,true,true,false,false] from rfl,Rn,Ap,Ag,Ba,Ah,Aq,dj,Af,Ab,Aj,Am,Bd,A9,Av];done));apply A8 (by simp only[opd,zv,Az,aop,LOp.loud,if_false,Bool.false_eq_true];exact congrArg (Option.map fun r=>(r,_,false)) (show pop (.slice true 0 false true false) [.str ⟨#[66,48,55]⟩,.int .i64 1]=some (.str (mkS [66])) from rfl)) rfl rfl;apply Aw (by simp only[zl,zm,shT,Gv]<;>exact rfl) (by simp only[Ai,zo,zq]<;>exact rfl) (by first | rfl | (simp[show ob 124 7=[true,true,true,true,true,false,false] from rfl,Rn,Ap,Ag,Ba,Ah,Aq,dj,Af,Ab,Aj,Am,Bd,A9,Av];done));refine xo39 rfl rfl ?_;apply Aw (by simp only[zo,shT];exact Q0 (by omega) _ (n:=2) (by omega) (by omega)) (by simp only[Ai,zo,zq]<;>exact rfl) (by first | rfl | (simp[show ob 2 9=[false,false,false,false,false,false,false,true,false] from rfl,Rn,Ap,Ag,Ba,Ah,Aq,dj,Af,Ab,Aj,Am,Bd,A9,Av];done));refine Cf rfl rfl (Cf rfl rfl (Aw (by simp only[zl,zm,C9,shT,shN]<;>exact rfl) (by simp only[Ai,zo,zq]<;>exact rfl) (by first | rfl | (simp[show ob 3072 12=[true,true,false,false,false,false,false,false,false,false,false,false] from rfl,Rn,Ap,Ag,Ba,Ah,Aq,dj,Af,Ab,Aj,Am,Bd,A9,Av];done)) ?_));apply Aw (by simp only[zl,zm,zd,Au,List.take,List.drop,shT,shN]<;>exact rfl) (by simp only[Ai,zo,zq]<;>exact rfl) (by first | rfl | (simp[show ob 7168 13=[true,true,true,false,false,false,false,false,false,false,false,false,false] from rfl,Rn,Ap,Ag,Ba,Ah,Aq,dj,Af,Ab,Aj,Am,Bd,A9,Av];done));apply A8 (by simp only[opd,zv,Az,aop,LOp.loud,if_false,Bool.false_eq_true];exact congrArg (Option.map fun r=>(r,_,false)) (show pop (.slice true 0 true false false) [.str ⟨#[66,48,55]⟩,.int .i64 1]=some (.str (mkS [48,55])) from rfl)) rfl rfl;apply Aw (by simp only[zl,zm,shT,shN,Gv]<;>exact rfl) (by simp only[Ai,zo,zq]<;>exact rfl) (by first | rfl | (simp[show ob 31744 15=[true,true,true,true,true,false,false,false,false,false,false,false,false,false,false] from rfl,Rn,Ap,Ag,Ba,Ah,Aq,dj,Af,Ab,Aj,Am,Bd,A9,Av];done));refine xo40 rfl rfl ?_;apply Aw (by simp only[zl,zm,Cr,List.replicate,Ay,Cn,zs,zc,zf,shT,shN]<;>exact rfl) (by simp only[Ai,zo,zq]<;>exact rfl) (by first | rfl | (simp[show ob 131070 17=[true,true,true,true,true,true,true,true,true,true,true,true,true,true,true,true,false] from rfl,Rn,Ap,Ag,Ba,Ah,Aq,dj,Af,Ab,Aj,Am,Bd,A9,Av];done));apply Aw (by simp only[zo,shT,shN];exact fast_ok hg3) (by simp only[Ai,zo,zq]<;>exact rfl) (by first | rfl | (simp[show ob 262143 18=[true,true,true,true,true,true,true,true,true,true,true,true,true,true,true,true,true,true] from rfl,Rn,Ap,Ag,Ba,Ah,Aq,dj,Af,Ab,Aj,Am,Bd,A9,Av];done));apply A8 (by simp only[zo,Cg,shT,shN]<;>exact rfl) rfl rfl;refine Cw (Ak ?_);refine Cc ?_;refine Bc (Fu (Bz rfl (Br (Al rfl (Ac (by simp only[zo,Cg,hw3]<;>exact rfl) ?_)))));refine Ar rfl (Aa (Qz (by simp only[ze]<;>exact rfl) ?_));refine Cy (Ao (Ae (Al rfl (Oq ?_))));refine Aa (Ak ?_);refine Cc ?_;refine Cs (Gc (Nu (Gd (Bz rfl (Ae (Al rfl (Ac (by simp only[zo];exact fast_ok hg4) ?_)))))));refine Ar rfl (Aa (Ak ?_));refine Ae (Al rfl (xo2 ?_));refine Ar rfl (Ej 0 (b:=true) ?_);refine Bb rfl (Al rfl (Bb rfl (xo2 ?_)));refine xo3 ?_;refine Ar rfl (Ej 0 (b:=true) ?_);refine Bb rfl (Al rfl (Bb rfl (Ac (by simp only[zo];exact fast_ok hg5) ?_)));refine Bb rfl (Ac (by simp only[zo];exact fast_ok (lv_x1 e _)) ?_);refine Bb rfl (Ac (by simp only[zo,Cg,beq_self_eq_true]<;>exact rfl) ?_);refine xo3 ?_;refine Ar rfl (Aa (Ak ?_));apply Bp;refine⟨_,by simp only[F8,A7,Bo,Cv,zg]<;>exact rfl,?_⟩;rfl
def flN (n:Nat):List (List D):=List.replicate n [.int .i64 1,.R4]
def flG (n:Nat):List D:=[.int .u8 4,.int .i64 0,.bool false,.sl 2 (flN n) none]
def flT:List (List D):=[[.int .i64 0,.int .i64 0]]
def fR0 (rows:List (List D)):List D:=[.sl 11 [shN 1] (some 1),.R4,.int .i64 0,.int .i64 0,.int .i64 0,.sl 4 [[.int .u8 4,.int .i64 0,.bool false,.sl 2 rows none]] (some 1),.sl 2 flT (some 1)]
theorem fits_f(d:Nat)(S:St)(rows:List (List D)):F6 LP NN (d+3) 142 [.agg (fR0 rows),.agg [.int .i64 1,.R4]] S=some (.bool true,S,false):=by kernel_rfl
theorem pages_f(d:Nat)(S:St)(rows:List (List D)):F6 LP NN (d+3) 97 [.agg (fR0 rows)] S=some (.bool true,S,false):=by kernel_rfl
theorem cl141{d:Nat}(hd:4≤d){H:List Rf}(low:Nat){g:Nat}{rows:List (List D)}(hp:H[g]?=some ⟨37,7,[fR0 rows],0,0,false⟩):Bl LP NN d 141 [.agg [.int .i64 1,.R4],.ptr g 0 0 0] ⟨H,low⟩=some (.bool false,⟨H,low⟩,false):=by
 have hpA:∀l,(H++l)[g]?=_:=fun l=>Bu hp l;obtain⟨d0,rfl⟩:∃e,d=e+4:=⟨d-4,by omega⟩;refine Ee (F:=F141) rfl (by simp only[LP,Ay,Cn,zs,zm]<;>exact rfl) rfl (by simp only[LP,zf,zm];try rfl) (by simp only[F141,zv]<;>exact rfl) (by omega) ?_;intro d he;obtain rfl:d=d0+3:=by omega
 refine Ae (xo6 ?_);refine Bj (Aa (Ak ?_));refine Ae (Ac (by simp only[zl,zm,zd,Au,List.take,List.drop,hpA,fR0]<;>exact rfl) ?_);refine xo1 ?_;apply Ac (by simp only[zo];exact fast_ok (fits_f d0 _ rows));apply Ac (by simp only[zo,unD]<;>exact rfl);refine Ar rfl (Aa (Ak ?_));apply Bp;refine⟨_,by simp only[F141,A7,Bo,Cv,zg]<;>exact rfl,?_⟩;exact E5 _ _ _ _ (Nat.le_refl _) rfl (fun _ _=>rfl)
theorem idx192{d:Nat}(hd:5≤d){H:List Rf}(low:Nat){g:Nat}{rows:List (List D)}(hp:H[g]?=some ⟨37,7,[fR0 rows],0,0,false⟩)(m:Nat)(hn:m≤2000):Bl LP NN d 192 [.sl 2 (flN m) none,.fn 141 [.ptr g 0 0 0]] ⟨H,low⟩=some (.int .i64 (-1),⟨H,low⟩,false):=by
 have hln:(flN m).length=m:=by simp[flN]
 refine Ee (F:=F192) rfl (by simp only[LP,Ay,zs]<;>exact rfl) rfl (by simp only[LP,zf,zm];try rfl) (by simp only[F192,zv]<;>exact rfl) (by omega) ?_;rintro d rfl;refine Ae (Bj (Aa (Ak ?_)));refine Ao (Ae (Al rfl (Ac (by simp only[zo,Hl,hln]<;>exact rfl) ?_)));refine Bj (Aa (Ak ?_));refine Be (Fv (fun n env S'=>∃(i:Nat) (u2 u3 u6 u7:D),i≤m∧n=m-i∧S'=⟨H,H.length⟩∧env=[.sl 2 (flN m) none,.fn 141 [.ptr g 0 0 0],u2,u3,.int .i64 (m:Nat),.int .i64 (i:Nat),u6,u7]) (m) (by omega) (⟨0,_,_,_,_,by omega,by omega,rfl,rfl⟩) ?_);rintro n env S' ⟨i,u2,u3,u6,u7,hi,hnA,rfl,rfl⟩;refine Ae (xo2 ?_);refine Aa (Ak ?_);apply Ao;refine Ep (by simp only[opd,zv]<;>exact rfl) (fun zK=>?_) (fun zK=>?_)
 ·
  have yt:i<m:=by have:=of_decide_eq_true zK;omega
  have wJ:((0:Int)≤((i:Nat):Int))=True:=eq_true (by omega);have xJ:(((i:Nat):Int)<((m:Nat):Int))=True:=eq_true (by omega);have qE:=Gf i (by omega);have hri:(flN m)[i]?=some [.int .i64 1,.R4]:=by simp[flN,yt]
  have xQ:=aI wJ (aI xJ (aI qE (hri)));refine Bc (Bz rfl (Ao (Be (Ae (Al rfl (Ar rfl (Aa (Ak ?_))))))));refine Ae (Al rfl (Al rfl (Al rfl (Ac (by simp only[zl,zm,C9,Int.toNat_natCast,xQ]<;>exact rfl) ?_))));apply Ac (by simp only[zl,zm,zd,Au,List.take,List.drop,xQ]<;>exact rfl);apply Ac (by simp only[zo,xQ];exact cl141 (by omega) _ hp);refine Aa (Ak ?_);apply Di (by simp only[opd,zv,xQ]<;>rfl);refine Bc (Fu (Bz rfl (Br (xo24 ?_))));refine Ar rfl (Aa (Pb (by simp only[ze]<;>exact rfl) ?_));exact⟨m-(i+1),by omega,i+1,_,_,_,_,by omega,rfl,rfl,rfl⟩
 refine Cs (Gc (Mq (Gd (Bz rfl (Ae (Bj (Aa (Ak ?_))))))));apply Bp;refine⟨_,by simp only[F192,A7,Bo,Cv,zg]<;>exact rfl,?_⟩;exact E5 _ _ _ _ (Nat.le_refl _) rfl (fun _ _=>rfl)
theorem has140{d:Nat}(hd:6≤d){H:List Rf}(low:Nat){g:Nat}{rows:List (List D)}(hp:H[g]?=some ⟨37,7,[fR0 rows],0,0,false⟩)(n:Nat)(hn:n≤2000):Bl LP NN d 140 [.sl 2 (flN n) none,.fn 141 [.ptr g 0 0 0]] ⟨H,low⟩=some (.bool false,⟨H,low⟩,false):=by
 refine Ee (F:=F140) rfl (by simp only[LP,Ay,zs]<;>exact rfl) rfl (by simp only[LP,zf,zm];try rfl) (by simp only[F140,zv]<;>exact rfl) (by omega) ?_;rintro d rfl;refine Ae (Bj (Aa (Ak ?_)));refine Ae (Al rfl (Al rfl (Ac (by simp only[zo];exact idx192 (by omega) _ hp n hn) ?_)));refine xo2 ?_;refine Ar rfl (Aa (Ak ?_));apply Bp;refine⟨_,by simp only[F140,A7,Bo,Cv,zg]<;>exact rfl,?_⟩;exact E5 _ _ _ _ (Nat.le_refl _) rfl (fun _ _=>rfl)
theorem group_f{d:Nat}(hd:7≤d)(S:St)(n:Nat)(hn:n≤2000):Bl LP NN d 96 [.agg (fR0 (flN n)),.agg (flG n)] S=some (.bool true,S,false):=by
 refine rq (F:=F96) rfl (by simp only[LP,Ay,Cn,zs,zm,fR0,flG,flT]<;>exact rfl) (by simp only[F96,zv]<;>exact rfl) ?_;rintro d rfl;refine Ae (xo6 ?_);refine xo6 ?_;refine Bj (Aa (Ak ?_));refine Ae (xo0 ?_);refine xo1 ?_;refine xo2 ?_;refine Ar rfl (Ej 0 (b:=false) ?_);refine Bb rfl (xo0 ?_);refine Bb rfl (xo1 ?_);refine Bb rfl (xo2 ?_);refine xo3 ?_;refine Ar rfl (Aa (Ak ?_));refine Ao (Be (Ae (xo0 ?_)));refine xo1 ?_;refine Oq ?_;refine Ar rfl (Ej 0 (b:=false) ?_);refine Bb rfl (xo0 ?_);refine Bb rfl (xo1 ?_);refine Bb rfl (xo2 ?_);refine xo3 ?_;refine Ar rfl (Ej 0 (b:=false) ?_);refine Bb rfl (xo0 ?_);refine Bb rfl (xo1 ?_);refine Bb rfl (Oq ?_);refine xo3 ?_;refine Ar rfl (Ej 0 (b:=false) ?_);refine Bb rfl (xo0 ?_);refine Bb rfl (xo1 ?_);refine Bb rfl (xo0 ?_);refine Bb rfl (xo1 ?_);refine Bb rfl (xo19 ?_);refine Bb rfl (xo2 ?_);refine xo3 ?_;refine Ar rfl (Ej 0 (b:=false) ?_);refine Bb rfl (Al rfl (Bb rfl (Ac (by simp only[zo,unD]<;>exact rfl) ?_)));refine Bb rfl (Ar rfl (Ej 0 (b:=true) ?_));refine Bb rfl (xo0 ?_);refine Bb rfl (xo1 ?_);refine Bb rfl (xo2 ?_);refine Bb rfl (xo3 ?_);refine xo3 ?_;refine Ar rfl (Aa (Ak ?_));refine Cc ?_;refine Ae (xo0 ?_);refine xo1 ?_;refine Ar rfl (Ej 0 (b:=false) ?_);refine Da rfl rfl (Da rfl rfl (Da rfl rfl (Da rfl rfl (Jl rfl (Jl rfl (Jl rfl (Jl rfl (Jl rfl (Jl rfl (Jl rfl (Da rfl rfl (xo3 ?_))))))))))));refine Ar rfl (Aa (Ak ?_));apply Di (by simp only[opd,zv]);refine Ae (xo0 ?_);refine xo1 ?_;refine xo2 ?_;refine Ar rfl (Ej 0 (b:=true) ?_);refine Bb rfl (xo0 ?_);refine Bb rfl (xo1 ?_);refine Bb rfl (xo2 ?_);refine Bb rfl (Ar rfl (Ej 0 (b:=false) ?_));refine Bb rfl (xo0 ?_);refine Bb rfl (xo1 ?_);refine Bb rfl (xo2 ?_);refine Bb rfl (xo3 ?_);refine xo3 ?_;refine Ar rfl (Aa (Ak ?_));refine Cc ?_;refine Bc (Fu (Bz rfl (Ae (xo0 ?_))));refine xo1 ?_;refine xo3 ?_;apply Ac (by simp only[zo];exact has140 (by omega) _ (g:=0) (rows:=flN n) rfl n hn);apply Ac (by simp only[zo,unD]<;>exact rfl);refine Ar rfl (Aa (Ak ?_));apply Bp;refine⟨_,by simp only[F96,A7,Bo,Cv,zg]<;>exact rfl,?_⟩;rfl
theorem valid_f{d:Nat}(hd:9≤d)(S:St)(n:Nat)(hn:n≤2000):Bl LP NN d 67 [.agg (fR0 (flN n))] S=some (.bool true,S,false):=by
 obtain⟨d0,rfl⟩:∃e,d=e+4:=⟨d-4,by omega⟩;refine rq (F:=F67) rfl (by simp only[LP,Ay,Cn,zs,zm,fR0,flT]<;>exact rfl) (by simp only[F67,zv]<;>exact rfl) ?_;intro d he;obtain rfl:d=d0+3:=by omega
 refine Ae (xo6 ?_);refine Bj (Aa (Ak ?_));refine Ao (Ae (xo0 ?_));refine xo1 ?_;refine xo19 ?_;refine Bj (Aa (Ak ?_));refine Be (Dp (Cy (Ae (Oq ?_))));refine Aa (Ak ?_);refine Ao (Cc ?_);refine Cs (Gc (Nu (Gd (Bz rfl (Ao (Ae (xo0 ?_)))))));refine xo1 ?_;refine xo15 ?_;refine Bj (Aa (Ak ?_));refine Be (Dp (Cy (Ae (xo2 ?_))));refine Aa (Ak ?_);refine Ao (Ga ?_);refine Bc (Bz rfl (Ao (Be (Ae (xo27 ?_)))));refine xo1 ?_;refine xo8 ?_;refine Ot ?_;refine Aa (Ak ?_);refine Ae (xo0 ?_);refine xo1 ?_;refine Oq ?_;refine Ar rfl (Ej 0 (b:=false) ?_);refine Bb rfl (xo0 ?_);refine Bb rfl (xo1 ?_);refine Bb rfl (xo0 ?_);refine Bb rfl (xo1 ?_);refine Bb rfl (xo15 ?_);refine Bb rfl (xo2 ?_);refine xo3 ?_;refine Ar rfl (Ej 0 (b:=false) ?_);refine Bb rfl (xo0 ?_);refine Bb rfl (xo1 ?_);refine Bb rfl (xo0 ?_);refine Bb rfl (xo1 ?_);refine Bb rfl (xo27 ?_);refine Bb rfl (xo18 ?_);refine Bb rfl (Ac (by simp only[zl,zm,zd,Au,List.drop]<;>exact rfl) ?_);refine Bb rfl (xo2 ?_);refine xo3 ?_;refine Ar rfl (Ej 0 (b:=false) ?_);refine Bb rfl (xo0 ?_);refine Bb rfl (xo1 ?_);refine Bb rfl (Oq ?_);refine xo3 ?_;refine Ar rfl (Ej 0 (b:=false) ?_);refine Bb rfl (xo0 ?_);refine Bb rfl (xo1 ?_);refine Bb rfl (xo0 ?_);refine Bb rfl (xo1 ?_);refine Bb rfl (xo19 ?_);refine Bb rfl (xo2 ?_);refine xo3 ?_;refine Aa (Ak ?_);refine Cc ?_;refine Bc (Fu (Bz rfl (Br (xo2 ?_))));refine Ar rfl (Aa (Qz (by simp only[ze]<;>exact rfl) ?_));refine Cy (Ae (xo2 ?_));refine Aa (Ak ?_);refine Ao (Cc ?_);refine Cs (Gc (Nu (Gd (Bz rfl (Ae (Ac (by exact rfl) ?_))))));refine Ar rfl (Aa (Ak ?_));refine Ao (Ae (xo0 ?_));refine xo1 ?_;refine xo15 ?_;refine Bj (Aa (Ak ?_));refine Be (Dp (Cy (Ae (xo2 ?_))));refine Aa (Ak ?_);refine Ao (Ga ?_);refine Bc (Bz rfl (Ao (Be (Ae (xo27 ?_)))));refine xo1 ?_;refine xo8 ?_;refine Ot ?_;refine Aa (Ak ?_);refine Ae (xo0 ?_);refine xo1 ?_;refine xo0 ?_;refine xo1 ?_;refine xo7 ?_;refine xo8 ?_;refine Ot ?_;refine Aa (Ak ?_);refine Ao (Ae (xo1 ?_));refine xo1 ?_;apply Ac (by simp only[zo];exact group_f (by omega) _ n hn);apply Ac (by simp only[zo,unD]<;>exact rfl);refine Ar rfl (Ej 0 (b:=false) ?_);refine Bb rfl (Al rfl (Bb rfl (xo1 ?_)));refine Bb rfl (Ac (by exact rfl) ?_);refine Bb rfl (Ar rfl (Ej 0 (b:=false) ?_));refine Da rfl rfl (Da rfl rfl (Da rfl rfl (Bb rfl (xo3 ?_))));refine xo3 ?_;refine Aa (Ak ?_);apply Di (by simp only[opd,zv]);refine Bc (Bz rfl (Br (Al rfl (xo1 ?_))));apply Ac (by exact rfl);refine Aa (Fu (Ak ?_));refine Br (xo2 ?_);refine Ar rfl (Aa (Qz (by simp only[ze]<;>exact rfl) ?_));refine Cy (Ae (xo2 ?_));refine Aa (Ak ?_);refine Ao (Cc ?_);refine Cs (Gc (Nu (Gd (Bz rfl (Ae (xo1 ?_))))));apply Ac (by simp only[zo];exact fast_ok (pages_f d0 _ (flN n)));refine Ar rfl (Aa (Ak ?_));apply Bp;refine⟨_,by simp only[F67,A7,Bo,Cv,zg,zm]<;>exact rfl,?_⟩;rfl
theorem check_f{d:Nat}(hd:10≤d)(S:St)(n:Nat)(hn:n≤2000):Bl LP NN d 30 [.agg (fR0 (flN n))] S=some (.int .i64 0,S,false):=by
 refine rq (F:=F30) rfl (by simp only[LP,Ay,Cn,zs,zm,fR0,flT]<;>exact rfl) (by simp only[F30,zv]<;>exact rfl) ?_;rintro d rfl;refine Ae (xo6 ?_);refine Bj (Aa (Ak ?_));refine Ao (Be (Ae (xo0 ?_)));refine xo1 ?_;refine xo15 ?_;refine xo2 ?_;refine Ar rfl (Ej 0 (b:=false) ?_);refine Bb rfl (xo0 ?_);refine Bb rfl (xo1 ?_);refine Bb rfl (xo19 ?_);refine Bb rfl (xo2 ?_);refine xo3 ?_;refine Ar rfl (Ej 0 (b:=false) ?_);refine Bb rfl (xo0 ?_);refine Bb rfl (xo1 ?_);refine Bb rfl (xo15 ?_);refine Bb rfl (xo2 ?_);refine xo3 ?_;refine Ar rfl (Ej 0 (b:=false) ?_);refine Bb rfl (xo0 ?_);refine Bb rfl (xo1 ?_);refine Bb rfl (xo15 ?_);refine Bb rfl (xo2 ?_);refine xo3 ?_;refine Ar rfl (Aa (Ak ?_));refine Cc ?_;refine Ae (xo1 ?_);apply Ac (by simp only[zo];exact valid_f (by omega) _ n hn);apply Ac (by simp only[zo,unD]<;>exact rfl);refine Ar rfl (Aa (Ak ?_));refine Cc ?_;refine Bc (Fu (Bz rfl (Ae (Bj (Aa (Ak ?_))))));apply Bp;refine⟨_,by simp only[F30,A7,Bo,Cv,zg,zm]<;>exact rfl,?_⟩;rfl
def flM (n:Nat):GrM:=⟨4,0,false,List.replicate n ⟨1,[],none⟩,none⟩
theorem flM_row(n:Nat)(h:n≠0)(c:Bool):(flM n).row c=[.int .u8 4,.int .i64 0,.bool false,.sl 2 (flN n) none]:=by
 have e:(List.replicate n (⟨1,[],none⟩:LnM)).map (LnM.row c)=flN n:=by rw[List.map_replicate];rfl
 show [D.int .u8 (4:Nat),.int .i64 (0:Nat),.bool false,slB c 2 ((List.replicate n (⟨1,[],none⟩:LnM)).map (LnM.row c)) none]=_;rw[e,Jg (by simpa [flN] using h)];cases c<;>rfl
def fR1 (rows:List (List D)):List D:=[.sl 11 [shN 1] none,.R4,.int .i64 0,.int .i64 0,.int .i64 0,.sl 4 [[.int .u8 4,.int .i64 0,.bool false,.sl 2 rows none]] none,.sl 2 flT none]
theorem own_f{d:Nat}(hd:3≤d)(S:St)(n:Nat)(h0:n≠0)(hn:n≤1000):Bl LP NN d 31 [.agg (fR0 (flN n))] S=some (.agg (fR1 (flN n)),S,false):=by
 have hI:∀n:Int,Cl (.int .i64 n):=fun _=>⟨rfl,rfl,rfl,rfl⟩
 have:=own_gen (d:=d) hd S (.sl 11 [shN 1] (some 1)) (.sl 11 [shN 1] none) .R4 (.int .i64 0) (.int .i64 0) (.int .i64 0) (.sl 2 flT none) (.sl 2 flT (some 1)) [flM n] (some 1) ⟨rfl,rfl,rfl,rfl⟩ ⟨rfl,rfl,rfl,rfl⟩ ⟨rfl,rfl,rfl,rfl⟩ ⟨rfl,rfl,rfl,rfl⟩ ⟨rfl,rfl,rfl,rfl⟩ (hI _) (hI _) (hI _) (by simp) (by simp)
  (fun g hg=>by
   obtain rfl:=List.mem_singleton.1 hg;refine⟨by simpa [flM] using h0,by simpa [flM] using hn,fun l hl=>?_⟩;obtain rfl:=(List.mem_replicate.1 hl).2
   exact⟨by simp,fun r hr=>by cases hr⟩)
  (fun d S h=>clone68_run h S [shN 1] (by decide) (by decide) (some 1))
  (fun d S h=>clone69_nil h S)
  (fun d S h=>clone70_run h S flT (by decide) (by decide) (some 1))
 simp only[List.map_cons,List.map_nil,flM_row n h0]at this;exact this
def flL (k:Nat):List (List D):=(List.range k).map fun i=>[.int .i64 1,.int .i64 (i+1:Nat),.str (mkS [])]
def fRw (b:Bool):D:=if b then .sl 12 [shN 1++[.sl 1 (bR [49]) none]] (some 1) else .R4
def fW (n gm:Nat) (pg ln:D) (rw td lin:D) (fu en:Bool):List D:=[.sl 11 [shN 1] none,.R4,.int .i64 0,.int .i64 0,.int .i64 0,.sl 4 [flG n] none,.sl 2 flT none,pg,ln,.bool false,rw,td,lin,.bool fu,.mref gm 0,.bool en]
def fO (n gm:Nat) (pg ln:D) (rw td lin:D) (fu en:Bool):Rf:=⟨91,16,[fW n gm pg ln rw td lin fu en],0,0,false⟩
def fT (v m:Nat):Rf:=⟨57,3,[dcR m],v,2,true⟩
structure FS (H:List Rf) (g gm gt vt n pg ln:Nat) (rw:Bool) (m k:Nat) (fu en:Bool):Prop where
 hw:∃lin,H[g]?=some (fO n gm (.int .i64 (pg:Nat)) (.int .i64 (ln:Nat)) (fRw rw) (.msl gt vt 0 1 none) lin fu en)∧LinAt H lin (flL k)
 hm:H[gm]?=some (mpO [])
 ht:H[gt]?=some (fT vt m)
def KF (gt:Nat) (H H':List Rf):Prop:=H.length≤H'.length∧∀(j:Nat) (o:Rf),H[j]?=some o→(o.kind=0∧o.elem≠91)∨o.elem=0∨(o.elem=57∧j≠gt)→H'[j]?=some o
theorem KF.trans{gt:Nat}{H H' H'':List Rf}(h:KF gt H H')(h':KF gt H' H''):KF gt H H'':=⟨Nat.le_trans h.1 h'.1,fun j o h1 h2=>h'.2 j o (h.2 j o h1 h2) h2⟩
theorem KF.app(gt:Nat)(H l:List Rf):KF gt H (H++l):=⟨by simp,fun j o h _=>Bu h l⟩
theorem new_f{d:Nat}(hd:12≤d)(H:List Rf)(low:Nat)(n:Nat)(h0:n≠0)(hn:n≤1000):∃r,(∃S' g gm gt,r=(.tup [.ptr g 0 0 0,.int .i64 0],S',true)∧FS S'.heap g gm gt 0 n 0 0 false 0 0 false false∧Keep H S'.heap∧H.length≤g)∧Bl LP NN d 9 [.agg (fR0 (flN n))] ⟨H,low⟩=some r:=by
 refine De (F:=F9) rfl (by simp only[LP,Ay,Cn,zs,zm,fR0,flT]<;>exact rfl) rfl (by simp only[LP,zf,zm];try rfl) (by simp only[F9,zv]<;>exact rfl) (by omega) ?_;rintro d rfl;refine Ae (xo6 ?_);refine Bj (Bj (Aa (Ak ?_)));refine Ao (Ae (xo1 ?_));apply Ac (by simp only[zo];exact check_f (by omega) _ n (by omega));refine Ar rfl (Aa (Ak ?_));refine Ae (Al rfl (xo2 ?_));refine Aa (Ak ?_);refine Cc ?_;refine Bc (Bz rfl (Ae (xo1 ?_)));apply Ac (by simp only[zo];exact own_f (by omega) _ n h0 (by omega));refine xo8 ?_;apply Ac (by simp only[zo,Gn,overlay,zc,List.take,Nat.reduceAdd,Nat.reduceLeDiff,zm]<;>exact rfl);refine xo6 ?_;refine Ar rfl (Aa (Ak ?_));refine Ao (Ae (Al rfl (xo3 ?_)));refine xo0 ?_;refine xo0 ?_;apply Ac (by simp only[zl,zm,zd,Au]<;>exact rfl);refine xo15 ?_;refine Bj (Aa (Ak ?_));refine Be (Dp (Cy (Ae (xo2 ?_))));refine Aa (Ak ?_);refine Ao (Ga ?_);refine Bc (Bz rfl (Ao (Be (Ae (xo27 ?_)))));refine xo1 ?_;refine xo8 ?_;refine Ot ?_;refine Aa (Ak ?_);refine Ae (xo0 ?_);refine xo1 ?_;refine xo2 ?_;refine Aa (Ak ?_);refine Cc ?_;refine Bc (Fu (Bz rfl (Br (xo2 ?_))));refine Ar rfl (Aa (Qz (by simp only[ze]<;>exact rfl) ?_));refine Cy (Ae (xo2 ?_));refine Aa (Ak ?_);refine Ao (Cc ?_);refine Cs (Gc (Nu (Gd (Bz rfl (Ao (Ae (Al rfl (xo3 ?_))))))));refine xo0 ?_;refine xo0 ?_;apply Ac (by simp only[zl,zm,zd,Au]<;>exact rfl);apply Ac (by simp only[zo,Hl,flT]<;>exact rfl);refine Bj (Aa (Ak ?_));refine Be (Dp (Cy (Ae (xo2 ?_))));refine Aa (Ak ?_);refine Ao (Ga ?_);refine Bc (Bz rfl (Ao (Be (Du (by simp only[Ce,zw,Nat.reduceAdd]<;>exact rfl) (by simp only[zw]<;>exact rfl) ?_))));refine Cf rfl rfl (Cf rfl rfl (xo5 rfl rfl ?_));refine xo4 rfl rfl ?_;refine xo4 rfl rfl ?_;apply Aw (by simp only[zl,zm,zd,Au]<;>exact rfl) (by simp only[Ai,zo,zq]<;>exact rfl) (by first | rfl | (simp[show ob 30 5=[true,true,true,true,false] from rfl,Rn,Ap,Ag,Ba,Ah,Aq,dj,Af,Ab,Aj,Am,Bd,A9,Av];done));apply Aw (by simp only[zo];exact int_run (by omega) _ 0 (by omega)) (by simp only[Ai,zo,zq]<;>exact rfl) (by first | rfl | (simp[show ob 0 6=[false,false,false,false,false,false] from rfl,Rn,Ap,Ag,Ba,Ah,Aq,dj,Af,Ab,Aj,Am,Bd,A9,Av];done));apply Aw (by simp only[zl,zm,Cr,List.replicate,Ay,Cn,zs,zc,zf,dcD]<;>exact rfl) (by simp only[Ai,zo,zq]<;>exact rfl) (by first | rfl | (simp[show ob 64 7=[true,false,false,false,false,false,false] from rfl,Rn,Ap,Ag,Ba,Ah,Aq,dj,Af,Ab,Aj,Am,Bd,A9,Av];done));apply Aw (by simp only[opd,zv,Az,aop,LOp.loud,lop,if_true];exact tot_new _ _) (by simp only[Ai,zo,zq]<;>exact rfl) (by first | rfl | (simp[show ob 254 8=[true,true,true,true,true,true,true,false] from rfl,Rn,Ap,Ag,Ba,Ah,Aq,dj,Af,Ab,Aj,Am,Bd,A9,Av];done));apply A8 (by simp only[zo,dcD]<;>exact rfl) rfl rfl;apply A8 (by simp only[zo,Cb,zm,dcD]<;>exact rfl) rfl rfl;apply A8 (by simp only[zo,Cb,zm,dcD]<;>exact rfl) rfl rfl;apply Aw (by simp only[zl,zm,Ca,overlay,zs,zc,zf,List.take,List.drop,dcD]<;>exact rfl) (by simp only[Ai,zo,zq]<;>exact rfl) (by first | rfl | (simp[show ob 4095 12=[true,true,true,true,true,true,true,true,true,true,true,true] from rfl,Rn,Ap,Ag,Ba,Ah,Aq,dj,Af,Ab,Aj,Am,Bd,A9,Av];done));refine Cw (Fu (Ak ?_));refine Br (xo2 ?_);refine Ar rfl (Aa (Qz (by simp only[ze]<;>exact rfl) ?_));refine Cy (Ae (xo2 ?_));refine Aa (Ak ?_);refine Ao (Cc ?_);refine Cs (Gc (Nu (Gd (Bz rfl (Ae (Al rfl (Ar rfl (Bj (Aa (Ak ?_))))))))));apply Bp;apply Exists.intro
 case h =>
  apply And.intro
  case right =>
   refine⟨_,by simp only[F9,A7,Bo,Cv,zg,zm]<;>exact rfl,?_⟩;exact leave_grow ⟨H,low⟩ ⟨_,_⟩ _ (by simp) rfl (fun _ _=>rfl)
  case left=>exact⟨_,H.length+2,H.length+1,H.length+4,rfl,⟨⟨.R4,(Gr H _ 2).trans rfl,.inl ⟨rfl,rfl⟩⟩,(Gr H _ 1).trans rfl,(Gr H _ 4).trans rfl⟩,Keep.app _ _,by omega⟩
theorem Ih(k:Nat):(flL k).length=k:=by simp[flL]
theorem flL_succ(k:Nat):flL (k+1)=flL k++[[.int .i64 1,.int .i64 (k+1:Nat),.str (mkS [])]]:=by simp[flL,List.range_succ]
theorem FS.lt{H:List Rf}{g gm gt vt n pg ln:Nat}{rw:Bool}{m k:Nat}{fu en:Bool}(h:FS H g gm gt vt n pg ln rw m k fu en):g<H.length:=by
 obtain⟨_,h1,_⟩:=h.hw;exact Ff h1
theorem FS.keep{H H':List Rf}{g gm gt vt n pg ln:Nat}{rw:Bool}{m k:Nat}{fu en:Bool}(h:FS H g gm gt vt n pg ln rw m k fu en)(hk:∀(j:Nat) (o:Rf),H[j]?=some o→(o.elem=91∨o.elem=0∨o.elem=57∨o.elem=52)→H'[j]?=some o):FS H' g gm gt vt n pg ln rw m k fu en:=by
 obtain⟨lin,h1,h2⟩:=h.hw;exact⟨⟨lin,hk g _ h1 (.inl rfl),h2.keep fun j o hj he=>hk j o hj (.inr (.inr (.inr he)))⟩,hk gm _ h.hm (.inr (.inl rfl)),hk gt _ h.ht (.inr (.inr (.inl rfl)))⟩
theorem FS.app{H:List Rf}{g gm gt vt n pg ln:Nat}{rw:Bool}{m k:Nat}{fu en:Bool}(h:FS H g gm gt vt n pg ln rw m k fu en)(l:List Rf):FS (H++l) g gm gt vt n pg ln rw m k fu en:=h.keep fun _ _ hj _=>Bu hj l
theorem FS.ne{H:List Rf}{g gm gt vt n pg ln:Nat}{rw:Bool}{m k:Nat}{fu en:Bool}(h:FS H g gm gt vt n pg ln rw m k fu en):g≠gm∧g≠gt:=by
 obtain⟨lin,h1,_⟩:=h.hw;refine⟨fun e=>?_,fun e=>?_⟩
 ·
  have:=h.hm;rw[←e,h1]at this;simp[fO,mpO]at this
 have:=h.ht;rw[←e,h1]at this;simp[fO,fT]at this
theorem FS.set{H:List Rf}{g gm gt vt n pg ln:Nat}{rw:Bool}{m k:Nat}{fu en:Bool}(h:FS H g gm gt vt n pg ln rw m k fu en)(pg' ln':Nat)(rw':Bool)(lin:D)(k':Nat)(fu' en':Bool)(hl:LinAt H lin (flL k')):FS (H.set g (fO n gm (.int .i64 (pg':Nat)) (.int .i64 (ln':Nat)) (fRw rw') (.msl gt vt 0 1 none) lin fu' en')) g gm gt vt n pg' ln' rw' m k' fu' en':=by
 obtain⟨lin0,h1,_⟩:=h.hw;obtain⟨n1,n2⟩:=h.ne;exact⟨⟨lin,Bn h1 _,hl.keep fun j o hj he=>Bg hj (fun e=>by subst e;rw[h1]at hj;obtain rfl:=Option.some.inj hj;simp[fO]at he) _⟩,Bg h.hm n1 _,Bg h.ht n2 _⟩
theorem KeepF.set{H:List Rf}{g gm gt vt n pg ln:Nat}{rw:Bool}{m k:Nat}{fu en:Bool}(h:FS H g gm gt vt n pg ln rw m k fu en)(o':Rf):KF gt H (H.set g o'):=by
 obtain⟨lin0,h1,_⟩:=h.hw;refine⟨by simp,fun j o hj hk=>Bg hj (fun e=>?_) _⟩;subst e;rw[h1]at hj;obtain rfl:=Option.some.inj hj;simp[fO]at hk
theorem FS.cast{H:List Rf}{g gm gt vt n pg ln ln':Nat}{rw:Bool}{m k k':Nat}{fu fu' en:Bool}(h:FS H g gm gt vt n pg ln rw m k fu en)(h1:ln=ln')(h2:k=k')(h3:fu=fu'):FS H g gm gt vt n pg ln' rw m k' fu' en:=by
 subst h1 h2 h3;exact h
theorem FS.put{K H':List Rf}{g gm gt vt n pg ln:Nat}{rw:Bool}{m k:Nat}{fu en:Bool}(h:FS K g gm gt vt n pg ln rw m k fu en){o:Rf}(ho:o.kind=0∧o.elem=91)(xJ:K.length≤H'.length)(hf:∀(j:Nat) (o':Rf),(K.set g o)[j]?=some o'→(o'.kind=0∨o'.elem≠52)→H'[j]?=some o'){g' v':Nat}(pg' ln' k':Nat)(rw' fu' en':Bool)(hk:k'≠0)(hg':H'[g']?=some ⟨52,3,flL k',v',1,true⟩) :
  FS (H'.set g (fO n gm (.int .i64 (pg':Nat)) (.int .i64 (ln':Nat)) (fRw rw') (.msl gt vt 0 1 none) (.msl g' v' 0 k' none) fu' en')) g gm gt vt n pg' ln' rw' m k' fu' en'∧KF gt K (H'.set g (fO n gm (.int .i64 (pg':Nat)) (.int .i64 (ln':Nat)) (fRw rw') (.msl gt vt 0 1 none) (.msl g' v' 0 k' none) fu' en')):=by
 obtain⟨lin0,h1,_⟩:=h.hw;obtain⟨n1,n2⟩:=h.ne;have hg:H'[g]?=some o:=hf g o (Bn h1 _) (.inl ho.1)
 have uj:g≠g':=fun e=>by
  subst e;have:=hg.symm.trans hg';obtain rfl:=Option.some.inj this;simp at ho
 have q:∀(j:Nat) (o':Rf),K[j]?=some o'→j≠g→(o'.kind=0∨o'.elem≠52)→(H'.set g (fO n gm (.int .i64 (pg':Nat)) (.int .i64 (ln':Nat)) (fRw rw') (.msl gt vt 0 1 none) (.msl g' v' 0 k' none) fu' en'))[j]?=some o':=fun j o' hj xu hk=>by
  rw[Ln_ (Ne.symm xu)];exact hf j o' (by rw[Ln_ (Ne.symm xu)];exact hj) hk
 refine⟨⟨⟨_,Bn hg _,.inr ⟨fun e=>hk (by rw[←Ih k',e];rfl),.inr ⟨g',v',by rw[Ih],?_⟩⟩⟩,q gm _ h.hm (Ne.symm n1) (.inr (by simp[mpO])),q gt _ h.ht (Ne.symm n2) (.inr (by simp[fT]))⟩,by simpa using xJ,fun j o' hj hk=>?_⟩
 ·
  rw[Ln_ uj,hg']
 have hj2:j≠g:=fun e=>by
  subst e;rw[h1]at hj;obtain rfl:=Option.some.inj hj;simp[fO]at hk
 exact q j o' hj hj2 (hk.elim (fun h=>.inl h.1) fun h=>.inr (h.elim (fun h=>by rw[h];decide) fun h=>by rw[h.1];decide))
theorem fwrite{d:Nat}(hd:1≤d){H:List Rf}(low:Nat){g gm gt vt nn:Nat}{rw:Bool}{m k:Nat}{fu en:Bool}(hW:FS H g gm gt vt nn 1 k rw m (min k 65536) (fu||decide (65536<k)) en)(h0:nn≠0)(hn:nn≤1000)(hk:k≤100000):∃r,(∃T,r=(.tup [],T,true)∧FS T.heap g gm gt vt nn 1 (k+nn) rw m (min (k+nn) 65536) (fu||decide (65536<k+nn)) en∧KF gt H T.heap∧T.low≤g)∧Bl LP NN d 43 [.ptr g 0 0 0,.agg (flG nn)] ⟨H,low⟩=some r:=by
 have hfl:(flN nn).length=nn:=by simp[flN]
 have hW0:=hW.app [⟨71,4,[flG nn],0,0,false⟩];refine De (F:=F43) rfl (by simp only[LP,Ay,Cn,zs,zm,flG]<;>exact rfl) rfl (by simp only[LP,zf,zm];try rfl) (by simp only[F43,zv]<;>exact rfl) (by omega) ?_;rintro d rfl;refine Ae (xo6 ?_);refine Aa (Ak ?_);refine Ae (xo0 ?_);refine xo1 ?_;apply Ac (by simp only[zo,Hl,hfl]<;>exact rfl);refine Bj (Aa (Ak ?_));refine Be (Fv (fun n env S'=>∃(j:Nat) (K:List Rf) (lo:Nat) (u3 u4 u5 u9 u10 u11 u12 u13 u14:D),j≤nn∧FS K g gm gt vt nn 1 (k+j) rw m (min (k+j) 65536) (fu||decide (65536<k+j)) en∧KF gt H K∧(lo≤g∨j=0)∧n=nn-j∧S'=⟨K,lo⟩∧env=[.ptr g 0 0 0,.agg (flG nn),.ptr H.length 0 0 0,u3,u4,u5,.sl 2 (flN nn) none,.int .i64 (nn:Nat),.int .i64 (j:Nat),u9,u10,u11,u12,u13,u14]) (nn) (by omega) (⟨0,_,_,_,_,_,_,_,_,_,_,_,by omega,hW0,KF.app _ _ _,.inr rfl,by omega,rfl,rfl⟩) ?_);rintro n env S' ⟨j,K,lo,u3,u4,u5,u9,u10,u11,u12,u13,u14,hj,hWK,hKp,y9,hnA,rfl,rfl⟩;refine Ae (Ac (by simp only[zo,Cg,flG]<;>exact rfl) ?_);refine Aa (Ak ?_);apply Ao;refine Ep (by simp only[opd,zv,flG]<;>exact rfl) (fun zK=>?_) (fun zK=>?_)
 ·
  have yt:j<nn:=by have:=of_decide_eq_true zK;omega
  obtain⟨lin,hw,xK⟩:=hWK.hw;have hgK:=Ff hw;have yF:∀l,(K++l)[g]?=_:=fun l=>Bu hw l;have hsA:∀o l,(K++l).set g o=K.set g o++l:=fun o l=>List.set_append_left _ _ hgK;have uN:∀o l,(K.set g o++l)[g]?=some o:=fun o l=>Bu (Bn hw o) l;have hss:∀o o' l,(K.set g o++l).set g o'=K.set g o'++l:=fun o o' l=>by rw[List.set_append_left _ _ (by simpa using hgK),List.set_set]
  have hri:(flN nn)[j]?=some [.int .i64 1,.R4]:=by simp[flN,yt]
  have wJ:((0:Int)≤((j:Nat):Int))=True:=eq_true (by omega);have xJ:(((j:Nat):Int)<((nn:Nat):Int))=True:=eq_true (by omega);have qE:=Gf j (by omega);have hwl:IntKind.i64.wrap (((k+j:Nat):Int)+1)=((k+j+1:Nat):Int):=Gf _ (by omega);have hll:=xK.len;rw[Ih]at hll;have qL0:=xK.Ru;have qL1:=xK.cells;have qL2:=xK.val;have xQ:=aI yF (aI hsA (aI uN (aI hss (aI hri (aI wJ (aI xJ (aI qE (aI hwl (hll)))))))));refine Bc (Bz rfl (Ao (Be (Ae (Ac (by simp only[zl,zm,C9,Int.toNat_natCast,flG,xQ]<;>exact rfl) ?_)))));apply Ac (by simp only[zl,zm,zd,Au,List.take,List.drop,flG,xQ]<;>exact rfl);apply Ac (by simp only[zl,zm,flG,xQ]<;>exact rfl);apply Ac (by simp only[zl,zm,Ca,overlay,Cn,zs,zc,zf,List.take,List.drop,flG,xQ]<;>exact rfl);refine Aa (Ak ?_);refine Ae (Bj (Aa (Ak ?_)));refine Ao (Ae (xo30 ?_));apply Ac (by simp only[zl,zm,zd,Au,List.take,List.drop,flG,xQ]<;>exact rfl);apply Ac (by simp only[zo,lenD_nils,flG,xQ]<;>exact rfl);refine Bj (Aa (Ak ?_));refine Be (Dp (Cy (Ae (Ac (by simp only[zo,Cg,Int.reduceLT,flG,xQ]<;>exact rfl) ?_))));refine Aa (Ak ?_);refine Ao (Di (by simp only[opd,zv,flG,xQ]<;>rfl) ?_);refine Cs (Gc (Nu (Gd (Bz rfl (Ao (Du (by simp only[Ce,zw,Nat.reduceAdd]<;>exact rfl) (by simp only[zw]<;>exact rfl) ?_))))));refine Cf rfl rfl (A8 (by simp only[zo,flG,xQ]<;>exact rfl) rfl rfl ?_);refine Oo rfl rfl ?_;refine Oo rfl rfl ?_;apply Aw (by simp only[zl,zm,zd,Au,List.take,List.drop,flG,fO,fW,xQ]<;>exact rfl) (by simp only[Ai,zo,zq]<;>exact rfl) (by first | rfl | (simp[show ob 15 4=[true,true,true,true] from rfl,Rn,Ap,Ag,Ba,Ah,Aq,dj,Af,Ab,Aj,Am,Bd,A9,Av];done));refine Oo rfl rfl ?_;apply Aw (by simp only[zl,zm,zd,Au,List.take,List.drop,flG,xQ]<;>exact rfl) (by simp only[Ai,zo,zq]<;>exact rfl) (by first | rfl | (simp[show ob 32 6=[true,false,false,false,false,false] from rfl,Rn,Ap,Ag,Ba,Ah,Aq,dj,Af,Ab,Aj,Am,Bd,A9,Av];done));apply A8 (by simp only[zo,Cg,flG,xQ]<;>exact rfl) rfl rfl;apply A8 (by simp only[zo,flG,xQ]<;>exact rfl) rfl rfl;refine Oo rfl rfl ?_;refine Oo rfl rfl ?_;apply Aw (by simp only[zl,zm,Ca,overlay,zs,zc,zf,List.take,List.drop,flG,fO,fW,xQ]<;>exact rfl) (by simp only[Ai,zo,zq]<;>exact rfl) (by first | rfl | (simp[show ob 2047 11=[true,true,true,true,true,true,true,true,true,true,true] from rfl,Rn,Ap,Ag,Ba,Ah,Aq,dj,Af,Ab,Aj,Am,Bd,A9,Av];done));refine Cw (Ak ?_);refine Ao (Ae (Al rfl (Ac (by simp only[zo,flG,xQ]<;>exact rfl) ?_)));refine xo30 ?_;refine xo30 ?_;apply Ac (by simp only[zl,zm,zd,Au,List.take,List.drop,flG,xQ]<;>exact rfl);apply Ac (by simp only[zo,flG,xQ]<;>exact rfl);apply Ac (by simp only[zo,Cg,flG,xQ]<;>exact rfl);refine Aa (Ak ?_);refine Ep (by simp only[opd,zv,flG,xQ]<;>exact rfl) (fun ru=>?_) (fun ru=>?_)
  ·
   have hkj:65536≤k+j:=by have:=of_decide_eq_true ru;omega
   have hWN:=(hWK.set 1 (k+j+1) rw lin (min (k+j) 65536) true en xK).cast (ln':=k+(j+1)) (k':=min (k+(j+1)) 65536) (fu':=fu||decide (65536<k+(j+1))) (by omega) (by omega) (by rw[decide_eq_true (by omega),Bool.or_true]);have hWN:=hWN.app [⟨74,2,[[.int .i64 1,.R4]],0,0,false⟩];have hKN:=(KeepF.set hWK (fO nn gm (.int .i64 (1:Nat)) (.int .i64 (k+j+1:Nat)) (fRw rw) (.msl gt vt 0 1 none) lin true en)).trans (KF.app _ _ [⟨74,2,[[.int .i64 1,.R4]],0,0,false⟩]);refine Ae (Al rfl (Ac (by simp only[zo,flG,xQ]<;>exact rfl) ?_));refine xo30 ?_;refine xo30 ?_;apply Ac (by simp only[zl,zm,Ca,overlay,zs,zc,zf,List.take,List.drop,flG,xQ]<;>exact rfl);refine Aa (Ak ?_);refine Cs (Gc (Gd (Bz rfl (Br (Ac (by simp only[zo,Cg,flG,xQ]<;>exact rfl) ?_)))));refine Ar rfl (Aa (Pb (by simp only[ze]<;>exact rfl) ?_));exact⟨nn-(j+1),by omega,j+1,_,_,_,_,_,_,_,_,_,_,_,by omega,hWN,hKp.trans hKN,.inl (Nat.min_le_right _ _),rfl,rfl,rfl⟩
  have hkj:k+j<65536:=by have:=of_decide_eq_false ru;omega
  rw[show min (k+j) 65536=k+j by omega]at hWK xK hll;rw[decide_eq_false (show ¬65536<k+j by omega),Bool.or_false]at hWK hw;rw[decide_eq_false (show ¬65536<k+j by omega),Bool.or_false];have yF:∀l,(K++l)[g]?=_:=fun l=>Bu hw l;obtain⟨g',v',H',lo',hap,hg',hl',zV,hf'⟩:=lin_app (H:=K.set g (fO nn gm (.int .i64 1) (.int .i64 (k+j+1:Nat)) (fRw rw) (.msl gt vt 0 1 none) lin fu en)++[⟨74,2,[[.int .i64 1,.R4]],0,0,false⟩]) (xK.keep fun i o h1 h2=>Bu (Bg h1 (fun e=>by subst e;rw[hw]at h1;obtain rfl:=Option.some.inj h1;simp[fO]at h2) _) _) (by rw[Ih];omega) [.int .i64 1,.int .i64 (k+j+1:Nat),.str (mkS [])] (some 1) (min (min lo K.length) g);rw[Ih]at hap;rw[←flL_succ]at hg';have hHg:=hf' g _ (uN _ _) (.inl rfl);obtain⟨hWN,hKN⟩:=hWK.put (o:=fO nn gm (.int .i64 1) (.int .i64 (k+j+1:Nat)) (fRw rw) (.msl gt vt 0 1 none) lin fu en) ⟨rfl,rfl⟩ (by simp at hl';omega) (fun i o' h1 h2=>hf' i o' (Bu h1 _) h2) 1 (k+j+1) (k+j+1) rw fu en (by omega) hg';have hWN:=hWN.cast (ln':=k+(j+1)) (k':=min (k+(j+1)) 65536) (fu':=fu||decide (65536<k+(j+1))) (by omega) (by omega) (by rw[decide_eq_false (by omega),Bool.or_false]);refine Bc (Bz rfl (Du (by simp only[Ce,zw,Nat.reduceAdd]<;>exact rfl) (by simp only[zw]<;>exact rfl) ?_));refine Cf rfl rfl (Cf rfl rfl (A8 (by simp only[zo,flG,xQ]<;>exact rfl) rfl rfl ?_));refine Oo rfl rfl ?_;refine Oo rfl rfl ?_;apply Aw (by simp only[zl,zm,zd,Au,List.take,List.drop,flG,xQ]<;>exact rfl) (by simp only[Ai,zo,zq]<;>exact rfl) (by first | rfl | (simp[show ob 30 5=[true,true,true,true,false] from rfl,Rn,Ap,Ag,Ba,Ah,Aq,dj,Af,Ab,Aj,Am,Bd,A9,Av];done));refine Cf rfl rfl (A8 (by simp only[zo,flG,xQ]<;>exact rfl) rfl rfl ?_);refine Oo rfl rfl ?_;refine Oo rfl rfl ?_;apply Aw (by simp only[zl,zm,zd,Au,List.take,List.drop,flG,xQ]<;>exact rfl) (by simp only[Ai,zo,zq]<;>exact rfl) (by first | rfl | (simp[show ob 960 10=[true,true,true,true,false,false,false,false,false,false] from rfl,Rn,Ap,Ag,Ba,Ah,Aq,dj,Af,Ab,Aj,Am,Bd,A9,Av];done));refine Cf rfl rfl (A8 (by simp only[zo,flG,xQ]<;>exact rfl) rfl rfl ?_);refine Oo rfl rfl ?_;refine Oo rfl rfl ?_;apply Aw (by simp only[zl,zm,zd,Au,List.take,List.drop,flG,xQ]<;>exact rfl) (by simp only[Ai,zo,zq]<;>exact rfl) (by first | rfl | (simp[show ob 30720 15=[true,true,true,true,false,false,false,false,false,false,false,false,false,false,false] from rfl,Rn,Ap,Ag,Ba,Ah,Aq,dj,Af,Ab,Aj,Am,Bd,A9,Av];done));refine Cf rfl rfl (Aw (by exact rfl) (by simp only[Ai,zo,zq]<;>exact rfl) (by first | rfl | (simp[show ob 65536 17=[true,false,false,false,false,false,false,false,false,false,false,false,false,false,false,false,false] from rfl,Rn,Ap,Ag,Ba,Ah,Aq,dj,Af,Ab,Aj,Am,Bd,A9,Av];done)) ?_);apply A8 (by simp only[zo,Gn,overlay,zc,List.take,List.drop,Nat.reduceAdd,Nat.reduceLeDiff,zm,flG,xQ]<;>exact rfl) rfl rfl;apply Aw (by simp only[zl,zm,Cr,List.replicate,Ay,Cn,zs,zc,zf,flG,xQ]<;>exact rfl) (by simp only[Ai,zo,zq]<;>exact rfl) (by first | rfl | (simp[show ob 524224 19=[true,true,true,true,true,true,true,true,true,true,true,true,true,false,false,false,false,false,false] from rfl,Rn,Ap,Ag,Ba,Ah,Aq,dj,Af,Ab,Aj,Am,Bd,A9,Av];done));apply Aw (by simp only[opd,zv,Az,aop,LOp.loud,lop,if_true];exact hap) (by simp only[Ai,zo,zq];exact fpApp_eta _ _ _ _) (okHere_nil rfl);apply A8 (by simp only[zo,flG,xQ]<;>exact rfl) rfl rfl;refine Oo rfl rfl ?_;refine Oo rfl rfl ?_;apply Aw (by simp only[zl,zm,Ca,overlay,zs,zc,zf,List.take,List.drop,flG,fO,fW,xQ,hHg]<;>exact rfl) (by simp only[Ai,zo,zq]<;>exact rfl) (by first | rfl | (simp[show ob 16777215 24=[true,true,true,true,true,true,true,true,true,true,true,true,true,true,true,true,true,true,true,true,true,true,true,true] from rfl,Rn,Ap,Ag,Ba,Ah,Aq,dj,Af,Ab,Aj,Am,Bd,A9,Av];done));refine Cw (Fu (Ak ?_));refine Br (Ac (by simp only[zo,Cg,flG,xQ]<;>exact rfl) ?_);refine Ar rfl (Aa (Pb (by simp only[ze]<;>exact rfl) ?_));exact⟨nn-(j+1),by omega,j+1,_,_,_,_,_,_,_,_,_,_,_,by omega,hWN,hKp.trans hKN,.inl (Nat.min_le_right _ _),rfl,rfl,rfl⟩
 refine Cs (Gc (Mq (Gd ?_)));have hjn:j=nn:=by have:=of_decide_eq_false zK;omega
 subst hjn;have hlog:lo≤g:=y9.resolve_right h0;have hgH:=hW.lt;refine⟨_,⟨⟨K,min low lo⟩,rfl,hWK,hKp,by show min low lo≤g;omega⟩,?_⟩;refine⟨_,by simp only[F43,A7,Bo]<;>exact rfl,?_⟩;exact Eo (S:=⟨H,low⟩) (S':=⟨K,lo⟩) _ (by show lo<H.length;omega) (fun _ _=>rfl)
theorem write0{d:Nat}(hd:1≤d)(S:St)(g:Nat):Bl LP NN d 43 [.ptr g 0 0 0,.agg [.int .u8 0,.int .i64 0,.bool false,.R4]] S=some (.tup [],S,false):=by
 refine Ee (F:=F43) rfl (by simp only[LP,Ay,Cn,zs,zm]<;>exact rfl) rfl (by simp only[LP,zf,zm];try rfl) (by simp only[F43,zv]<;>exact rfl) (by omega) ?_;rintro d rfl;refine Ae (xo6 ?_);refine Aa (Ak ?_);refine Ae (xo0 ?_);refine xo1 ?_;refine xo19 ?_;refine Bj (Aa (Ak ?_));refine Be (Dp (Cy (Ae (Oq ?_))));refine Aa (Ak ?_);refine Ao (Cc ?_);refine Cs (Gc (Nu (Gd ?_)));refine⟨_,by simp only[F43,A7,Bo]<;>exact rfl,?_⟩;simp[leave,LP,Hq,D.Rq,Ay]
theorem pres0{d:Nat}(hd:2≤d){H:List Rf}(low:Nat){g gm gt vt nn pg ln:Nat}{rw:Bool}{m k:Nat}{fu en:Bool}(hW:FS H g gm gt vt nn pg ln rw m k fu en):Bl LP NN d 48 [.ptr g 0 0 0,.agg [.int .u8 0,.int .i64 0,.bool false,.R4]] ⟨H,low⟩=some (.tup [],⟨H,low⟩,false):=by
 obtain⟨lin,hw,xK⟩:=hW.hw;have yF:∀l,(H++l)[g]?=_:=fun l=>Bu hw l;refine Ee (F:=F48) rfl (by simp only[LP,Ay,Cn,zs,zm]<;>exact rfl) rfl (by simp only[LP,zf,zm];try rfl) (by simp only[F48,zv]<;>exact rfl) (by omega) ?_;rintro d rfl;refine Ae (xo6 ?_);refine Aa (Ak ?_);refine Ao (Ae (Al rfl (xo3 ?_)));refine xo0 ?_;refine xo0 ?_;apply Ac (by simp only[zl,zm,zd,Au,List.take,List.drop,yF,fO,fW]<;>exact rfl);refine xo2 ?_;refine Aa (Ak ?_);refine Cc ?_;refine Bc (Bz rfl (Br (Al rfl (xo1 ?_))));apply Ac (by simp only[zo];exact write0 (by omega) _ g);apply Aa;simp only[ze];refine⟨_,by simp only[F48,A7,Bo]<;>exact rfl,?_⟩;simp[leave,LP,Hq,D.Rq,Ay]
theorem presD{d:Nat}(hd:2≤d){H:List Rf}(low:Nat){g gm gt vt nn:Nat}{rw:Bool}{m k:Nat}{fu en:Bool}(hW:FS H g gm gt vt nn 1 k rw m (min k 65536) (fu||decide (65536<k)) en)(h0:nn≠0)(hn:nn≤1000)(hk:k≤100000):∃r,(∃T,r=(.tup [],T,true)∧FS T.heap g gm gt vt nn 1 (k+nn) rw m (min (k+nn) 65536) (fu||decide (65536<k+nn)) en∧KF gt H T.heap∧T.low≤g)∧Bl LP NN d 48 [.ptr g 0 0 0,.agg (flG nn)] ⟨H,low⟩=some r:=by
 obtain⟨lin,hw,xK⟩:=hW.hw;have yF:∀l,(H++l)[g]?=_:=fun l=>Bu hw l;obtain⟨d0,rfl⟩:∃e,d=e+1:=⟨d-1,by omega⟩;obtain⟨r,⟨T,rfl,h1,h2,h3⟩,h43⟩:=fwrite (d:=d0) (by omega) H.length (hW.app [⟨71,4,[flG nn],0,0,false⟩]) h0 hn hk;refine De (F:=F48) rfl (by simp only[LP,Ay,Cn,zs,zm,flG]<;>exact rfl) rfl (by simp only[LP,zf,zm];try rfl) (by simp only[F48,zv]<;>exact rfl) (by omega) ?_;intro d he;obtain rfl:=Nat.succ.inj he;refine Ae (xo6 ?_);refine Aa (Ak ?_);refine Ao (Ae (Al rfl (xo3 ?_)));refine xo0 ?_;refine xo0 ?_;apply Ac (by simp only[zl,zm,zd,Au,List.take,List.drop,yF,fO,fW]<;>exact rfl);refine xo2 ?_;refine Aa (Ak ?_);refine Cc ?_;refine Bc (Bz rfl (Br (Al rfl (xo1 ?_))));apply Ac (by simp only[zo];exact h43);apply Aa;simp only[ze];apply Exists.intro
 case h =>
  apply And.intro
  case right =>
   refine⟨_,by simp only[F48,A7,Bo]<;>exact rfl,?_⟩;exact Eo (S:=⟨H,low⟩) (S':=⟨_,_⟩) _ (by have:=Ff hw;dsimp only;omega) (fun _ _=>rfl)
  case left=>exact⟨_,rfl,h1,(KF.app _ _ _).trans h2,by dsimp only;omega⟩
theorem map_none{H:List Rf}{gm:Nat}(h:H[gm]?=some (mpO []))(lo k lv:Nat)(z:D):Hz ⟨H,lo⟩ [0,0] z false (.mref gm 0) (.agg [.int .u8 (k:Nat),.int .i64 (lv:Nat)])=some z:=map_get h (k,lv) z
theorem FS.tot{H:List Rf}{g gm gt vt n pg ln:Nat}{rw:Bool}{m k:Nat}{fu en:Bool}(h:FS H g gm gt vt n pg ln rw m k fu en)(m':Nat):FS (H.set gt (fT vt m')) g gm gt vt n pg ln rw m' k fu en∧KF gt H (H.set gt (fT vt m')):=by
 obtain⟨n1,n2⟩:=h.ne;obtain⟨lin,hw,xK⟩:=h.hw
 have key:∀(j:Nat) (o:Rf),H[j]?=some o→o.elem≠57∨o.kind≠2∨j≠gt→(H.set gt (fT vt m'))[j]?=some o:=fun j o hj ho=>Bg hj (fun e=>by
  subst e;rw[h.ht]at hj;obtain rfl:=Option.some.inj hj
  simp[fT]at ho) _
 refine⟨⟨⟨lin,key _ _ hw (.inl (by simp[fO])),xK.keep fun j o hj he=>key j o hj (.inl (by rw[he];decide))⟩,key _ _ h.hm (.inl (by simp[mpO])),Bn h.ht _⟩,by simp,fun j o hj hk=>key j o hj ?_⟩;rcases hk with hk | hk | hk
 ·
  exact .inr (.inl (by rw[hk.1];decide))
 ·
  exact .inl (by rw[hk];decide)
 exact .inr (.inr hk.2)
theorem uget1(d:Nat)(S:St):F6 LP NN (d+20) 80 [.agg (shN 1++[.sl 1 (bR [49]) none])] S=some (.tup [dcD 1,.int .i64 0],S,false):=by kernel_rfl
theorem head0{d:Nat}(hd:3≤d){H:List Rf}(low:Nat){g gm gt vt nn pg ln:Nat}{rw:Bool}{m k:Nat}{fu en:Bool}(hW:FS H g gm gt vt nn pg ln rw m k fu en):Bl LP NN d 44 [.ptr g 0 0 0,.int .i64 0] ⟨H,low⟩=some (.tup [],⟨H,low⟩,false):=by
 obtain⟨lin,hw,xK⟩:=hW.hw;have yF:∀l,(H++l)[g]?=_:=fun l=>Bu hw l;have vK:∀l,(H++l)[gt]?=_:=fun l=>Bu hW.ht l;have hgH:=Ff hw;have htH:=Ff hW.ht;refine Ee (F:=F44) rfl (by simp only[LP,Ay,zs]<;>exact rfl) rfl (by simp only[LP,zf,zm];try rfl) (by simp only[F44,zv]<;>exact rfl) (by omega) ?_;rintro d rfl;refine Be (Dp (Cy (Ao (Ae (Al rfl (Al rfl (xo3 ?_)))))));refine xo0 ?_;refine xo0 ?_;apply Ac (by simp only[zl,zm,zd,Au,List.take,List.drop,hw,fO,fW]<;>exact rfl);refine xo19 ?_;refine xo2 ?_;refine Aa (Ak ?_);refine Ga ?_;refine Bc (Bz rfl (Ao (Be (Br (Al rfl (Al rfl (xo3 ?_)))))));refine xo0 ?_;apply Ac (by simp only[zl,zm,zd,Au,List.take,List.drop,hw,fO,fW]<;>exact rfl);refine Al rfl (xo7 ?_);apply Ac (by simp only[opd,zv,Az,aop,LOp.loud,lop,if_true];exact congrArg (Option.map fun r=>(r,_,false)) (map_none hW.hm _ 3 0 _));apply Ac (by simp only[zo];exact pres0 (by omega) _ hW);refine Aa (Fu (Ak ?_));refine Br (Al rfl (xo2 ?_));refine Ar rfl (Aa (Qz (by simp only[ze]<;>exact rfl) ?_));refine Cy (Ao (Ae (Al rfl (Al rfl (xo3 ?_)))));refine xo0 ?_;refine xo0 ?_;apply Ac (by simp only[zl,zm,zd,Au,List.take,List.drop,hw,fO,fW]<;>exact rfl);refine xo19 ?_;refine xo2 ?_;refine Aa (Ak ?_);refine Cc ?_;refine Cs (Gc (Nu (Gd ?_)));refine⟨_,by simp only[F44,A7,Bo]<;>exact rfl,?_⟩;simp[leave,LP,Hq,D.Rq,Ay]
theorem broken0{d:Nat}(hd:1≤d){H:List Rf}(low:Nat){g gm gt vt nn pg ln:Nat}{rw:Bool}{m k:Nat}{fu en:Bool}(hW:FS H g gm gt vt nn pg ln rw m k fu en)(c0 c:Option Nat):Bl LP NN d 45 [.ptr g 0 0 0,.sl 12 [shN 1++[.sl 1 (bR [49]) c0]] c] ⟨H,low⟩=some (.int .i64 (-1),⟨H,low⟩,false):=by
 obtain⟨lin,hw,xK⟩:=hW.hw;have yF:∀l,(H++l)[g]?=_:=fun l=>Bu hw l;have vK:∀l,(H++l)[gt]?=_:=fun l=>Bu hW.ht l;have hgH:=Ff hw;have htH:=Ff hW.ht;refine Ee (F:=F45) rfl (by simp only[LP,Ay,zs]<;>exact rfl) rfl (by simp only[LP,zf,zm];try rfl) (by simp only[F45,zv]<;>exact rfl) (by omega) ?_;rintro d rfl;refine Ae (Bj (Aa (Ak ?_)));refine Ao (Ae (Al rfl (xo3 ?_)));refine xo0 ?_;refine xo0 ?_;apply Ac (by simp only[zl,zm,zd,Au,List.take,List.drop,hw,fO,fW]<;>exact rfl);refine xo19 ?_;refine Bj (Aa (Ak ?_));refine Be (Dp (Cy (Ae (Oq ?_))));refine Aa (Ak ?_);refine Ao (Cc ?_);refine Cs (Gc (Nu (Gd (Bz rfl (Ae (Bj (Aa (Ak ?_))))))));apply Bp;refine⟨_,by simp only[F45,A7,Bo,Cv,zg]<;>exact rfl,?_⟩;exact E5 _ _ _ _ (Nat.le_refl _) rfl (fun _ _=>rfl)
theorem foot0{d:Nat}(hd:20≤d){H:List Rf}(low:Nat){g gm gt vt nn pg ln:Nat}{rw:Bool}{m k:Nat}{fu en:Bool}(hW:FS H g gm gt vt nn pg ln rw m k fu en):∃r,(∃T,r=(.tup [],T,true)∧FS T.heap g gm gt vt nn pg ln rw 0 k fu en∧KF gt H T.heap∧T.low≤gt)∧Bl LP NN d 46 [.ptr g 0 0 0,.int .i64 0] ⟨H,low⟩=some r:=by
 obtain⟨lin,hw,xK⟩:=hW.hw;have yF:∀l,(H++l)[g]?=_:=fun l=>Bu hw l;have vK:∀l,(H++l)[gt]?=_:=fun l=>Bu hW.ht l;have hgH:=Ff hw;have htH:=Ff hW.ht;refine De (F:=F46) rfl (by simp only[LP,Ay,zs]<;>exact rfl) rfl (by simp only[LP,zf,zm];try rfl) (by simp only[F46,zv]<;>exact rfl) (by omega) ?_;rintro d rfl;refine Ae (Al rfl (xo3 ?_));refine xo0 ?_;refine xo0 ?_;apply Ac (by simp only[zl,zm,zd,Au,List.take,List.drop,hw,fO,fW,flT]<;>exact rfl);refine xo19 ?_;refine Ar rfl (Aa (Ak ?_));refine Be (Dp (Cy (Ao (Ae (Al rfl (Al rfl (xo2 ?_)))))));refine Aa (Ak ?_);refine Ga ?_;refine Bc (Bz rfl (Ao (Be (Ae (Al rfl (Al rfl (xo3 ?_)))))));refine xo0 ?_;apply Ac (by simp only[zl,zm,zd,Au,List.take,List.drop,hw,fO,fW,flT]<;>exact rfl);refine Al rfl (xo7 ?_);apply Ac (by simp only[opd,zv,Az,aop,LOp.loud,lop,if_true];exact congrArg (Option.map fun r=>(r,_,false)) (map_none hW.hm _ 5 0 _));apply Ac (by simp only[zo];exact pres0 (by omega) _ hW);refine Aa (Ak ?_);refine Ae (Al rfl (xo3 ?_));refine xo0 ?_;refine xo0 ?_;apply Ac (by simp only[zl,zm,zd,Au,List.take,List.drop,hw,fO,fW,flT]<;>exact rfl);refine xo15 ?_;refine Bj (Aa (Ak ?_));refine Be (Dp (Cy (Ae (xo2 ?_))));refine Aa (Ak ?_);refine Ao (Ga ?_);refine Bc (Bz rfl (Ao (Be (Ae (Al rfl (xo27 ?_))))));refine xo1 ?_;refine xo8 ?_;refine Ar rfl (Ot ?_);refine Aa (Ak ?_);refine Ae (xo0 ?_);refine xo1 ?_;refine Al rfl (xo2 ?_);refine Aa (Ak ?_);refine Ga ?_;apply Du (by simp only[Ce,zw,Nat.reduceAdd]<;>exact rfl) (by simp only[zw]<;>exact rfl);refine Cf rfl rfl (xo5 rfl rfl ?_);refine xo4 rfl rfl ?_;refine xo4 rfl rfl ?_;apply Aw (by simp only[zl,zm,zd,Au,List.take,List.drop,yF,fO,fW,flT]<;>exact rfl) (by simp only[Ai,zo,zq]<;>exact rfl) (by first | rfl | (simp[show ob 15 4=[true,true,true,true] from rfl,Rn,Ap,Ag,Ba,Ah,Aq,dj,Af,Ab,Aj,Am,Bd,A9,Av,dcD];done));refine Cf rfl rfl (Aw (by simp only[zo];exact int_run (by omega) _ 0 (by omega)) (by simp only[Ai,zo,zq]<;>exact rfl) (by first | rfl | (simp[show ob 0 6=[false,false,false,false,false,false] from rfl,Rn,Ap,Ag,Ba,Ah,Aq,dj,Af,Ab,Aj,Am,Bd,A9,Av,dcD];done)) ?_);apply Aw (by simp only[zl,zm,Dc,Int.toNat_zero,Int.le_refl,vK,fT]<;>exact rfl) (by simp only[Ai,zo,zq]<;>exact rfl) (by first | rfl | (simp[show ob 127 7=[true,true,true,true,true,true,true] from rfl,Rn,Ap,Ag,Ba,Ah,Aq,dj,Af,Ab,Aj,Am,Bd,A9,Av,dcD];done));apply Aw (by simp only[opd,zv,Az,aop,LOp.loud,lop,if_true];exact congrArg (Option.map fun S'=>(D.undef,S',true)) (store_tot (vK _) (i:=0) rfl 0)) (by simp only[Ai,zo,zq]<;>exact rfl) (by first | rfl | (simp[show ob 255 8=[true,true,true,true,true,true,true,true] from rfl,Rn,Ap,Ag,Ba,Ah,Aq,dj,Af,Ab,Aj,Am,Bd,A9,Av,dcD];done));refine Cw (Fu (Ak ?_));refine Br (xo2 ?_);refine Ar rfl (Aa (Qz (by simp only[ze]<;>exact rfl) ?_));refine Cy (Ae (xo2 ?_));refine Aa (Ak ?_);refine Ao (Cc ?_);refine Cs (Gc (Nu (Gd (Fu (Bz rfl (Br (Al rfl (xo2 ?_))))))));refine Ar rfl (Aa (Qz (by simp only[ze]<;>exact rfl) ?_));refine Cy (Ao (Ae (Al rfl (Al rfl (xo2 ?_)))));refine Aa (Ak ?_);refine Cc ?_;refine Cs (Gc (Nu (Gd ?_)));have hWn:=(hW.app [⟨67,2,[[.int .i64 0,.int .i64 0]],0,0,false⟩]).tot 0;apply Exists.intro
 case h =>
  apply And.intro
  case right =>
   refine⟨_,by simp only[F46,A7,Bo,zm]<;>exact rfl,?_⟩;exact Eo (S:=⟨H,low⟩) (S':=⟨_,_⟩) _ (by dsimp only;omega) (fun _ _=>rfl)
  case left=>exact⟨_,rfl,hWn.1,(KF.app _ _ _).trans hWn.2,by dsimp only;omega⟩
theorem add0{d:Nat}(hd:22≤d){H:List Rf}(low:Nat){g gm gt vt nn pg ln:Nat}{rw:Bool}{m k:Nat}{fu en:Bool}(hW:FS H g gm gt vt nn pg ln rw m k fu en)(hr:rw=true)(hm:m≤1000000):∃r,(∃T,r=(.tup [],T,true)∧FS T.heap g gm gt vt nn pg ln rw (m+1) k fu en∧KF gt H T.heap∧T.low≤gt)∧Bl LP NN d 47 [.ptr g 0 0 0] ⟨H,low⟩=some r:=by
 subst hr;obtain⟨lin,hw,xK⟩:=hW.hw;have yF:∀l,(H++l)[g]?=_:=fun l=>Bu hw l;have vK:∀l,(H++l)[gt]?=_:=fun l=>Bu hW.ht l;have hgH:=Ff hw;have htH:=Ff hW.ht
 have xV:∀S,Bl LP NN (d-1) 80 [.agg (shN 1++[.sl 1 (bR [49]) none])] S=some (.tup [dcD 1,.int .i64 0],S,false):=fun S=>by
  obtain⟨e,rfl⟩:∃e,d=e+21:=⟨d-21,by omega⟩;exact fast_ok (uget1 e S)
 refine De (F:=F47) rfl (by simp only[LP,Ay,zs]<;>exact rfl) rfl (by simp only[LP,zf,zm];try rfl) (by simp only[F47,zv]<;>exact rfl) (by omega) ?_;rintro d rfl;refine Ae (Al rfl (xo3 ?_));refine xo0 ?_;refine xo0 ?_;apply Ac (by simp only[zl,zm,zd,Au,List.take,List.drop,hw,fO,fW,flT,fRw]<;>exact rfl);refine xo15 ?_;refine Bj (Aa (Ak ?_));refine Be (Dp (Cy (Ae (xo2 ?_))));refine Aa (Ak ?_);refine Ao (Ga ?_);refine Bc (Bz rfl (Ao (Be (Ae (Al rfl (xo27 ?_))))));refine xo1 ?_;refine xo8 ?_;refine Ar rfl (Ot ?_);refine Aa (Ak ?_);refine Ao (Du (by simp only[Ce,zw,Nat.reduceAdd]<;>exact rfl) (by simp only[zw,Ed]<;>exact rfl) ?_);refine Cf rfl rfl (xo5 rfl rfl ?_);refine xo4 rfl rfl ?_;refine xo4 rfl rfl ?_;apply Aw (by simp only[zl,zm,zd,Au,List.take,List.drop,yF,fO,fW,flT,fRw]<;>exact rfl) (by simp only[Ai,zo,zq]<;>exact rfl) (by first | rfl | (simp[show ob 15 4=[true,true,true,true] from rfl,Rn,Ap,Ag,Ba,Ah,Aq,dj,Af,Ab,Aj,Am,Bd,A9,Av,dcD];done));refine xo4 rfl rfl ?_;apply Aw (by simp only[zl,zm,zd,Au,List.take,List.drop]<;>exact rfl) (by simp only[Ai,zo,zq]<;>exact rfl) (by first | rfl | (simp[show ob 32 6=[true,false,false,false,false,false] from rfl,Rn,Ap,Ag,Ba,Ah,Aq,dj,Af,Ab,Aj,Am,Bd,A9,Av,dcD];done));apply Aw (by simp only[zl,zm,C9,Int.toNat_zero,Int.le_refl]<;>exact rfl) (by simp only[Ai,zo,zq]<;>exact rfl) (by first | rfl | (simp[show ob 127 7=[true,true,true,true,true,true,true] from rfl,Rn,Ap,Ag,Ba,Ah,Aq,dj,Af,Ab,Aj,Am,Bd,A9,Av,dcD];done));apply Aw (by simp only[zl,zm,zd,Au,List.drop]<;>exact rfl) (by simp only[Ai,zo,zq]<;>exact rfl) (by first | rfl | (simp[show ob 255 8=[true,true,true,true,true,true,true,true] from rfl,Rn,Ap,Ag,Ba,Ah,Aq,dj,Af,Ab,Aj,Am,Bd,A9,Av,dcD];done));apply Aw (by simp only[zo];exact xV _) (by simp only[Ai,zo,zq]<;>exact rfl) (by first | rfl | (simp[show ob 511 9=[true,true,true,true,true,true,true,true,true] from rfl,Rn,Ap,Ag,Ba,Ah,Aq,dj,Af,Ab,Aj,Am,Bd,A9,Av,dcD];done));refine Dt rfl rfl (A8 (by simp only[zo,Lz]<;>exact rfl) rfl rfl ?_);apply A8 (by simp only[zo,Lz,Ls_]<;>exact rfl) rfl rfl;apply Aw (by simp only[zo]<;>exact rfl) (by simp only[Ai]<;>exact rfl) (by first | rfl | (simp[show ob 0 13=[false,false,false,false,false,false,false,false,false,false,false,false,false] from rfl,Rn,Ap,Ag,Ba,Ah,Aq,dj,Af,Ab,Aj,Am,Bd,A9,Av,dcD];done));apply Aw (by simp only[zl,zm,Ca,overlay,List.take]<;>exact rfl) (by simp only[Ai,zo,zq]<;>exact rfl) (by first | rfl | (simp[show ob 12287 14=[true,false,true,true,true,true,true,true,true,true,true,true,true,true] from rfl,Rn,Ap,Ag,Ba,Ah,Aq,dj,Af,Ab,Aj,Am,Bd,A9,Av,dcD];done));refine Dt rfl rfl (Cw (Ak ?_));apply Du (by simp only[Ce,zw,Nat.reduceAdd]<;>exact rfl) (by simp only[zw]<;>exact rfl);refine Cf rfl rfl (xo5 rfl rfl ?_);refine xo4 rfl rfl ?_;refine xo4 rfl rfl ?_;apply Aw (by simp only[zl,zm,zd,Au,List.take,List.drop,yF,fO,fW,flT,fRw]<;>exact rfl) (by simp only[Ai,zo,zq]<;>exact rfl) (by first | rfl | (simp[show ob 15 4=[true,true,true,true] from rfl,Rn,Ap,Ag,Ba,Ah,Aq,dj,Af,Ab,Aj,Am,Bd,A9,Av,dcD];done));refine Cf rfl rfl (Cf rfl rfl (xo5 rfl rfl ?_));refine xo4 rfl rfl ?_;refine xo4 rfl rfl ?_;apply Aw (by simp only[zl,zm,zd,Au,List.take,List.drop,yF,fO,fW,flT,fRw]<;>exact rfl) (by simp only[Ai,zo,zq]<;>exact rfl) (by first | rfl | (simp[show ob 960 10=[true,true,true,true,false,false,false,false,false,false] from rfl,Rn,Ap,Ag,Ba,Ah,Aq,dj,Af,Ab,Aj,Am,Bd,A9,Av,dcD];done));refine Cf rfl rfl (Aw (by simp only[zl,zm,Dc,Int.toNat_zero,Int.le_refl,vK,fT]<;>exact rfl) (by simp only[Ai,zo,zq]<;>exact rfl) (by first | rfl | (simp[show ob 4032 12=[true,true,true,true,true,true,false,false,false,false,false,false] from rfl,Rn,Ap,Ag,Ba,Ah,Aq,dj,Af,Ab,Aj,Am,Bd,A9,Av,dcD];done)) ?_);apply Aw (by simp only[zl,zm,zd,Au,List.drop,vK,fT]<;>exact rfl) (by simp only[Ai,zo,zq]<;>exact rfl) (by first | rfl | (simp[show ob 8128 13=[true,true,true,true,true,true,true,false,false,false,false,false,false] from rfl,Rn,Ap,Ag,Ba,Ah,Aq,dj,Af,Ab,Aj,Am,Bd,A9,Av,dcD];done));apply Aw (by simp only[zl,zm,zd,Au,List.drop]<;>exact rfl) (by simp only[Ai,zo,zq]<;>exact rfl) (by first | rfl | (simp[show ob 0 14=[false,false,false,false,false,false,false,false,false,false,false,false,false,false] from rfl,Rn,Ap,Ag,Ba,Ah,Aq,dj,Af,Ab,Aj,Am,Bd,A9,Av,dcD];done));apply Aw (by simp only[zo];exact add_run (by omega) _ (by omega) (by omega)) (by simp only[Ai,zo,zq]<;>exact rfl) (by first | rfl | (simp[show ob 32704 15=[true,true,true,true,true,true,true,true,true,false,false,false,false,false,false] from rfl,Rn,Ap,Ag,Ba,Ah,Aq,dj,Af,Ab,Aj,Am,Bd,A9,Av,dcD];done));refine Dt rfl rfl (A8 (by simp only[zo,Lz]<;>exact rfl) rfl rfl ?_);apply A8 (by simp only[zo,Lz,Ls_]<;>exact rfl) rfl rfl;apply Aw (by simp only[zl,zm,Dc,Int.toNat_zero,Int.le_refl,vK,fT]<;>exact rfl) (by simp only[Ai,zo,zq]<;>exact rfl) (by first | rfl | (simp[show ob 262143 19=[false,true,true,true,true,true,true,true,true,true,true,true,true,true,true,true,true,true,true] from rfl,Rn,Ap,Ag,Ba,Ah,Aq,dj,Af,Ab,Aj,Am,Bd,A9,Av,dcD];done));apply Aw (by simp only[opd,zv,Az,aop,LOp.loud,lop,if_true];exact congrArg (Option.map fun S'=>(D.undef,S',true)) (store_tot (vK _) (i:=0) rfl (m+1))) (by simp only[Ai,zo,zq]<;>exact rfl) (by first | rfl | (simp[show ob 786431 20=[true,false,true,true,true,true,true,true,true,true,true,true,true,true,true,true,true,true,true,true] from rfl,Rn,Ap,Ag,Ba,Ah,Aq,dj,Af,Ab,Aj,Am,Bd,A9,Av,dcD];done));refine Cw (Fu (Ak ?_));refine Br (xo2 ?_);refine Ar rfl (Aa (Qz (by simp only[ze]<;>exact rfl) ?_));refine Cy (Ae (xo2 ?_));refine Aa (Ak ?_);refine Ao (Cc ?_);refine Cs (Gc (Nu (Gd ?_)));have hWn:=(hW.app [⟨67,2,[[.int .i64 0,.int .i64 0]],0,0,false⟩,⟨57,3,[dcR 1],0,0,false⟩]).tot (m+1);apply Exists.intro
 case h =>
  apply And.intro
  case right =>
   refine⟨_,by simp only[F47,A7,Bo,zm]<;>exact rfl,?_⟩;exact Eo (S:=⟨H,low⟩) (S':=⟨_,_⟩) _ (by dsimp only;omega) (fun _ _=>rfl)
  case left=>exact⟨_,rfl,hWn.1,(KF.app _ _ _).trans hWn.2,by dsimp only;omega⟩
theorem copied1(d:Nat)(S:St)(c0 c:Option Nat):F6 LP NN (d+4) 42 [.sl 12 [shN 1++[.sl 1 (bR [49]) c0]] c] S=some (.sl 12 [shN 1++[.sl 1 (bR [49]) none]] (some 1),S,false):=by kernel_rfl
theorem ucheck1(d:Nat)(S:St)(c0:Option Nat):F6 LP NN (d+18) 75 [.agg (shN 1++[.sl 1 (bR [49]) c0])] S=some (.int .i64 0,S,false):=by kernel_rfl
theorem check1{d:Nat}(hd:20≤d){H:List Rf}(low:Nat){g gm gt vt nn pg ln:Nat}{rw:Bool}{m k:Nat}{fu en:Bool}(hW:FS H g gm gt vt nn pg ln rw m k fu en)(c0 c:Option Nat):Bl LP NN d 39 [.ptr g 0 0 0,.sl 12 [shN 1++[.sl 1 (bR [49]) c0]] c] ⟨H,low⟩=some (.int .i64 0,⟨H,low⟩,false):=by
 obtain⟨lin,hw,xK⟩:=hW.hw;have yF:∀l,(H++l)[g]?=_:=fun l=>Bu hw l;have vK:∀l,(H++l)[gt]?=_:=fun l=>Bu hW.ht l;have hgH:=Ff hw;have htH:=Ff hW.ht;have hEQ:Bv [0,0,1,0,0,2,2,2,2,2,0] (shN 1) (shN 1)=some true:=by decide +kernel
 have hu:∀S,Bl LP NN (d-1) 75 [.agg (shN 1++[.sl 1 (bR [49]) c0])] S=some (.int .i64 0,S,false):=fun S=>by
  obtain⟨e,rfl⟩:∃e,d=e+19:=⟨d-19,by omega⟩;exact fast_ok (ucheck1 e S c0)
 simp only[shN,List.cons_append,List.nil_append]at hu hEQ;refine Ee (F:=F39) rfl (by simp only[LP,Ay,zs]<;>exact rfl) rfl (by simp only[LP,zf,zm];try rfl) (by simp only[F39,zv]<;>exact rfl) (by omega) ?_;rintro d rfl;refine Ae (Bj (Aa (Ak ?_)));refine Ao (Ae (Al rfl (xo32 ?_)));refine Al rfl (Ac (by simp only[zo,shN,List.cons_append,List.nil_append]<;>exact rfl) ?_);refine xo25 ?_;refine xo25 ?_;apply Ac (by simp only[zl,zm,zd,Au,List.take,List.drop,hw,fO,fW,shN]<;>exact rfl);refine xo32 ?_;refine xo26 ?_;refine Aa (Ak ?_);apply Di (by simp only[opd,zv,shN,List.cons_append,List.nil_append]<;>rfl);refine Bc (Bz rfl (Ao (Ae (Al rfl (xo32 ?_)))));refine Bj (Aa (Ak ?_));refine Be (Dp (Cy (Ae (xo26 ?_))));refine Aa (Ak ?_);refine Ao (Ik (by simp only[opd,zv,shN,List.cons_append,List.nil_append]<;>rfl) ?_);refine Bc (Bz rfl (Ao (Be (Ae (Al rfl (Ac (by simp only[zl,zm,C9,Int.toNat_zero,Int.le_refl,shN]<;>exact rfl) ?_))))));refine xo31 ?_;apply Ac (by simp only[zl,zm,shN]<;>exact rfl);refine Ar rfl (Ac (by simp only[zl,zm,Ca,overlay,Cn,zs,zc,zf,List.take,List.drop,shN]<;>exact rfl) ?_);refine Aa (Ak ?_);refine Ao (Ao (Du (by simp only[Ce,zw,Nat.reduceAdd]<;>exact rfl) (by simp only[zw]<;>exact rfl) ?_));apply A8 (by simp only[zo,Cb,zm,shN]<;>exact rfl) rfl rfl;apply Aw (by simp only[zl,zm,zd,Au,List.take,List.drop,shN]<;>exact rfl) (by simp only[Ai,zo,zq]<;>exact rfl) (by first | rfl | (simp[show ob 1 1=[true] from rfl,Rn,Ap,Ag,Ba,Ah,Aq,dj,Af,Ab,Aj,Am,Bd,A9,Av,dcD];done));refine Cf rfl rfl (A8 (by simp only[zo,shN,List.cons_append,List.nil_append]<;>exact rfl) rfl rfl ?_);apply A8 (by simp only[zo,Cb,zm,shN]<;>exact rfl) rfl rfl;apply A8 (by simp only[zo,Cb,zm,shN]<;>exact rfl) rfl rfl;apply Aw (by simp only[zl,zm,zd,Au,List.take,List.drop,yF,fO,fW,shN]<;>exact rfl) (by simp only[Ai,zo,zq]<;>exact rfl) (by first | rfl | (simp[show ob 60 6=[true,true,true,true,false,false] from rfl,Rn,Ap,Ag,Ba,Ah,Aq,dj,Af,Ab,Aj,Am,Bd,A9,Av,dcD];done));refine Cf rfl rfl (Aw (by simp only[zl,zm,C9,Int.toNat_zero,Int.le_refl,shN]<;>exact rfl) (by simp only[Ai,zo,zq]<;>exact rfl) (by first | rfl | (simp[show ob 252 8=[true,true,true,true,true,true,false,false] from rfl,Rn,Ap,Ag,Ba,Ah,Aq,dj,Af,Ab,Aj,Am,Bd,A9,Av,dcD];done)) ?_);apply Aw (by simp only[zl,zm,zd,Au,List.take,List.drop,shN]<;>exact rfl) (by simp only[Ai,zo,zq]<;>exact rfl) (by first | rfl | (simp[show ob 508 9=[true,true,true,true,true,true,true,false,false] from rfl,Rn,Ap,Ag,Ba,Ah,Aq,dj,Af,Ab,Aj,Am,Bd,A9,Av,dcD];done));apply A8 (by simp only[zo];exact congrArg (Option.map fun b=>(D.bool (b != true),_,false)) hEQ) rfl rfl;refine Cw (Ak ?_);apply Di (by simp only[opd,zv,shN,List.cons_append,List.nil_append]<;>rfl);refine Bc (Bz rfl (Ae (xo25 ?_)));refine xo31 ?_;refine xo32 ?_;refine xo25 ?_;refine xo25 ?_;refine xo31 ?_;refine xo26 ?_;refine Ar rfl (Ej 0 (b:=false) ?_);refine Bb rfl (xo25 ?_);refine Bb rfl (xo25 ?_);refine Bb rfl (xo31 ?_);refine Bb rfl (xo26 ?_);refine Bb rfl (Ar rfl (Ej 0 (b:=true) ?_));refine Bb rfl (xo31 ?_);refine Bb rfl (Ac (by simp only[zo,shN,List.cons_append,List.nil_append];exact hu _) ?_);refine Bb rfl (xo26 ?_);refine Bb rfl (Ac (by simp only[zo,shN,List.cons_append,List.nil_append]<;>exact rfl) ?_);apply Ac (by simp only[zo,shN,List.cons_append,List.nil_append]<;>exact rfl);refine Aa (Ak ?_);apply Di (by simp only[opd,zv,shN,List.cons_append,List.nil_append]<;>rfl);refine Bc (Fu (Bz rfl (Br (xo26 ?_))));refine Ar rfl (Aa (Qz (by simp only[ze]<;>exact rfl) ?_));refine Cy (Ae (xo26 ?_));refine Aa (Ak ?_);refine Ao (Di (by simp only[opd,zv,shN,List.cons_append,List.nil_append]<;>rfl) ?_);refine Cs (Gc (Nu (Gd (Bz rfl (Ae (Bj (Aa (Ak ?_))))))));apply Bp;refine⟨_,by simp only[F39,A7,Bo,Cv,zg,zm]<;>exact rfl,?_⟩;exact E5 _ _ _ _ (Nat.le_refl _) rfl (fun _ _=>rfl)
theorem term_f{d:Nat}(hd:40≤d){H:List Rf}{g gm gt vt nn k m:Nat}{en:Bool} {pw:Nat}(uV:H[pw]?=some ⟨28,1,[[.ptr g 0 0 0]],0,0,false⟩){H1:List Rf}(low1:Nat)(yc:FS H1 g gm gt vt nn 1 k true m (min k 65536) false en)(yR:KF gt H H1):∃r,(∃T,r=(.tup [],T,true)∧FS T.heap g gm gt vt nn 1 k true 0 (min k 65536) false en∧KF gt H1 T.heap∧T.low≤low1)∧Bl LP NN d 58 [.ptr pw 0 0 0] ⟨H1,low1⟩=some r:=by
 have xu:∀{p:Nat} {o:Rf},H[p]?=some o→o.kind=0→o.elem≠91→g≠p:=fun h1 h2 h3 e=>by
  subst e;obtain⟨l,h4,_⟩:=yc.hw;have:=(yR.2 _ _ h1 (.inl ⟨h2,h3⟩)).symm.trans h4;obtain rfl:=Option.some.inj this;exact h3 rfl
 have zY:=xu uV rfl (by simp)
 have hgH1:=yc.lt;have htH1:=Ff yc.ht;obtain⟨d0,rfl⟩:∃e,d=e+1:=⟨d-1,by omega⟩;obtain⟨lin1,wP,zA⟩:=yc.hw;have uS:∀o,(H1.set g o)[g]?=some o:=fun o=>Bn wP o;have zT:=yR.2 _ _ uV (.inl ⟨rfl,by simp⟩);have zS:∀o,(H1.set g o)[pw]?=_:=fun o=>Bg zT zY o
 refine De (F:=F58) rfl (by simp only[LP,Ay,zs]<;>exact rfl) rfl (by simp only[LP,zf,zm];try rfl) (by simp only[F58,zv]<;>exact rfl) (by omega) ?_;intro d he;obtain rfl:=Nat.succ.inj he;have xQ:=aI wP (aI uS (aI zT (zS)));refine Ao (Ae (Ac (by simp only[zl,zm,zd,Au,List.take,List.drop,xQ]<;>exact rfl) ?_));refine xo3 ?_;refine xo0 ?_;refine xo0 ?_;apply Ac (by simp only[zl,zm,zd,Au,List.take,List.drop,fO,fW,xQ]<;>exact rfl);refine xo2 ?_;refine Aa (Ak ?_);refine Cc ?_;refine Bc (Bz rfl (Ae (Ac (by simp only[zl,zm,zd,Au,List.take,List.drop,xQ]<;>exact rfl) ?_)));obtain⟨_,⟨⟨H46,lo46⟩,rfl,rF,hK46,hl46⟩,hc46⟩:=foot0 (d:=d0) (by omega) H1.length yc;dsimp only at rF hK46 hl46;obtain⟨linf,hwf,hlinf⟩:=rF.hw;have hsgf:∀o,(H46.set g o)[g]?=some o:=fun o=>Bn hwf o;have hpwf:=(yR.trans hK46).2 _ _ uV (.inl ⟨rfl,by simp⟩);have hpwSf:∀o,(H46.set g o)[pw]?=_:=fun o=>Bg hpwf zY o;apply Ac (by simp only[zo];exact hc46);refine Aa (Ak ?_);refine Ao (Gu ?_);refine M7 (by simp only[zl,zm,zd,Au,List.take,List.drop,hpwf]<;>exact rfl) rfl ?_;apply Aw (by simp only[zl,zm,zd,Au,List.take,List.drop,hpwf]<;>exact rfl) (by simp only[Ai,zo,zq]<;>exact rfl) (by first | rfl | (simp[show ob 0 1=[false] from rfl,Rn,Ap,Ag,Ba,Ah,Aq,dj,Af,Ab,Aj,Am,Bd,A9,Av,dcD];done));refine xo5 rfl rfl ?_;refine xo4 rfl rfl ?_;apply Aw (by simp only[zl,zm,zd,Au,List.take,List.drop,fO,fW,hwf]<;>exact rfl) (by simp only[Ai,zo,zq]<;>exact rfl) (by first | rfl | (simp[show ob 14 4=[true,true,true,false] from rfl,Rn,Ap,Ag,Ba,Ah,Aq,dj,Af,Ab,Aj,Am,Bd,A9,Av,dcD];done));refine xo41 rfl rfl ?_;apply Aw (by simp only[opd,zv,Az,aop,LOp.loud,lop,if_true];exact congrArg (Option.map fun r=>(r,_,false)) (map_none rF.hm _ 7 0 _)) (by simp only[Ai,zo]<;>exact rfl) (by first | rfl | (simp[show ob 62 6=[true,true,true,true,true,false] from rfl,Rn,Ap,Ag,Ba,Ah,Aq,dj,Af,Ab,Aj,Am,Bd,A9,Av,dcD];done));apply Aw (by simp only[zo];exact pres0 (by omega) _ rF) (by simp only[Ai,zo,zq]<;>exact rfl) (by first | rfl | (simp[show ob 127 7=[true,true,true,true,true,true,true] from rfl,Rn,Ap,Ag,Ba,Ah,Aq,dj,Af,Ab,Aj,Am,Bd,A9,Av,dcD];done));refine Cw (Ak ?_);refine Ae (Ac (by simp only[zl,zm,zd,Au,List.take,List.drop,hpwf]<;>exact rfl) ?_);refine xo3 ?_;refine xo0 ?_;refine xo0 ?_;apply Ac (by simp only[zl,zm,zd,Au,List.take,List.drop,fO,fW,hwf]<;>exact rfl);refine xo2 ?_;refine Aa (Ak ?_);refine Cc ?_;apply Bc;apply Exists.intro
 case h =>
  apply And.intro
  case right =>
   refine⟨_,by simp only[F58,A7,Bo]<;>exact rfl,?_⟩;exact Eo (S:=⟨H1,low1⟩) (S':=⟨_,_⟩) _ (by dsimp only;omega) (fun _ _=>rfl)
  case left=>exact⟨_,rfl,rF,hK46,by dsimp only;omega⟩
theorem gen_fA{d:Nat}(hd:50≤d){H:List Rf}{g gm gt vt nn k m:Nat}{en:Bool}{c0 c:Option Nat}(h0:nn≠0)(hn:nn≤1000)(hk:k≤65536)(hm:m≤100000){pw pr pg:Nat}(uV:H[pw]?=some ⟨28,1,[[.ptr g 0 0 0]],0,0,false⟩)(uO:H[pr]?=some ⟨45,1,[[.sl 12 [shN 1++[.sl 1 (bR [49]) c0]] c]],0,0,false⟩)(qK:H[pg]?=some ⟨3,1,[[.int .i64 (0)]],0,0,false⟩){H1:List Rf}(low1:Nat)(yc:FS H1 g gm gt vt nn 0 0 false m 0 false en)(yR:KF gt H H1):∃r,(∃T,r=(.tup [],T,true)∧FS T.heap g gm gt vt nn 1 (0+nn) true (m+1) (min (0+nn) 65536) (decide (65536<(0+nn))) en∧KF gt H1 T.heap∧T.low≤low1)∧Bl LP NN d 41 [.ptr pw 0 0 0,.ptr pr 0 0 0,.ptr pg 0 0 0] ⟨H1,low1⟩=some r:=by
 have xu:∀{p:Nat} {o:Rf},H[p]?=some o→o.kind=0→o.elem≠91→g≠p:=fun h1 h2 h3 e=>by
  subst e;obtain⟨l,h4,_⟩:=yc.hw;have:=(yR.2 _ _ h1 (.inl ⟨h2,h3⟩)).symm.trans h4;obtain rfl:=Option.some.inj this;exact h3 rfl
 have zY:=xu uV rfl (by simp);have uI:=xu uO rfl (by simp);have uJ:=xu qK rfl (by simp)
 have hgH1:=yc.lt;have htH1:=Ff yc.ht;obtain⟨d0,rfl⟩:∃e,d=e+1:=⟨d-1,by omega⟩;obtain⟨lin1,wP,zA⟩:=yc.hw;have uS:∀o,(H1.set g o)[g]?=some o:=fun o=>Bn wP o;have zT:=yR.2 _ _ uV (.inl ⟨rfl,by simp⟩);have zS:∀o,(H1.set g o)[pw]?=_:=fun o=>Bg zT zY o;have uy:=yR.2 _ _ uO (.inl ⟨rfl,by simp⟩);have uw:∀o,(H1.set g o)[pr]?=_:=fun o=>Bg uy uI o;have uD:=yR.2 _ _ qK (.inl ⟨rfl,by simp⟩);have uz:∀o,(H1.set g o)[pg]?=_:=fun o=>Bg uD uJ o
 have zO:∀S,Bl LP NN d0 42 [.sl 12 [shN 1++[.sl 1 (bR [49]) c0]] c] S=some (.sl 12 [shN 1++[.sl 1 (bR [49]) none]] (some 1),S,false):=fun S=>by
  obtain⟨e,rfl⟩:∃e,d0=e+4:=⟨d0-4,by omega⟩;exact fast_ok (copied1 e S c0 c)
 refine De (F:=F41) rfl (by simp only[LP,Ay,zs]<;>exact rfl) rfl (by simp only[LP,zf,zm];try rfl) (by simp only[F41,zv]<;>exact rfl) (by omega) ?_;intro d he;obtain rfl:=Nat.succ.inj he;have yM:=aI wP (aI uS (aI zT (aI zS (aI uy (aI uw (aI uD (aI uz (@List.set_set.{0}))))))));refine Ao (Ae (xo33 ?_));refine xo3 ?_;refine xo0 ?_;refine xo0 ?_;apply Ac (by simp only[zl,zm,zd,Au,List.take,List.drop,fO,fW,fRw,flG,yM]<;>exact rfl);refine xo2 ?_;refine Aa (Ak ?_);refine Ga ?_;refine Ae (xo33 ?_);refine xo3 ?_;refine xo0 ?_;refine xo0 ?_;apply Ac (by simp only[zl,zm,Ca,overlay,zs,zc,zf,List.take,List.drop,fO,fW,fRw,flG,yM]<;>exact rfl);refine Aa (Ak ?_);refine Ao (Gu ?_);refine xo36 rfl ?_;apply Aw (by simp only[zl,zm,zd,Au,List.take,List.drop,yM]<;>exact rfl) (by simp only[Ai,zo,zq]<;>exact rfl) (by first | rfl | (simp[show ob 0 1=[false] from rfl,Rn,Ap,Ag,Ba,Ah,Aq,dj,Af,Ab,Aj,Am,Bd,A9,Av,dcD];done));apply Aw (by simp only[zo];exact zO _) (by simp only[Ai,zo,zq]<;>exact rfl) (by first | rfl | (simp[show ob 2 2=[true,false] from rfl,Rn,Ap,Ag,Ba,Ah,Aq,dj,Af,Ab,Aj,Am,Bd,A9,Av,dcD];done));refine xo5 rfl rfl ?_;refine xo4 rfl rfl ?_;refine xo4 rfl rfl ?_;apply Aw (by simp only[zl,zm,Ca,overlay,zs,zc,zf,List.take,List.drop,yM]<;>exact rfl) (by simp only[Ai,zo,zq]<;>exact rfl) (by first | rfl | (simp[show ob 63 6=[true,true,true,true,true,true] from rfl,Rn,Ap,Ag,Ba,Ah,Aq,dj,Af,Ab,Aj,Am,Bd,A9,Av,dcD];done));refine Cw (Ak ?_);refine Ao (Gu ?_);refine xo36 rfl ?_;apply Aw (by simp only[zl,zm,zd,Au,List.take,List.drop,yM]<;>exact rfl) (by simp only[Ai,zo,zq]<;>exact rfl) (by first | rfl | (simp[show ob 0 1=[false] from rfl,Rn,Ap,Ag,Ba,Ah,Aq,dj,Af,Ab,Aj,Am,Bd,A9,Av,dcD];done));refine xo5 rfl rfl ?_;refine xo4 rfl rfl ?_;apply Aw (by simp only[zl,zm,zd,Au,List.take,List.drop,yM]<;>exact rfl) (by simp only[Ai,zo,zq]<;>exact rfl) (by first | rfl | (simp[show ob 14 4=[true,true,true,false] from rfl,Rn,Ap,Ag,Ba,Ah,Aq,dj,Af,Ab,Aj,Am,Bd,A9,Av,dcD];done));refine xo41 rfl rfl ?_;apply Aw (by simp only[opd,zv,Az,aop,LOp.loud,lop,if_true];exact congrArg (Option.map fun r=>(r,_,false)) (map_none (yc.set 1 0 true lin1 0 false en zA).hm _ 1 0 _)) (by simp only[Ai,zo]<;>exact rfl) (by first | rfl | (simp[show ob 62 6=[true,true,true,true,true,false] from rfl,Rn,Ap,Ag,Ba,Ah,Aq,dj,Af,Ab,Aj,Am,Bd,A9,Av,dcD];done));apply Aw (by simp only[zo];exact write0 (by omega) _ g) (by simp only[Ai,zo,zq]<;>exact rfl) (by first | rfl | (simp[show ob 127 7=[true,true,true,true,true,true,true] from rfl,Rn,Ap,Ag,Ba,Ah,Aq,dj,Af,Ab,Aj,Am,Bd,A9,Av,dcD];done));refine Cw (Ak ?_);refine Ao (Gu ?_);refine xo36 rfl ?_;apply Aw (by simp only[zl,zm,zd,Au,List.take,List.drop,yM]<;>exact rfl) (by simp only[Ai,zo,zq]<;>exact rfl) (by first | rfl | (simp[show ob 0 1=[false] from rfl,Rn,Ap,Ag,Ba,Ah,Aq,dj,Af,Ab,Aj,Am,Bd,A9,Av,dcD];done));refine xo5 rfl rfl ?_;refine xo4 rfl rfl ?_;apply Aw (by simp only[zl,zm,zd,Au,List.take,List.drop,yM]<;>exact rfl) (by simp only[Ai,zo,zq]<;>exact rfl) (by first | rfl | (simp[show ob 14 4=[true,true,true,false] from rfl,Rn,Ap,Ag,Ba,Ah,Aq,dj,Af,Ab,Aj,Am,Bd,A9,Av,dcD];done));refine xo41 rfl rfl ?_;apply Aw (by simp only[opd,zv,Az,aop,LOp.loud,lop,if_true];exact congrArg (Option.map fun r=>(r,_,false)) (map_none (yc.set 1 0 true lin1 0 false en zA).hm _ 2 0 _)) (by simp only[Ai,zo]<;>exact rfl) (by first | rfl | (simp[show ob 62 6=[true,true,true,true,true,false] from rfl,Rn,Ap,Ag,Ba,Ah,Aq,dj,Af,Ab,Aj,Am,Bd,A9,Av,dcD];done));apply Aw (by simp only[zo];exact write0 (by omega) _ g) (by simp only[Ai,zo,zq]<;>exact rfl) (by first | rfl | (simp[show ob 127 7=[true,true,true,true,true,true,true] from rfl,Rn,Ap,Ag,Ba,Ah,Aq,dj,Af,Ab,Aj,Am,Bd,A9,Av,dcD];done));refine Cw (Ak ?_);refine Br (xo33 ?_);have hWq:=yc.set 1 0 true lin1 0 false en zA;apply Ac (by simp only[zo];exact head0 (by omega) _ hWq);refine Aa (Ak ?_);refine Ao (Gu ?_);refine xo36 rfl ?_;apply Aw (by simp only[zl,zm,zd,Au,List.take,List.drop,yM]<;>exact rfl) (by simp only[Ai,zo,zq]<;>exact rfl) (by first | rfl | (simp[show ob 0 1=[false] from rfl,Rn,Ap,Ag,Ba,Ah,Aq,dj,Af,Ab,Aj,Am,Bd,A9,Av,dcD];done));apply Aw (by simp only[zo];exact zO _) (by simp only[Ai,zo,zq]<;>exact rfl) (by first | rfl | (simp[show ob 2 2=[true,false] from rfl,Rn,Ap,Ag,Ba,Ah,Aq,dj,Af,Ab,Aj,Am,Bd,A9,Av,dcD];done));refine xo5 rfl rfl ?_;refine xo4 rfl rfl ?_;refine xo4 rfl rfl ?_;apply Aw (by simp only[zl,zm,Ca,overlay,zs,zc,zf,List.take,List.drop,yM]<;>exact rfl) (by simp only[Ai,zo,zq]<;>exact rfl) (by first | rfl | (simp[show ob 63 6=[true,true,true,true,true,true] from rfl,Rn,Ap,Ag,Ba,Ah,Aq,dj,Af,Ab,Aj,Am,Bd,A9,Av,dcD];done));refine Cw (Ak ?_);refine Ae (xo33 ?_);have hWr:=yc.set 1 0 true lin1 0 false en zA;obtain⟨_,⟨⟨H47,lo47⟩,rfl,wz,yU,qR⟩,rC⟩:=add0 (d:=d0) (by omega) (min (min (min H1.length g) g) g) hWr rfl (by omega);dsimp only at wz yU qR;obtain⟨lind,hwd,hlind⟩:=wz.hw;have hsgd:∀o,(H47.set g o)[g]?=some o:=fun o=>Bn hwd o;have wT:=(yR.trans ((KeepF.set yc _).trans yU)).2 _ _ uV (.inl ⟨rfl,by simp⟩);have hpwSd:∀o,(H47.set g o)[pw]?=_:=fun o=>Bg wT zY o;have qJ:=(yR.trans ((KeepF.set yc _).trans yU)).2 _ _ uO (.inl ⟨rfl,by simp⟩);have hprSd:∀o,(H47.set g o)[pr]?=_:=fun o=>Bg qJ uI o;have wE:=(yR.trans ((KeepF.set yc _).trans yU)).2 _ _ qK (.inl ⟨rfl,by simp⟩);have hpgSd:∀o,(H47.set g o)[pg]?=_:=fun o=>Bg wE uJ o;apply Ac (by simp only[zo];exact rC);refine Aa (Ak ?_);refine Ae (Ac (by simp only[zl,zm,zd,Au,List.take,List.drop,wE]<;>exact rfl) ?_);refine xo2 ?_;refine Aa (Ak ?_);refine Ga ?_;refine Gu ?_;refine M7 (by simp only[zl,zm,zd,Au,List.take,List.drop,wT]<;>exact rfl) rfl ?_;apply Aw (by simp only[zl,zm,zd,Au,List.take,List.drop,wT]<;>exact rfl) (by simp only[Ai,zo,zq]<;>exact rfl) (by first | rfl | (simp[show ob 0 1=[false] from rfl,Rn,Ap,Ag,Ba,Ah,Aq,dj,Af,Ab,Aj,Am,Bd,A9,Av,dcD];done));refine xo5 rfl rfl ?_;refine xo4 rfl rfl ?_;refine xo4 rfl rfl ?_;apply Aw (by simp only[zl,zm,zd,Au,List.take,List.drop,fO,fW,fRw,flG,hwd]<;>exact rfl) (by simp only[Ai,zo,zq]<;>exact rfl) (by first | rfl | (simp[show ob 30 5=[true,true,true,true,false] from rfl,Rn,Ap,Ag,Ba,Ah,Aq,dj,Af,Ab,Aj,Am,Bd,A9,Av,dcD];done));apply Aw (by simp only[zl,zm,zd,Au,List.take,List.drop,wE]<;>exact rfl) (by simp only[Ai,zo,zq]<;>exact rfl) (by first | rfl | (simp[show ob 0 6=[false,false,false,false,false,false] from rfl,Rn,Ap,Ag,Ba,Ah,Aq,dj,Af,Ab,Aj,Am,Bd,A9,Av,dcD];done));apply Aw (by simp only[zl,zm,C9,Int.toNat_zero,Int.le_refl]<;>exact rfl) (by simp only[Ai,zo,zq]<;>exact rfl) (by first | rfl | (simp[show ob 126 7=[true,true,true,true,true,true,false] from rfl,Rn,Ap,Ag,Ba,Ah,Aq,dj,Af,Ab,Aj,Am,Bd,A9,Av,dcD];done));apply Aw (by simp only[zl,zm,zd,Au,List.take,List.drop]<;>exact rfl) (by simp only[Ai,zo,zq]<;>exact rfl) (by first | rfl | (simp[show ob 254 8=[true,true,true,true,true,true,true,false] from rfl,Rn,Ap,Ag,Ba,Ah,Aq,dj,Af,Ab,Aj,Am,Bd,A9,Av,dcD];done));have rE:=wz.cast (ln':=0) (k':=min 0 65536) (fu':=false||decide (65536<0)) rfl (by omega) (by rw[decide_eq_false (by omega)];rfl);obtain⟨_,⟨⟨H48,lo48⟩,rfl,vE,rH,hl48⟩,hc48⟩:=presD (d:=d0) (by omega) lo47 rE h0 hn (by omega);dsimp only at vE rH hl48;simp only[Bool.false_or]at vE;apply Aw (by simp only[zo];exact hc48) (by simp only[Ai,zo,zq]<;>exact rfl) (by first | rfl | (simp[show ob 511 9=[true,true,true,true,true,true,true,true,true] from rfl,Rn,Ap,Ag,Ba,Ah,Aq,dj,Af,Ab,Aj,Am,Bd,A9,Av,dcD];done));apply Cw;simp only[ze];apply Exists.intro
 case h =>
  apply And.intro
  case right =>
   refine⟨_,by simp only[F41,A7,Bo]<;>exact rfl,?_⟩;exact Eo (S:=⟨H1,low1⟩) (S':=⟨_,_⟩) _ (by dsimp only;omega) (fun _ _=>rfl)
  case left=>exact⟨_,rfl,vE,((KeepF.set yc _).trans yU).trans rH,by dsimp only;omega⟩
theorem gen_fB{d:Nat}(hd:50≤d){H:List Rf}{g gm gt vt nn k m:Nat}{en:Bool}{c0 c:Option Nat}(h0:nn≠0)(hn:nn≤1000)(hk:k≤65536)(hm:m≤100000){pw pr pg:Nat}(uV:H[pw]?=some ⟨28,1,[[.ptr g 0 0 0]],0,0,false⟩)(uO:H[pr]?=some ⟨45,1,[[.sl 12 [shN 1++[.sl 1 (bR [49]) c0]] c]],0,0,false⟩)(qK:H[pg]?=some ⟨3,1,[[.int .i64 (0)]],0,0,false⟩){H1:List Rf}(low1:Nat)(yc:FS H1 g gm gt vt nn 1 k true m (min k 65536) false en)(yR:KF gt H H1):∃r,(∃T,r=(.tup [],T,true)∧FS T.heap g gm gt vt nn 1 (k+nn) true (m+1) (min (k+nn) 65536) (decide (65536<(k+nn))) en∧KF gt H1 T.heap∧T.low≤low1)∧Bl LP NN d 41 [.ptr pw 0 0 0,.ptr pr 0 0 0,.ptr pg 0 0 0] ⟨H1,low1⟩=some r:=by
 have xu:∀{p:Nat} {o:Rf},H[p]?=some o→o.kind=0→o.elem≠91→g≠p:=fun h1 h2 h3 e=>by
  subst e;obtain⟨l,h4,_⟩:=yc.hw;have:=(yR.2 _ _ h1 (.inl ⟨h2,h3⟩)).symm.trans h4;obtain rfl:=Option.some.inj this;exact h3 rfl
 have zY:=xu uV rfl (by simp);have uI:=xu uO rfl (by simp);have uJ:=xu qK rfl (by simp)
 have hgH1:=yc.lt;have htH1:=Ff yc.ht;obtain⟨d0,rfl⟩:∃e,d=e+1:=⟨d-1,by omega⟩;obtain⟨lin1,wP,zA⟩:=yc.hw;have uS:∀o,(H1.set g o)[g]?=some o:=fun o=>Bn wP o;have zT:=yR.2 _ _ uV (.inl ⟨rfl,by simp⟩);have zS:∀o,(H1.set g o)[pw]?=_:=fun o=>Bg zT zY o;have uy:=yR.2 _ _ uO (.inl ⟨rfl,by simp⟩);have uw:∀o,(H1.set g o)[pr]?=_:=fun o=>Bg uy uI o;have uD:=yR.2 _ _ qK (.inl ⟨rfl,by simp⟩);have uz:∀o,(H1.set g o)[pg]?=_:=fun o=>Bg uD uJ o
 have zO:∀S,Bl LP NN d0 42 [.sl 12 [shN 1++[.sl 1 (bR [49]) c0]] c] S=some (.sl 12 [shN 1++[.sl 1 (bR [49]) none]] (some 1),S,false):=fun S=>by
  obtain⟨e,rfl⟩:∃e,d0=e+4:=⟨d0-4,by omega⟩;exact fast_ok (copied1 e S c0 c)
 refine De (F:=F41) rfl (by simp only[LP,Ay,zs]<;>exact rfl) rfl (by simp only[LP,zf,zm];try rfl) (by simp only[F41,zv]<;>exact rfl) (by omega) ?_;intro d he;obtain rfl:=Nat.succ.inj he;have yV:=aI wP (aI uS (aI zT (aI zS (aI uy (aI uw (aI uD (aI uz (@List.set_set.{0}))))))));refine Ao (Ae (xo34 ?_));refine xo3 ?_;refine xo0 ?_;refine xo0 ?_;apply Ac (by simp only[zl,zm,zd,Au,List.take,List.drop,fO,fW,fRw,flG,yV]<;>exact rfl);refine xo2 ?_;refine Aa (Ak ?_);refine Cc ?_;refine Ae (xo34 ?_);refine xo34 ?_;apply Ac (by simp only[zo];exact broken0 (by omega) _ yc c0 c);refine Ar rfl (Aa (Ak ?_));refine Ae (Al rfl (xo2 ?_));refine Aa (Ak ?_);refine Cc ?_;refine Bc (Bz rfl (Ao (Gu ?_)));refine M7 (by simp only[zl,zm,zd,Au,List.take,List.drop,yV]<;>exact rfl) rfl ?_;apply Aw (by simp only[zl,zm,zd,Au,List.take,List.drop,yV]<;>exact rfl) (by simp only[Ai,zo,zq]<;>exact rfl) (by first | rfl | (simp[show ob 0 1=[false] from rfl,Rn,Ap,Ag,Ba,Ah,Aq,dj,Af,Ab,Aj,Am,Bd,A9,Av,dcD];done));apply Aw (by simp only[zo];exact zO _) (by simp only[Ai,zo,zq]<;>exact rfl) (by first | rfl | (simp[show ob 2 2=[true,false] from rfl,Rn,Ap,Ag,Ba,Ah,Aq,dj,Af,Ab,Aj,Am,Bd,A9,Av,dcD];done));refine xo5 rfl rfl ?_;refine xo4 rfl rfl ?_;refine xo4 rfl rfl ?_;apply Aw (by simp only[zl,zm,Ca,overlay,zs,zc,zf,List.take,List.drop,fO,fW,fRw,flG,yV]<;>exact rfl) (by simp only[Ai,zo,zq]<;>exact rfl) (by first | rfl | (simp[show ob 63 6=[true,true,true,true,true,true] from rfl,Rn,Ap,Ag,Ba,Ah,Aq,dj,Af,Ab,Aj,Am,Bd,A9,Av,dcD];done));refine Cw (Ak ?_);refine Ae (xo34 ?_);have hWr:=yc.set 1 k true lin1 (min k 65536) false en zA;obtain⟨_,⟨⟨H47,lo47⟩,rfl,wz,yU,qR⟩,rC⟩:=add0 (d:=d0) (by omega) (min H1.length g) hWr rfl (by omega);dsimp only at wz yU qR;obtain⟨lind,hwd,hlind⟩:=wz.hw;have hsgd:∀o,(H47.set g o)[g]?=some o:=fun o=>Bn hwd o;have wT:=(yR.trans ((KeepF.set yc _).trans yU)).2 _ _ uV (.inl ⟨rfl,by simp⟩);have hpwSd:∀o,(H47.set g o)[pw]?=_:=fun o=>Bg wT zY o;have qJ:=(yR.trans ((KeepF.set yc _).trans yU)).2 _ _ uO (.inl ⟨rfl,by simp⟩);have hprSd:∀o,(H47.set g o)[pr]?=_:=fun o=>Bg qJ uI o;have wE:=(yR.trans ((KeepF.set yc _).trans yU)).2 _ _ qK (.inl ⟨rfl,by simp⟩);have hpgSd:∀o,(H47.set g o)[pg]?=_:=fun o=>Bg wE uJ o;apply Ac (by simp only[zo];exact rC);refine Aa (Ak ?_);refine Ae (Ac (by simp only[zl,zm,zd,Au,List.take,List.drop,wE]<;>exact rfl) ?_);refine xo2 ?_;refine Aa (Ak ?_);refine Ga ?_;refine Gu ?_;refine M7 (by simp only[zl,zm,zd,Au,List.take,List.drop,wT]<;>exact rfl) rfl ?_;apply Aw (by simp only[zl,zm,zd,Au,List.take,List.drop,wT]<;>exact rfl) (by simp only[Ai,zo,zq]<;>exact rfl) (by first | rfl | (simp[show ob 0 1=[false] from rfl,Rn,Ap,Ag,Ba,Ah,Aq,dj,Af,Ab,Aj,Am,Bd,A9,Av,dcD];done));refine xo5 rfl rfl ?_;refine xo4 rfl rfl ?_;refine xo4 rfl rfl ?_;apply Aw (by simp only[zl,zm,zd,Au,List.take,List.drop,fO,fW,fRw,flG,hwd]<;>exact rfl) (by simp only[Ai,zo,zq]<;>exact rfl) (by first | rfl | (simp[show ob 30 5=[true,true,true,true,false] from rfl,Rn,Ap,Ag,Ba,Ah,Aq,dj,Af,Ab,Aj,Am,Bd,A9,Av,dcD];done));apply Aw (by simp only[zl,zm,zd,Au,List.take,List.drop,wE]<;>exact rfl) (by simp only[Ai,zo,zq]<;>exact rfl) (by first | rfl | (simp[show ob 0 6=[false,false,false,false,false,false] from rfl,Rn,Ap,Ag,Ba,Ah,Aq,dj,Af,Ab,Aj,Am,Bd,A9,Av,dcD];done));apply Aw (by simp only[zl,zm,C9,Int.toNat_zero,Int.le_refl]<;>exact rfl) (by simp only[Ai,zo,zq]<;>exact rfl) (by first | rfl | (simp[show ob 126 7=[true,true,true,true,true,true,false] from rfl,Rn,Ap,Ag,Ba,Ah,Aq,dj,Af,Ab,Aj,Am,Bd,A9,Av,dcD];done));apply Aw (by simp only[zl,zm,zd,Au,List.take,List.drop]<;>exact rfl) (by simp only[Ai,zo,zq]<;>exact rfl) (by first | rfl | (simp[show ob 254 8=[true,true,true,true,true,true,true,false] from rfl,Rn,Ap,Ag,Ba,Ah,Aq,dj,Af,Ab,Aj,Am,Bd,A9,Av,dcD];done));have rE:=wz.cast (ln':=k) (k':=min k 65536) (fu':=false||decide (65536<k)) rfl (by omega) (by rw[decide_eq_false (by omega)];rfl);obtain⟨_,⟨⟨H48,lo48⟩,rfl,vE,rH,hl48⟩,hc48⟩:=presD (d:=d0) (by omega) lo47 rE h0 hn (by omega);dsimp only at vE rH hl48;simp only[Bool.false_or]at vE;apply Aw (by simp only[zo];exact hc48) (by simp only[Ai,zo,zq]<;>exact rfl) (by first | rfl | (simp[show ob 511 9=[true,true,true,true,true,true,true,true,true] from rfl,Rn,Ap,Ag,Ba,Ah,Aq,dj,Af,Ab,Aj,Am,Bd,A9,Av,dcD];done));apply Cw;simp only[ze];apply Exists.intro
 case h =>
  apply And.intro
  case right =>
   refine⟨_,by simp only[F41,A7,Bo]<;>exact rfl,?_⟩;exact Eo (S:=⟨H1,low1⟩) (S':=⟨_,_⟩) _ (by dsimp only;omega) (fun _ _=>rfl)
  case left=>exact⟨_,rfl,vE,((KeepF.set yc _).trans yU).trans rH,by dsimp only;omega⟩
theorem gen_fC{d:Nat}(hd:50≤d){H:List Rf}{g gm gt vt nn k m:Nat}{en:Bool}{c0 c:Option Nat}(h0:nn≠0)(hn:nn≤1000)(hk:k≤65536)(hm:m≤100000){pw pr pg:Nat}(uV:H[pw]?=some ⟨28,1,[[.ptr g 0 0 0]],0,0,false⟩)(uO:H[pr]?=some ⟨45,1,[[.sl 12 [shN 1++[.sl 1 (bR [49]) c0]] c]],0,0,false⟩)(qK:H[pg]?=some ⟨3,1,[[.int .i64 (-1)]],0,0,false⟩){H1:List Rf}(low1:Nat)(yc:FS H1 g gm gt vt nn 1 k true m (min k 65536) false en)(yR:KF gt H H1):∃r,(∃T,r=(.tup [],T,true)∧FS T.heap g gm gt vt nn 1 k true (m+1) (min k 65536) false en∧KF gt H1 T.heap∧T.low≤low1)∧Bl LP NN d 41 [.ptr pw 0 0 0,.ptr pr 0 0 0,.ptr pg 0 0 0] ⟨H1,low1⟩=some r:=by
 have xu:∀{p:Nat} {o:Rf},H[p]?=some o→o.kind=0→o.elem≠91→g≠p:=fun h1 h2 h3 e=>by
  subst e;obtain⟨l,h4,_⟩:=yc.hw;have:=(yR.2 _ _ h1 (.inl ⟨h2,h3⟩)).symm.trans h4;obtain rfl:=Option.some.inj this;exact h3 rfl
 have zY:=xu uV rfl (by simp);have uI:=xu uO rfl (by simp);have uJ:=xu qK rfl (by simp)
 have hgH1:=yc.lt;have htH1:=Ff yc.ht;obtain⟨d0,rfl⟩:∃e,d=e+1:=⟨d-1,by omega⟩;obtain⟨lin1,wP,zA⟩:=yc.hw;have uS:∀o,(H1.set g o)[g]?=some o:=fun o=>Bn wP o;have zT:=yR.2 _ _ uV (.inl ⟨rfl,by simp⟩);have zS:∀o,(H1.set g o)[pw]?=_:=fun o=>Bg zT zY o;have uy:=yR.2 _ _ uO (.inl ⟨rfl,by simp⟩);have uw:∀o,(H1.set g o)[pr]?=_:=fun o=>Bg uy uI o;have uD:=yR.2 _ _ qK (.inl ⟨rfl,by simp⟩);have uz:∀o,(H1.set g o)[pg]?=_:=fun o=>Bg uD uJ o
 have zO:∀S,Bl LP NN d0 42 [.sl 12 [shN 1++[.sl 1 (bR [49]) c0]] c] S=some (.sl 12 [shN 1++[.sl 1 (bR [49]) none]] (some 1),S,false):=fun S=>by
  obtain⟨e,rfl⟩:∃e,d0=e+4:=⟨d0-4,by omega⟩;exact fast_ok (copied1 e S c0 c)
 refine De (F:=F41) rfl (by simp only[LP,Ay,zs]<;>exact rfl) rfl (by simp only[LP,zf,zm];try rfl) (by simp only[F41,zv]<;>exact rfl) (by omega) ?_;intro d he;obtain rfl:=Nat.succ.inj he;have zz6:=aI wP (aI uS (aI zT (aI zS (aI uy (aI uw (aI uD (aI uz (@List.set_set.{0}))))))));refine Ao (Ae (xo35 ?_));refine xo3 ?_;refine xo0 ?_;refine xo0 ?_;apply Ac (by simp only[zl,zm,zd,Au,List.take,List.drop,fO,fW,fRw,flG,zz6]<;>exact rfl);refine xo2 ?_;refine Aa (Ak ?_);refine Cc ?_;refine Ae (xo35 ?_);refine xo35 ?_;apply Ac (by simp only[zo];exact broken0 (by omega) _ yc c0 c);refine Ar rfl (Aa (Ak ?_));refine Ae (Al rfl (xo2 ?_));refine Aa (Ak ?_);refine Cc ?_;refine Bc (Bz rfl (Ao (Gu ?_)));refine M7 (by simp only[zl,zm,zd,Au,List.take,List.drop,zz6]<;>exact rfl) rfl ?_;apply Aw (by simp only[zl,zm,zd,Au,List.take,List.drop,zz6]<;>exact rfl) (by simp only[Ai,zo,zq]<;>exact rfl) (by first | rfl | (simp[show ob 0 1=[false] from rfl,Rn,Ap,Ag,Ba,Ah,Aq,dj,Af,Ab,Aj,Am,Bd,A9,Av,dcD];done));apply Aw (by simp only[zo];exact zO _) (by simp only[Ai,zo,zq]<;>exact rfl) (by first | rfl | (simp[show ob 2 2=[true,false] from rfl,Rn,Ap,Ag,Ba,Ah,Aq,dj,Af,Ab,Aj,Am,Bd,A9,Av,dcD];done));refine xo5 rfl rfl ?_;refine xo4 rfl rfl ?_;refine xo4 rfl rfl ?_;apply Aw (by simp only[zl,zm,Ca,overlay,zs,zc,zf,List.take,List.drop,fO,fW,fRw,flG,zz6]<;>exact rfl) (by simp only[Ai,zo,zq]<;>exact rfl) (by first | rfl | (simp[show ob 63 6=[true,true,true,true,true,true] from rfl,Rn,Ap,Ag,Ba,Ah,Aq,dj,Af,Ab,Aj,Am,Bd,A9,Av,dcD];done));refine Cw (Ak ?_);refine Ae (xo35 ?_);have hWr:=yc.set 1 k true lin1 (min k 65536) false en zA;obtain⟨_,⟨⟨H47,lo47⟩,rfl,wz,yU,qR⟩,rC⟩:=add0 (d:=d0) (by omega) (min H1.length g) hWr rfl (by omega);dsimp only at wz yU qR;obtain⟨lind,hwd,hlind⟩:=wz.hw;have hsgd:∀o,(H47.set g o)[g]?=some o:=fun o=>Bn hwd o;have wT:=(yR.trans ((KeepF.set yc _).trans yU)).2 _ _ uV (.inl ⟨rfl,by simp⟩);have hpwSd:∀o,(H47.set g o)[pw]?=_:=fun o=>Bg wT zY o;have qJ:=(yR.trans ((KeepF.set yc _).trans yU)).2 _ _ uO (.inl ⟨rfl,by simp⟩);have hprSd:∀o,(H47.set g o)[pr]?=_:=fun o=>Bg qJ uI o;have wE:=(yR.trans ((KeepF.set yc _).trans yU)).2 _ _ qK (.inl ⟨rfl,by simp⟩);have hpgSd:∀o,(H47.set g o)[pg]?=_:=fun o=>Bg wE uJ o;apply Ac (by simp only[zo];exact rC);refine Aa (Ak ?_);refine Ae (Ac (by simp only[zl,zm,zd,Au,List.take,List.drop,wE]<;>exact rfl) ?_);refine xo2 ?_;refine Aa (Ak ?_);refine Cc ?_;apply Bc;apply Exists.intro
 case h =>
  apply And.intro
  case right =>
   refine⟨_,by simp only[F41,A7,Bo]<;>exact rfl,?_⟩;exact Eo (S:=⟨H1,low1⟩) (S':=⟨_,_⟩) _ (by dsimp only;omega) (fun _ _=>rfl)
  case left=>exact⟨_,rfl,wz,(KeepF.set yc _).trans yU,by dsimp only;omega⟩
theorem fRw_cl(b:Bool):Cl (fRw b):=by cases b<;>exact⟨rfl,rfl,rfl,rfl⟩
def CFf (d:Nat) (f:FuncId) (caps:List D) (H:List Rf) (g gm gt vt nn pg ln:Nat) (rw:Bool) (m k:Nat) (en:Bool) (pg' ln':Nat) (rw':Bool) (m' k':Nat) (fu':Bool):Prop:=∀(H1:List Rf) (lo1:Nat),FS H1 g gm gt vt nn pg ln rw m k false en→KF gt H H1→∃r,(∃T,r=(.tup [],T,true)∧FS T.heap g gm gt vt nn pg' ln' rw' m' k' fu' en∧KF gt H1 T.heap∧T.low≤lo1)∧Bl LP NN d f caps ⟨H1,lo1⟩=some r
theorem KF.keep{gt:Nat}{H H':List Rf}(h:KF gt H H'):Keep H H':=⟨h.1,fun j o hj hk=>h.2 j o hj (hk.elim .inl fun h=>.inr (.inl h))⟩
theorem try_fS{d:Nat}(hd:3≤d){H:List Rf}(low:Nat){g gm gt vt nn pg ln:Nat}{rw:Bool}{m k:Nat}{en:Bool}(hW:FS H g gm gt vt nn pg ln rw m k false en){f:FuncId}{caps:List D}(hcv:∀H,Ro H.length H (.fn f caps)=some (.fn f caps)){pg' ln':Nat}{rw':Bool}{m' k':Nat}(hC:CFf (d-1) f caps H g gm gt vt nn pg ln rw m k en pg' ln' rw' m' k' false):∃r,(∃T,r=(.int .i64 0,T,true)∧FS T.heap g gm gt vt nn pg' ln' rw' m' k' false en∧Keep H T.heap∧T.low≤g)∧Bl LP NN d 40 [.ptr g 0 0 0,.fn f caps] ⟨H,low⟩=some r:=by
 obtain⟨lin,hw,xK⟩:=hW.hw;have yK:g≠H.length:=Nat.ne_of_lt hW.lt;have yD:g≠H.length+1:=Nat.ne_of_lt (Nat.lt_succ_of_lt hW.lt);have ⟨qR0,qR1,qR2,qR3⟩:=fRw_cl rw;have qL0:=xK.Ru;have qL1:=xK.cells;have qL2:=xK.val;have qC:=Pp H (flL k);have qC0:=qC.Ru;have qC1:=qC.cells;have qC2:=qC.val;have yF:∀l,(H++l)[g]?=_:=fun l=>Bu hw l;have hsL:∀o l,(H++l).set g o=H.set g o++l:=fun o l=>List.set_append_left _ _ hW.lt;have uN:∀o,(H.set g o)[g]?=some o:=fun o=>Bn hw o;have hsgA:∀o l,(H.set g o++l)[g]?=some o:=fun o l=>Bu (uN o) l;have yc:=hW.set pg ln rw (G9 (flL k)) k false en qC;obtain⟨d0,rfl⟩:∃e,d=e+1:=⟨d-1,by omega⟩;rw[Nat.add_sub_cancel]at hC;refine De (F:=F40) rfl (by simp only[LP,Ay,zs]<;>exact rfl) rfl (by simp only[LP,zf,zm];try rfl) (by simp only[F40,zv]<;>exact rfl) (by omega) ?_;intro d he;obtain rfl:=Nat.succ.inj he;have xQ:=aI hw (aI yF (aI hsL (aI uN (hsgA))));refine Ae (Bj (Aa (Ak ?_)));refine Ae (Al rfl (xo3 ?_));refine xo0 ?_;apply Ac (by simp only[zl,zm,zd,Au,List.take,List.drop,fO,fW,xQ]<;>exact rfl);refine xo8 ?_;apply Ac (by simp only[zl,zm,Ca,overlay,Cn,zs,zc,zf,List.take,List.drop,qR0,qL0]<;>exact rfl);refine Aa (Ak ?_);refine Ao (Du (by simp only[Ce,zw,Nat.reduceAdd]<;>exact rfl) (by simp only[zw]<;>exact rfl) ?_);refine Cf rfl rfl (xo5 rfl rfl ?_);refine xo4 rfl rfl ?_;refine xo4 rfl rfl ?_;apply Aw (by simp only[zl,zm,zd,Au,List.take,List.drop,fO,fW,xQ]<;>exact rfl) (by simp only[Ai,zo,zq]<;>exact rfl) (by first | rfl | (simp[show ob 15 4=[true,true,true,true] from rfl,F3,Eb,Fs,Ag,Ba,Ah,Aq,dj,Af,Ab,Aj,Am,Bd,A9,Av,Df,yK,yD,Ne.symm yK,Ne.symm yD];done));apply Aw (by simp only[zo];exact tclone_run (by omega) _ (Bu hW.ht _) (by simp) rfl (by omega) (by simp)) (by simp only[Ai,zo,zq]<;>exact rfl) (by first | rfl | (simp[show ob 31 5=[true,true,true,true,true] from rfl,F3,Eb,Fs,Ag,Ba,Ah,Aq,dj,Af,Ab,Aj,Am,Bd,A9,Av,Df,yK,yD,Ne.symm yK,Ne.symm yD];done));refine Cf rfl rfl (xo5 rfl rfl ?_);refine xo4 rfl rfl ?_;refine xo4 rfl rfl ?_;apply Aw (by simp only[zl,zm,zd,Au,List.take,List.drop,fO,fW,xQ]<;>exact rfl) (by simp only[Ai,zo,zq]<;>exact rfl) (by first | rfl | (simp[show ob 960 10=[true,true,true,true,false,false,false,false,false,false] from rfl,Ag,Ba,Ah,Aq,dj,Af,Ab,Ne.symm yD];done));apply Aw (by simp only[zo];exact Oh (by omega) _ (xK.keep fun j o h1 _=>Bu h1 _)) (by simp only[Ai,zo,zq]<;>exact rfl) (by first | rfl | (simp[show ob 2047 11=[true,true,true,true,true,true,true,true,true,true,true] from rfl,F3,Eb,Fs,Ag,Ba,Ah,Aq,dj,Af,Ab,Aj,Am,Bd,A9,Av,Df,yK,yD,Ne.symm yK,Ne.symm yD];done));refine xo4 rfl rfl ?_;apply Aw (by simp only[zl,zm,Ca,overlay,zs,zc,zf,List.take,List.drop]<;>exact rfl) (by simp only[Ai,zo,zq]<;>exact rfl) (by first | rfl | (simp[show ob 8191 13=[true,true,true,true,true,true,true,true,true,true,true,true,true] from rfl,F3,Eb,Fs,Ag,Ba,Ah,Aq,dj,Af,Ab,Aj,Am,Bd,A9,Av,Df,yK,yD,Ne.symm yK,Ne.symm yD];done));refine xo4 rfl rfl ?_;apply Aw (by simp only[zl,zm,Ca,overlay,List.take,List.drop,qC1,qC2]<;>exact rfl) (by simp only[Ai,zo,zq]<;>exact rfl) (by first | rfl | (simp[show ob 32767 15=[true,true,true,true,true,true,true,true,true,true,true,true,true,true,true] from rfl,Eb,Fs,Ag,Ba,Ah,Aq,dj,Af,Ab,Ne.symm yK];done));refine Cw (Ak ?_);refine Ae (Al rfl (Al rfl (xo3 ?_)));refine xo0 ?_;refine xo0 ?_;apply Ac (by simp only[zl,zm,zd,Au,List.take,List.drop,fO,fW,xQ]<;>exact rfl);apply Ac (by simp only[zo];exact Oh (by omega) _ (xK.keep fun j o h1 _=>Bu h1 _));refine xo3 ?_;refine xo0 ?_;refine xo0 ?_;apply Ac (by simp only[zl,zm,Ca,overlay,List.take,List.drop,fO,fW,qC1,qC2,xQ]<;>exact rfl);refine Aa (Ak ?_);refine Ae (Al rfl ?_);obtain⟨r,⟨T2,rfl,hW2,hK2,zI⟩,yg⟩:=hC _ _ (yc.app [⟨89,7,[[.int .i64 (pg:Nat),.int .i64 (ln:Nat),.bool false,fRw rw,.msl (H.length+1) 1 0 1 none,G9 (flL k),.bool false]],0,0,false⟩,⟨57,3,[dcR m],1,2,true⟩]) ((KeepF.set hW _).trans (KF.app _ _ _));obtain⟨H2,lo2⟩:=T2
 replace zI:lo2≤_:=zI
 obtain⟨lin2,uP,hlin2⟩:=hW2.hw;apply Ac (by simp only[zo];exact yg);refine Aa (Ak ?_);refine Ao (Ae (Al rfl (xo3 ?_)));refine xo0 ?_;refine xo0 ?_;apply Ac (by simp only[zl,zm,zd,Au,List.take,List.drop,fO,fW,uP]<;>exact rfl);refine Aa (Ak ?_);refine Cc ?_;refine Bc (Bz rfl (Ae (Bj (Aa (Ak ?_)))));apply Bp;refine⟨_,⟨⟨H2,min low lo2⟩,rfl,hW2,(((KeepF.set hW _).keep).trans (Keep.app _ _)).trans hK2.keep,by have:=hW.lt;show min low lo2≤g;omega⟩,?_⟩;refine⟨_,by simp only[F40,A7,Bo,Cv,zg]<;>exact rfl,?_⟩;exact Eo (S:=⟨H,low⟩) (S':=⟨H2,lo2⟩) _ (by show lo2<H.length;have:=hW.lt;omega) (fun _ _=>rfl)
theorem try_fF{d:Nat}(hd:3≤d){H:List Rf}(low:Nat){g gm gt vt nn pg ln:Nat}{rw:Bool}{m k:Nat}{en:Bool}(hW:FS H g gm gt vt nn pg ln rw m k false en){f:FuncId}{caps:List D}(hcv:∀H,Ro H.length H (.fn f caps)=some (.fn f caps)){pg' ln':Nat}{rw':Bool}{m' k':Nat}(hC:CFf (d-1) f caps H g gm gt vt nn pg ln rw m k en pg' ln' rw' m' k' true):∃r,(∃T,r=(.int .i64 9,T,true)∧FS T.heap g gm (H.length+1) 1 nn pg ln rw m k false en∧Keep H T.heap∧T.low≤g)∧Bl LP NN d 40 [.ptr g 0 0 0,.fn f caps] ⟨H,low⟩=some r:=by
 obtain⟨lin,hw,xK⟩:=hW.hw;have yK:g≠H.length:=Nat.ne_of_lt hW.lt;have yD:g≠H.length+1:=Nat.ne_of_lt (Nat.lt_succ_of_lt hW.lt);have ⟨qR0,qR1,qR2,qR3⟩:=fRw_cl rw;have qL0:=xK.Ru;have qL1:=xK.cells;have qL2:=xK.val;have qC:=Pp H (flL k);have qC0:=qC.Ru;have qC1:=qC.cells;have qC2:=qC.val;have yF:∀l,(H++l)[g]?=_:=fun l=>Bu hw l;have hsL:∀o l,(H++l).set g o=H.set g o++l:=fun o l=>List.set_append_left _ _ hW.lt;have uN:∀o,(H.set g o)[g]?=some o:=fun o=>Bn hw o;have hsgA:∀o l,(H.set g o++l)[g]?=some o:=fun o l=>Bu (uN o) l;have yc:=hW.set pg ln rw (G9 (flL k)) k false en qC;obtain⟨d0,rfl⟩:∃e,d=e+1:=⟨d-1,by omega⟩;rw[Nat.add_sub_cancel]at hC;refine De (F:=F40) rfl (by simp only[LP,Ay,zs]<;>exact rfl) rfl (by simp only[LP,zf,zm];try rfl) (by simp only[F40,zv]<;>exact rfl) (by omega) ?_;intro d he;obtain rfl:=Nat.succ.inj he;have yM:=aI hw (aI yF (aI hsL (aI uN (hsgA))));refine Ae (Bj (Aa (Ak ?_)));refine Ae (Al rfl (xo3 ?_));refine xo0 ?_;apply Ac (by simp only[zl,zm,zd,Au,List.take,List.drop,fO,fW,yM]<;>exact rfl);refine xo8 ?_;apply Ac (by simp only[zl,zm,Ca,overlay,Cn,zs,zc,zf,List.take,List.drop,qR0,qL0]<;>exact rfl);refine Aa (Ak ?_);refine Ao (Du (by simp only[Ce,zw,Nat.reduceAdd]<;>exact rfl) (by simp only[zw]<;>exact rfl) ?_);refine Cf rfl rfl (xo5 rfl rfl ?_);refine xo4 rfl rfl ?_;refine xo4 rfl rfl ?_;apply Aw (by simp only[zl,zm,zd,Au,List.take,List.drop,fO,fW,yM]<;>exact rfl) (by simp only[Ai,zo,zq]<;>exact rfl) (by first | rfl | (simp[show ob 15 4=[true,true,true,true] from rfl,F3,Eb,Fs,Ag,Ba,Ah,Aq,dj,Af,Ab,Aj,Am,Bd,A9,Av,Df,yK,yD,Ne.symm yK,Ne.symm yD];done));apply Aw (by simp only[zo];exact tclone_run (by omega) _ (Bu hW.ht _) (by simp) rfl (by omega) (by simp)) (by simp only[Ai,zo,zq]<;>exact rfl) (by first | rfl | (simp[show ob 31 5=[true,true,true,true,true] from rfl,F3,Eb,Fs,Ag,Ba,Ah,Aq,dj,Af,Ab,Aj,Am,Bd,A9,Av,Df,yK,yD,Ne.symm yK,Ne.symm yD];done));refine Cf rfl rfl (xo5 rfl rfl ?_);refine xo4 rfl rfl ?_;refine xo4 rfl rfl ?_;apply Aw (by simp only[zl,zm,zd,Au,List.take,List.drop,fO,fW,yM]<;>exact rfl) (by simp only[Ai,zo,zq]<;>exact rfl) (by first | rfl | (simp[show ob 960 10=[true,true,true,true,false,false,false,false,false,false] from rfl,Ag,Ba,Ah,Aq,dj,Af,Ab,Ne.symm yD];done));apply Aw (by simp only[zo];exact Oh (by omega) _ (xK.keep fun j o h1 _=>Bu h1 _)) (by simp only[Ai,zo,zq]<;>exact rfl) (by first | rfl | (simp[show ob 2047 11=[true,true,true,true,true,true,true,true,true,true,true] from rfl,F3,Eb,Fs,Ag,Ba,Ah,Aq,dj,Af,Ab,Aj,Am,Bd,A9,Av,Df,yK,yD,Ne.symm yK,Ne.symm yD];done));refine xo4 rfl rfl ?_;apply Aw (by simp only[zl,zm,Ca,overlay,zs,zc,zf,List.take,List.drop]<;>exact rfl) (by simp only[Ai,zo,zq]<;>exact rfl) (by first | rfl | (simp[show ob 8191 13=[true,true,true,true,true,true,true,true,true,true,true,true,true] from rfl,F3,Eb,Fs,Ag,Ba,Ah,Aq,dj,Af,Ab,Aj,Am,Bd,A9,Av,Df,yK,yD,Ne.symm yK,Ne.symm yD];done));refine xo4 rfl rfl ?_;apply Aw (by simp only[zl,zm,Ca,overlay,List.take,List.drop,qC1,qC2]<;>exact rfl) (by simp only[Ai,zo,zq]<;>exact rfl) (by first | rfl | (simp[show ob 32767 15=[true,true,true,true,true,true,true,true,true,true,true,true,true,true,true] from rfl,Eb,Fs,Ag,Ba,Ah,Aq,dj,Af,Ab,Ne.symm yK];done));refine Cw (Ak ?_);refine Ae (Al rfl (Al rfl (xo3 ?_)));refine xo0 ?_;refine xo0 ?_;apply Ac (by simp only[zl,zm,zd,Au,List.take,List.drop,fO,fW,yM]<;>exact rfl);apply Ac (by simp only[zo];exact Oh (by omega) _ (xK.keep fun j o h1 _=>Bu h1 _));refine xo3 ?_;refine xo0 ?_;refine xo0 ?_;apply Ac (by simp only[zl,zm,Ca,overlay,List.take,List.drop,fO,fW,qC1,qC2,yM]<;>exact rfl);refine Aa (Ak ?_);refine Ae (Al rfl ?_);obtain⟨r,⟨T2,rfl,hW2,hK2,zI⟩,yg⟩:=hC _ _ (yc.app [⟨89,7,[[.int .i64 (pg:Nat),.int .i64 (ln:Nat),.bool false,fRw rw,.msl (H.length+1) 1 0 1 none,G9 (flL k),.bool false]],0,0,false⟩,⟨57,3,[dcR m],1,2,true⟩]) ((KeepF.set hW _).trans (KF.app _ _ _));obtain⟨H2,lo2⟩:=T2
 replace zI:lo2≤_:=zI
 obtain⟨lin2,uP,hlin2⟩:=hW2.hw;have hb:H2[H.length]?=some (⟨89,7,[[.int .i64 (pg:Nat),.int .i64 (ln:Nat),.bool false,fRw rw,.msl (H.length+1) 1 0 1 none,G9 (flL k),.bool false]],0,0,false⟩:Rf):=hK2.2 _ _ (by rw[Lr_ (by simp)];simp) (.inl ⟨rfl,by simp⟩);have xW:H2[H.length+1]?=some (fT 1 m):=hK2.2 _ _ (by rw[Lr_ (by simp)];simp;rfl) (.inr (.inr ⟨rfl,Nat.ne_of_gt (Nat.lt_succ_of_lt (Ff hW.ht))⟩));have hq2:g<H2.length:=Ff uP;have hsb:∀o,(H2.set g o)[g]?=some o:=fun o=>Bn uP o;apply Ac (by simp only[zo];exact yg);refine Aa (Ak ?_);refine Ao (Ae (Al rfl (xo3 ?_)));refine xo0 ?_;refine xo0 ?_;apply Ac (by simp only[zl,zm,zd,Au,List.take,List.drop,fO,fW,uP]<;>exact rfl);refine Aa (Ak ?_);refine Ga ?_;refine Ae (Al rfl (Ac (by simp only[zl,zm,zd,Au,List.take,List.drop,hb]<;>exact rfl) ?_));refine xo3 ?_;refine xo0 ?_;apply Ac (by simp only[zl,zm,Ca,overlay,Cn,zs,zc,zf,List.take,List.drop,fO,fW,qR0,qC0,uP]<;>exact rfl);refine Aa (Ak ?_);refine Ae (Bj (Aa (Ak ?_)));refine Bp (sk_r ?_)
 have hN:FS (H2.set g (fO nn gm (.int .i64 (pg:Nat)) (.int .i64 (ln:Nat)) (fRw rw) (.msl (H.length+1) 1 0 1 none) (G9 (flL k)) false en)) g gm (H.length+1) 1 nn pg ln rw m k false en:=by
  have hm2:=hW2.hm;have n1:g≠gm:=hW2.ne.1;exact⟨⟨_,Bn uP _,Pp _ _⟩,Bg hm2 n1 _,Bg xW yD _⟩
 refine⟨_,⟨⟨_,min low (min lo2 g)⟩,rfl,hN,((((KeepF.set hW _).keep).trans (Keep.app _ _)).trans hK2.keep).trans (KeepF.set hW2 _).keep,by show min low (min lo2 g)≤g;omega⟩,?_⟩;refine⟨_,by simp only[F40,A7,Bo,Cv,zg]<;>exact rfl,?_⟩;exact Eo (S:=⟨H,low⟩) (S':=⟨_,min lo2 g⟩) _ (by show min lo2 g<H.length;have:=hW.lt;omega) (fun _ _=>rfl)
theorem Mk{d:Nat}(hd:1≤d){H:List Rf}(low:Nat){g gm gt vt nn pg ln:Nat}{rw:Bool}{m k:Nat}{en:Bool}(hW:FS H g gm gt vt nn pg ln rw m k false en):Bl LP NN d 36 [.ptr g 0 0 0] ⟨H,low⟩=some (.bool false,⟨H,low⟩,false):=by
 obtain⟨lin,hw,xK⟩:=hW.hw;refine Ee (F:=F36) rfl (by simp only[LP,Ay,zs]<;>exact rfl) rfl (by simp only[LP,zf,zm];try rfl) (by simp only[F36,zv]<;>exact rfl) (by omega) ?_;rintro d rfl;refine Ae (Bj (Aa (Ak ?_)));refine Ae (Al rfl (Ac (by simp only[zl,zm,eqpD]<;>exact rfl) ?_));refine Ar rfl (Ej 0 (b:=false) ?_);refine Bb rfl (Al rfl (Bb rfl (xo3 ?_)));refine Bb rfl (xo0 ?_);refine Bb rfl (Ac (by simp only[zl,zm,zd,Au,List.take,List.drop,hw,fO,fW]<;>exact rfl) ?_);refine Bb rfl (Qy ?_);refine xo3 ?_;refine Ar rfl (Aa (Ak ?_));apply Bp;refine⟨_,by simp only[F36,A7,Bo,Cv,zg]<;>exact rfl,?_⟩;exact E5 _ _ _ _ (Nat.le_refl _) rfl (fun _ _=>rfl)
theorem gen1{d:Nat}(hd:60≤d){H:List Rf}(low:Nat){g gm gt vt nn m k:Nat}(h0:nn≠0)(hn:nn≤1000)(hm:m≤100000)(hW:FS H g gm gt vt nn 0 0 false m 0 false false)(c0 c:Option Nat):∃r,(∃T,r=(.int .i64 0,T,true)∧FS T.heap g gm gt vt nn 1 nn true (m+1) nn false false∧Keep H T.heap∧T.low≤g)∧Bl LP NN d 12 [.ptr g 0 0 0,.int .i64 (0),.sl 12 [shN 1++[.sl 1 (bR [49]) c0]] c] ⟨H,low⟩=some r:=by
 obtain⟨lin,hw,xK⟩:=hW.hw;have hgH:=hW.lt;have yF:∀l,(H++l)[g]?=_:=fun l=>Bu hw l;have wM:=hW.app [⟨28,1,[[.ptr g 0 0 0]],0,0,false⟩,⟨3,1,[[.int .i64 (0)]],0,0,false⟩,⟨45,1,[[.sl 12 [shN 1++[.sl 1 (bR [49]) c0]] c]],0,0,false⟩];obtain⟨d0,rfl⟩:∃e,d=e+1:=⟨d-1,by omega⟩
 obtain⟨rT,hrT,r9⟩:=try_fS (d:=d0) (by omega) H.length wM (f:=41) (caps:=[.ptr H.length 0 0 0,.ptr (H.length+2) 0 0 0,.ptr (H.length+1) 0 0 0]) (fun _=>rfl) (fun H1 lo1 yc yR=>by
  obtain⟨r,⟨T,hr,h1,h2,h3⟩,h4⟩:=gen_fA (d:=d0-1) (by omega) (c0:=c0) (c:=c) h0 hn (k:=0) (by omega) hm (pw:=H.length) (pr:=H.length+2) (pg:=H.length+1) (Ho _ _) (Gr _ _ 2) (Gr _ _ 1) lo1 yc yR
  exact⟨r,⟨T,hr,by simpa [decide_eq_false (show ¬65536<nn by omega),Nat.zero_add,Nat.min_eq_left (show nn≤65536 by omega)] using h1,h2,h3⟩,h4⟩)
 refine De (F:=F12) rfl (by simp only[LP,Ay,zs]<;>exact rfl) rfl (by simp only[LP,zf,zm];try rfl) (by simp only[F12,zv]<;>exact rfl) (by omega) ?_;intro d he;obtain rfl:=Nat.succ.inj he;refine Ae (xo6 ?_);refine xo6 ?_;refine xo6 ?_;refine Bj (Aa (Ak ?_));refine Ao (Be (Ae (xo1 ?_)));apply Ac (by simp only[zo];exact Mk (by omega) _ wM);refine Ar rfl (Aa (Ak ?_));refine Cc ?_;refine Ae (xo1 ?_);refine xo3 ?_;refine xo0 ?_;apply Ac (by simp only[zl,zm,zd,Au,List.take,List.drop,yF,fO,fW,flG]<;>exact rfl);refine Ar rfl (Aa (Ak ?_));refine Cc ?_;refine Ao (Gu ?_);refine xo14 rfl ?_;apply A8 (by simp only[zo,Cg,Int.reduceLT]<;>exact rfl) rfl rfl;refine Dt rfl rfl (Ij 0 (b:=false) ?_);refine Bi rfl (Aw (by simp only[zl,zm,zd,Au,List.take,List.drop]<;>exact rfl) (by simp only[Ai,zo,zq]<;>exact rfl) (by first | rfl | (simp[show ob 7 3=[true,true,true] from rfl,Rn,Ap,Ag,Ba,Ah,Aq,dj,Af,Ab,Aj,Am,Bd,A9,Av,Df];done)) ?_);refine Bi rfl (Aw (by simp only[zl,zm,zd,Au,List.take,List.drop]<;>exact rfl) (by simp only[Ai,zo,zq]<;>exact rfl) (by first | rfl | (simp[show ob 7 4=[false,true,true,true] from rfl,Rn,Ap,Ag,Ba,Ah,Aq,dj,Af,Ab,Aj,Am,Bd,A9,Av,Df];done)) ?_);refine Bi rfl (xo5 rfl rfl ?_);refine Bi rfl (xo4 rfl rfl ?_);refine Bi rfl (xo4 rfl rfl ?_);refine Bi rfl (Aw (by simp only[zl,zm,zd,Au,List.take,List.drop,yF,fO,fW,flG]<;>exact rfl) (by simp only[Ai,zo,zq]<;>exact rfl) (by first | rfl | (simp[show ob 247 8=[true,true,true,true,false,true,true,true] from rfl,Rn,Ap,Ag,Ba,Ah,Aq,dj,Af,Ab,Aj,Am,Bd,A9,Av,Df];done)) ?_);refine Bi rfl (A8 (by simp only[zo,Hl]<;>exact rfl) rfl rfl ?_);refine Bi rfl (xo9 rfl rfl ?_);refine xo5 rfl rfl ?_;refine Dt rfl rfl (Ij 0 (b:=false) ?_);refine Bi rfl (Aw (by simp only[zl,zm,zd,Au,List.take,List.drop]<;>exact rfl) (by simp only[Ai,zo,zq]<;>exact rfl) (by first | rfl | (simp[show ob 8191 13=[true,true,true,true,true,true,true,true,true,true,true,true,true] from rfl,Rn,Ap,Ag,Ba,Ah,Aq,dj,Af,Ab,Aj,Am,Bd,A9,Av,Df];done)) ?_);refine Bi rfl (xo9 rfl rfl ?_);refine Bi rfl (Dt rfl rfl (Ij 0 (b:=true) ?_));refine Bi rfl (Aw (by simp only[zl,zm,zd,Au,List.take,List.drop]<;>exact rfl) (by simp only[Ai,zo,zq]<;>exact rfl) (by first | rfl | (simp[show ob 65535 16=[true,true,true,true,true,true,true,true,true,true,true,true,true,true,true,true] from rfl,Rn,Ap,Ag,Ba,Ah,Aq,dj,Af,Ab,Aj,Am,Bd,A9,Av,Df];done)) ?_);refine Bi rfl (xo5 rfl rfl ?_);refine Bi rfl (xo4 rfl rfl ?_);refine Bi rfl (xo4 rfl rfl ?_);refine Bi rfl (Aw (by simp only[zl,zm,zd,Au,List.take,List.drop,yF,fO,fW,flG]<;>exact rfl) (by simp only[Ai,zo,zq]<;>exact rfl) (by first | rfl | (simp[show ob 1048575 20=[true,true,true,true,true,true,true,true,true,true,true,true,true,true,true,true,true,true,true,true] from rfl,Rn,Ap,Ag,Ba,Ah,Aq,dj,Af,Ab,Aj,Am,Bd,A9,Av,Df];done)) ?_);refine Bi rfl (Aw (by simp only[zl,zm,zd,Au,List.take,List.drop]<;>exact rfl) (by simp only[Ai,zo,zq]<;>exact rfl) (by first | rfl | (simp[show ob 65535 21=[false,false,false,false,false,true,true,true,true,true,true,true,true,true,true,true,true,true,true,true,true] from rfl,Rn,Ap,Ag,Ba,Ah,Aq,dj,Af,Ab,Aj,Am,Bd,A9,Av,Df];done)) ?_);refine Bi rfl (Aw (by simp only[zl,zm,C9,Int.toNat_zero,Int.le_refl]<;>exact rfl) (by simp only[Ai,zo,zq]<;>exact rfl) (by first | rfl | (simp[show ob 4194303 22=[true,true,true,true,true,true,true,true,true,true,true,true,true,true,true,true,true,true,true,true,true,true] from rfl,Rn,Ap,Ag,Ba,Ah,Aq,dj,Af,Ab,Aj,Am,Bd,A9,Av,Df];done)) ?_);refine Bi rfl (xo21 rfl rfl ?_);refine Bi rfl (Aw (by simp only[zl,zm,zd,Au,List.take,List.drop]<;>exact rfl) (by simp only[Ai,zo,zq]<;>exact rfl) (by first | rfl | (simp[show ob 16777215 24=[true,true,true,true,true,true,true,true,true,true,true,true,true,true,true,true,true,true,true,true,true,true,true,true] from rfl,Rn,Ap,Ag,Ba,Ah,Aq,dj,Af,Ab,Aj,Am,Bd,A9,Av,Df];done)) ?_);refine Bi rfl (xo9 rfl rfl ?_);refine Bi rfl (xo5 rfl rfl ?_);refine xo5 rfl rfl ?_;refine Dt rfl rfl (Cw (Ak ?_));refine Cc ?_;refine Bc (Fu (Bz rfl (Ao (Ae (xo1 ?_)))));refine xo1 ?_;apply Ac (by simp only[zo];exact check1 (by omega) _ wM c0 c);refine Ar rfl (Aa (Ak ?_));refine Ae (Al rfl (xo2 ?_));refine Aa (Ak ?_);refine Cc ?_;refine Bc (Bz rfl (Ae (xo1 ?_)));refine xo3 ?_;obtain⟨T,rfl,hWT,hKT,hlT⟩:=hrT;apply Ac (by simp only[zo];exact r9);refine Ar rfl (Aa (Ak ?_));apply Bp;refine⟨_,⟨⟨T.heap,min low T.low⟩,rfl,hWT,(Keep.app _ _).trans hKT,by show min low T.low≤g;omega⟩,?_⟩;refine⟨_,by simp only[F12,A7,Bo,Cv,zg]<;>exact rfl,?_⟩;exact Eo (S:=⟨H,low⟩) (S':=T) _ (by show T.low<H.length;omega) (fun _ _=>rfl)
theorem gen2{d:Nat}(hd:60≤d){H:List Rf}(low:Nat){g gm gt vt nn m k:Nat}(h0:nn≠0)(hn:nn≤1000)(hk:k≤65536)(hm:m≤100000)(hkn:k+nn≤65536)(hW:FS H g gm gt vt nn 1 k true m (min k 65536) false false)(c0 c:Option Nat):∃r,(∃T,r=(.int .i64 0,T,true)∧FS T.heap g gm gt vt nn 1 (k+nn) true (m+1) (min (k+nn) 65536) false false∧Keep H T.heap∧T.low≤g)∧Bl LP NN d 12 [.ptr g 0 0 0,.int .i64 (0),.sl 12 [shN 1++[.sl 1 (bR [49]) c0]] c] ⟨H,low⟩=some r:=by
 obtain⟨lin,hw,xK⟩:=hW.hw;have hgH:=hW.lt;have yF:∀l,(H++l)[g]?=_:=fun l=>Bu hw l;have wM:=hW.app [⟨28,1,[[.ptr g 0 0 0]],0,0,false⟩,⟨3,1,[[.int .i64 (0)]],0,0,false⟩,⟨45,1,[[.sl 12 [shN 1++[.sl 1 (bR [49]) c0]] c]],0,0,false⟩];obtain⟨d0,rfl⟩:∃e,d=e+1:=⟨d-1,by omega⟩
 obtain⟨rT,hrT,r9⟩:=try_fS (d:=d0) (by omega) H.length wM (f:=41) (caps:=[.ptr H.length 0 0 0,.ptr (H.length+2) 0 0 0,.ptr (H.length+1) 0 0 0]) (fun _=>rfl) (fun H1 lo1 yc yR=>by
  obtain⟨r,⟨T,hr,h1,h2,h3⟩,h4⟩:=gen_fB (d:=d0-1) (by omega) (c0:=c0) (c:=c) h0 hn hk hm (pw:=H.length) (pr:=H.length+2) (pg:=H.length+1) (Ho _ _) (Gr _ _ 2) (Gr _ _ 1) lo1 yc yR
  exact⟨r,⟨T,hr,by rw[decide_eq_false (by omega)]at h1;exact h1,h2,h3⟩,h4⟩)
 refine De (F:=F12) rfl (by simp only[LP,Ay,zs]<;>exact rfl) rfl (by simp only[LP,zf,zm];try rfl) (by simp only[F12,zv]<;>exact rfl) (by omega) ?_;intro d he;obtain rfl:=Nat.succ.inj he;refine Ae (xo6 ?_);refine xo6 ?_;refine xo6 ?_;refine Bj (Aa (Ak ?_));refine Ao (Be (Ae (xo1 ?_)));apply Ac (by simp only[zo];exact Mk (by omega) _ wM);refine Ar rfl (Aa (Ak ?_));refine Cc ?_;refine Ae (xo1 ?_);refine xo3 ?_;refine xo0 ?_;apply Ac (by simp only[zl,zm,zd,Au,List.take,List.drop,yF,fO,fW,flG]<;>exact rfl);refine Ar rfl (Aa (Ak ?_));refine Cc ?_;refine Ao (Gu ?_);refine xo14 rfl ?_;apply A8 (by simp only[zo,Cg,Int.reduceLT]<;>exact rfl) rfl rfl;refine Dt rfl rfl (Ij 0 (b:=false) ?_);refine Bi rfl (Aw (by simp only[zl,zm,zd,Au,List.take,List.drop]<;>exact rfl) (by simp only[Ai,zo,zq]<;>exact rfl) (by first | rfl | (simp[show ob 7 3=[true,true,true] from rfl,Rn,Ap,Ag,Ba,Ah,Aq,dj,Af,Ab,Aj,Am,Bd,A9,Av,Df];done)) ?_);refine Bi rfl (Aw (by simp only[zl,zm,zd,Au,List.take,List.drop]<;>exact rfl) (by simp only[Ai,zo,zq]<;>exact rfl) (by first | rfl | (simp[show ob 7 4=[false,true,true,true] from rfl,Rn,Ap,Ag,Ba,Ah,Aq,dj,Af,Ab,Aj,Am,Bd,A9,Av,Df];done)) ?_);refine Bi rfl (xo5 rfl rfl ?_);refine Bi rfl (xo4 rfl rfl ?_);refine Bi rfl (xo4 rfl rfl ?_);refine Bi rfl (Aw (by simp only[zl,zm,zd,Au,List.take,List.drop,yF,fO,fW,flG]<;>exact rfl) (by simp only[Ai,zo,zq]<;>exact rfl) (by first | rfl | (simp[show ob 247 8=[true,true,true,true,false,true,true,true] from rfl,Rn,Ap,Ag,Ba,Ah,Aq,dj,Af,Ab,Aj,Am,Bd,A9,Av,Df];done)) ?_);refine Bi rfl (A8 (by simp only[zo,Hl]<;>exact rfl) rfl rfl ?_);refine Bi rfl (xo9 rfl rfl ?_);refine xo5 rfl rfl ?_;refine Dt rfl rfl (Ij 0 (b:=false) ?_);refine Bi rfl (Aw (by simp only[zl,zm,zd,Au,List.take,List.drop]<;>exact rfl) (by simp only[Ai,zo,zq]<;>exact rfl) (by first | rfl | (simp[show ob 8191 13=[true,true,true,true,true,true,true,true,true,true,true,true,true] from rfl,Rn,Ap,Ag,Ba,Ah,Aq,dj,Af,Ab,Aj,Am,Bd,A9,Av,Df];done)) ?_);refine Bi rfl (xo9 rfl rfl ?_);refine Bi rfl (Dt rfl rfl (Ij 0 (b:=true) ?_));refine Bi rfl (Aw (by simp only[zl,zm,zd,Au,List.take,List.drop]<;>exact rfl) (by simp only[Ai,zo,zq]<;>exact rfl) (by first | rfl | (simp[show ob 65535 16=[true,true,true,true,true,true,true,true,true,true,true,true,true,true,true,true] from rfl,Rn,Ap,Ag,Ba,Ah,Aq,dj,Af,Ab,Aj,Am,Bd,A9,Av,Df];done)) ?_);refine Bi rfl (xo5 rfl rfl ?_);refine Bi rfl (xo4 rfl rfl ?_);refine Bi rfl (xo4 rfl rfl ?_);refine Bi rfl (Aw (by simp only[zl,zm,zd,Au,List.take,List.drop,yF,fO,fW,flG]<;>exact rfl) (by simp only[Ai,zo,zq]<;>exact rfl) (by first | rfl | (simp[show ob 1048575 20=[true,true,true,true,true,true,true,true,true,true,true,true,true,true,true,true,true,true,true,true] from rfl,Rn,Ap,Ag,Ba,Ah,Aq,dj,Af,Ab,Aj,Am,Bd,A9,Av,Df];done)) ?_);refine Bi rfl (Aw (by simp only[zl,zm,zd,Au,List.take,List.drop]<;>exact rfl) (by simp only[Ai,zo,zq]<;>exact rfl) (by first | rfl | (simp[show ob 65535 21=[false,false,false,false,false,true,true,true,true,true,true,true,true,true,true,true,true,true,true,true,true] from rfl,Rn,Ap,Ag,Ba,Ah,Aq,dj,Af,Ab,Aj,Am,Bd,A9,Av,Df];done)) ?_);refine Bi rfl (Aw (by simp only[zl,zm,C9,Int.toNat_zero,Int.le_refl]<;>exact rfl) (by simp only[Ai,zo,zq]<;>exact rfl) (by first | rfl | (simp[show ob 4194303 22=[true,true,true,true,true,true,true,true,true,true,true,true,true,true,true,true,true,true,true,true,true,true] from rfl,Rn,Ap,Ag,Ba,Ah,Aq,dj,Af,Ab,Aj,Am,Bd,A9,Av,Df];done)) ?_);refine Bi rfl (xo21 rfl rfl ?_);refine Bi rfl (Aw (by simp only[zl,zm,zd,Au,List.take,List.drop]<;>exact rfl) (by simp only[Ai,zo,zq]<;>exact rfl) (by first | rfl | (simp[show ob 16777215 24=[true,true,true,true,true,true,true,true,true,true,true,true,true,true,true,true,true,true,true,true,true,true,true,true] from rfl,Rn,Ap,Ag,Ba,Ah,Aq,dj,Af,Ab,Aj,Am,Bd,A9,Av,Df];done)) ?_);refine Bi rfl (xo9 rfl rfl ?_);refine Bi rfl (xo5 rfl rfl ?_);refine xo5 rfl rfl ?_;refine Dt rfl rfl (Cw (Ak ?_));refine Cc ?_;refine Bc (Fu (Bz rfl (Ao (Ae (xo1 ?_)))));refine xo1 ?_;apply Ac (by simp only[zo];exact check1 (by omega) _ wM c0 c);refine Ar rfl (Aa (Ak ?_));refine Ae (Al rfl (xo2 ?_));refine Aa (Ak ?_);refine Cc ?_;refine Bc (Bz rfl (Ae (xo1 ?_)));refine xo3 ?_;obtain⟨T,rfl,hWT,hKT,hlT⟩:=hrT;apply Ac (by simp only[zo];exact r9);refine Ar rfl (Aa (Ak ?_));apply Bp;refine⟨_,⟨⟨T.heap,min low T.low⟩,rfl,hWT,(Keep.app _ _).trans hKT,by show min low T.low≤g;omega⟩,?_⟩;refine⟨_,by simp only[F12,A7,Bo,Cv,zg]<;>exact rfl,?_⟩;exact Eo (S:=⟨H,low⟩) (S':=T) _ (by show T.low<H.length;omega) (fun _ _=>rfl)
theorem gen3{d:Nat}(hd:60≤d){H:List Rf}(low:Nat){g gm gt vt nn m k:Nat}(h0:nn≠0)(hn:nn≤1000)(hk:k≤65536)(hm:m≤100000)(hkn:65536<k+nn)(hW:FS H g gm gt vt nn 1 k true m (min k 65536) false false)(c0 c:Option Nat):∃r,(∃T gt',r=(.int .i64 9,T,true)∧FS T.heap g gm gt' 1 nn 1 k true m (min k 65536) false false∧Keep H T.heap∧T.low≤g)∧Bl LP NN d 12 [.ptr g 0 0 0,.int .i64 (0),.sl 12 [shN 1++[.sl 1 (bR [49]) c0]] c] ⟨H,low⟩=some r:=by
 obtain⟨lin,hw,xK⟩:=hW.hw;have hgH:=hW.lt;have yF:∀l,(H++l)[g]?=_:=fun l=>Bu hw l;have wM:=hW.app [⟨28,1,[[.ptr g 0 0 0]],0,0,false⟩,⟨3,1,[[.int .i64 (0)]],0,0,false⟩,⟨45,1,[[.sl 12 [shN 1++[.sl 1 (bR [49]) c0]] c]],0,0,false⟩];obtain⟨d0,rfl⟩:∃e,d=e+1:=⟨d-1,by omega⟩
 obtain⟨rT,hrT,r9⟩:=try_fF (d:=d0) (by omega) H.length wM (f:=41) (caps:=[.ptr H.length 0 0 0,.ptr (H.length+2) 0 0 0,.ptr (H.length+1) 0 0 0]) (fun _=>rfl) (fun H1 lo1 yc yR=>by
  obtain⟨r,⟨T,hr,h1,h2,h3⟩,h4⟩:=gen_fB (d:=d0-1) (by omega) (c0:=c0) (c:=c) h0 hn hk hm (pw:=H.length) (pr:=H.length+2) (pg:=H.length+1) (Ho _ _) (Gr _ _ 2) (Gr _ _ 1) lo1 yc yR
  exact⟨r,⟨T,hr,by rw[decide_eq_true (by omega)]at h1;exact h1,h2,h3⟩,h4⟩)
 refine De (F:=F12) rfl (by simp only[LP,Ay,zs]<;>exact rfl) rfl (by simp only[LP,zf,zm];try rfl) (by simp only[F12,zv]<;>exact rfl) (by omega) ?_;intro d he;obtain rfl:=Nat.succ.inj he;refine Ae (xo6 ?_);refine xo6 ?_;refine xo6 ?_;refine Bj (Aa (Ak ?_));refine Ao (Be (Ae (xo1 ?_)));apply Ac (by simp only[zo];exact Mk (by omega) _ wM);refine Ar rfl (Aa (Ak ?_));refine Cc ?_;refine Ae (xo1 ?_);refine xo3 ?_;refine xo0 ?_;apply Ac (by simp only[zl,zm,zd,Au,List.take,List.drop,yF,fO,fW,flG]<;>exact rfl);refine Ar rfl (Aa (Ak ?_));refine Cc ?_;refine Ao (Gu ?_);refine xo14 rfl ?_;apply A8 (by simp only[zo,Cg,Int.reduceLT]<;>exact rfl) rfl rfl;refine Dt rfl rfl (Ij 0 (b:=false) ?_);refine Bi rfl (Aw (by simp only[zl,zm,zd,Au,List.take,List.drop]<;>exact rfl) (by simp only[Ai,zo,zq]<;>exact rfl) (by first | rfl | (simp[show ob 7 3=[true,true,true] from rfl,Rn,Ap,Ag,Ba,Ah,Aq,dj,Af,Ab,Aj,Am,Bd,A9,Av,Df];done)) ?_);refine Bi rfl (Aw (by simp only[zl,zm,zd,Au,List.take,List.drop]<;>exact rfl) (by simp only[Ai,zo,zq]<;>exact rfl) (by first | rfl | (simp[show ob 7 4=[false,true,true,true] from rfl,Rn,Ap,Ag,Ba,Ah,Aq,dj,Af,Ab,Aj,Am,Bd,A9,Av,Df];done)) ?_);refine Bi rfl (xo5 rfl rfl ?_);refine Bi rfl (xo4 rfl rfl ?_);refine Bi rfl (xo4 rfl rfl ?_);refine Bi rfl (Aw (by simp only[zl,zm,zd,Au,List.take,List.drop,yF,fO,fW,flG]<;>exact rfl) (by simp only[Ai,zo,zq]<;>exact rfl) (by first | rfl | (simp[show ob 247 8=[true,true,true,true,false,true,true,true] from rfl,Rn,Ap,Ag,Ba,Ah,Aq,dj,Af,Ab,Aj,Am,Bd,A9,Av,Df];done)) ?_);refine Bi rfl (A8 (by simp only[zo,Hl]<;>exact rfl) rfl rfl ?_);refine Bi rfl (xo9 rfl rfl ?_);refine xo5 rfl rfl ?_;refine Dt rfl rfl (Ij 0 (b:=false) ?_);refine Bi rfl (Aw (by simp only[zl,zm,zd,Au,List.take,List.drop]<;>exact rfl) (by simp only[Ai,zo,zq]<;>exact rfl) (by first | rfl | (simp[show ob 8191 13=[true,true,true,true,true,true,true,true,true,true,true,true,true] from rfl,Rn,Ap,Ag,Ba,Ah,Aq,dj,Af,Ab,Aj,Am,Bd,A9,Av,Df];done)) ?_);refine Bi rfl (xo9 rfl rfl ?_);refine Bi rfl (Dt rfl rfl (Ij 0 (b:=true) ?_));refine Bi rfl (Aw (by simp only[zl,zm,zd,Au,List.take,List.drop]<;>exact rfl) (by simp only[Ai,zo,zq]<;>exact rfl) (by first | rfl | (simp[show ob 65535 16=[true,true,true,true,true,true,true,true,true,true,true,true,true,true,true,true] from rfl,Rn,Ap,Ag,Ba,Ah,Aq,dj,Af,Ab,Aj,Am,Bd,A9,Av,Df];done)) ?_);refine Bi rfl (xo5 rfl rfl ?_);refine Bi rfl (xo4 rfl rfl ?_);refine Bi rfl (xo4 rfl rfl ?_);refine Bi rfl (Aw (by simp only[zl,zm,zd,Au,List.take,List.drop,yF,fO,fW,flG]<;>exact rfl) (by simp only[Ai,zo,zq]<;>exact rfl) (by first | rfl | (simp[show ob 1048575 20=[true,true,true,true,true,true,true,true,true,true,true,true,true,true,true,true,true,true,true,true] from rfl,Rn,Ap,Ag,Ba,Ah,Aq,dj,Af,Ab,Aj,Am,Bd,A9,Av,Df];done)) ?_);refine Bi rfl (Aw (by simp only[zl,zm,zd,Au,List.take,List.drop]<;>exact rfl) (by simp only[Ai,zo,zq]<;>exact rfl) (by first | rfl | (simp[show ob 65535 21=[false,false,false,false,false,true,true,true,true,true,true,true,true,true,true,true,true,true,true,true,true] from rfl,Rn,Ap,Ag,Ba,Ah,Aq,dj,Af,Ab,Aj,Am,Bd,A9,Av,Df];done)) ?_);refine Bi rfl (Aw (by simp only[zl,zm,C9,Int.toNat_zero,Int.le_refl]<;>exact rfl) (by simp only[Ai,zo,zq]<;>exact rfl) (by first | rfl | (simp[show ob 4194303 22=[true,true,true,true,true,true,true,true,true,true,true,true,true,true,true,true,true,true,true,true,true,true] from rfl,Rn,Ap,Ag,Ba,Ah,Aq,dj,Af,Ab,Aj,Am,Bd,A9,Av,Df];done)) ?_);refine Bi rfl (xo21 rfl rfl ?_);refine Bi rfl (Aw (by simp only[zl,zm,zd,Au,List.take,List.drop]<;>exact rfl) (by simp only[Ai,zo,zq]<;>exact rfl) (by first | rfl | (simp[show ob 16777215 24=[true,true,true,true,true,true,true,true,true,true,true,true,true,true,true,true,true,true,true,true,true,true,true,true] from rfl,Rn,Ap,Ag,Ba,Ah,Aq,dj,Af,Ab,Aj,Am,Bd,A9,Av,Df];done)) ?_);refine Bi rfl (xo9 rfl rfl ?_);refine Bi rfl (xo5 rfl rfl ?_);refine xo5 rfl rfl ?_;refine Dt rfl rfl (Cw (Ak ?_));refine Cc ?_;refine Bc (Fu (Bz rfl (Ao (Ae (xo1 ?_)))));refine xo1 ?_;apply Ac (by simp only[zo];exact check1 (by omega) _ wM c0 c);refine Ar rfl (Aa (Ak ?_));refine Ae (Al rfl (xo2 ?_));refine Aa (Ak ?_);refine Cc ?_;refine Bc (Bz rfl (Ae (xo1 ?_)));refine xo3 ?_;obtain⟨T,rfl,hWT,hKT,hlT⟩:=hrT;apply Ac (by simp only[zo];exact r9);refine Ar rfl (Aa (Ak ?_));apply Bp;refine⟨_,⟨⟨T.heap,min low T.low⟩,_,rfl,hWT,(Keep.app _ _).trans hKT,by show min low T.low≤g;omega⟩,?_⟩;refine⟨_,by simp only[F12,A7,Bo,Cv,zg]<;>exact rfl,?_⟩;exact Eo (S:=⟨H,low⟩) (S':=T) _ (by show T.low<H.length;omega) (fun _ _=>rfl)
theorem gen4{d:Nat}(hd:60≤d){H:List Rf}(low:Nat){g gm gt vt nn m k:Nat}(h0:nn≠0)(hn:nn≤1000)(hk:k≤65536)(hm:m≤100000)(hW:FS H g gm gt vt nn 1 k true m (min k 65536) false false)(c0 c:Option Nat):∃r,(∃T,r=(.int .i64 0,T,true)∧FS T.heap g gm gt vt nn 1 k true (m+1) (min k 65536) false false∧Keep H T.heap∧T.low≤g)∧Bl LP NN d 12 [.ptr g 0 0 0,.int .i64 (-1),.sl 12 [shN 1++[.sl 1 (bR [49]) c0]] c] ⟨H,low⟩=some r:=by
 obtain⟨lin,hw,xK⟩:=hW.hw;have hgH:=hW.lt;have yF:∀l,(H++l)[g]?=_:=fun l=>Bu hw l;have wM:=hW.app [⟨28,1,[[.ptr g 0 0 0]],0,0,false⟩,⟨3,1,[[.int .i64 (-1)]],0,0,false⟩,⟨45,1,[[.sl 12 [shN 1++[.sl 1 (bR [49]) c0]] c]],0,0,false⟩];obtain⟨d0,rfl⟩:∃e,d=e+1:=⟨d-1,by omega⟩
 obtain⟨rT,hrT,r9⟩:=try_fS (d:=d0) (by omega) H.length wM (f:=41) (caps:=[.ptr H.length 0 0 0,.ptr (H.length+2) 0 0 0,.ptr (H.length+1) 0 0 0]) (fun _=>rfl) (fun H1 lo1 yc yR=>by
  obtain⟨r,⟨T,hr,h1,h2,h3⟩,h4⟩:=gen_fC (d:=d0-1) (by omega) (c0:=c0) (c:=c) h0 hn hk hm (pw:=H.length) (pr:=H.length+2) (pg:=H.length+1) (Ho _ _) (Gr _ _ 2) (Gr _ _ 1) lo1 yc yR
  exact⟨r,⟨T,hr,h1,h2,h3⟩,h4⟩)
 refine De (F:=F12) rfl (by simp only[LP,Ay,zs]<;>exact rfl) rfl (by simp only[LP,zf,zm];try rfl) (by simp only[F12,zv]<;>exact rfl) (by omega) ?_;intro d he;obtain rfl:=Nat.succ.inj he;refine Ae (xo6 ?_);refine xo6 ?_;refine xo6 ?_;refine Bj (Aa (Ak ?_));refine Ao (Be (Ae (xo1 ?_)));apply Ac (by simp only[zo];exact Mk (by omega) _ wM);refine Ar rfl (Aa (Ak ?_));refine Cc ?_;refine Ae (xo1 ?_);refine xo3 ?_;refine xo0 ?_;apply Ac (by simp only[zl,zm,zd,Au,List.take,List.drop,yF,fO,fW,flG]<;>exact rfl);refine Ar rfl (Aa (Ak ?_));refine Cc ?_;refine Ao (Gu ?_);refine xo14 rfl ?_;apply A8 (by simp only[zo,Cg,Int.reduceLT]<;>exact rfl) rfl rfl;refine Dt rfl rfl (Ij 0 (b:=false) ?_);refine Bi rfl (Aw (by simp only[zl,zm,zd,Au,List.take,List.drop]<;>exact rfl) (by simp only[Ai,zo,zq]<;>exact rfl) (by first | rfl | (simp[show ob 7 3=[true,true,true] from rfl,Rn,Ap,Ag,Ba,Ah,Aq,dj,Af,Ab,Aj,Am,Bd,A9,Av,Df];done)) ?_);refine Bi rfl (Aw (by simp only[zl,zm,zd,Au,List.take,List.drop]<;>exact rfl) (by simp only[Ai,zo,zq]<;>exact rfl) (by first | rfl | (simp[show ob 7 4=[false,true,true,true] from rfl,Rn,Ap,Ag,Ba,Ah,Aq,dj,Af,Ab,Aj,Am,Bd,A9,Av,Df];done)) ?_);refine Bi rfl (xo5 rfl rfl ?_);refine Bi rfl (xo4 rfl rfl ?_);refine Bi rfl (xo4 rfl rfl ?_);refine Bi rfl (Aw (by simp only[zl,zm,zd,Au,List.take,List.drop,yF,fO,fW,flG]<;>exact rfl) (by simp only[Ai,zo,zq]<;>exact rfl) (by first | rfl | (simp[show ob 247 8=[true,true,true,true,false,true,true,true] from rfl,Rn,Ap,Ag,Ba,Ah,Aq,dj,Af,Ab,Aj,Am,Bd,A9,Av,Df];done)) ?_);refine Bi rfl (A8 (by simp only[zo,Hl]<;>exact rfl) rfl rfl ?_);refine Bi rfl (xo9 rfl rfl ?_);refine xo5 rfl rfl ?_;refine Dt rfl rfl (Ij 0 (b:=false) ?_);refine Bi rfl (Aw (by simp only[zl,zm,zd,Au,List.take,List.drop]<;>exact rfl) (by simp only[Ai,zo,zq]<;>exact rfl) (by first | rfl | (simp[show ob 8191 13=[true,true,true,true,true,true,true,true,true,true,true,true,true] from rfl,Rn,Ap,Ag,Ba,Ah,Aq,dj,Af,Ab,Aj,Am,Bd,A9,Av,Df];done)) ?_);refine Bi rfl (xo9 rfl rfl ?_);refine Bi rfl (Dt rfl rfl (Ij 0 (b:=false) ?_));refine Il rfl rfl (Il rfl rfl (Il rfl rfl (Il rfl rfl (Il rfl rfl (Il rfl rfl (Il rfl rfl (Il rfl rfl (Il rfl rfl (Il rfl rfl (Bi rfl (xo5 rfl rfl ?_)))))))))));refine xo5 rfl rfl ?_;refine Dt rfl rfl (Cw (Ak ?_));apply Di (by simp only[opd,zv]);refine Bc (Fu (Bz rfl (Ao (Ae (xo1 ?_)))));refine xo1 ?_;apply Ac (by simp only[zo];exact check1 (by omega) _ wM c0 c);refine Ar rfl (Aa (Ak ?_));refine Ae (Al rfl (xo2 ?_));refine Aa (Ak ?_);refine Cc ?_;refine Bc (Bz rfl (Ae (xo1 ?_)));refine xo3 ?_;obtain⟨T,rfl,hWT,hKT,hlT⟩:=hrT;apply Ac (by simp only[zo];exact r9);refine Ar rfl (Aa (Ak ?_));apply Bp;refine⟨_,⟨⟨T.heap,min low T.low⟩,rfl,hWT,(Keep.app _ _).trans hKT,by show min low T.low≤g;omega⟩,?_⟩;refine⟨_,by simp only[F12,A7,Bo,Cv,zg]<;>exact rfl,?_⟩;exact Eo (S:=⟨H,low⟩) (S':=T) _ (by show T.low<H.length;omega) (fun _ _=>rfl)
theorem lines_f{d:Nat}(hd:2≤d){H:List Rf}(low:Nat){g gm gt vt nn pg ln:Nat}{rw:Bool}{m k:Nat}{en:Bool}(hW:FS H g gm gt vt nn pg ln rw m k false en)(hl:k≤100000):Bl LP NN d 11 [.ptr g 0 0 0] ⟨H,low⟩=some (G9 (flL k),⟨H,low⟩,false):=by
 obtain⟨lin,hw,xK⟩:=hW.hw;refine Ee (F:=F11) rfl (by simp only[LP,Ay,zs]<;>exact rfl) rfl (by simp only[LP,zf,zm];try rfl) (by simp only[F11,zv]<;>exact rfl) (by omega) ?_;rintro d rfl;refine Ae (Bj (Aa (Ak ?_)));refine Ao (Ae (Al rfl (Ac (by simp only[zo];exact Mk (by omega) _ hW) ?_)));refine Aa (Ak ?_);refine Cc ?_;refine Bc (Bz rfl (Ae (Al rfl (xo3 ?_))));refine xo0 ?_;refine xo0 ?_;apply Ac (by simp only[zl,zm,zd,Au,List.take,List.drop,hw,fO,fW]<;>exact rfl);apply Ac (by simp only[zo];exact oclone_run (by omega) _ xK (by rw[Ih];exact hl));apply Ac (by simp only[zo];exact clip_slB (by omega) _ _);refine Ar rfl (Aa (Ak ?_));apply Bp;refine⟨_,by simp only[F11,A7,Bo,Cv,zg]<;>exact rfl,?_⟩;exact E5 _ _ _ _ (Nat.le_refl _) (clipR_free _) (clipR_snap _)
theorem total_f{d:Nat}(hd:2≤d){H:List Rf}(low:Nat){g gm gt vt nn pg ln:Nat}{rw:Bool}{m k:Nat}{en:Bool}(hW:FS H g gm gt vt nn pg ln rw m k false en):Bl LP NN d 25 [.ptr g 0 0 0,.int .i64 0] ⟨H,low⟩=some (.tup [dcD m,.int .i64 0],⟨H,low⟩,false):=by
 obtain⟨lin,hw,xK⟩:=hW.hw;have yF:∀l,(H++l)[g]?=_:=fun l=>Bu hw l;have vK:∀l,(H++l)[gt]?=_:=fun l=>Bu hW.ht l;have wM:=hW.app [⟨57,3,[[.bool false,.str ⟨#[]⟩,.int .i64 0]],0,0,false⟩];refine Ee (F:=F25) rfl (by simp only[LP,Ay,zs]<;>exact rfl) rfl (by simp only[LP,zf,zm];try rfl) (by simp only[F25,zv]<;>exact rfl) (by omega) ?_;rintro d rfl;refine Ae (xo8 ?_);refine Bj (Aa (Ak ?_));refine Ao (Be (Ae (Al rfl (Ac (by simp only[zo];exact Mk (by omega) _ wM) ?_))));refine Ar rfl (Aa (Ak ?_));refine Cc ?_;refine Ae (Al rfl (Oq ?_));refine Ar rfl (Ej 0 (b:=false) ?_);refine Bb rfl (Al rfl (Bb rfl (Al rfl (Bb rfl (xo3 ?_)))));refine Bb rfl (xo0 ?_);refine Bb rfl (xo0 ?_);refine Bb rfl (Ac (by simp only[zl,zm,zd,Au,List.take,List.drop,yF,fO,fW]<;>exact rfl) ?_);refine Bb rfl (Ac (by simp only[zo,lenD_msl]<;>exact rfl) ?_);refine Bb rfl (xo2 ?_);refine xo3 ?_;refine Ar rfl (Aa (Ak ?_));refine Cc ?_;refine Bc (Fu (Bz rfl (Ae (Al rfl (xo3 ?_)))));refine xo0 ?_;refine xo0 ?_;apply Ac (by simp only[zl,zm,zd,Au,List.take,List.drop,yF,fO,fW]<;>exact rfl);refine Al rfl (Ac (by simp only[zl,zm,Dc,Int.toNat_zero,Int.le_refl,vK,fT,dcR]<;>exact rfl) ?_);apply Ac (by simp only[zl,zm,zd,Au,List.take,List.drop,vK,fT,dcR]<;>exact rfl);refine Ot ?_;refine Bj (Aa (Ak ?_));apply Bp;refine⟨_,by simp only[F25,A7,Bo,Cv,zg,zd,rowsOf,Au,List.take,List.drop,zm,Ho]<;>exact rfl,?_⟩;exact E5 _ _ _ _ (Nat.le_refl _) rfl (fun m H=>by simp[Hq,Ay,Ro,snap,Cn])
theorem term_ff{d:Nat}(hd:60≤d){H:List Rf}(low:Nat){g gm gt vt nn m k:Nat}(hW:FS H g gm gt vt nn 1 k true m (min k 65536) false false):∃r,(∃T,r=(.int .i64 0,T,true)∧FS T.heap g gm gt vt nn 1 k true 0 (min k 65536) false true)∧Bl LP NN d 17 [.ptr g 0 0 0] ⟨H,low⟩=some r:=by
 obtain⟨lin,hw,xK⟩:=hW.hw;have hgH:=hW.lt;have yF:∀l,(H++l)[g]?=_:=fun l=>Bu hw l;have wM:=hW.app [⟨28,1,[[.ptr g 0 0 0]],0,0,false⟩];obtain⟨d0,rfl⟩:∃e,d=e+1:=⟨d-1,by omega⟩;obtain⟨rT,hrT,r9⟩:=try_fS (d:=d0) (by omega) H.length wM (f:=58) (caps:=[.ptr H.length 0 0 0]) (fun _=>rfl) (fun H1 lo1 yc yR=>term_f (d:=d0-1) (by omega) (pw:=H.length) (Ho _ _) lo1 yc yR);refine De (F:=F17) rfl (by simp only[LP,Ay,zs]<;>exact rfl) rfl (by simp only[LP,zf,zm];try rfl) (by simp only[F17,zv]<;>exact rfl) (by omega) ?_;intro d he;obtain rfl:=Nat.succ.inj he;refine Ae (xo6 ?_);refine Bj (Aa (Ak ?_));refine Ao (Be (Ae (xo1 ?_)));apply Ac (by simp only[zo];exact Mk (by omega) _ wM);refine Ar rfl (Aa (Ak ?_));refine Cc ?_;refine Ae (xo1 ?_);refine xo3 ?_;refine xo0 ?_;apply Ac (by simp only[zl,zm,zd,Au,List.take,List.drop,yF,fO,fW]<;>exact rfl);refine Ar rfl (Aa (Ak ?_));refine Cc ?_;refine Bc (Fu (Bz rfl (Ae (xo1 ?_))));refine xo3 ?_;obtain⟨T,rfl,hWT,hKT,hlT⟩:=hrT;obtain⟨linT,hwT,hlinT⟩:=hWT.hw;have hpT:=hKT.2 _ _ (Ho H [⟨28,1,[[.ptr g 0 0 0]],0,0,false⟩]) (.inl ⟨rfl,by simp⟩);apply Ac (by simp only[zo];exact r9);refine Ar rfl (Aa (Ak ?_));refine Ae (Ac (by simp only[zl,zm,zd,Au,List.take,List.drop,hpT]<;>exact rfl) ?_);refine Al rfl (xo2 ?_);refine xo3 ?_;refine xo0 ?_;apply Ac (by simp only[zl,zm,Ca,overlay,zs,zc,zf,List.take,List.drop,fO,fW,hwT]<;>exact rfl);refine Aa (Ak ?_);refine Ae (Al rfl (Ar rfl (Aa (Ak ?_))));apply Bp;refine⟨_,⟨⟨_,min low (min T.low g)⟩,rfl,hWT.set 1 k true linT (min k 65536) false true hlinT⟩,?_⟩;refine⟨_,by simp only[F17,A7,Bo,Cv,zg]<;>exact rfl,?_⟩;exact Eo (S:=⟨H,low⟩) (S':=⟨_,min T.low g⟩) _ (by show min T.low g<H.length;omega) (fun _ _=>rfl)
def o37 (rows:List D):Rf:=⟨37,7,[rows],0,0,false⟩
def fRZ:List D:=[.sl 11 [shN 1] (some 1),.R4,.int .i64 0,.int .i64 0,.int .i64 0,.R4,.sl 2 flT (some 1)]
def o71 (l:D):Rf:=⟨71,4,[[.int .u8 4,.int .i64 0,.bool false,l]],0,0,false⟩
def GL:Nat→List Rf
 | 0=>[o37 fRZ,o71 .R4]
 | i+1=>[o37 fRZ,o71 (.msl 2 i 0 (i+1) none),⟨74,2,flN (i+1),i,1,true⟩]
theorem flN_succ(i:Nat):flN (i+1)=flN i++[[.int .i64 1,.R4]]:=by simp[flN,List.replicate_succ']
theorem app_gl(i:Nat)(hi:i≤1000):Ct 74 2 32 1 (.msl 2 i 0 (i+1) none) (.sl 2 [[.int .i64 1,.R4]] (some 1)) ⟨GL (i+1),0⟩=some (.msl 2 (i+1) 0 (i+1+1) none,⟨[o37 fRZ,o71 (.msl 2 i 0 (i+1) none),⟨74,2,flN (i+1+1),i+1,1,true⟩],0⟩,true):=by
 have hl:(flN (i+1)).length=i+1:=by simp[flN]
 have hb:(i+1+1)*32≤140737488355328:=by omega
 simp[Ct,GL,rowsOf,Co,Bt,setAt,hl,hb,flN_succ (i+1)]
theorem lit71(call:Bf)(j:Nat):Az call (.Ry 71 4 1 [.int .u8 0,.int .i64 0,.bool false,.R4] [0] 1) [.agg [.int .u8 4,.int .i64 0,.bool false,.msl 2 j 0 (j+1) none]] ⟨GL (j+1),0⟩=some (.sl 4 [[.int .u8 4,.int .i64 0,.bool false,.sl 2 (flN (j+1)) none]] (some 1),⟨GL (j+1),0⟩,false):=by
 have hl:(flN (j+1)).take (j+1)=flN (j+1):=List.take_of_length_le (by simp[flN]);simp[Az,aop,LOp.loud,lop,GL,Ay,Ro,Cn,snap,hl,Cr,D.val,D.cells,D.Ru,D.free,D.Rv]
def FQ (K:List Rf) (g gm gt vt nn i:Nat):Prop:=(i=0∧FS K g gm gt vt nn 0 0 false 0 0 false false)∨(1≤i∧FS K g gm gt vt nn 1 (i*nn) true i (i*nn) false false)
theorem eqd_self(a:ByteArray):Bv [2,1,0] [.bool false,.str a,.int .i64 0] [.bool false,.str a,.int .i64 0]=some true:=by
 have h:(a==a)=true:=by
  cases a with
  | mk d=>exact beq_self_eq_true d
 simp[Bv,isKey,Eh,h]
theorem gen_q{d:Nat}(hd:60≤d){K:List Rf}(low:Nat){g gm gt vt nn i:Nat}(h0:nn≠0)(hn:nn≤1000)(hi:(i+1)*nn≤65536)(yG:i≤100000)(hQ:FQ K g gm gt vt nn i)(c0 c:Option Nat):∃r,(∃T,r=(.int .i64 0,T,true)∧FQ T.heap g gm gt vt nn (i+1))∧Bl LP NN d 12 [.ptr g 0 0 0,.int .i64 0,.sl 12 [shN 1++[.sl 1 (bR [49]) c0]] c] ⟨K,low⟩=some r:=by
 rcases hQ with⟨rfl,h⟩ | ⟨h1,h⟩
 ·
  obtain⟨r,⟨T,hr,hF,_⟩,hc⟩:=gen1 hd low (m:=0) (k:=0) h0 hn (by omega) h c0 c;exact⟨r,⟨T,hr,.inr ⟨by omega,by simpa using hF⟩⟩,hc⟩
 have hk:(i+1)*nn=i*nn+nn:=Nat.succ_mul i nn;have h':FS K g gm gt vt nn 1 (i*nn) true i (min (i*nn) 65536) false false:=by rw[Nat.min_eq_left (by omega)];exact h
 obtain⟨r,⟨T,hr,hF,_⟩,hc⟩:=gen2 hd low h0 hn (by omega) yG (by omega) h' c0 c;refine⟨r,⟨T,hr,.inr ⟨by omega,?_⟩⟩,hc⟩;rw[hk];rw[Nat.min_eq_left (by omega)]at hF;exact hF
theorem clipR_len{k:Nat}(hk:k≠0):Jr false (G9 (flL k))=some (.int .i64 (k:Nat)):=by
 rw[clipR_ne (by intro h;have:=congrArg List.length h;rw[Ih]at this;exact hk this)];simp[Jr,Ih]
theorem num1(d:Nat)(S:St):F6 LP NN (d+12) 27 [.int .i64 1] S=some (.agg (shN 1),S,false):=by kernel_rfl
theorem law7_run{d:Nat}(hd:62≤d)(S:St)(h:Nat)(hh:h<65536):Bl LP NN d 7 [.int .u16 (h:Nat)] S=some (.bool true,S,false):=by
 obtain⟨nn,hnn⟩:∃n,700+h % 300=n:=⟨_,rfl⟩;have uG:700≤nn∧nn<1000:=by omega
 obtain⟨q,hq⟩:∃q,65536 / nn=q:=⟨_,rfl⟩
 have hq1:q*nn≤65536∧65536<q*nn+nn:=by
  have h1:=Nat.div_add_mod 65536 nn;have h2:=Nat.mod_lt 65536 (show nn>0 by omega);have h3:=Nat.mul_comm nn q;rw[hq]at h1;omega
 have hq2:1≤q∧q≤100:=by
  constructor
  ·
   rw[←hq];exact (Nat.le_div_iff_mul_le (by omega)).2 (by omega)
  rw[←hq];exact Nat.div_le_of_le_mul (by omega)
 have hnum:∀S,Bl LP NN (d-1) 27 [.int .i64 1] S=some (.agg (shN 1),S,false):=fun S=>by
  obtain⟨e,rfl⟩:∃e,d=e+13:=⟨d-13,by omega⟩;exact fast_ok (num1 e S)
 have hmod:((h:Nat):Int).tmod 300=((h % 300:Nat):Int):=rfl;have hcv:IntKind.i64.wrap ((h % 300:Nat):Int)=((h % 300:Nat):Int):=by rw[IntKind.wrap_i64]<;>omega
 have hnz:((((nn:Nat):Int))≠0)=True:=eq_true (by omega);have hquo:(65536:Int).tdiv ((nn:Nat):Int)=((q:Nat):Int):=by rw[←hq];rfl
 have hwq:IntKind.i64.wrap ((q:Nat):Int)=((q:Nat):Int):=by rw[IntKind.wrap_i64]<;>omega
 have xw:IntKind.i64.wrap (700+((h % 300:Nat):Int))=((nn:Nat):Int):=by rw[IntKind.wrap_i64]<;>omega
 refine rq (F:=F7) rfl (by simp only[LP,Ay,zs]<;>exact rfl) (by simp only[F7,zv]<;>exact rfl) ?_;rintro d rfl;have xQ:=aI hmod (aI hcv (aI xw (aI hnz (aI hquo (hwq)))));refine Ae (Bj (Aa (Ak ?_)));refine Ae (Al rfl (Ac (by simp only[zo,Cg,zb,Int.reduceEq,xQ]<;>exact rfl) ?_));apply Ac (by simp only[zo,xQ]<;>exact rfl);refine xo24 ?_;refine Ar rfl (Aa (Ak ?_));refine Ae (Ac (by simp only[zo];exact hnum _) ?_);apply Ac (by simp only[zl,zm,List.replicate,Ay,zs]<;>exact rfl);apply Ac (by simp only[zo,Gn,zc,zm]<;>exact rfl);refine xo17 ?_;refine xo7 ?_;refine xo8 ?_;refine Ot ?_;refine Aa (Ak ?_);refine Ae (xo7 ?_);refine xo8 ?_;refine Ot ?_;refine Aa (Ak ?_);refine Ao (Ae (Bj (Aa (Ak ?_))));refine Be (Fv (fun n env S'=>∃(i:Nat) (u1 u6 u7 u8 u9 u10 u11 u12 u13 u14 u15 u16:D),i≤nn∧n=nn-i∧S'=⟨GL i,0⟩∧env=[.int .u16 (h:Nat),u1,.int .i64 (nn:Nat),.ptr 0 0 0 0,.ptr 1 0 0 0,.int .i64 (i:Nat),u6,u7,u8,u9,u10,u11,u12,u13,u14,u15,u16]) (nn) (by omega) (⟨0,_,_,_,_,_,_,_,_,_,_,_,_,by omega,by omega,rfl,rfl⟩) ?_);rintro n env S' ⟨i,u1,u6,u7,u8,u9,u10,u11,u12,u13,u14,u15,u16,hi,hnA,rfl,rfl⟩;refine Ao (Ae (Al rfl (Al rfl (xo2 ?_))));refine Aa (Ak ?_);refine Ep (by simp only[opd,zv]<;>exact rfl) (fun zK=>?_) (fun zK=>?_)
 ·
  have yt:i<nn:=by have:=of_decide_eq_true zK;omega
  rcases i with _ | i
  ·
   have qE:IntKind.i64.wrap (((0:Nat):Int)+1)=((0+1:Nat):Int):=by decide
   refine Bc (Bz rfl (Ao (Be (Br (Ac (by simp only[zo,Cb,zm,GL,o71,o37]<;>exact rfl) ?_)))));refine xo1 ?_;refine xo7 ?_;refine xo17 ?_;apply Ac (by simp only[opd,zv,Az,aop,LOp.loud,lop,if_true];exact rfl);refine xo0 ?_;refine xo29 ?_;refine Aa (Fu (Ak ?_));refine Br (Al rfl (Ac (by simp only[zo,Cg,qE]<;>exact rfl) ?_));refine Ar rfl (Aa (Pb (by simp only[ze]<;>exact rfl) ?_));exact⟨nn-(0+1),by omega,0+1,_,_,_,_,_,_,_,_,_,_,_,_,by omega,rfl,rfl,rfl⟩
  have qE:=Gf (i+1) (by omega);refine Bc (Bz rfl (Ao (Be (Br (Ac (by simp only[zo,Cb,zm,GL,o71,o37]<;>exact rfl) ?_)))));refine xo1 ?_;refine xo7 ?_;refine xo17 ?_;apply Ac (by simp only[opd,zv,Az,aop,LOp.loud,lop,if_true];exact app_gl i (by omega));apply Ac (by simp only[zo,Cb,zm,o71,o37]<;>exact rfl);refine xo29 ?_;refine Aa (Fu (Ak ?_));refine Br (Al rfl (Ac (by simp only[zo,Cg,qE]<;>exact rfl) ?_));refine Ar rfl (Aa (Pb (by simp only[ze]<;>exact rfl) ?_));exact⟨nn-(i+1+1),by omega,i+1+1,_,_,_,_,_,_,_,_,_,_,_,_,by omega,rfl,rfl,rfl⟩
 have hine:nn=i:=by have:=of_decide_eq_false zK;omega
 subst hine;obtain⟨j,rfl⟩:∃j,nn=j+1:=⟨nn-1,by omega⟩;refine Cs (Gc (Mq (Gd (Bz rfl (Ae (Ac (by simp only[zl,zm,zd,Au,List.take,List.drop,GL,o71,o37,fRZ]<;>exact rfl) ?_))))));apply Ac (by simp only[opd,zv];exact lit71 _ j);apply Ac (by simp only[zo,Cb,zm,GL,o71,o37,fRZ]<;>exact rfl);refine xo29 ?_;refine Aa (Ak ?_);refine Ae (xo1 ?_);obtain⟨rN,⟨SN,g,gm,gt,rfl,hWN,hKN,hgN⟩,hcN⟩:=new_f (d:=d) (by omega) [⟨37,7,[fR0 (flN (j+1))],0,0,false⟩,o71 (.msl 2 j 0 (j+1) none),⟨74,2,flN (j+1),j,1,true⟩] 0 (j+1) (by omega) (by omega);obtain⟨KN,loN⟩:=SN;apply Ac (by simp only[zo];exact hcN);refine Ar rfl (xo23 ?_);refine xo20 ?_;refine Ar rfl (Ar rfl (Aa (Ak ?_)));refine Ao (Ae (Al rfl (xo2 ?_)));refine Aa (Ak ?_);refine Cc ?_;refine Bc (Bz rfl (Ae (Ac (by simp only[zo];exact hnum _) ?_)));apply Ac (by simp only[zl,zm,Cr,List.replicate,Ay,zs,zc,zf]<;>exact rfl);apply Ac (by simp only[zl,zm,Oy]<;>exact rfl);apply Ac (by simp only[zo,Gn,overlay,zc,List.take,Nat.reduceAdd,Nat.reduceLeDiff,zm]<;>exact rfl);apply Ac (by simp only[zl,zm,List.replicate,Ay,zs]<;>exact rfl);refine Ar rfl (Aa (Ak ?_));refine Ao (Ae (Bj (Aa (Ak ?_))));refine Be (Fv (fun n env S'=>∃(i:Nat) (K:List Rf) (lo:Nat) (u1 u5 u7 u10 u11 u12 u13 u14 u15 u16:D),i≤q∧FQ K g gm gt 0 (j+1) i∧n=q-i∧S'=⟨K,lo⟩∧env=[.int .u16 (h:Nat),u1,.int .i64 (j+1:Nat),.ptr 0 0 0 0,.ptr 1 0 0 0,u5,.ptr g 0 0 0,u7,.sl 12 [shN 1++[.sl 1 (bR [49]) (some 1)]] (some 1),.int .i64 (i+1:Nat),u10,u11,u12,u13,u14,u15,u16]) (q) (by omega) (⟨0,_,_,_,_,_,_,_,_,_,_,_,_,by omega,.inl ⟨rfl,hWN.app [⟨5,1,[[.int .u8 49]],1,2,false⟩]⟩,by omega,rfl,rfl⟩) ?_);rintro n env S' ⟨i,K,lo,u1,u5,u7,u10,u11,u12,u13,u14,u15,u16,yG,hQ,hnB,rfl,rfl⟩;refine Ao (Ae (Al rfl (Al rfl (Ac (by simp only[zo,Cg,zb,xQ]<;>exact rfl) ?_))));refine xo2 ?_;refine Aa (Ak ?_);refine Ep (by simp only[opd,zv]<;>exact rfl) (fun rA=>?_) (fun rA=>?_)
 ·
  have qV:i+1≤q:=by have:=of_decide_eq_true rA;omega
  have hwi2:=Gf (i+1) (by omega);have hmul:(i+1)*(j+1)≤65536:=Nat.le_trans (Nat.mul_le_mul_right _ qV) hq1.1;refine Bc (Bz rfl (Ao (Be (Ae (Al rfl (Al rfl ?_))))));obtain⟨rG,⟨TG,rfl,hQn⟩,hcG⟩:=gen_q (d:=d) (by omega) lo (by omega) (by omega) hmul (by omega) hQ (some 1) (some 1);obtain⟨HG,loG⟩:=TG;apply Ac (by simp only[zo];exact hcG);refine xo2 ?_;refine Aa (Ak ?_);refine Cc ?_;refine Bc (Fu (Bz rfl (Br (Al rfl (Ac (by simp only[zo,Cg,hwi2]<;>exact rfl) ?_)))));refine Ar rfl (Aa (Pb (by simp only[ze]<;>exact rfl) ?_));exact⟨q-(i+1),by omega,i+1,_,_,_,_,_,_,_,_,_,_,_,_,by omega,hQn,rfl,rfl,rfl⟩
 have hiq:i=q:=by have:=of_decide_eq_false rA;omega
 have hFq:FS K g gm gt 0 (j+1) 1 (q*(j+1)) true q (min (q*(j+1)) 65536) false false:=by
  rcases hQ with⟨h,_⟩ | ⟨_,h⟩
  ·
   omega
  rw[Nat.min_eq_left (by omega)];rw[hiq]at h;exact h
 obtain⟨r3,⟨T3,gt',rfl,hW3,_,_⟩,hc3⟩:=gen3 (d:=d) (by omega) lo (by omega) (by omega) hq1.1 (by omega) hq1.2 hFq (some 1) (some 1);obtain⟨H3,lo3⟩:=T3
 replace hW3:FS H3 g gm gt' 1 (j+1) 1 (q*(j+1)) true q (min (q*(j+1)) 65536) false false:=hW3
 have r9:=total_f (d:=d) (by omega) lo3 hW3;have hcI:∀S,Bl LP NN d 26 [.int .i64 (q:Nat)] S=some (dcD q,S,false):=fun S=>int_run (by omega) S q (by omega);have hW3b:=hW3.app [⟨57,3,[dcR q],0,0,false⟩];have hcL:=lines_f (d:=d) (by omega) (min lo3 H3.length) hW3b (by omega);rw[show min (q*(j+1)) 65536=q*(j+1) by omega]at hcL;have hlC:=clipR_len (k:=q*(j+1)) (by have:=Nat.mul_le_mul_right (j+1) hq2.1;omega);have hEQ:Bv [2,1,0] [.bool false,.str (mkS (dgs q)),.int .i64 0] [.bool false,.str (mkS (dgs q)),.int .i64 0]=some true:=eqd_self _;have hwm:IntKind.i64.wrap (((q:Nat):Int)*((j+1:Nat):Int))=((q*(j+1):Nat):Int):=by rw[←Int.natCast_mul,IntKind.wrap_i64]<;>omega
 have hbq:(((q*(j+1):Nat):Int)==((q*(j+1):Nat):Int))=true:=by simp
 obtain⟨r4,⟨T4,rfl,hW4,_,_⟩,hc4⟩:=gen4 (d:=d) (by omega) (min lo3 H3.length) (by omega) (by omega) hq1.1 (by omega) hW3b (some 1) (some 1);obtain⟨H4,lo4⟩:=T4;obtain⟨r5,⟨T5,rfl,_⟩,hc5⟩:=term_ff (d:=d) (by omega) lo4 hW4;refine Cs (Gc (Mq (Gd (Bz rfl (Ae (Al rfl (Al rfl (Ac (by simp only[zo];exact hc3) ?_))))))));refine Ar rfl (Aa (Ak ?_));refine Ae (Al rfl (Ac (by simp only[zo];exact r9) ?_));refine Ar rfl (Ac (by simp only[zo,Lz,dcD]<;>exact rfl) ?_);apply Ac (by simp only[zo,Lz,Ls_,dcD]<;>exact rfl);apply Ac (by simp only[zl,zm,dcD]<;>exact rfl);apply Ac (by simp only[zl,zm,Ca,overlay,Cn,zs,zc,zf,List.take,List.drop,dcD]<;>exact rfl);refine Ar rfl (Aa (Ak ?_));refine Ao (Du (by simp only[Ce,zw,Nat.reduceAdd]<;>exact rfl) (by simp only[zw]<;>exact rfl) ?_);refine Cf rfl rfl (xo9 rfl rfl ?_);refine Dt rfl rfl (Ij 0 (b:=true) ?_);refine Bi rfl (Cf rfl rfl (Bi rfl (xo9 rfl rfl ?_)));refine xo5 rfl rfl ?_;refine Dt rfl rfl (Ij 0 (b:=true) ?_);refine Bi rfl (Aw (by simp only[zl,zm,zd,Au,List.take,List.drop]<;>exact rfl) (by simp only[Ai,zo,zq]<;>exact rfl) (by first | rfl | (simp[show ob 127 7=[true,true,true,true,true,true,true] from rfl,Rn,Ap,Ag,Ba,Ah,Aq,dj,Af,Ab,Aj,Am,Bd,A9,Av,Df];done)) ?_);refine Bi rfl (Cf rfl rfl (Bi rfl (A8 (by simp only[zo,Cg,zb,xQ]<;>exact rfl) rfl rfl ?_)));refine Bi rfl (Aw (by simp only[zo];exact hcI _) (by simp only[Ai,zo,zq]<;>exact rfl) (by first | rfl | (simp[show ob 895 10=[true,true,false,true,true,true,true,true,true,true] from rfl,Rn,Ap,Ag,Ba,Ah,Aq,dj,Af,Ab,Aj,Am,Bd,A9,Av,Df];done)) ?_);refine Bi rfl (A8 (by simp only[zo];exact congrArg (Option.map fun b=>(D.bool (b != false),_,false)) hEQ) rfl rfl ?_);apply A8 (by simp only[zo,dcD]<;>exact rfl) rfl rfl;refine Dt rfl rfl (Oc 0 (b:=true) (by simp only[zv,dcD]<;>rfl) (by simp only[zn]<;>exact rfl) ?_);refine Bi rfl (Cf rfl rfl (Bi rfl (Aw (by simp only[zo,dcD];exact hcL) (by simp only[Ai,zo,zq]<;>exact rfl) (by first | rfl | (simp[show ob 32767 15=[true,true,true,true,true,true,true,true,true,true,true,true,true,true,true] from rfl,Rn,Ap,Ag,Ba,Ah,Aq,dj,Af,Ab,Aj,Am,Bd,A9,Av,Df];done)) ?_)));refine Bi rfl (A8 (by simp only[opd,zv,Az,aop,LOp.loud,pop,if_false,Bool.false_eq_true];exact congrArg (Option.map fun r=>(r,_,false)) hlC) rfl rfl ?_);refine Bi rfl (Cf rfl rfl (Bi rfl (A8 (by simp only[zo,Cg,zb,xQ,dcD,dcR]<;>exact rfl) rfl rfl ?_)));refine Bi rfl (Cf rfl rfl (Bi rfl (A8 (by simp only[zo,Cg,hwm,dcD]<;>exact rfl) rfl rfl ?_)));refine Bi rfl (A8 (by simp only[zo,Cg,hbq,dcD]<;>exact rfl) rfl rfl ?_);apply A8 (by simp only[zo,dcD]<;>exact rfl) rfl rfl;refine Dt rfl rfl (Oc 0 (b:=true) (by simp only[zv,dcD]<;>rfl) (by simp only[zn]<;>exact rfl) ?_);refine Bi rfl (Cf rfl rfl (Bi rfl (Cf rfl rfl (Bi rfl (Aw (by simp only[zo,dcD];exact hc4) (by simp only[Ai,zo,zq]<;>exact rfl) (by first | rfl | (simp[show ob 67108863 26=[true,true,true,true,true,true,true,true,true,true,true,true,true,true,true,true,true,true,true,true,true,true,true,true,true,true] from rfl,Rn,Ap,Ag,Ba,Ah,Aq,dj,Af,Ab,Aj,Am,Bd,A9,Av,Df];done)) ?_)))));refine Bi rfl (A8 (by simp only[zo,Cg,dcD]<;>exact rfl) rfl rfl ?_);apply A8 (by simp only[zo,dcD]<;>exact rfl) rfl rfl;refine Dt rfl rfl (Oc 0 (b:=true) (by simp only[zv,dcD]<;>rfl) (by simp only[zn]<;>exact rfl) ?_);refine Bi rfl (Cf rfl rfl (Bi rfl (Aw (by simp only[zo,dcD];exact hc5) (by simp only[Ai,zo,zq]<;>exact rfl) (by first | rfl | (simp[show ob 2147483647 31=[true,true,true,true,true,true,true,true,true,true,true,true,true,true,true,true,true,true,true,true,true,true,true,true,true,true,true,true,true,true,true] from rfl,Rn,Ap,Ag,Ba,Ah,Aq,dj,Af,Ab,Aj,Am,Bd,A9,Av,Df];done)) ?_)));refine Bi rfl (A8 (by simp only[zo,Cg,dcD]<;>exact rfl) rfl rfl ?_);apply A8 (by simp only[zo,dcD]<;>exact rfl) rfl rfl;refine Dt rfl rfl (Oc 0 (b:=true) (by simp only[zv,dcD]<;>rfl) (by simp only[zn]<;>exact rfl) ?_);refine Bi rfl (Aw (by simp only[zo,dcD];exact lives_run _ _ (by omega)) (by simp only[Ai,zo,zq]<;>exact rfl) (by first | rfl | (simp[show ob 34359738367 35=[true,true,true,true,true,true,true,true,true,true,true,true,true,true,true,true,true,true,true,true,true,true,true,true,true,true,true,true,true,true,true,true,true,true,true] from rfl,Rn,Ap,Ag,Ba,Ah,Aq,dj,Af,Ab,Aj,Am,Bd,A9,Av,Df];done)) ?_);apply A8 (by simp only[zo,dcD]<;>exact rfl) rfl rfl;refine Dt rfl rfl (Cw (Ak ?_));apply Bp;refine⟨_,by simp only[F7,A7,Bo,Cv,zg]<;>exact rfl,?_⟩;rfl
open Go.ChangeShapes Go.WideShapes Go.ChangeAt Go.RowKit
set_option maxRecDepth 100000
theorem own:ownKnob Tryz.prog.godebug=none:=by kernel_rfl
theorem laidOut:laidOutB Tryz.prog=true:=by kernel_rfl
theorem ty4:Tryz.prog.underlying 4=some .bool:=by kernel_rfl
theorem ty22:Tryz.prog.underlying 22=some (.int .u16):=by kernel_rfl
theorem u16_nat{n:Int}(h:(Lit.int .u16 n).wf=true):∃m:Nat,n=m∧m<65536:=by
  have b:0≤n∧n≤65535:=by simpa [Lit.wf,IntKind.min,IntKind.max,IntKind.signed,IntKind.bits] using h
  exact⟨n.toNat,by omega,by omega⟩
def Mg:List (String × DataW Unit):=Rows.reportsLinesRow.laid
theorem door_met(os:Os)(args:Array Value):laidMetH Tryz.prog Mg ((World.laidAll Tryz.prog os Mg).forCall (fun _ _=>0) ⟨#[],args,[]⟩).memory:=by
  rw[MakeChecks.laidMetH_plain _ _ _ (by kernel_rfl)];exact laidMet_laidAll _ (by kernel_rfl) (by kernel_rfl)
theorem CM.cells(x:CM):x.row.all D.Ru=true:=rfl
theorem glob_ok{W:World}(h:laidMetH Tryz.prog Mg W):GlobOK GT W:=by
  rw[MakeChecks.laidMetH_plain _ _ _ (by kernel_rfl)]at h;intro g row hg;unfold GT at hg;split at hg
  · cases hg;exact Q7 h (x:=(Mg[2]'(by decide))) (List.getElem_mem _) (n:=3) (t:=((Tryz.prog.globals[1]?).map (·.type)).getD 0) (by kernel_rfl) (by kernel_rfl) (by kernel_rfl) (by kernel_rfl)
  · cases hg;exact Q7 h (x:=(Mg[6]'(by decide))) (List.getElem_mem _) (n:=3) (t:=((Tryz.prog.globals[2]?).map (·.type)).getD 0) (by kernel_rfl) (by kernel_rfl) (by kernel_rfl) (by kernel_rfl)
  · cases hg;exact Q7 h (x:=(Mg[8]'(by decide))) (List.getElem_mem _) (n:=3) (t:=((Tryz.prog.globals[3]?).map (·.type)).getD 0) (by kernel_rfl) (by kernel_rfl) (by kernel_rfl) (by kernel_rfl)
  · cases hg;exact Q7 h (x:=(Mg[7]'(by decide))) (List.getElem_mem _) (n:=3) (t:=((Tryz.prog.globals[4]?).map (·.type)).getD 0) (by kernel_rfl) (by kernel_rfl) (by kernel_rfl) (by kernel_rfl)
  cases hg
end Go.Proofs.YtbhnlppboegmjaaGreatDoor
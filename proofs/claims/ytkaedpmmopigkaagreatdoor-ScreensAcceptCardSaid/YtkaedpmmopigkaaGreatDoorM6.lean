/- Proved here: parts of the proof, joined (K44, K45, K46, K47, K48, K49, K50, K51, K52, K53, K54, K55, K56, K57, K58, ScP): an abstract machine, its soundness, what functions of the program compute in it; no condition. -/
import Derived.Test.YtkaedpmmopigkaaGreatDoorTie
import Derived.WalkKit
import Derived.ProofKit
import Derived.OpenShut
import Derived.ShutString
import Derived.ChangeOld
import Derived.Below
import Derived.LaidMore
import Derived.Lay
import Derived.SevenTiedAt
import Derived.Stop.Joined
import Derived.Test.YtkaedpmmopigkaaGreatDoorM5
namespace Go.Proofs.YtkaedpmmopigkaaGreatDoor
set_option linter.unusedSimpArgs false
set_option linter.unusedVariables false
set_option maxRecDepth 100000
set_option maxHeartbeats 4000000
theorem n1:((1:Nat):Int)=1:=rfl
theorem m32:(⟨#[32]⟩:ByteArray)=mkS [32]:=rfl
theorem m45:(⟨#[45]⟩:ByteArray)=mkS [45]:=rfl
theorem m43:(⟨#[43]⟩:ByteArray)=mkS [43]:=rfl
theorem m46:(⟨#[46]⟩:ByteArray)=mkS [46]:=rfl
theorem take1{l:List UInt8}{b:UInt8}(h:b∉l):(l.take 1==[b])=false:=by
 cases l with
 | nil=>rfl
 | cons c l =>
  rw[beq_eq_false_iff_ne]
  intro e
  simp only[List.take_succ_cons,List.take_zero,List.cons.injEq,and_true]at e
  exact h (by rw[e];exact List.mem_cons_self)
theorem one_ne{l:List UInt8}{b:UInt8}(h:b∉l):([b]==l)=false:=by
 rw[beq_eq_false_iff_ne]
 intro e
 exact h (by rw[←e];exact List.mem_singleton.2 rfl)
theorem idx_none{l:List UInt8}{b:UInt8}(h:b∉l):(List.range l.length).find? (fun i=>(mkS l)[i]! == b)=none:=by
 rw[List.find?_eq_none]
 intro i hi
 rw[List.mem_range]at hi
 rw[Bool.not_eq_true,beq_eq_false_iff_ne]
 intro e
 have h1:(mkS l)[i]! = l[i]:=by
  rw[getElem!_pos (mkS l) i (by rw[Cs];exact hi)]
  simp[mkS,ByteArray.getElem_eq_getElem_data]
 exact h (by rw[←e,h1];exact List.getElem_mem hi)
theorem hasP_run{d:Nat}(hd:1≤d)(S:St){l:List UInt8}{b:UInt8}(hb:b∉l)(hl:l.length≤1000000):Az LP NN d 149 [.str (mkS l),.str (mkS [b])] S=some (.bool false,S,false):=by
 refine run_pure (F:=F149) rfl (by simp only[LP,Al,zs]<;>exact rfl) rfl (by simp only[LP,zf,zm];try rfl) (by simp only[F149,zv]<;>exact rfl) (by omega) ?_
 rintro d rfl
 refine Ad (Ap (Aa (Af ?_)))
 refine Ad (Ac rfl (Km ?_))
 refine Ac rfl (Ab (by simp only[zo,Eh,Cs,List.length_singleton]<;>exact rfl) ?_)
 refine xo1 ?_
 refine Ae rfl ?_
 refine Dr 0 (by simp only[zv]<;>exact rfl) (by simp only[zn]<;>exact rfl) (by simp only[zn]<;>exact rfl) (fun hg=>?_) (fun hg=>?_)
 ·
  refine Ai rfl (Ac rfl (Ai rfl (Ac rfl (Ai rfl (Ab (by simp only[zo,Eh,Cs,List.length_singleton]<;>exact rfl) ?_)))))
  refine Ai rfl (Ab (by simp only[opd,zv,Ba,aop,LOp.loud,Bool.false_eq_true,if_false];rw[Rw _ l 1 _ rfl (by have:=of_decide_eq_true hg;omega)];exact rfl) ?_)
  refine Ai rfl (Ac rfl (Ai rfl (Ab (by simp only[zo,Bh,Dy]<;>exact rfl) ?_)))
  refine xo0 ?_
  refine Ae rfl (Aa (Af ?_))
  refine Av ?_
  refine⟨_,by simp only[F149,Ak,Bb,Cb,zg]<;>exact rfl,?_⟩
  rw[take1 hb];rfl
 refine Ao rfl rfl (Ao rfl rfl (Ao rfl rfl (Ao rfl rfl (Ao rfl rfl (Ao rfl rfl (xo0 ?_))))))
 refine Ae rfl (Aa (Af ?_))
 refine Av ?_
 refine⟨_,by simp only[F149,Ak,Bb,Cb,zg]<;>exact rfl,?_⟩
 rfl
theorem cutP4_run{d:Nat}(hd:2≤d)(S:St){l:List UInt8}{b:UInt8}(hb:b∉l)(hl:l.length≤1000000):Az LP NN d 104 [.str (mkS l),.str (mkS [b])] S=some (.tup [.str (mkS l),.bool false],S,false):=by
 refine run_pure (F:=F104) rfl (by simp only[LP,Al,zs]<;>exact rfl) rfl (by simp only[LP,zf,zm];try rfl) (by simp only[F104,zv]<;>exact rfl) (by omega) ?_
 rintro d rfl
 refine Ad (Ap (Ap (Aa (Af ?_))))
 refine Ag (Ad (Ac rfl (Ac rfl (Ab (by simp only[zo];exact hasP_run (by omega) _ hb hl) ?_))))
 refine xo9 ?_
 refine Aa (Af ?_)
 refine Eo ?_
 refine Ad (Ac rfl (Ae rfl (Ap (Aa (Af ?_)))))
 refine Av (D5 ?_)
 refine⟨_,by simp only[F104,Ak,Bb,Cb,zg]<;>exact rfl,?_⟩
 rfl
theorem cutP_run{d:Nat}(hd:3≤d)(S:St){l:List UInt8}{b:UInt8}(hb:b∉l)(hl:l.length≤1000000):Az LP NN d 62 [.str (mkS l),.str (mkS [b])] S=some (.tup [.str (mkS l),.bool false],S,false):=by
 refine run_pure (F:=F62) rfl (by simp only[LP,Al,zs]<;>exact rfl) rfl (by simp only[LP,zf,zm];try rfl) (by simp only[F62,zv]<;>exact rfl) (by omega) ?_
 rintro d rfl
 refine Ad (Ap (Ap (Aa (Af ?_))))
 refine Ad (Ac rfl (Ac rfl (Ab (by simp only[zo];exact cutP4_run (by omega) _ hb hl) ?_)))
 refine xo7 ?_
 refine xo4 ?_
 refine Ae rfl (Ae rfl (Aa (Af ?_)))
 refine Av ?_
 refine⟨_,by simp only[F62,Ak,Bb,Cb,zg]<;>exact rfl,?_⟩
 rfl
theorem trimP3_run{d:Nat}(hd:2≤d)(S:St){l:List UInt8}{b:UInt8}(hb:b∉l)(hl:l.length≤1000000):Az LP NN d 163 [.str (mkS l),.str (mkS [b])] S=some (.str (mkS l),S,false):=by
 refine run_pure (F:=F163) rfl (by simp only[LP,Al,zs]<;>exact rfl) rfl (by simp only[LP,zf,zm];try rfl) (by simp only[F163,zv]<;>exact rfl) (by omega) ?_
 rintro d rfl
 refine Ad (Ap (Aa (Af ?_)))
 refine Ag (Ad (Ac rfl (Ac rfl (Ab (by simp only[zo];exact hasP_run (by omega) _ hb hl) ?_))))
 refine Aa (Af ?_)
 refine Ca ?_
 refine Aj (Bd rfl (Ad (Ac rfl (Ae rfl (Aa (Af ?_))))))
 refine Av ?_
 refine⟨_,by simp only[F163,Ak,Bb,Cb,zg]<;>exact rfl,?_⟩
 rfl
theorem Rt{d:Nat}(hd:3≤d)(S:St){l:List UInt8}{b:UInt8}(hb:b∉l)(hl:l.length≤1000000):Az LP NN d 126 [.str (mkS l),.str (mkS [b])] S=some (.str (mkS l),S,false):=by
 refine run_pure (F:=F126) rfl (by simp only[LP,Al,zs]<;>exact rfl) rfl (by simp only[LP,zf,zm];try rfl) (by simp only[F126,zv]<;>exact rfl) (by omega) ?_
 rintro d rfl
 refine Ad (Ap (Aa (Af ?_)))
 refine Ad (Ac rfl (Ac rfl (Ab (by simp only[zo];exact trimP3_run (by omega) _ hb hl) ?_)))
 refine Ae rfl (Aa (Af ?_))
 refine Av ?_
 refine⟨_,by simp only[F126,Ak,Bb,Cb,zg]<;>exact rfl,?_⟩
 rfl
theorem u8n(b:UInt8):UInt8.ofNat ((b.toNat:Int)).toNat=b:=by rw[Int.toNat_natCast];exact UInt8.ofNat_toNat
theorem idxB_run{d:Nat}(hd:1≤d)(S:St){l:List UInt8}{b:UInt8}(hb:b∉l):Az LP NN d 150 [.str (mkS l),.int .u8 (b.toNat:Nat)] S=some (.int .i64 (-1),S,false):=by
 refine run_pure (F:=F150) rfl (by simp only[LP,Al,zs]<;>exact rfl) rfl (by simp only[LP,zf,zm];try rfl) (by simp only[F150,zv]<;>exact rfl) (by omega) ?_
 rintro d rfl
 refine Ad (Ap (Aa (Af ?_)))
 refine Ad (Ac rfl (Ac rfl (Ab (by simp only[zo,Cs,u8n,idx_none hb]<;>exact rfl) ?_)))
 refine Ae rfl (Aa (Af ?_))
 refine Av ?_
 refine⟨_,by simp only[F150,Ak,Bb,Cb,zg]<;>exact rfl,?_⟩
 rfl
theorem idx_run{d:Nat}(hd:2≤d)(S:St){l:List UInt8}{b:UInt8}(hb:b∉l):Az LP NN d 123 [.str (mkS l),.str (mkS [b])] S=some (.int .i64 (-1),S,false):=by
 refine run_pure (F:=F123) rfl (by simp only[LP,Al,zs]<;>exact rfl) rfl (by simp only[LP,zf,zm];try rfl) (by simp only[F123,zv]<;>exact rfl) (by omega) ?_
 rintro d rfl
 refine Ad (Ap (Aa (Af ?_)))
 refine Ad (Ac rfl (Ab (by simp only[zo,Eh,Cs,n1,List.length_singleton]<;>exact rfl) ?_))
 refine Ae rfl (Aa (Af ?_))
 refine Ag (Aq (Ad (Ac rfl (xo1 ?_))))
 refine Ae rfl (Ce 0 (b:=false) ?_)
 refine Ai rfl (Ac rfl (Ai rfl (Ac rfl (Ai rfl (Ab (by simp only[zo,Bh,Dy,one_ne hb]<;>exact rfl) ?_)))))
 refine xo0 ?_
 refine Ae rfl (Aa (Af ?_))
 refine Ca ?_
 refine Ad (Ac rfl (xo1 ?_))
 refine Ae rfl (Aa (Af ?_))
 refine Eo ?_
 refine Ad (Ac rfl (Ac rfl (Ab (by simp only[zo,Ee,zm,Dp]<;>exact rfl) ?_)))
 refine Ab (by simp only[zo];exact idxB_run (by omega) _ hb) ?_
 refine Ae rfl (Aa (Af ?_))
 refine Av (G9 (D5 ?_))
 refine⟨_,by simp only[F123,Ak,Bb,Cb,zg,zm]<;>exact rfl,?_⟩
 rfl
theorem cut5_run{d:Nat}(hd:3≤d)(S:St){l:List UInt8}{b:UInt8}(hb:b∉l):Az LP NN d 105 [.str (mkS l),.str (mkS [b])] S=some (.tup [.str (mkS l),.str ⟨#[]⟩,.bool false],S,false):=by
 refine run_pure (F:=F105) rfl (by simp only[LP,Al,zs]<;>exact rfl) rfl (by simp only[LP,zf,zm];try rfl) (by simp only[F105,zv]<;>exact rfl) (by omega) ?_
 rintro d rfl
 refine Ad (Ap (Ap (Ap (Aa (Af ?_)))))
 refine Ag (Ad (Ac rfl (Ac rfl (Ab (by simp only[zo];exact idx_run (by omega) _ hb) ?_))))
 refine Ae rfl (Aa (Af ?_))
 refine Ad (Ac rfl (xo1 ?_))
 refine Aa (Af ?_)
 refine Ca ?_
 refine Aj (Bd rfl (Ad (Ac rfl (Ae rfl (Ap (Ap (Aa (Af ?_))))))))
 refine Av ?_
 refine⟨_,by simp only[F105,Ak,Bb,Cb,zg]<;>exact rfl,?_⟩
 rfl
theorem cut_run{d:Nat}(hd:4≤d)(S:St){l:List UInt8}{b:UInt8}(hb:b∉l):Az LP NN d 63 [.str (mkS l),.str (mkS [b])] S=some (.tup [.str (mkS l),.str ⟨#[]⟩,.bool false],S,false):=by
 refine run_pure (F:=F63) rfl (by simp only[LP,Al,zs]<;>exact rfl) rfl (by simp only[LP,zf,zm];try rfl) (by simp only[F63,zv]<;>exact rfl) (by omega) ?_
 rintro d rfl
 refine Ad (Ap (Ap (Ap (Aa (Af ?_)))))
 refine Ad (Ac rfl (Ac rfl (Ab (by simp only[zo];exact cut5_run (by omega) _ hb) ?_)))
 refine xo7 ?_
 refine xo4 ?_
 refine xo4 ?_
 refine Ae rfl (Ae rfl (Ae rfl (Aa (Af ?_))))
 refine Av ?_
 refine⟨_,by simp only[F63,Ak,Bb,Cb,zg]<;>exact rfl,?_⟩
 rfl
theorem Qt(b:UInt8)(l:List UInt8):(Es b l).length≤l.length:=by
 unfold Es
 rw[List.length_reverse]
 have:=(List.dropWhile_suffix (·==b) (l:=l.reverse)).length_le
 rw[List.length_reverse]at this
 exact this
def trimB (l:List UInt8):List UInt8:=D9 32 (Es 32 l)
theorem Kq(l:List UInt8):(trimB l).length≤l.length:=Nat.le_trans (List.dropWhile_suffix _).length_le (Qt 32 l)
theorem D8{l:List UInt8}{c:UInt8}(h:c∈trimB l):c∈l:=by
 have h1:=(List.dropWhile_suffix (·==(32:UInt8)) (l:=Es 32 l)).subset h
 unfold Es at h1
 rw[List.mem_reverse]at h1
 exact List.mem_reverse.1 ((List.dropWhile_suffix _).subset h1)
theorem Jv{d:Nat}(hd:2≤d)(S:St){l:List UInt8}(hl:l.length≤1000000):Az LP NN d 85 [.str (mkS l),.str ⟨#[32]⟩] S=some (.str (mkS (trimB l)),S,false):=by
 refine run_pure (F:=F85) rfl (by simp only[LP,Al,zs]<;>exact rfl) rfl (by simp only[LP,zf,zm];try rfl) (by simp only[F85,zv]<;>exact rfl) (by omega) ?_
 rintro d rfl
 refine Ad (Ap (Aa (Af ?_)))
 refine Ag (Ad (Ac rfl (Ab (by simp only[zo,Bh,Dy,Er,m32]<;>exact rfl) ?_)))
 refine Ae rfl ?_
 refine Dr 0 (by simp only[zv]<;>exact rfl) (by simp only[zn]<;>exact rfl) (by simp only[zn]<;>exact rfl) (fun hg=>?_) (fun hg=>?_)
 ·
  refine Ao rfl rfl (Ao rfl rfl (Ab (by simp only[zo,m32]<;>exact rfl) ?_))
  refine Aa (Af ?_)
  refine Em (by simp only[opd,zv,m32]) ?_
  refine Ad (Ac rfl (Ae rfl (Aa (Af ?_))))
  refine Av (D5 ?_)
  refine⟨_,by simp only[F85,Ak,Bb,Cb,zg]<;>exact rfl,?_⟩
  obtain rfl:=(eqNil l).1 hg
  rfl
 refine Ai rfl (Ac rfl (Ai rfl (Ab (by simp only[zo,Bh,Dy,Er,m32]<;>exact rfl) ?_)))
 refine Ab (by simp only[zo,m32]<;>exact rfl) ?_
 refine Aa (Af ?_)
 refine Bz (by simp only[opd,zv,m32]<;>rfl) ?_
 refine Aj (Bd rfl (Ag (Ad (Ac rfl (Ab (by simp only[zo,Eh,Cs,m32,List.length_cons,List.length_nil]<;>exact rfl) ?_)))))
 refine Ab (by simp only[zo,Bh,m32]<;>exact rfl) ?_
 refine Ae rfl (Ig 0 (b:=true) (by simp only[zv,m32]<;>rfl) (by simp only[zn]<;>exact rfl) ?_)
 refine Ai rfl (Ac rfl (Ai rfl (Ab (by simp only[zo,Ee,zm,m32,Dp]<;>exact rfl) ?_)))
 refine Ai rfl (Ab (by simp only[zo,Bh,m32]<;>exact rfl) ?_)
 refine Ab (by simp only[zo,m32]<;>exact rfl) ?_
 refine Aa (Af ?_)
 refine Em (by simp only[opd,zv,m32]<;>rfl) ?_
 refine Ag (Ey ?_)
 refine Bq rfl rfl (Bq rfl rfl (Bp (by simp only[zo,Ee,m32,Dp]<;>exact rfl) rfl rfl ?_))
 refine Ck (by simp only[zo,m32];exact trimRx_run (by omega) _ 32 l hl) rfl ?_
 refine Bq rfl rfl (Bp (by simp only[zo,Ee,m32,Dp]<;>exact rfl) rfl rfl ?_)
 refine Ck (by simp only[zo,m32];exact Ps (by omega) _ 32 (Es 32 l) (Nat.le_trans (Qt 32 l) hl)) rfl ?_
 refine Dq rfl rfl (Cw (Af ?_))
 refine Av (D5 ?_)
 refine⟨_,by simp only[F85,Ak,Bb,Cb,zg]<;>exact rfl,?_⟩
 rfl
theorem parse_bad{d:Nat}(hd:6≤d)(S:St){l:List UInt8}(hl:l.length≤1000)(hm:(45:UInt8)∉l)(hp:(43:UInt8)∉l)(hq:(46:UInt8)∉l)(hn:Ez l=false):Az LP NN d 84 [.str (mkS l)] S=some (.tup [.agg [.bool false,.str ⟨#[]⟩,.int .i64 0],.int .i64 4],S,false):=by
 refine run_pure (F:=F84) rfl (by simp only[LP,Al,zs]<;>exact rfl) rfl (by simp only[LP,zf,zm];try rfl) (by simp only[F84,zv]<;>exact rfl) (by omega) ?_
 rintro d rfl
 refine Ad (xo8 ?_)
 refine Ap (Aa (Af ?_))
 refine Ag (Ad (Ac rfl (Km ?_)))
 refine xo1 ?_
 refine Aa (Af ?_)
 refine Bz (by simp only[opd,zv]<;>(rw[decide_eq_false (by omega:¬((l.length:Nat):Int)>1000)])) ?_
 refine Aj (Bd rfl (Ad (Ac rfl (Ab (by simp only[zo,m45];exact cutP_run (by omega) _ hm (by omega)) ?_))))
 refine Ae rfl (xo7 ?_)
 refine xo4 ?_
 refine Ae rfl (Ae rfl (Aa (Af ?_)))
 refine Ag (Ad (Ac rfl (Ab (by simp only[zo,unD,Bool.not_false]<;>exact rfl) ?_)))
 refine Aa (Af ?_)
 refine Eo ?_
 refine Ar (Ac rfl (Ab (by simp only[zo,m43];exact Rt (by omega) _ hp (by omega)) ?_))
 refine Ae rfl (Aa (Af ?_))
 refine Ad (Ac rfl (Ab (by simp only[zo,m46];exact cut_run (by omega) _ hq) ?_))
 refine Ae rfl (xo7 ?_)
 refine xo4 ?_
 refine xo4 ?_
 refine Ae rfl (Ae rfl (Ae rfl (Aa (Af ?_))))
 refine Ag (Ad (Ac rfl (Ae rfl (Ce 0 (b:=false) ?_))))
 refine Ao rfl rfl (Ao rfl rfl (xo0 ?_))
 refine Ae rfl (Ai rfl (Ac rfl (Ai rfl (Ac rfl (Ai rfl (Ab (by simp only[zo,Bh,Qy,Jt,Cs,List.append_nil];rw[if_neg (by rw[show IntKind.i64.max=9223372036854775807 from rfl];simp only[List.length_nil];omega)];exact rfl) ?_))))))
 refine Ai rfl (Ab (by simp only[zo];exact Nt (by omega) _ l (by omega)) ?_)
 refine Ai rfl (Ab (by simp only[zo,unD,Bool.not_false,hn]<;>exact rfl) ?_)
 refine Ab (by simp only[zo,hn]<;>exact rfl) ?_
 refine Aa (Af ?_)
 refine Eo ?_
 refine Ad (Ab (by simp only[zo,Hf,Nat.reduceAdd,zm]<;>exact rfl) ?_)
 refine xo40 ?_
 refine Ap (Aa (Af ?_))
 refine Av (D5 ?_)
 refine⟨_,by simp only[F84,Ak,Bb,Cb,zg,zd,rowsOf,Be,List.take,List.drop,zm]<;>exact rfl,?_⟩
 rfl
theorem dparse_run{d:Nat}(hd:6≤d)(S:St){l:List UInt8}(hl:l.length≤1000)(hm:(45:UInt8)∉l)(hp:(43:UInt8)∉l)(hq:(46:UInt8)∉l)(hn:Ez l=true)(uT:(Cv l).length≤62):Az LP NN d 84 [.str (mkS l)] S=some (.tup [.agg [.bool false,.str (mkS (strip l)),.int .i64 0],.int .i64 0],S,false):=by
 refine run_pure (F:=F84) rfl (by simp only[LP,Al,zs]<;>exact rfl) rfl (by simp only[LP,zf,zm];try rfl) (by simp only[F84,zv]<;>exact rfl) (by omega) ?_
 rintro d rfl
 refine Ad (xo8 ?_)
 refine Ap (Aa (Af ?_))
 refine Ag (Ad (Ac rfl (Km ?_)))
 refine xo1 ?_
 refine Aa (Af ?_)
 refine Bz (by simp only[opd,zv]<;>(rw[decide_eq_false (by omega:¬((l.length:Nat):Int)>1000)])) ?_
 refine Aj (Bd rfl (Ad (Ac rfl (Ab (by simp only[zo,m45];exact cutP_run (by omega) _ hm (by omega)) ?_))))
 refine Ae rfl (xo7 ?_)
 refine xo4 ?_
 refine Ae rfl (Ae rfl (Aa (Af ?_)))
 refine Ag (Ad (Ac rfl (Ab (by simp only[zo,unD,Bool.not_false]<;>exact rfl) ?_)))
 refine Aa (Af ?_)
 refine Eo ?_
 refine Ar (Ac rfl (Ab (by simp only[zo,m43];exact Rt (by omega) _ hp (by omega)) ?_))
 refine Ae rfl (Aa (Af ?_))
 refine Ad (Ac rfl (Ab (by simp only[zo,m46];exact cut_run (by omega) _ hq) ?_))
 refine Ae rfl (xo7 ?_)
 refine xo4 ?_
 refine xo4 ?_
 refine Ae rfl (Ae rfl (Ae rfl (Aa (Af ?_))))
 refine Ag (Ad (Ac rfl (Ae rfl (Ce 0 (b:=false) ?_))))
 refine Ao rfl rfl (Ao rfl rfl (xo0 ?_))
 refine Ae rfl (Ai rfl (Ac rfl (Ai rfl (Ac rfl (Ai rfl (Ab (by simp only[zo,Bh,Qy,Jt,Cs,List.append_nil];rw[if_neg (by rw[show IntKind.i64.max=9223372036854775807 from rfl];simp only[List.length_nil];omega)];exact rfl) ?_))))))
 refine Ai rfl (Ab (by simp only[zo];exact Nt (by omega) _ l (by omega)) ?_)
 refine Ai rfl (Ab (by simp only[zo,unD,hn]<;>exact rfl) ?_)
 refine Ab (by simp only[zo,hn]<;>exact rfl) ?_
 refine Aa (Af ?_)
 refine Ca ?_
 refine Aj (Bd rfl (Ad (Ac rfl (Ac rfl (Ac rfl (Ab (by simp only[zo,Bh,Qy,Jt,Cs,List.append_nil];rw[if_neg (by rw[show IntKind.i64.max=9223372036854775807 from rfl];simp only[List.length_nil];omega)];exact rfl) ?_))))))
 refine Ac rfl (Ab (by simp only[zo,Eh]<;>exact rfl) ?_)
 refine Ab (by simp only[zo];exact Px (by omega) _ false l hl uT) ?_
 refine xo7 ?_
 refine xo4 ?_
 refine xo40 ?_
 refine Ae rfl (Aa (Af ?_))
 refine Av ?_
 refine⟨_,by simp only[F84,Ak,Bb,Cb,zg,zd,rowsOf,Be,List.take,List.drop,zm]<;>exact rfl,?_⟩
 rfl
theorem parse_big{d:Nat}(hd:6≤d)(S:St){l:List UInt8}(hl:l.length≤1000)(hm:(45:UInt8)∉l)(hp:(43:UInt8)∉l)(hq:(46:UInt8)∉l)(hn:Ez l=true)(uT:62<(Cv l).length):Az LP NN d 84 [.str (mkS l)] S=some (.tup [.agg [.bool false,.str ⟨#[]⟩,.int .i64 0],.int .i64 14],S,false):=by
 refine run_pure (F:=F84) rfl (by simp only[LP,Al,zs]<;>exact rfl) rfl (by simp only[LP,zf,zm];try rfl) (by simp only[F84,zv]<;>exact rfl) (by omega) ?_
 rintro d rfl
 refine Ad (xo8 ?_)
 refine Ap (Aa (Af ?_))
 refine Ag (Ad (Ac rfl (Km ?_)))
 refine xo1 ?_
 refine Aa (Af ?_)
 refine Bz (by simp only[opd,zv]<;>(rw[decide_eq_false (by omega:¬((l.length:Nat):Int)>1000)])) ?_
 refine Aj (Bd rfl (Ad (Ac rfl (Ab (by simp only[zo,m45];exact cutP_run (by omega) _ hm (by omega)) ?_))))
 refine Ae rfl (xo7 ?_)
 refine xo4 ?_
 refine Ae rfl (Ae rfl (Aa (Af ?_)))
 refine Ag (Ad (Ac rfl (Ab (by simp only[zo,unD,Bool.not_false]<;>exact rfl) ?_)))
 refine Aa (Af ?_)
 refine Eo ?_
 refine Ar (Ac rfl (Ab (by simp only[zo,m43];exact Rt (by omega) _ hp (by omega)) ?_))
 refine Ae rfl (Aa (Af ?_))
 refine Ad (Ac rfl (Ab (by simp only[zo,m46];exact cut_run (by omega) _ hq) ?_))
 refine Ae rfl (xo7 ?_)
 refine xo4 ?_
 refine xo4 ?_
 refine Ae rfl (Ae rfl (Ae rfl (Aa (Af ?_))))
 refine Ag (Ad (Ac rfl (Ae rfl (Ce 0 (b:=false) ?_))))
 refine Ao rfl rfl (Ao rfl rfl (xo0 ?_))
 refine Ae rfl (Ai rfl (Ac rfl (Ai rfl (Ac rfl (Ai rfl (Ab (by simp only[zo,Bh,Qy,Jt,Cs,List.append_nil];rw[if_neg (by rw[show IntKind.i64.max=9223372036854775807 from rfl];simp only[List.length_nil];omega)];exact rfl) ?_))))))
 refine Ai rfl (Ab (by simp only[zo];exact Nt (by omega) _ l (by omega)) ?_)
 refine Ai rfl (Ab (by simp only[zo,unD,hn]<;>exact rfl) ?_)
 refine Ab (by simp only[zo,hn]<;>exact rfl) ?_
 refine Aa (Af ?_)
 refine Ca ?_
 refine Aj (Bd rfl (Ad (Ac rfl (Ac rfl (Ac rfl (Ab (by simp only[zo,Bh,Qy,Jt,Cs,List.append_nil];rw[if_neg (by rw[show IntKind.i64.max=9223372036854775807 from rfl];simp only[List.length_nil];omega)];exact rfl) ?_))))))
 refine Ac rfl (Ab (by simp only[zo,Eh]<;>exact rfl) ?_)
 refine Ab (by simp only[zo];exact normal_big (by omega) _ false l hl uT) ?_
 refine xo7 ?_
 refine xo4 ?_
 refine xo40 ?_
 refine Ae rfl (Aa (Af ?_))
 refine Av ?_
 refine⟨_,by simp only[F84,Ak,Bb,Cb,zg,zd,rowsOf,Be,List.take,List.drop,zm]<;>exact rfl,?_⟩
 rfl
theorem repB_one(b:UInt8):∀k,repB (mkS [b]) k=List.replicate k b
 | 0=>rfl
 | k+1=>by rw[repB,repB_one b k];rfl
theorem Qv{d:Nat}(hd:1≤d)(S:St)(b:UInt8)(k:Nat)(hk:k≤1000):Az LP NN d 58 [.str (mkS [b]),.int .i64 (k:Nat)] S=some (.str (mkS (List.replicate k b)),S,false):=by
 obtain⟨d,rfl⟩:∃d',d=d'+1:=⟨d-1,by omega⟩
 have h:LP.ext 58 [.str (mkS [b]),.int .i64 (k:Nat)]=some (.str (mkS (List.replicate k b))):=by
  show (if 0≤((k:Nat):Int)∧((k:Nat):Int)≤9223372036854775807∧(mkS [b]).size*((k:Nat):Int).toNat≤140737488355328 then some (D.str ⟨(repB (mkS [b]) ((k:Nat):Int).toNat).toArray⟩) else none)=_
  rw[if_pos ⟨by omega,by omega,by rw[Cs,Int.toNat_natCast];simp;omega⟩,Int.toNat_natCast,repB_one]
  rfl
 simp only[Az,h]
theorem trimZ_run{d:Nat}(hd:2≤d)(S:St){l:List UInt8}(hl:l.length≤1000000):Az LP NN d 85 [.str (mkS l),.str ⟨#[48]⟩] S=some (.str (mkS (D9 48 (Es 48 l))),S,false):=by
 refine run_pure (F:=F85) rfl (by simp only[LP,Al,zs]<;>exact rfl) rfl (by simp only[LP,zf,zm];try rfl) (by simp only[F85,zv]<;>exact rfl) (by omega) ?_
 rintro d rfl
 refine Ad (Ap (Aa (Af ?_)))
 refine Ag (Ad (Ac rfl (Ab (by simp only[zo,Bh,Dy,Er,m48]<;>exact rfl) ?_)))
 refine Ae rfl ?_
 refine Dr 0 (by simp only[zv]<;>exact rfl) (by simp only[zn]<;>exact rfl) (by simp only[zn]<;>exact rfl) (fun hg=>?_) (fun hg=>?_)
 ·
  refine Ao rfl rfl (Ao rfl rfl (Ab (by simp only[zo,m48]<;>exact rfl) ?_))
  refine Aa (Af ?_)
  refine Em (by simp only[opd,zv,m48]) ?_
  refine Ad (Ac rfl (Ae rfl (Aa (Af ?_))))
  refine Av (D5 ?_)
  refine⟨_,by simp only[F85,Ak,Bb,Cb,zg]<;>exact rfl,?_⟩
  obtain rfl:=(eqNil l).1 hg
  rfl
 refine Ai rfl (Ac rfl (Ai rfl (Ab (by simp only[zo,Bh,Dy,Er,m48]<;>exact rfl) ?_)))
 refine Ab (by simp only[zo,m48]<;>exact rfl) ?_
 refine Aa (Af ?_)
 refine Bz (by simp only[opd,zv,m48]<;>rfl) ?_
 refine Aj (Bd rfl (Ag (Ad (Ac rfl (Ab (by simp only[zo,Eh,Cs,m48,List.length_cons,List.length_nil]<;>exact rfl) ?_)))))
 refine Ab (by simp only[zo,Bh,m48]<;>exact rfl) ?_
 refine Ae rfl (Ig 0 (b:=true) (by simp only[zv,m48]<;>rfl) (by simp only[zn]<;>exact rfl) ?_)
 refine Ai rfl (Ac rfl (Ai rfl (Ab (by simp only[zo,Ee,zm,m48,Dp]<;>exact rfl) ?_)))
 refine Ai rfl (Ab (by simp only[zo,Bh,m48]<;>exact rfl) ?_)
 refine Ab (by simp only[zo,m48]<;>exact rfl) ?_
 refine Aa (Af ?_)
 refine Em (by simp only[opd,zv,m48]<;>rfl) ?_
 refine Ag (Ey ?_)
 refine Bq rfl rfl (Bq rfl rfl (Bp (by simp only[zo,Ee,m48,Dp]<;>exact rfl) rfl rfl ?_))
 refine Ck (by simp only[zo,m48];exact trimRx_run (by omega) _ 48 l hl) rfl ?_
 refine Bq rfl rfl (Bp (by simp only[zo,Ee,m48,Dp]<;>exact rfl) rfl rfl ?_)
 refine Ck (by simp only[zo,m48];exact Ps (by omega) _ 48 (Es 48 l) (Nat.le_trans (Qt 48 l) hl)) rfl ?_
 refine Dq rfl rfl (Cw (Af ?_))
 refine Av (D5 ?_)
 refine⟨_,by simp only[F85,Ak,Bb,Cb,zg]<;>exact rfl,?_⟩
 rfl
theorem dcut_run{d:Nat}(hd:7≤d)(S:St){neg:Bool}{l:List UInt8}(h:Nrm neg l):Az LP NN d 131 [.agg [.bool neg,.str (mkS l),.int .i64 0],.int .i64 0] S=some (.tup [.agg [.bool neg,.str (mkS l),.int .i64 0],.bool true,.int .i64 0],S,false):=by
 refine run_pure (F:=F131) rfl (by simp only[LP,Al,Bw,zs,zm]<;>exact rfl) rfl (by simp only[LP,zf,zm];try rfl) (by simp only[F131,zv]<;>exact rfl) (by omega) ?_
 rintro d rfl
 refine Ad (Jj ?_)
 refine xo8 ?_
 refine Ap (Ap (Aa (Af ?_)))
 refine Ag (Ad (xo3 ?_))
 refine Ab (by simp only[zo];exact Ju (by omega) _ neg l h) ?_
 refine Ae rfl (Aa (Af ?_))
 refine Ad (Ac rfl (xo1 ?_))
 refine Aa (Af ?_)
 refine Ca ?_
 refine Aj (Bd rfl (Ag (Ad (Ac rfl (xo5 ?_)))))
 refine xo3 ?_
 refine xo1 ?_
 refine Aa (Af ?_)
 refine Eo ?_
 refine Ad (xo3 ?_)
 refine Kn ?_
 refine Ap (Ap (Aa (Af ?_)))
 refine Av (D5 ?_)
 refine⟨_,by simp only[F131,Ak,Bb,Cb,zg,zd,rowsOf,Be,List.take,List.drop,zm]<;>exact rfl,?_⟩
 simp only[Dv,leave,Al,Bw,zs,zf,zk]
theorem rchk_run{d:Nat}(hd:7≤d)(S:St){neg:Bool}{l:List UInt8}(h:Nrm neg l)(n:Nat)(h1:1≤n)(h2:n≤62):Az LP NN d 165 [.agg [.bool neg,.str (mkS l),.int .i64 0],.int .i64 (n:Nat),.int .i64 0] S=some (.int .i64 0,S,false):=by
 have uK:decide (((n:Nat):Int)<1)=false:=decide_eq_false (by omega)
 have qE:decide (((n:Nat):Int)>62)=false:=decide_eq_false (by omega)
 refine run_pure (F:=F165) rfl (by simp only[LP,Al,Bw,zs,zm]<;>exact rfl) rfl (by simp only[LP,zf,zm];try rfl) (by simp only[F165,zv]<;>exact rfl) (by omega) ?_
 rintro d rfl
 refine Ad (Jj ?_)
 refine Ap (Aa (Af ?_))
 refine Ag (Ad (xo3 ?_))
 refine Ab (by simp only[zo];exact Ju (by omega) _ neg l h) ?_
 refine xo1 ?_
 refine Ae rfl (Ce 0 (b:=false) ?_)
 refine Ai rfl (Ac rfl (Ai rfl (Ab (by simp only[zo,Bh,uK]<;>exact rfl) ?_)))
 refine xo0 ?_
 refine Ae rfl (Ce 0 (b:=false) ?_)
 refine Ai rfl (Ac rfl (Ai rfl (Ab (by simp only[zo,Bh,qE]<;>exact rfl) ?_)))
 refine xo0 ?_
 refine Ae rfl (Ce 0 (b:=false) ?_)
 refine Ai rfl (Ac rfl (Ai rfl (Ab (by simp only[zo,Bh,Int.reduceLT]<;>exact rfl) ?_)))
 refine xo0 ?_
 refine Ae rfl (Ce 0 (b:=false) ?_)
 refine Ai rfl (Ac rfl (Ai rfl (xo1 ?_)))
 refine xo0 ?_
 refine Aa (Af ?_)
 refine Ca ?_
 refine Aj (Bd rfl (Ad (Ap (Aa (Af ?_)))))
 refine Av ?_
 refine⟨_,by simp only[F165,Ak,Bb,Cb,zg]<;>exact rfl,?_⟩
 rfl
theorem round_run{d:Nat}(hd:8≤d)(S:St){neg:Bool}{l:List UInt8}(h:Nrm neg l):Az LP NN d 130 [.agg [.bool neg,.str (mkS l),.int .i64 0],.int .i64 0,.int .u8 0] S=some (.tup [.agg [.bool neg,.str (mkS l),.int .i64 0],.int .i64 0],S,false):=by
 refine run_pure (F:=F130) rfl (by simp only[LP,Al,Bw,zs,zm]<;>exact rfl) rfl (by simp only[LP,zf,zm];try rfl) (by simp only[F130,zv]<;>exact rfl) (by omega) ?_
 rintro d rfl
 refine Ad (Jj ?_)
 refine xo8 ?_
 refine Ap (Aa (Af ?_))
 refine Ag (Ad (xo3 ?_))
 refine Ac rfl (Ab (by simp only[zo];exact rchk_run (by omega) _ h 1 (by omega) (by omega)) ?_)
 refine xo1 ?_
 refine Ae rfl (Ce 0 (b:=false) ?_)
 refine Ai rfl (Ac rfl (Ai rfl (xo1 ?_)))
 refine xo0 ?_
 refine Aa (Af ?_)
 refine Ca ?_
 refine Aj (Bd rfl (Ad (xo3 ?_)))
 refine Ac rfl (Ab (by simp only[zo];exact dcut_run (by omega) _ h) ?_)
 refine Ae rfl (xo7 ?_)
 refine xo4 ?_
 refine xo4 ?_
 refine xo8 ?_
 refine Kn ?_
 refine Ae rfl (Ae rfl (Aa (Af ?_)))
 refine Ag (Aq (Ad (Ac rfl (xo1 ?_))))
 refine Ae rfl (Ce 0 (b:=false) ?_)
 refine Ai rfl (Ac rfl (xo0 ?_))
 refine Ae rfl (Aa (Af ?_))
 refine Eo ?_
 refine Ad (xo3 ?_)
 refine Ac rfl (Kn ?_)
 refine Ae rfl (Aa (Af ?_))
 refine Av (G9 (D5 ?_))
 refine⟨_,by simp only[F130,Ak,Bb,Cb,zg,zd,rowsOf,Be,List.take,List.drop,zm]<;>exact rfl,?_⟩
 simp only[Dv,leave,Al,Bw,zs,zf,zk]
theorem rep0_run{d:Nat}(hd:1≤d)(S:St):Az LP NN d 58 [.str ⟨#[48]⟩,.int .i64 0] S=some (.str (mkS []),S,false):=Qv hd S 48 0 (by omega)
theorem repz_run{d:Nat}(hd:1≤d)(S:St)(k:Nat)(hk:k≤1000):Az LP NN d 58 [.str ⟨#[48]⟩,.int .i64 (k:Nat)] S=some (.str (mkS (List.replicate k 48)),S,false):=Qv hd S 48 k hk
theorem Pt{d:Nat}(hd:8≤d)(S:St){neg:Bool}{l:List UInt8}(h:Nrm neg l)(n:Nat)(h1:1≤n)(h2:n≤62):Az LP NN d 169 [.agg [.bool neg,.str (mkS l),.int .i64 0],.int .i64 (n:Nat),.int .i64 0] S=some (.tup [.str (mkS (pad n l)),.bool true],S,false):=by
 have zy:=h.len
 have hw:IntKind.i64.wrap ((n:Int)-(l.length:Int))=(n:Int)-(l.length:Int):=by rw[IntKind.wrap_i64];omega
 have hm:(if (0:Int)>(n:Int)-(l.length:Int) then (0:Int) else (n:Int)-(l.length:Int))=((n-l.length:Nat):Int):=by split<;>omega
 refine run_pure (F:=F169) rfl (by simp only[LP,Al,Bw,zs,zm]<;>exact rfl) rfl (by simp only[LP,zf,zm];try rfl) (by simp only[F169,zv]<;>exact rfl) (by omega) ?_
 rintro d rfl
 refine Ad (Jj ?_)
 refine Ap (Ap (Aa (Af ?_)))
 refine Ag (Ad (xo3 ?_))
 refine Ac rfl (Ab (by simp only[zo];exact dcut_run (by omega) _ h) ?_)
 refine Ae rfl (xo7 ?_)
 refine xo4 ?_
 refine xo4 ?_
 refine xo8 ?_
 refine xo40 ?_
 refine Ae rfl (Ae rfl (Aa (Af ?_)))
 refine Ad (Ac rfl (xo9 ?_))
 refine Aa (Af ?_)
 refine Ca ?_
 refine Aj (Bd rfl (Ad (xo5 ?_)))
 refine xo3 ?_
 refine Ae rfl (Aa (Af ?_))
 refine Ag (Ad (Ac rfl (xo5 ?_)))
 refine xo3 ?_
 refine xo1 ?_
 refine Ae rfl (Aa (Af ?_))
 refine Ad (Ac rfl (xo1 ?_))
 refine Aa (Af ?_)
 refine Eo ?_
 refine Ar (Ac rfl (Ac rfl ?_))
 first
  | refine Ab (by simp only[zo];exact rep0_run (by omega) _) ?_
  | refine Ab (by simp only[zo,zx,hw,hm,List.append_nil];exact repz_run (by omega) _ (n-l.length) (by omega)) ?_
 refine Ab (by simp only[zo,Bh,Jt,Cs,List.append_nil];rw[if_neg (by rw[show IntKind.i64.max=9223372036854775807 from rfl];simp only[List.length_nil];have:=h.len;omega)];exact rfl) ?_
 refine Ae rfl (Aa (Af ?_))
 refine Ad (Ac rfl (Ac rfl (Km ?_)))
 refine Ab (by simp only[zo,Bh,hw]<;>exact rfl) ?_
 refine Ab (by simp only[zo,M5,maxD,hm]<;>exact rfl) ?_
 first
  | refine Ab (by simp only[zo];exact rep0_run (by omega) _) ?_
  | refine Ab (by simp only[zo];exact repz_run (by omega) _ (n-l.length) (by omega)) ?_
 refine Ac rfl (Ab (by simp only[zo,Bh,Jt,Cs];rw[if_neg (by rw[show IntKind.i64.max=9223372036854775807 from rfl];simp only[List.length_replicate];have:=h.len;omega)];exact rfl) ?_)
 refine Ae rfl (Ap (Aa (Af ?_)))
 refine Av ?_
 refine⟨_,by simp only[F169,Ak,Bb,Cb,zg]<;>exact rfl,?_⟩
 rfl
theorem Js(n:Nat)(l:List UInt8):(pad n l).length=n-l.length+l.length:=by simp[pad]
theorem fits_pl{neg:Bool}{l:List UInt8}(h:Nrm neg l){n:Nat}(h1:1≤n):(D9 48 (Es 48 ((pad n l).take ((pad n l).length-n)))==[])=decide (l.length≤n):=by
 by_cases hl:l.length≤n
 ·
  rw[show (pad n l).length-n=0 by rw[Js];omega,List.take_zero,decide_eq_true hl]
  rfl
 rw[decide_eq_false hl,beq_eq_false_iff_ne]
 intro e
 have h2:pad n l=l:=by rw[pad,show n-l.length=0 by omega];rfl
 rw[h2]at e
 have hs:=h.st
 have h0:Cv l=l:=by
  unfold strip at hs
  split at hs
  ·
   rw[←hs]at hl;simp at hl;omega
  exact hs
 match l,hl with
 | [],hl=>exact hl (Nat.zero_le _)
 | c :: l, hl =>
  have hc:¬(c==48)=true:=by
   intro hc
   have h3:=Ox l
   have h4:Cv (c::l)=Cv l:=by rw[Cv,Cv,List.dropWhile_cons,if_pos hc]
   rw[h4]at h0
   have:=congrArg List.length h0
   simp at this
   omega
  obtain⟨k,hk⟩:∃k,(c::l).length-n=k+1:=⟨(c::l).length-n-1,by omega⟩
  rw[hk,List.take_succ_cons]at e
  have hr:∃m,Es 48 (c::l.take k)=c::m:=by
   generalize l.take k=t
   unfold Es
   rw[List.reverse_cons]
   have:∀(r:List UInt8),∃m,((r++[c]).dropWhile (·==(48:UInt8))).reverse=c::m:=by
    intro r
    induction r with
    | nil=>exact⟨[],by rw[List.nil_append,List.dropWhile_cons,if_neg hc];rfl⟩
    | cons a r ih =>
     rw[List.cons_append,List.dropWhile_cons]
     split
     ·
      exact ih
     exact⟨r.reverse++[a],by simp⟩
   exact this _
  obtain⟨m,hm⟩:=hr
  rw[hm,D9,List.dropWhile_cons,if_neg hc]at e
  cases e
theorem R4{d:Nat}(hd:9≤d)(S:St){neg:Bool}{l:List UInt8}(h:Nrm neg l)(n:Nat)(h1:1≤n)(h2:n≤62):Az LP NN d 132 [.agg [.bool neg,.str (mkS l),.int .i64 0],.int .i64 (n:Nat),.int .i64 0] S=some (.tup [.bool (decide (l.length≤n)),.int .i64 0],S,false):=by
 have uK:decide (((n:Nat):Int)<1)=false:=decide_eq_false (by omega)
 have qE:decide (((n:Nat):Int)>62)=false:=decide_eq_false (by omega)
 have zy:=h.len
 have q9:=Js n l
 have hw:IntKind.i64.wrap (((pad n l).length:Nat)-((n:Nat):Int))=(((pad n l).length-n:Nat):Int):=by rw[IntKind.wrap_i64];omega
 refine run_pure (F:=F132) rfl (by simp only[LP,Al,Bw,zs,zm]<;>exact rfl) rfl (by simp only[LP,zf,zm];try rfl) (by simp only[F132,zv]<;>exact rfl) (by omega) ?_
 rintro d rfl
 refine Ad (Jj ?_)
 refine Ap (Ap (Aa (Af ?_)))
 refine Ag (Ad (xo3 ?_))
 refine Ac rfl (Ac rfl (Ab (by simp only[zo];exact rchk_run (by omega) _ h n h1 h2) ?_))
 refine Ae rfl (Aa (Af ?_))
 refine Ad (Ac rfl (xo1 ?_))
 refine Aa (Af ?_)
 refine Ca ?_
 refine Aj (Bd rfl (Ad (xo3 ?_)))
 refine Ac rfl (Ac rfl (Ab (by simp only[zo];exact Pt (by omega) _ h n h1 h2) ?_))
 refine Ae rfl (xo7 ?_)
 refine xo4 ?_
 refine Ae rfl (Ae rfl (Aa (Af ?_)))
 refine Ad (Ac rfl (Ae rfl (Ce 0 (b:=true) ?_)))
 refine Ai rfl (Ac rfl (Ai rfl (Ac rfl (Ai rfl (Km ?_)))))
 refine Ai rfl (Ac rfl (Ai rfl (Ab (by simp only[zo,Bh,hw]<;>exact rfl) ?_)))
 refine Ai rfl (Ab (by simp only[opd,zv,Ba,aop,LOp.loud,Bool.false_eq_true,if_false];rw[Rw _ (pad n l) ((pad n l).length-n) _ rfl (by omega)];exact rfl) ?_)
 refine Ai rfl (Ab (by simp only[zo];exact trimZ_run (by omega) _ (by rw[List.length_take];omega)) ?_)
 refine Ai rfl (Ab (by simp only[zo,Bh,Dy,Er,fits_pl h h1]<;>exact rfl) ?_)
 refine xo0 ?_
 refine Ae rfl (Ap (Aa (Af ?_)))
 refine Av ?_
 refine⟨_,by simp only[F132,Ak,Bb,Cb,zg]<;>exact rfl,?_⟩
 rfl
def Gw (n:Nat) (l:List UInt8):List UInt8:=(pad n l).drop ((pad n l).length-n)
theorem Sb(n:Nat)(l:List UInt8):(Gw n l).length=n:=by
 have:=Js n l
 rw[Gw,List.length_drop]
 omega
theorem lastN_num{neg:Bool}{l:List UInt8}(h:Nrm neg l){n:Nat}(h1:1≤n):Ez (Gw n l)=true:=by
 have h2:=h.num
 simp only[Ez,Bool.and_eq_true,Bool.not_eq_true',beq_eq_false_iff_ne,ne_eq]at h2 ⊢
 refine⟨fun e=>?_,?_⟩
 ·
  have:=Sb n l
  rw[e]at this
  simp at this
  omega
 rw[List.all_eq_true]at h2 ⊢
 intro c hc
 rcases List.mem_append.1 (List.mem_of_mem_drop hc) with hc | hc
 ·
  rw[(List.mem_replicate.1 hc).2];rfl
 exact h2.2 c hc
theorem low_run{d:Nat}(hd:9≤d)(S:St){neg:Bool}{l:List UInt8}(h:Nrm neg l)(n:Nat)(h1:1≤n)(h2:n≤62):Az LP NN d 133 [.agg [.bool neg,.str (mkS l),.int .i64 0],.int .i64 (n:Nat),.int .i64 0] S=some (.tup [.agg [.bool (neg&&nz (Gw n l)),.str (mkS (strip (Gw n l))),.int .i64 0],.int .i64 0],S,false):=by
 have uK:decide (((n:Nat):Int)<1)=false:=decide_eq_false (by omega)
 have qE:decide (((n:Nat):Int)>62)=false:=decide_eq_false (by omega)
 have zy:=h.len
 have q9:=Js n l
 have hw:IntKind.i64.wrap (((pad n l).length:Nat)-((n:Nat):Int))=(((pad n l).length-n:Nat):Int):=by rw[IntKind.wrap_i64];omega
 refine run_pure (F:=F133) rfl (by simp only[LP,Al,Bw,zs,zm]<;>exact rfl) rfl (by simp only[LP,zf,zm];try rfl) (by simp only[F133,zv]<;>exact rfl) (by omega) ?_
 rintro d rfl
 refine Ad (Jj ?_)
 refine xo8 ?_
 refine Ap (Aa (Af ?_))
 refine Ag (Ad (xo3 ?_))
 refine Ac rfl (Ac rfl (Ab (by simp only[zo];exact rchk_run (by omega) _ h n h1 h2) ?_))
 refine Ae rfl (Aa (Af ?_))
 refine Ad (Ac rfl (xo1 ?_))
 refine Aa (Af ?_)
 refine Ca ?_
 refine Aj (Bd rfl (Ad (xo3 ?_)))
 refine Ac rfl (Ac rfl (Ab (by simp only[zo];exact Pt (by omega) _ h n h1 h2) ?_))
 refine Ae rfl (xo7 ?_)
 refine xo4 ?_
 refine Ae rfl (Ae rfl (Aa (Af ?_)))
 refine Ag (Ad (Ac rfl (xo9 ?_)))
 refine Aa (Af ?_)
 refine Ca ?_
 refine Aj (Bd rfl (Ag (Gy (by simp only[Dl,zw,Nat.reduceAdd]<;>exact rfl) (by simp only[zw]<;>exact rfl) ?_)))
 refine Bp (by simp only[zo,F5,zm]<;>exact rfl) rfl rfl ?_
 refine Iq rfl ?_
 refine Bq rfl rfl (Bq rfl rfl (Bp (by simp only[zo,Eh,Cs]<;>exact rfl) rfl rfl ?_))
 refine Bq rfl rfl (Bp (by simp only[zo,Bh,hw]<;>exact rfl) rfl rfl ?_)
 refine Bp (by simp only[opd,zv,Ba,aop,LOp.loud,Bool.false_eq_true,if_false];rw[Ht _ (pad n l) ((pad n l).length-n) _ rfl (by omega)];exact rfl) rfl rfl ?_
 refine Bq rfl rfl (Ck (by simp only[zo];exact decNew_run (by omega) _ neg (Gw n l) (by rw[Sb];exact h2) (lastN_num h h1)) rfl ?_)
 refine xo25 rfl rfl ?_
 refine xo22 rfl rfl ?_
 refine Ck (by simp only[zl,zm,Cc,overlay,Bw,zs,zc,zf,List.take,List.drop]<;>exact rfl) rfl ?_
 refine Dq rfl rfl (Cw (Af ?_))
 refine Av ?_
 refine⟨_,by simp only[F133,Ak,Bb,Cb,zg,zd,rowsOf,Be,List.take,List.drop,zm]<;>exact rfl,?_⟩
 simp only[Dv,leave,Al,Bw,zs,zf,zk]
theorem rdig_run{d:Nat}(hd:10≤d)(S:St){neg:Bool}{l:List UInt8}(h:Nrm neg l)(n:Nat)(h1:1≤n)(h2:n≤62)(hf:l.length≤n):Az LP NN d 171 [.agg [.bool neg,.str (mkS l),.int .i64 0],.int .i64 (n:Nat),.int .i64 0] S=some (.tup [.str (mkS (pad n l)),.int .i64 0],S,false):=by
 have uK:decide (((n:Nat):Int)<1)=false:=decide_eq_false (by omega)
 have qE:decide (((n:Nat):Int)>62)=false:=decide_eq_false (by omega)
 have zy:=h.len
 have q9:=Js n l
 have hw:IntKind.i64.wrap (((pad n l).length:Nat)-((n:Nat):Int))=(((pad n l).length-n:Nat):Int):=by rw[IntKind.wrap_i64];omega
 refine run_pure (F:=F171) rfl (by simp only[LP,Al,Bw,zs,zm]<;>exact rfl) rfl (by simp only[LP,zf,zm];try rfl) (by simp only[F171,zv]<;>exact rfl) (by omega) ?_
 rintro d rfl
 refine Ad (Jj ?_)
 refine Ap (Ap (Aa (Af ?_)))
 refine Ad (xo3 ?_)
 refine Ac rfl (Ac rfl (Ab (by simp only[zo];exact R4 (by omega) _ h n h1 h2) ?_))
 refine Ae rfl (Ab (by simp only[zo,Lz,decide_eq_true hf]<;>exact rfl) ?_)
 refine Ab (by simp only[zo,Lz,Ls_,decide_eq_true hf]<;>exact rfl) ?_
 refine Ae rfl (Ae rfl (Aa (Af ?_)))
 refine Ag (Aq (Ad (Ac rfl (xo1 ?_))))
 refine Ae rfl (Aa (Af ?_))
 refine Ca ?_
 refine Ad (Ac rfl (xo9 ?_))
 refine Ae rfl (Aa (Af ?_))
 refine Ca ?_
 refine Aj (Eb (Bd rfl (Ad (xo3 ?_))))
 refine Ac rfl (Ac rfl (Ab (by simp only[zo];exact Pt (by omega) _ h n h1 h2) ?_))
 refine Ae rfl (xo7 ?_)
 refine xo4 ?_
 refine Ae rfl (Ae rfl (Aa (Af ?_)))
 refine Ad (Ac rfl (Ac rfl (Km ?_)))
 refine Ac rfl (Ab (by simp only[zo,Bh,hw]<;>exact rfl) ?_)
 refine Ab (by simp only[opd,zv,Ba,aop,LOp.loud,Bool.false_eq_true,if_false];rw[Ht _ (pad n l) ((pad n l).length-n) _ rfl (by omega)];exact rfl) ?_
 refine Ae rfl (Ap (Aa (Af ?_)))
 refine Av ?_
 refine⟨_,by simp only[F171,Ak,Bb,Cb,zg]<;>exact rfl,?_⟩
 rw[show (pad n l).length-n=0 by omega];rfl
def Jp (n:Nat):List D:=[.int .u8 5,.int .u8 0,.str (Gm true n),.int .i64 (n:Nat),.int .i64 0,.bool false,.bool false,.bool false,.bool false,.bool false,.int .i64 (n:Nat)]
theorem shpR_E{n:Nat}(h:n≠1):Dh true n=Jp n:=by
 unfold Dh Jp
 simp only[if_true,if_neg h]
def picD (n:Nat):D:=.agg [.str (Gm true n),.str ⟨#[]⟩,.int .u8 0]
section
variable (d:Nat) (S:St)
theorem eof_2:Cj LP NN (d+12) 198 [.agg (Jp 2)] S=some (picD 2,S,false):=by kernel_rfl
theorem econ_2:Cj LP NN (d+12) 237 [.str (Gm true 2),.str ⟨#[42]⟩] S=some (.bool false,S,false):=by kernel_rfl
theorem ezer_2:Cj LP NN (d+20) 174 [.agg [.bool false,.str ⟨#[48]⟩,.int .i64 0],.agg (Jp 2)] S=some (.sl 1 (List.replicate 1 [.int .u8 32]++[[.int .u8 48]]) none,S,false):=by kernel_rfl
theorem eof_3:Cj LP NN (d+12) 198 [.agg (Jp 3)] S=some (picD 3,S,false):=by kernel_rfl
theorem econ_3:Cj LP NN (d+12) 237 [.str (Gm true 3),.str ⟨#[42]⟩] S=some (.bool false,S,false):=by kernel_rfl
theorem ezer_3:Cj LP NN (d+20) 174 [.agg [.bool false,.str ⟨#[48]⟩,.int .i64 0],.agg (Jp 3)] S=some (.sl 1 (List.replicate 2 [.int .u8 32]++[[.int .u8 48]]) none,S,false):=by kernel_rfl
theorem eof_4:Cj LP NN (d+12) 198 [.agg (Jp 4)] S=some (picD 4,S,false):=by kernel_rfl
theorem econ_4:Cj LP NN (d+12) 237 [.str (Gm true 4),.str ⟨#[42]⟩] S=some (.bool false,S,false):=by kernel_rfl
theorem ezer_4:Cj LP NN (d+20) 174 [.agg [.bool false,.str ⟨#[48]⟩,.int .i64 0],.agg (Jp 4)] S=some (.sl 1 (List.replicate 3 [.int .u8 32]++[[.int .u8 48]]) none,S,false):=by kernel_rfl
theorem eof_5:Cj LP NN (d+12) 198 [.agg (Jp 5)] S=some (picD 5,S,false):=by kernel_rfl
theorem econ_5:Cj LP NN (d+12) 237 [.str (Gm true 5),.str ⟨#[42]⟩] S=some (.bool false,S,false):=by kernel_rfl
theorem ezer_5:Cj LP NN (d+20) 174 [.agg [.bool false,.str ⟨#[48]⟩,.int .i64 0],.agg (Jp 5)] S=some (.sl 1 (List.replicate 4 [.int .u8 32]++[[.int .u8 48]]) none,S,false):=by kernel_rfl
theorem eof_6:Cj LP NN (d+12) 198 [.agg (Jp 6)] S=some (picD 6,S,false):=by kernel_rfl
theorem econ_6:Cj LP NN (d+12) 237 [.str (Gm true 6),.str ⟨#[42]⟩] S=some (.bool false,S,false):=by kernel_rfl
theorem ezer_6:Cj LP NN (d+20) 174 [.agg [.bool false,.str ⟨#[48]⟩,.int .i64 0],.agg (Jp 6)] S=some (.sl 1 (List.replicate 5 [.int .u8 32]++[[.int .u8 48]]) none,S,false):=by kernel_rfl
theorem put9_tab:(List.range 10).map (fun k=>Cj LP NN (d+20) 134 [.agg [.bool false,.str (mkS [UInt8.ofNat (48+k)]),.int .i64 0],.agg (Dh true 1)] S)=(List.range 10).map (fun k=>some (.tup [.sl 1 [[.int .u8 ((48+k:Nat):Int)]] (some 1),.int .i64 0],S,false)):=by kernel_rfl
end
theorem eof_run{d:Nat}(hd:12≤d)(S:St){n:Nat}(h2:2≤n)(h6:n≤6):Az LP NN d 198 [.agg (Jp n)] S=some (picD n,S,false):=by
 obtain⟨d,rfl⟩:∃d',d=d'+12:=⟨d-12,by omega⟩
 match n,h2,h6 with
 | 2,_,_=>exact fast_ok (eof_2 d S)
 | 3,_,_=>exact fast_ok (eof_3 d S)
 | 4,_,_=>exact fast_ok (eof_4 d S)
 | 5,_,_=>exact fast_ok (eof_5 d S)
 | 6,_,_=>exact fast_ok (eof_6 d S)
theorem econ_run{d:Nat}(hd:12≤d)(S:St){n:Nat}(h2:2≤n)(h6:n≤6):Az LP NN d 237 [.str (Gm true n),.str ⟨#[42]⟩] S=some (.bool false,S,false):=by
 obtain⟨d,rfl⟩:∃d',d=d'+12:=⟨d-12,by omega⟩
 match n,h2,h6 with
 | 2,_,_=>exact fast_ok (econ_2 d S)
 | 3,_,_=>exact fast_ok (econ_3 d S)
 | 4,_,_=>exact fast_ok (econ_4 d S)
 | 5,_,_=>exact fast_ok (econ_5 d S)
 | 6,_,_=>exact fast_ok (econ_6 d S)
theorem ezer_run{d:Nat}(hd:20≤d)(S:St){n:Nat}(h2:2≤n)(h6:n≤6):Az LP NN d 174 [.agg [.bool false,.str ⟨#[48]⟩,.int .i64 0],.agg (Jp n)] S=some (.sl 1 (List.replicate (n-1) [.int .u8 32]++[[.int .u8 48]]) none,S,false):=by
 obtain⟨d,rfl⟩:∃d',d=d'+20:=⟨d-20,by omega⟩
 match n,h2,h6 with
 | 2,_,_=>exact fast_ok (ezer_2 d S)
 | 3,_,_=>exact fast_ok (ezer_3 d S)
 | 4,_,_=>exact fast_ok (ezer_4 d S)
 | 5,_,_=>exact fast_ok (ezer_5 d S)
 | 6,_,_=>exact fast_ok (ezer_6 d S)
theorem put9_run{d:Nat}(hd:20≤d)(S:St){c:UInt8}(h1:48≤c.toNat)(h2:c.toNat≤57):Az LP NN d 134 [.agg [.bool false,.str (mkS [c]),.int .i64 0],.agg (Dh true 1)] S=some (.tup [.sl 1 [[.int .u8 (c.toNat:Nat)]] (some 1),.int .i64 0],S,false):=by
 obtain⟨d,rfl⟩:∃d',d=d'+20:=⟨d-20,by omega⟩
 have h:=Ga (put9_tab d S) (c.toNat-48) (by omega)
 simp only[show 48+(c.toNat-48)=c.toNat by omega,UInt8.ofNat_toNat]at h
 exact fast_ok h
def WR (n:Nat) (dg:List UInt8) (x:D) (st la:Int):U9:=⟨256,9,[[.str (Gm true n),.str ⟨#[]⟩,.int .u8 0,.str (mkS dg),.bool false,x,.bool false,.int .i64 st,.int .i64 la]],0,0,false⟩
def AT (bs:List UInt8) (t:List U9) (x:D):Prop:=(bs=[]∧t=[]∧x=.Vu)∨∃v,t=[⟨5,1,bR bs,v,1,true⟩]∧x=.msl 2 v 0 bs.length none
theorem AT.app{bs:List UInt8}{t:List U9}{x:D}(h:AT bs t x)(hl:bs.length<1000)(c:UInt8):∃x' t',(∀(o w:U9) (lo:Nat) (cp:Option Nat),1≤lo→∃lo',1≤lo'∧Ci 5 1 1 1 x (.sl 1 [[.int .u8 (c.toNat:Nat)]] cp) ⟨o::w::t,lo⟩=some (x',⟨o::w::t',lo'⟩,true))∧AT (bs++[c]) t' x':=by
 rcases h with⟨rfl,rfl,rfl⟩ | ⟨v,rfl,rfl⟩
 ·
  refine⟨.msl 2 0 0 1 none,[⟨5,1,bR [c],0,1,true⟩],fun o w lo cp h1=>⟨lo,h1,?_⟩,.inr ⟨0,rfl,rfl⟩⟩
  simp[Ci,Bi,De,newAt,bR]
 refine⟨.msl 2 (v+1) 0 (bs.length+1) none,[⟨5,1,bR (bs++[c]),v+1,1,true⟩],fun o w lo cp h1=>⟨min lo 2,by omega,?_⟩,.inr ⟨v+1,rfl,by simp⟩⟩
 simp[Ci,Bi,De,rowsOf,setAt,bR]
 omega
theorem AT.len{bs:List UInt8}{t:List U9}{x:D}(h:AT bs t x):Im false x=some (.int .i64 bs.length):=by
 rcases h with⟨rfl,rfl,rfl⟩ | ⟨v,rfl,rfl⟩<;>rfl
theorem AT.cell{bs:List UInt8}{t:List U9}{x:D}(h:AT bs t x):x.Vn=true∧x.val=true∧x.cells=[x]:=by
 rcases h with⟨rfl,rfl,rfl⟩ | ⟨v,rfl,rfl⟩<;>exact⟨rfl,rfl,rfl⟩
theorem wfill_run{d:Nat}(hd:13≤d){n:Nat}(h2:2≤n)(h6:n≤6)(o:U9)(dg:List UInt8)(x:D)(st la:Int)(t:List U9)(lo:Nat):Az LP NN d 233 [.ptr 1 0 0 0] ⟨o::WR n dg x st la::t,lo⟩=some (.int .u8 32,⟨o::WR n dg x st la::t,lo⟩,false):=by
 refine Du (F:=F233) rfl (by simp only[LP,Al,zs,zm]<;>exact rfl) rfl (by simp only[LP,zf,zm];try rfl) (by simp only[F233,zv]<;>exact rfl) (by omega) ?_
 rintro d rfl
 refine Ad (Ap (Aa (Af ?_)))
 refine Ag (Ad (Ac rfl (Ab (by simp only[zo,List.length_cons,WR]<;>exact rfl) ?_)))
 refine xo2 ?_
 refine xo2 ?_
 refine xo3 ?_
 refine Ab (by simp only[zo];exact econ_run (by omega) _ h2 h6) ?_
 refine Aa (Af ?_)
 refine Ca ?_
 refine Aj (Bd rfl (Ad (Ap (Aa (Af ?_)))))
 refine Av ?_
 refine⟨_,by simp only[F233,Ak,Bb,Cb,zg]<;>exact rfl,?_⟩
 simp[leave,LP,Vl,Vi,snap,D.Vk,D.Vj,D.free,D.Vo]
theorem wputF_run{d:Nat}(hd:14≤d){n:Nat}(h2:2≤n)(h6:n≤6)(o:U9)(dg:List UInt8){bs:List UInt8}{x:D}(st la:Int){t:List U9}(hA:AT bs t x)(hl:bs.length<1000)(c:UInt8):∃x' t',(∀lo,Az LP NN d 227 [.ptr 1 0 0 0,.int .u8 (c.toNat:Nat),.bool false] ⟨o::WR n dg x st la::t,lo⟩=some (.tup [],⟨o::WR n dg x' st la::t',min lo 1⟩,true))∧AT (bs++[c]) t' x':=by
 obtain⟨x',t',happ,hA'⟩:=hA.app hl c
 obtain⟨lo1,qm,zP⟩:=happ o (WR n dg x st la) (t.length+1+1) (some 1) (by omega)
 simp only[WR]at zP
 have yH:=hA.len
 have vW:=hA'.cell
 have hxc0:=hA.cell
 have qP:min (t.length+1+1) 1=1:=by omega
 have hm2:min lo1 1=1:=by omega
 have hm3:¬2+t.length≤1:=by omega
 refine⟨x',t',fun lo=>?_,hA'⟩
 refine Du (F:=F227) rfl (by simp only[LP,Al,zs,zm]<;>exact rfl) rfl (by simp only[LP,zf,zm];try rfl) (by simp only[F227,zv]<;>exact rfl) (by omega) ?_
 rintro d rfl
 have xQ:=aI @List.getElem?_cons_zero.{0} (aI @List.getElem?_cons_succ.{0} (aI yH (aI vW.1 (aI hxc0.1 (aI qP (hm2))))))
 refine Ag (Ad (Ac rfl (Aa (Af ?_))))
 refine Ca ?_
 refine Aj (Bd rfl (Ar (Ac rfl (Ac rfl (Ab (by simp only[zo,List.length_cons,WR]<;>exact rfl) ?_)))))
 refine xo2 ?_
 refine Na ?_
 refine Ac rfl (Ab (by simp only[zl,zm,Ct,List.replicate,Al,zs,zc,zf,zn]<;>exact rfl) ?_)
 refine Ab (by simp only[Ba,aop,LOp.loud,lop,if_true,opd,zv];exact zP) ?_
 refine xo0 ?_
 refine xo2 ?_
 refine Ab (by simp only[zl,zm,Cc,overlay,List.take,List.drop,zn,vW.2.1,vW.2.2,xQ]<;>exact rfl) ?_
 refine Aa ?_
 simp only[ze]
 refine⟨_,by simp only[F227,Ak,Bb]<;>exact rfl,?_⟩
 simp[leave,LP,Vl,Al,WR]
theorem wputT_run{d:Nat}(hd:14≤d){n:Nat}(h2:2≤n)(h6:n≤6)(o:U9)(dg:List UInt8){bs:List UInt8}{x:D}(st la:Int){t:List U9}(hA:AT bs t x)(hl:bs.length<1000)(c:UInt8):∃x' t',(∀lo,Az LP NN d 227 [.ptr 1 0 0 0,.int .u8 (c.toNat:Nat),.bool true] ⟨o::WR n dg x st la::t,lo⟩=some (.tup [],⟨o::WR n dg x' st (bs.length:Nat)::t',min lo 1⟩,true))∧AT (bs++[32]) t' x':=by
 obtain⟨x',t',happ,hA'⟩:=hA.app hl 32
 obtain⟨lo1,qm,zP⟩:=happ o (WR n dg x st (bs.length:Nat)) 1 (some 1) (by omega)
 simp only[WR]at zP
 have yH:=hA.len
 have vW:=hA'.cell
 have hxc0:=hA.cell
 have qP:min (t.length+1+1) 1=1:=by omega
 have hm2:min lo1 1=1:=by omega
 have hm3:¬2+t.length≤1:=by omega
 refine⟨x',t',fun lo=>?_,hA'⟩
 refine Du (F:=F227) rfl (by simp only[LP,Al,zs,zm]<;>exact rfl) rfl (by simp only[LP,zf,zm];try rfl) (by simp only[F227,zv]<;>exact rfl) (by omega) ?_
 rintro d rfl
 have xP:=aI @List.getElem?_cons_zero.{0} (aI @List.getElem?_cons_succ.{0} (aI yH (aI vW.1 (aI hxc0.1 (aI qP (hm2))))))
 refine Ag (Ad (Ac rfl (Aa (Af ?_))))
 refine Eo ?_
 refine Ey ?_
 refine Bq rfl rfl (Bq rfl rfl (Ck (by simp only[zo,WR];exact wfill_run (by omega) h2 h6 o _ _ _ _ _ _) rfl ?_))
 refine Bq rfl rfl (Bp (by simp only[zo,WR]<;>exact rfl) rfl rfl ?_)
 refine xo6 rfl rfl ?_
 refine xo34 rfl ?_
 refine Bp (by simp only[zo,xP]<;>exact rfl) rfl rfl ?_
 refine Dq rfl rfl (Ji rfl rfl ?_)
 refine xo6 rfl rfl ?_
 refine Ck (by simp only[zl,zm,Cc,overlay,zs,zc,zf,List.take,List.drop,zn,xP]<;>exact rfl) rfl ?_
 refine Cw (Af ?_)
 refine Ar (Ac rfl (Ac rfl (xo0 ?_)))
 refine xo2 ?_
 refine Ab (by simp only[zl,zm,zd,Be,List.take,List.drop,xP]<;>exact rfl) ?_
 refine Ac rfl (Ab (by simp only[zl,zm,Ct,List.replicate,Al,zs,zc,zf,zn]<;>exact rfl) ?_)
 refine Ab (by simp only[Ba,aop,LOp.loud,lop,if_true,opd,zv];exact zP) ?_
 refine xo0 ?_
 refine xo2 ?_
 refine Ab (by simp only[zl,zm,Cc,overlay,List.take,List.drop,zn,vW.2.1,vW.2.2,xP]<;>exact rfl) ?_
 refine Aa ?_
 simp only[ze]
 refine⟨_,by simp only[F227,Ak,Bb]<;>exact rfl,?_⟩
 simp[leave,LP,Vl,Al,WR]
theorem wput_run{d:Nat}(hd:14≤d){n:Nat}(h2:2≤n)(h6:n≤6)(o:U9)(dg:List UInt8){bs:List UInt8}{x:D}(st la:Int){t:List U9}(hA:AT bs t x)(hl:bs.length<1000)(c:UInt8)(rep:Bool):∃x' t' la',(∀lo,Az LP NN d 227 [.ptr 1 0 0 0,.int .u8 (c.toNat:Nat),.bool rep] ⟨o::WR n dg x st la::t,lo⟩=some (.tup [],⟨o::WR n dg x' st la'::t',min lo 1⟩,true))∧AT (bs++[if rep then 32 else c]) t' x':=by
 cases rep with
 | false =>
  obtain⟨x',t',h,hA'⟩:=wputF_run hd h2 h6 o dg st la hA hl c
  exact⟨x',t',_,h,hA'⟩
 | true =>
  obtain⟨x',t',h,hA'⟩:=wputT_run hd h2 h6 o dg st la hA hl c
  exact⟨x',t',_,h,hA'⟩
def nst (c:UInt8) (st:Int) (b:UInt8):Int:=if c=57∨b≠48 then 2 else if st=0 then 1 else st
theorem u8_ne{b:UInt8}(h:(((b.toNat:Nat):Int) != 48)=true):b≠48:=by
 rintro rfl
 simp at h
theorem u8_eq{b:UInt8}(h:(((b.toNat:Nat):Int) != 48)=false):b=48:=by
 rw[bne_eq_false_iff_eq]at h
 exact UInt8.toNat_inj.1 (by show b.toNat=48;omega)
theorem wnum90_run{d:Nat}(hd:15≤d){n:Nat}(h2:2≤n)(h6:n≤6)(o:U9)(b:UInt8)(dg:List UInt8){bs:List UInt8}{x:D}(st la:Int){t:List U9}(hA:AT bs t x)(hl:bs.length<1000):∃x' t' la',(∀lo,Az LP NN d 226 [.ptr 1 0 0 0,.int .u8 90] ⟨o::WR n (b::dg) x st la::t,lo⟩=some (.tup [],⟨o::WR n dg x' (nst 90 st b) la'::t',min lo 1⟩,true))∧AT (bs++[if nst 90 st b==1 then 32 else b]) t' x':=by
 obtain⟨x',t',la',hp,hA'⟩:=wput_run (d:=d-1) (by omega) h2 h6 o dg (nst 90 st b) la hA hl b (nst 90 st b==1)
 have qP:min (t.length+1+1) 1=1:=by omega
 have vW:=hA.cell
 refine⟨x',t',la',fun lo=>?_,hA'⟩
 refine Du (F:=U3) rfl (by simp only[LP,Al,zs,zm]<;>exact rfl) rfl (by simp only[LP,zf,zm];try rfl) (by simp only[U3,zv]<;>exact rfl) (by omega) ?_
 rintro d rfl
 have zz5:=aI @List.getElem?_cons_zero.{0} (aI @List.getElem?_cons_succ.{0} (aI vW.1 (qP)))
 refine Ag (Ad (Ac rfl (Ab (by simp only[zo,List.length_cons,WR]<;>exact rfl) ?_)))
 refine xo2 ?_
 refine xo23 ?_
 refine xo1 ?_
 refine Ae rfl ?_
 refine Dr 0 (by simp only[zv]<;>exact rfl) (by simp only[zn]<;>exact rfl) (by simp only[zn]<;>exact rfl) (fun hg=>?_) (fun hg=>?_)
 ·
  have h0:st=0:=eq_of_beq hg
  refine Ai rfl (Ac rfl (Ai rfl (xo1 ?_)))
  refine xo0 ?_
  refine Aa (Af ?_)
  refine Eo ?_
  refine Ar (Ac rfl (xo0 ?_))
  refine xo2 ?_
  refine xo38 ?_
  refine Aa (Af ?_)
  refine Ag (Ad (Ac rfl (Ac rfl (xo0 ?_))))
  refine xo2 ?_
  refine xo2 ?_
  refine xo23 ?_
  refine xo1 ?_
  refine Ae rfl (Ce 0 (b:=false) ?_)
  refine Ao rfl rfl (Ao rfl rfl (Ao rfl rfl (Ao rfl rfl (Ao rfl rfl (xo0 ?_)))))
  refine Aa (Af ?_)
  refine Bz (by simp only[opd,zv]) ?_
  refine Aj (Bd rfl (Ad (Ac rfl (xo0 ?_))))
  refine xo2 ?_
  refine xo23 ?_
  refine Ab (by simp only[zo,Ee,Dp]<;>exact rfl) ?_
  refine Ae rfl (Aa (Af ?_))
  refine Ad (Ac rfl (Ac rfl (xo0 ?_)))
  refine xo2 ?_
  refine xo23 ?_
  refine Ab (by simp only[opd,zv,Ba,aop,LOp.loud,Bool.false_eq_true,if_false];rw[Ht _ (b::dg) 1 1 rfl (by simp)];exact rfl) ?_
  refine xo0 ?_
  refine xo2 ?_
  refine xo38 ?_
  refine Aa (Af ?_)
  refine Ag (Ad (Ac rfl (xo1 ?_)))
  refine Ae rfl (Ce 0 (b:=false) ?_)
  refine Ai rfl (Ac rfl (Ai rfl (xo1 ?_)))
  refine xo0 ?_
  refine Aa (Af ?_)
  refine Bv (by simp only[opd,zv]<;>exact rfl) (fun hcT=>?_) (fun hcT=>?_)
  ·
   have hb:b≠48:=u8_ne hcT
   have hn:nst 90 st b=2:=by rw[nst,if_pos (.inr hb)]
   rw[hn]at hp
   refine Ar (Ac rfl (xo0 ?_))
   refine xo2 ?_
   refine xo38 ?_
   refine Aa (Af ?_)
   refine Ar (Ac rfl (Ac rfl (Ac rfl (xo0 ?_))))
   refine xo2 ?_
   refine xo23 ?_
   refine xo1 ?_
   refine Ab (by simp only[zo];exact hp _) ?_
   refine Aa ?_
   simp only[ze]
   refine⟨_,by simp only[U3,Ak,Bb]<;>exact rfl,?_⟩
   simp[leave,LP,Vl,Al,WR,hn]
  have hb:b=48:=u8_eq hcT
  have hn:nst 90 st b=1:=by rw[nst,if_neg (by rw[hb];decide),if_pos h0]
  rw[hn]at hp
  refine Aj (Bd rfl (Ar (Ac rfl (Ac rfl (Ac rfl (xo0 ?_))))))
  refine xo2 ?_
  refine xo23 ?_
  refine xo1 ?_
  refine Ab (by simp only[zo];exact hp _) ?_
  refine Aa ?_
  simp only[ze]
  refine⟨_,by simp only[U3,Ak,Bb]<;>exact rfl,?_⟩
  simp[leave,LP,Vl,Al,WR,hn]
 have h0:st≠0:=by rw[beq_eq_false_iff_ne]at hg;exact hg
 refine Ao rfl rfl (Ao rfl rfl (xo0 ?_))
 refine Aa (Af ?_)
 refine Bz (by simp only[opd,zv]) ?_
 refine Aj (Bd rfl (Ag (Ad (Ac rfl (Ac rfl (xo0 ?_))))))
 refine xo2 ?_
 refine xo2 ?_
 refine xo23 ?_
 refine xo1 ?_
 refine Ae rfl (Ce 0 (b:=false) ?_)
 refine Ao rfl rfl (Ao rfl rfl (Ao rfl rfl (Ao rfl rfl (Ao rfl rfl (xo0 ?_)))))
 refine Aa (Af ?_)
 refine Bz (by simp only[opd,zv]) ?_
 refine Aj (Bd rfl (Ad (Ac rfl (xo0 ?_))))
 refine xo2 ?_
 refine xo23 ?_
 refine Ab (by simp only[zo,Ee,Dp]<;>exact rfl) ?_
 refine Ae rfl (Aa (Af ?_))
 refine Ad (Ac rfl (Ac rfl (xo0 ?_)))
 refine xo2 ?_
 refine xo23 ?_
 refine Ab (by simp only[opd,zv,Ba,aop,LOp.loud,Bool.false_eq_true,if_false];rw[Ht _ (b::dg) 1 1 rfl (by simp)];exact rfl) ?_
 refine xo0 ?_
 refine xo2 ?_
 refine xo38 ?_
 refine Aa (Af ?_)
 refine Ag (Ad (Ac rfl (xo1 ?_)))
 refine Ae rfl (Ce 0 (b:=false) ?_)
 refine Ai rfl (Ac rfl (Ai rfl (xo1 ?_)))
 refine xo0 ?_
 refine Aa (Af ?_)
 refine Bv (by simp only[opd,zv]<;>exact rfl) (fun hcF=>?_) (fun hcF=>?_)
 ·
  have hb:b≠48:=u8_ne hcF
  have hn:nst 90 st b=2:=by rw[nst,if_pos (.inr hb)]
  rw[hn]at hp
  refine Ar (Ac rfl (xo0 ?_))
  refine xo2 ?_
  refine xo38 ?_
  refine Aa (Af ?_)
  refine Ar (Ac rfl (Ac rfl (Ac rfl (xo0 ?_))))
  refine xo2 ?_
  refine xo23 ?_
  refine xo1 ?_
  refine Ab (by simp only[zo];exact hp _) ?_
  refine Aa ?_
  simp only[ze]
  refine⟨_,by simp only[U3,Ak,Bb]<;>exact rfl,?_⟩
  simp[leave,LP,Vl,Al,WR,hn]
 have hb:b=48:=u8_eq hcF
 have hn:nst 90 st b=st:=by rw[nst,if_neg (by rw[hb];decide),if_neg h0]
 rw[hn]at hp
 refine Aj (Bd rfl (Ar (Ac rfl (Ac rfl (Ac rfl (xo0 ?_))))))
 refine xo2 ?_
 refine xo23 ?_
 refine xo1 ?_
 refine Ab (by simp only[zo];exact hp _) ?_
 refine Aa ?_
 simp only[ze]
 refine⟨_,by simp only[U3,Ak,Bb]<;>exact rfl,?_⟩
 simp[leave,LP,Vl,Al,WR,hn]
theorem wnum57_run{d:Nat}(hd:15≤d){n:Nat}(h2:2≤n)(h6:n≤6)(o:U9)(b:UInt8)(dg:List UInt8){bs:List UInt8}{x:D}(st la:Int){t:List U9}(hA:AT bs t x)(hl:bs.length<1000):∃x' t' la',(∀lo,Az LP NN d 226 [.ptr 1 0 0 0,.int .u8 57] ⟨o::WR n (b::dg) x st la::t,lo⟩=some (.tup [],⟨o::WR n dg x' (nst 57 st b) la'::t',min lo 1⟩,true))∧AT (bs++[if nst 57 st b==1 then 32 else b]) t' x':=by
 obtain⟨x',t',la',hp,hA'⟩:=wput_run (d:=d-1) (by omega) h2 h6 o dg (nst 57 st b) la hA hl b (nst 57 st b==1)
 have qP:min (t.length+1+1) 1=1:=by omega
 have vW:=hA.cell
 refine⟨x',t',la',fun lo=>?_,hA'⟩
 refine Du (F:=U3) rfl (by simp only[LP,Al,zs,zm]<;>exact rfl) rfl (by simp only[LP,zf,zm];try rfl) (by simp only[U3,zv]<;>exact rfl) (by omega) ?_
 rintro d rfl
 have zz6:=aI @List.getElem?_cons_zero.{0} (aI @List.getElem?_cons_succ.{0} (aI vW.1 (qP)))
 refine Ag (Ad (Ac rfl (Ab (by simp only[zo,List.length_cons,WR]<;>exact rfl) ?_)))
 refine xo2 ?_
 refine xo26 ?_
 refine xo1 ?_
 refine Ae rfl ?_
 refine Dr 0 (by simp only[zv]<;>exact rfl) (by simp only[zn]<;>exact rfl) (by simp only[zn]<;>exact rfl) (fun hg=>?_) (fun hg=>?_)
 ·
  have h0:st=0:=eq_of_beq hg
  have hn:nst 57 st b=2:=if_pos (.inl rfl)
  rw[hn]at hp
  refine Ai rfl (Ac rfl (Ai rfl (xo1 ?_)))
  refine xo0 ?_
  refine Aa (Af ?_)
  refine Ca ?_
  refine Aj (Bd rfl (Ag (Ad (Ac rfl (Ac rfl (xo0 ?_))))))
  refine xo2 ?_
  refine xo2 ?_
  refine xo26 ?_
  refine xo1 ?_
  refine Ae rfl (Ce 0 (b:=false) ?_)
  refine Ao rfl rfl (Ao rfl rfl (Ao rfl rfl (Ao rfl rfl (Ao rfl rfl (xo0 ?_)))))
  refine Aa (Af ?_)
  refine Bz (by simp only[opd,zv]) ?_
  refine Aj (Bd rfl (Ad (Ac rfl (xo0 ?_))))
  refine xo2 ?_
  refine xo26 ?_
  refine Ab (by simp only[zo,Ee,Dp]<;>exact rfl) ?_
  refine Ae rfl (Aa (Af ?_))
  refine Ad (Ac rfl (Ac rfl (xo0 ?_)))
  refine xo2 ?_
  refine xo26 ?_
  refine Ab (by simp only[opd,zv,Ba,aop,LOp.loud,Bool.false_eq_true,if_false];rw[Ht _ (b::dg) 1 1 rfl (by simp)];exact rfl) ?_
  refine xo0 ?_
  refine xo2 ?_
  refine xo41 ?_
  refine Aa (Af ?_)
  refine Ag (Ad (Ac rfl (xo1 ?_)))
  refine Ae rfl (Ce 0 (b:=true) ?_)
  refine Ao rfl rfl (Ao rfl rfl (xo0 ?_))
  refine Aa (Af ?_)
  refine Em (by simp only[opd,zv]) ?_
  refine Ar (Ac rfl (xo0 ?_))
  refine xo2 ?_
  refine xo41 ?_
  refine Aa (Af ?_)
  refine Ar (Ac rfl (Ac rfl (Ac rfl (xo0 ?_))))
  refine xo2 ?_
  refine xo26 ?_
  refine xo1 ?_
  refine Ab (by simp only[zo];exact hp _) ?_
  refine Aa ?_
  simp only[ze]
  refine⟨_,by simp only[U3,Ak,Bb]<;>exact rfl,?_⟩
  simp[leave,LP,Vl,Al,WR,hn]
 have h0:st≠0:=by rw[beq_eq_false_iff_ne]at hg;exact hg
 have hn:nst 57 st b=2:=if_pos (.inl rfl)
 rw[hn]at hp
 refine Ao rfl rfl (Ao rfl rfl (xo0 ?_))
 refine Aa (Af ?_)
 refine Bz (by simp only[opd,zv]) ?_
 refine Aj (Bd rfl (Ag (Ad (Ac rfl (Ac rfl (xo0 ?_))))))
 refine xo2 ?_
 refine xo2 ?_
 refine xo26 ?_
 refine xo1 ?_
 refine Ae rfl (Ce 0 (b:=false) ?_)
 refine Ao rfl rfl (Ao rfl rfl (Ao rfl rfl (Ao rfl rfl (Ao rfl rfl (xo0 ?_)))))
 refine Aa (Af ?_)
 refine Bz (by simp only[opd,zv]) ?_
 refine Aj (Bd rfl (Ad (Ac rfl (xo0 ?_))))
 refine xo2 ?_
 refine xo26 ?_
 refine Ab (by simp only[zo,Ee,Dp]<;>exact rfl) ?_
 refine Ae rfl (Aa (Af ?_))
 refine Ad (Ac rfl (Ac rfl (xo0 ?_)))
 refine xo2 ?_
 refine xo26 ?_
 refine Ab (by simp only[opd,zv,Ba,aop,LOp.loud,Bool.false_eq_true,if_false];rw[Ht _ (b::dg) 1 1 rfl (by simp)];exact rfl) ?_
 refine xo0 ?_
 refine xo2 ?_
 refine xo41 ?_
 refine Aa (Af ?_)
 refine Ag (Ad (Ac rfl (xo1 ?_)))
 refine Ae rfl (Ce 0 (b:=true) ?_)
 refine Ao rfl rfl (Ao rfl rfl (xo0 ?_))
 refine Aa (Af ?_)
 refine Em (by simp only[opd,zv]) ?_
 refine Ar (Ac rfl (xo0 ?_))
 refine xo2 ?_
 refine xo41 ?_
 refine Aa (Af ?_)
 refine Ar (Ac rfl (Ac rfl (Ac rfl (xo0 ?_))))
 refine xo2 ?_
 refine xo26 ?_
 refine xo1 ?_
 refine Ab (by simp only[zo];exact hp _) ?_
 refine Aa ?_
 simp only[ze]
 refine⟨_,by simp only[U3,Ak,Bb]<;>exact rfl,?_⟩
 simp[leave,LP,Vl,Al,WR,hn]
def zrun:List UInt8→Int→Int
 | [],st=>st
 | b::l,st=>zrun l (nst 90 st b)
def Pj:List UInt8→Int→List UInt8
 | [],_=>[]
 | b::l,st=>(if nst 90 st b==1 then 32 else b)::Pj l (nst 90 st b)
theorem zrun_snoc(b:UInt8):∀(l:List UInt8) (st:Int),zrun (l++[b]) st=nst 90 (zrun l st) b
 | [],_=>rfl
 | c::l,st=>zrun_snoc b l _
theorem zout_snoc(b:UInt8):∀(l:List UInt8) (st:Int),Pj (l++[b]) st=Pj l st++[if nst 90 (zrun l st) b==1 then 32 else b]
 | [],_=>rfl
 | c::l,st=>by rw[List.cons_append,Pj,zout_snoc b l,Pj];rfl
theorem zout_len:∀(l:List UInt8) (st:Int),(Pj l st).length=l.length
 | [],_=>rfl
 | c::l,st=>by rw[Pj,List.length_cons,zout_len l,List.length_cons]
def edS (dg:List UInt8):List UInt8:=Pj (dg.take (dg.length-1)) 0++dg.drop (dg.length-1)
theorem pic_tab:∀n,n<7→∀i,i<n→(Gm true n)[i]?=some (if i+1=n then 57 else 90):=by decide +kernel
theorem pic_tab2:∀n,n<7→(Gm true n).size=n:=by decide +kernel
theorem digZ_run{d:Nat}(hd:1≤d)(S:St)(p q:ByteArray):Az LP NN d 225 [.agg [.str p,.str q,.int .u8 0],.int .u8 90] S=some (.bool true,S,false):=by
 obtain⟨d,rfl⟩:∃d',d=d'+1:=⟨d-1,by omega⟩
 kernel_rfl
theorem dig9_run{d:Nat}(hd:1≤d)(S:St)(p q:ByteArray):Az LP NN d 225 [.agg [.str p,.str q,.int .u8 0],.int .u8 57] S=some (.bool true,S,false):=by
 obtain⟨d,rfl⟩:∃d',d=d'+1:=⟨d-1,by omega⟩
 kernel_rfl
theorem wwrite_run{d:Nat}(hd:17≤d){nn:Nat}(h2:2≤nn)(h6:nn≤6)(o:U9)(dg:List UInt8)(hdg:dg.length=nn)(lo:Nat):∃r,(fun r=>∃x t st la,r=(D.sl 1 (bR (edS dg)) none,(⟨o::WR nn [] x st la::t,min lo 1⟩:St),true)) r∧Az LP NN d 201 [.ptr 1 0 0 0] ⟨o::WR nn dg .Vu 0 0::[],lo⟩=some r:=by
 have h7:nn<7:=by omega
 refine run_at_ex (F:=F201) (P:=fun r=>∃x t st la,r=(D.sl 1 (bR (edS dg)) none,(⟨o::WR nn [] x st la::t,min lo 1⟩:St),true)) rfl (by simp only[LP,Al,zs,zm]<;>exact rfl) rfl (by simp only[LP,zf,zm];try rfl) (by simp only[F201,zv]<;>exact rfl) (by omega) ?_
 rintro d rfl
 refine Ad (Ap (Aa (Af ?_)))
 refine Ad (Ac rfl (Ab (by simp only[zo,List.length_cons,WR]<;>exact rfl) ?_))
 refine xo2 ?_
 refine Ab (by simp only[zl,zm,Cc,overlay,zs,zc,zf,List.take,List.drop,zn,show min 2 1=1 from rfl]<;>exact rfl) ?_
 refine Aa (Af ?_)
 refine Ag (Ad (Ac rfl (xo0 ?_)))
 refine xo2 ?_
 refine xo2 ?_
 refine xo3 ?_
 refine Ab (by simp only[zo,Eh,pic_tab2 nn h7]<;>exact rfl) ?_
 refine Ap (Aa (Af ?_))
 refine Aq (Cz (fun n env S'=>∃(i:Nat) (x:D) (t:List U9) (st la:Int) (bs:List UInt8) (u2 u3 u4 u7 u8 u9 u10 u11 u12:D),i≤nn∧n=nn-i∧S'=⟨o::WR nn (dg.drop i) x st la::t,1⟩∧env=[.ptr 1 0 0 0,.Vu,u2,u3,u4,.int .i64 (nn:Nat),.int .i64 (i:Nat),u7,u8,u9,u10,u11,u12]∧AT bs t x∧bs.length=i∧((i<nn∧bs=Pj (dg.take i) 0∧st=zrun (dg.take i) 0)∨(i=nn∧bs=edS dg))) (nn) (by omega) (⟨0,.Vu,[],_,_,[],_,_,_,_,_,_,_,_,_,by omega,by omega,rfl,rfl,.inl ⟨rfl,rfl,rfl⟩,rfl,.inl ⟨by omega,rfl,rfl⟩⟩) ?_)
 rintro n env S' ⟨i,x,t,st,la,bs,u2,u3,u4,u7,u8,u9,u10,u11,u12,hi,kV,rfl,rfl,hA,rZ,hcase⟩
 refine Ad (Ab (by simp only[zo,Bh,WR]<;>exact rfl) ?_)
 refine Aa (Af ?_)
 refine Ag ?_
 refine Bv (by simp only[opd,zv]<;>exact rfl) (fun yG=>?_) (fun yG=>?_)
 ·
  have yR:i<nn:=by have:=of_decide_eq_true yG;omega
  have xu:i<dg.length:=by omega
  have vX:=Dx i (by omega)
  have h0i:(0:Int)≤(i:Int):=by omega
  have hix:=pic_tab nn (by omega) i yR
  obtain⟨-,hbs,xO⟩ | ⟨h,-⟩:=hcase
  rotate_left
  ·
   omega
  rw[List.drop_eq_getElem_cons xu]
  by_cases hk:i+1=nn
  rotate_left
  ·
   rw[if_neg hk]at hix
   obtain⟨x',t',la',hp,hA'⟩:=wnum90_run (d:=d) (by omega) h2 h6 o dg[i] (dg.drop (i+1)) st la hA (by omega)
   have hp1:=hp 1
   rw[show min 1 1=1 from rfl]at hp1
   have zz7:=aI vX (aI hix (aI h0i (@Int.toNat_natCast)))
   refine Aj (Bd rfl (Ag (Aq (Ad (Ac rfl (Ae rfl (Aa (Af ?_))))))))
   refine Ad (Ac rfl (xo0 ?_))
   refine xo2 ?_
   refine xo2 ?_
   refine xo3 ?_
   refine Ac rfl (Ab (by simp only[zo,Ee,zm,h0i,show (90:UInt8).toNat=90 from rfl,zz7]<;>exact rfl) ?_)
   refine Ae rfl (Aa (Af ?_))
   refine Aq (Ad (Ac rfl (xo0 ?_)))
   refine xo2 ?_
   refine xo3 ?_
   refine Ac rfl (Ab (by simp only[zo];exact digZ_run (d:=d) (by omega) _ _ _) ?_)
   refine Ae rfl (Aa (Af ?_))
   refine Eo ?_
   refine Ar (Ac rfl (Ac rfl (Ab (by simp only[zo];exact hp1) ?_)))
   refine Aa (Eb (Eb (Af ?_)))
   refine Ar (Ab (by simp only[zo,Bh,WR,vX]<;>exact rfl) ?_)
   refine Ae rfl (Aa (Fb (by simp only[ze]<;>exact rfl) ?_))
   exact⟨nn-(i+1),by omega,i+1,x',t',nst 90 st dg[i],la',bs++[if (nst 90 st dg[i]==1)=true then 32 else dg[i]],_,_,_,_,_,_,_,_,_,by omega,rfl,rfl,rfl,hA',by rw[Ll_,rZ];rfl,.inl ⟨by omega,by rw[List.take_succ_eq_append_getElem xu,zout_snoc,←xO,←hbs],by rw[List.take_succ_eq_append_getElem xu,zrun_snoc,←xO]⟩⟩
  rw[if_pos hk]at hix
  obtain⟨x',t',la',hp,hA'⟩:=wnum57_run (d:=d) (by omega) h2 h6 o dg[i] (dg.drop (i+1)) st la hA (by omega)
  have hp1:=hp 1
  rw[show min 1 1=1 from rfl]at hp1
  have hn57:nst 57 st dg[i]=2:=if_pos (.inl rfl)
  rw[hn57]at hA'
  have hed:bs++[dg[i]]=edS dg:=by
   rw[edS,show dg.length-1=i by omega,hbs,List.drop_eq_getElem_cons xu,List.drop_of_length_le (by omega)]
  have zz8:=aI vX (aI hix (aI h0i (@Int.toNat_natCast)))
  refine Aj (Bd rfl (Ag (Aq (Ad (Ac rfl (Ae rfl (Aa (Af ?_))))))))
  refine Ad (Ac rfl (xo0 ?_))
  refine xo2 ?_
  refine xo2 ?_
  refine xo3 ?_
  refine Ac rfl (Ab (by simp only[zo,Ee,zm,h0i,show (57:UInt8).toNat=57 from rfl,zz8]<;>exact rfl) ?_)
  refine Ae rfl (Aa (Af ?_))
  refine Aq (Ad (Ac rfl (xo0 ?_)))
  refine xo2 ?_
  refine xo3 ?_
  refine Ac rfl (Ab (by simp only[zo];exact dig9_run (d:=d) (by omega) _ _ _) ?_)
  refine Ae rfl (Aa (Af ?_))
  refine Eo ?_
  refine Ar (Ac rfl (Ac rfl (Ab (by simp only[zo];exact hp1) ?_)))
  refine Aa (Eb (Eb (Af ?_)))
  refine Ar (Ab (by simp only[zo,Bh,WR,vX]<;>exact rfl) ?_)
  refine Ae rfl (Aa (Fb (by simp only[ze]<;>exact rfl) ?_))
  exact⟨nn-(i+1),by omega,i+1,x',t',nst 57 st dg[i],la',bs++[dg[i]],_,_,_,_,_,_,_,_,_,by omega,rfl,rfl,rfl,hA',by rw[Ll_,rZ];rfl,.inr ⟨by omega,hed⟩⟩
 have hi':nn=i:=by have:=of_decide_eq_false yG;omega
 subst hi'
 obtain⟨h,-⟩ | ⟨-,rfl⟩:=hcase
 ·
  omega
 rcases hA with⟨h,-,-⟩ | ⟨v,rfl,rfl⟩
 ·
  rw[h]at rZ;simp at rZ;omega
 have zP:∀(w:U9),Bi 5 1 1 2 (.msl 2 v 0 (edS dg).length none) (Bu (mkS (List.replicate 0 32))) ⟨o::w::[⟨5,1,bR (edS dg),v,1,true⟩],1⟩=some (.msl 2 (v+1) 0 (edS dg).length none,⟨o::w::[⟨5,1,bR (edS dg),v+1,1,true⟩],1⟩,true):=fun w=>by
  have hb:(edS dg).length≤140737488355328:=by omega
  simp[Bi,rowsOf,setAt,Iz,Bu,mkS,hb]
 have hT:(bR (edS dg)).take (edS dg).length=bR (edS dg):=by rw[←Iz,List.take_length]
 rw[List.drop_of_length_le (by omega:dg.length≤nn)]
 refine Cf (E5 (Fp (Fa (Bd rfl (Ag (Ad (Ac rfl (xo0 ?_))))))))
 refine xo2 ?_
 refine xo2 ?_
 refine xo3 ?_
 refine xo1 ?_
 refine Ae rfl (Ce 0 (b:=false) ?_)
 refine Ao rfl rfl (Ao rfl rfl (Ao rfl rfl (Ao rfl rfl (Ao rfl rfl (xo0 ?_)))))
 refine Aa (Af ?_)
 refine Bz (by simp only[opd,zv]) ?_
 refine Aj (Bd rfl (Ad (Ac rfl (xo0 ?_))))
 refine xo2 ?_
 refine xo2 ?_
 refine xo3 ?_
 refine Ae rfl (Aa (Af ?_))
 refine Ag (Ad (Ac rfl (xo0 ?_)))
 refine xo2 ?_
 refine xo3 ?_
 refine xo9 ?_
 refine Aa (Af ?_)
 refine Eo ?_
 refine Ar (Ac rfl (Ab (by simp only[zo,Eh]<;>exact rfl) ?_))
 refine Ab (by simp only[zo];exact Qv (by omega) _ 32 0 (by omega)) ?_
 refine Ae rfl (Aa (Af ?_))
 refine Ad (Ac rfl (xo0 ?_))
 refine xo2 ?_
 refine xo3 ?_
 refine Ac rfl (Ab (by simp only[Ba,aop,LOp.loud,lop,if_true,opd,zv];exact zP _) ?_)
 refine Ae rfl (Aa (Af ?_))
 refine Av ?_
 refine⟨_,⟨.msl 2 v 0 (edS dg).length none,[⟨5,1,bR (edS dg),v+1,1,true⟩],st,la,rfl⟩,?_⟩
 refine⟨_,by simp only[F201,Ak,Bb,Cb,zg]<;>exact rfl,?_⟩
 simp[leave,LP,Vl,Vi,snap,hT,WR]
theorem echk_run{d:Nat}(hd:16≤d)(S:St){n:Nat}(h2:2≤n)(h6:n≤6):Az LP NN d 38 [.agg (Jp n)] S=some (.int .i64 0,S,false):=by
 have:=Pv (d:=d) (by omega) S (by omega) true n (by omega) h6
 rwa [shpR_E (by omega)]at this
theorem ekind_run{d:Nat}(hd:17≤d)(S:St){n:Nat}(h2:2≤n)(h6:n≤6):Az LP NN d 173 [.agg (Jp n),.int .u8 5] S=some (.int .i64 0,S,false):=by
 refine run_pure (F:=F173) rfl (by simp only[LP,Al,Bw,zs,zm,Jp]<;>exact rfl) rfl (by simp only[LP,zf,zm];try rfl) (by simp only[F173,zv]<;>exact rfl) (by omega) ?_
 rintro d rfl
 refine Ad (Jj ?_)
 refine Ap (Aa (Af ?_))
 refine Ag (Aq (Ad (xo3 ?_)))
 refine Ab (by simp only[zo];exact echk_run (by omega) _ h2 h6) ?_
 refine xo1 ?_
 refine Ae rfl (Aa (Af ?_))
 refine Ca ?_
 refine Ad (xo5 ?_)
 refine xo3 ?_
 refine Ac rfl (xo1 ?_)
 refine Ae rfl (Aa (Af ?_))
 refine Ca ?_
 refine Aj (Eb (Bd rfl (Ad (Ap (Aa (Af ?_))))))
 refine Av ?_
 refine⟨_,by simp only[F173,Ak,Bb,Cb,zg]<;>exact rfl,?_⟩
 rfl
theorem clip_op(S:St)(rows:List (List D))(c:Option Nat):Ep S 1 (.sl 1 rows c) none (some (.int .i64 (rows.length:Nat))) (some (.int .i64 (rows.length:Nat)))=some (Rk (.sl 1 rows c)):=(SlD.of 1 rows c).slice_clip S
theorem clip_run{d:Nat}(hd:1≤d)(S:St)(rows:List (List D))(c:Option Nat):Az LP NN d 82 [.sl 1 rows c] S=some (.sl 1 rows (some rows.length),S,false):=by
 refine run_pure (F:=F82) rfl (by simp only[LP,Al,zs]<;>exact rfl) rfl (by simp only[LP,zf,zm];try rfl) (by simp only[F82,zv]<;>exact rfl) (by omega) ?_
 rintro d rfl
 refine Ad (Ap (Aa (Af ?_)))
 refine Ad (Ac rfl (Ac rfl (Ab (by simp only[zo,Kg]<;>exact rfl) ?_)))
 refine Ac rfl (Ab (by simp only[zo,Kg]<;>exact rfl) ?_)
 refine Ab (by simp only[opd,zv,Ba,aop,LOp.loud,lop,if_true,Cm,Option.map_some,clip_op,Rk]<;>exact rfl) ?_
 refine Ae rfl (Aa (Af ?_))
 refine Av ?_
 refine⟨_,by simp only[F82,Ak,Bb,Cb,zg]<;>exact rfl,?_⟩
 rfl
theorem edit_nz{d:Nat}(hd:18≤d)(S:St){n:Nat}(h2:2≤n)(h6:n≤6){s:List UInt8}(h:Nrm false s)(hl:s.length≤n)(hs0:(s==[48])=false):Az LP NN d 174 [.agg [.bool false,.str (mkS s),.int .i64 0],.agg (Jp n)] S=some (.sl 1 (bR (edS (pad n s))) none,S,false):=by
 obtain⟨_,⟨x,t,st,la,rfl⟩,hw⟩:=wwrite_run (d:=d-1) (by omega) h2 h6 ⟨252,3,[[.str (Gm true n),.str ⟨#[]⟩,.int .u8 0]],0,0,false⟩ (pad n s) (by rw[Js];omega) 0
 refine run_pure (F:=F174) rfl (by simp only[LP,Al,Bw,zs,zm,Jp]<;>exact rfl) rfl (by simp only[LP,zf,zm];try rfl) (by simp only[F174,zv]<;>exact rfl) (by omega) ?_
 rintro d rfl
 refine Ad (Jj ?_)
 refine Jj ?_
 refine Ap (Aa (Af ?_))
 refine Ad (xo3 ?_)
 refine Ab (by simp only[zo];exact (eof_run (d:=d) (by omega) _ h2 h6)) ?_
 refine Ab (by simp only[zl,zm,picD]<;>exact rfl) ?_
 refine Ab (by simp only[zl,zm,Cc,overlay,Bw,zs,zc,zf,List.take,List.drop,picD,zn]<;>exact rfl) ?_
 refine Aa (Af ?_)
 refine Ad (xo5 ?_)
 refine xo3 ?_
 refine Ab (by simp only[zo,Bh,Dy,m48,hs0]<;>exact rfl) ?_
 refine Ae rfl (Aa (Af ?_))
 refine Ag (Aq (Ag (Gy (by simp only[Dl,zw,Nat.reduceAdd]<;>exact rfl) (by simp only[zw]<;>exact rfl) ?_)))
 refine Bq rfl rfl (Dq rfl rfl (dw_kq 0 (b:=false) ?_))
 refine dw_off rfl rfl (dw_off rfl rfl (dw_off rfl rfl (Ki rfl (Ki rfl (Ki rfl (Ki rfl (Ki rfl (Ki rfl (Ki rfl (Ki rfl (dw_off rfl rfl (Ji rfl rfl ?_))))))))))))
 refine Dq rfl rfl (Cw (Af ?_))
 refine Bz (by simp only[opd,zv]) ?_
 refine Ad (Ac rfl (Ae rfl (Ce 0 (b:=false) ?_)))
 refine Ao rfl rfl (Ao rfl rfl (xo0 ?_))
 refine Ae rfl (Aa (Af ?_))
 refine Bz (by simp only[opd,zv]) ?_
 refine Aj (Eb (Bd rfl (Ad (xo3 ?_))))
 refine xo5 ?_
 refine xo3 ?_
 refine xo5 ?_
 refine xo3 ?_
 refine Ab (by simp only[zo];exact rdig_run (by omega) _ h n (by omega) (by omega) hl) ?_
 refine Ae rfl (Ab (by simp only[zo,Lz,Lz]<;>exact rfl) ?_)
 refine Ab (by simp only[zo,Lz,Ls_,Lz,Ls_]<;>exact rfl) ?_
 refine Ae rfl (Ae rfl (Aa (Af ?_)))
 refine Ad (xo3 ?_)
 refine Ac rfl (xo5 ?_)
 refine xo3 ?_
 refine xo24 ?_
 refine Rq ?_
 refine Ae rfl (Aa (Af ?_))
 refine Ad (Ac rfl (Ab (by simp only[zo];exact hw) ?_))
 refine Ae rfl (Aa (Af ?_))
 refine Av ?_
 refine⟨_,by simp only[F174,Ak,Bb,Cb,zg]<;>exact rfl,?_⟩
 rfl
theorem edS_zero:∀n,n<7→2≤n→bR (edS (pad n [48]))=List.replicate (n-1) [.int .u8 32]++[[.int .u8 48]]
 | 0,_,h=>by omega
 | 1,_,h=>by omega
 | 2,_,_=>rfl
 | 3,_,_=>rfl
 | 4,_,_=>rfl
 | 5,_,_=>rfl
 | 6,_,_=>rfl
 | n+7,h,_=>by omega
theorem edit_run{d:Nat}(hd:20≤d)(S:St){n:Nat}(h2:2≤n)(h6:n≤6){s:List UInt8}(h:Nrm false s)(hl:s.length≤n):Az LP NN d 174 [.agg [.bool false,.str (mkS s),.int .i64 0],.agg (Jp n)] S=some (.sl 1 (bR (edS (pad n s))) none,S,false):=by
 by_cases e:s=[48]
 ·
  subst e
  rw[edS_zero n (by omega) h2]
  exact ezer_run hd S h2 h6
 exact edit_nz (by omega) S h2 h6 h hl (beq_eq_false_iff_ne.2 e)
theorem edS_len(dg:List UInt8):(edS dg).length=dg.length:=by
 rw[edS,Ll_,zout_len,List.length_take,List.length_drop]
 omega
theorem Jy{l:List UInt8}(h:Nrm false l){n:Nat}(h1:1≤n)(h2:n≤62):Nrm false (strip (Gw n l))∧(strip (Gw n l)).length≤n:=by
 have h3:=lastN_num h h1
 have h4:=Sb n l
 refine⟨Nrm.of false (Gw n l) h3 (by have:=Ox (Gw n l);omega),?_⟩
 obtain⟨a,-⟩:=Ow (Gw n l) (by intro e;rw[e]at h4;simp at h4;omega)
 omega
theorem strip0_rep(x:List UInt8):∀k,Cv (List.replicate k 48++x)=Cv x
 | 0=>rfl
 | k+1=>by
  rw[List.replicate_succ,List.cons_append,Cv,List.dropWhile_cons,if_pos (by decide)]
  exact strip0_rep x k
theorem Nf{x:List UInt8}{n:Nat}(h:strip x=x)(hl:x.length≤n):strip (Gw n x)=x:=by
 rw[Gw,show (pad n x).length-n=0 by rw[Js];omega,List.drop_zero,pad,strip,strip0_rep]
 exact h
theorem lastN_id{l:List UInt8}(h:Nrm false l){n:Nat}(h1:1≤n)(h2:n≤62):strip (Gw n (strip (Gw n l)))=strip (Gw n l) :=
 Nf (Jy h h1 h2).1.st (Jy h h1 h2).2
theorem bigEdit_run{d:Nat}(hd:22≤d)(S:St){n:Nat}(h2:2≤n)(h6:n≤6){l:List UInt8}(h:Nrm false l):Az LP NN d 135 [.agg [.bool false,.str (mkS l),.int .i64 0],.agg (Jp n)] S=some (.tup [.sl 1 (bR (edS (pad n (strip (Gw n l))))) (some n),.int .i64 0],S,false):=by
 obtain⟨hn,qE⟩:=Jy h (n:=n) (by omega) (by omega)
 refine run_pure (F:=F135) rfl (by simp only[LP,Al,Bw,zs,zm,Jp]<;>exact rfl) rfl (by simp only[LP,zf,zm];try rfl) (by simp only[F135,zv]<;>exact rfl) (by omega) ?_
 rintro d rfl
 refine Ad (Jj ?_)
 refine Jj ?_
 refine Ap (Ap (Aa (Af ?_)))
 refine Ag (Ad (xo3 ?_))
 refine Ab (by simp only[zo];exact ekind_run (by omega) _ h2 h6) ?_
 refine Ae rfl (Aa (Af ?_))
 refine Ad (Ac rfl (xo1 ?_))
 refine Aa (Af ?_)
 refine Ca ?_
 refine Aj (Bd rfl (Ad (xo3 ?_)))
 refine xo5 ?_
 refine xo3 ?_
 refine Ab (by simp only[zo];exact dcut_run (by omega) _ h) ?_
 refine Ae rfl (xo7 ?_)
 refine xo4 ?_
 refine xo4 ?_
 refine xo8 ?_
 refine Kn ?_
 refine Ae rfl (Ae rfl (Aa (Af ?_)))
 refine Ag (Ad (Ac rfl (xo1 ?_)))
 refine Aa (Af ?_)
 refine Ca ?_
 refine Aj (Bd rfl (Ad (xo3 ?_)))
 refine xo5 ?_
 refine xo3 ?_
 refine xo5 ?_
 refine xo3 ?_
 refine Ab (by simp only[zo];exact low_run (by omega) _ h n (by omega) (by omega)) ?_
 refine Ae rfl (Ab (by simp only[zo,Lz,Bool.false_and]<;>exact rfl) ?_)
 refine xo45 ?_
 refine Ab (by simp only[zl,zm,Bool.false_and]<;>exact rfl) ?_
 refine xo46 ?_
 refine Ae rfl (Aa (Af ?_))
 refine Ag (Ad (Ac rfl (xo1 ?_)))
 refine Aa (Af ?_)
 refine Ca ?_
 refine Aj (Bd rfl (Ad (xo3 ?_)))
 refine xo3 ?_
 refine Ab (by simp only[zo];exact edit_run (by omega) _ h2 h6 hn qE) ?_
 refine Ab (by simp only[zo];exact clip_run (by omega) _ _ _) ?_
 refine Ae rfl (Ap (Aa (Af ?_)))
 refine Av ?_
 refine⟨_,by simp only[F135,Ak,Bb,Cb,zg]<;>exact rfl,?_⟩
 rw[Iz,edS_len,Js,show n-(strip (Gw n l)).length+(strip (Gw n l)).length=n by omega]
 rfl
theorem storeE_run{d:Nat}(hd:24≤d)(S:St){n:Nat}(h2:2≤n)(h6:n≤6){l:List UInt8}(h:Nrm false l):Az LP NN d 86 [.agg [.bool false,.str (mkS l),.int .i64 0],.agg (Jp n),.int .u8 0] S=some (.tup [.sl 1 (bR (edS (pad n (strip (Gw n l))))) (some n),.bool (!decide (l.length≤n)),.int .i64 0],S,false):=by
 have hE:=fun S:St=>bigEdit_run (d:=d-1) (by omega) S h2 h6 (Jy h (n:=n) (by omega) (by omega)).1
 rw[lastN_id h (by omega) (by omega)]at hE
 refine run_pure (F:=F86) rfl (by simp only[LP,Al,Bw,zs,zm,Jp]<;>exact rfl) rfl (by simp only[LP,zf,zm];try rfl) (by simp only[F86,zv]<;>exact rfl) (by omega) ?_
 rintro d rfl
 refine Ad (Jj ?_)
 refine Jj ?_
 refine Ap (Ap (Ap (Aa (Af ?_))))
 refine Ag (Aq (Ad (xo3 ?_)))
 refine Ab (by simp only[zo];exact Ju (by omega) _ false l h) ?_
 refine xo1 ?_
 refine Ae rfl (Ce 0 (b:=false) ?_)
 refine Ai rfl (xo3 ?_)
 refine Ai rfl (Ab (by simp only[zo];exact echk_run (by omega) _ h2 h6) ?_)
 refine Ai rfl (xo1 ?_)
 refine xo0 ?_
 refine Ae rfl (Ce 0 (b:=false) ?_)
 refine Ai rfl (Ac rfl (Ai rfl (xo1 ?_)))
 refine xo0 ?_
 refine Ae rfl (Aa (Af ?_))
 refine Ca ?_
 refine Ad (xo5 ?_)
 refine xo3 ?_
 refine xo1 ?_
 refine Ae rfl (Ce 0 (b:=true) ?_)
 refine Ai rfl (xo5 ?_)
 refine Ai rfl (xo3 ?_)
 refine Ai rfl (xo1 ?_)
 refine xo0 ?_
 refine Ae rfl (Aa (Af ?_))
 refine Ca ?_
 refine Aj (Eb (Bd rfl (Ad (xo3 ?_))))
 refine xo5 ?_
 refine xo3 ?_
 refine Ac rfl (Ab (by simp only[zo];exact round_run (by omega) _ h) ?_)
 refine Ae rfl (xo7 ?_)
 refine xo4 ?_
 refine xo8 ?_
 refine Kn ?_
 refine Ae rfl (Aa (Af ?_))
 refine Ad (Ac rfl (xo1 ?_))
 refine Ae rfl (Aa (Af ?_))
 refine Ag (Ad (Ac rfl (Aa (Af ?_))))
 refine Ca ?_
 refine Aj (Bd rfl (Ad (xo3 ?_)))
 refine xo5 ?_
 refine xo3 ?_
 refine xo5 ?_
 refine xo3 ?_
 refine Ab (by simp only[zo];exact R4 (by omega) _ h n (by omega) (by omega)) ?_
 refine Ae rfl (xo7 ?_)
 refine xo4 ?_
 refine Ae rfl (Ae rfl (Aa (Af ?_)))
 refine Ad (xo3 ?_)
 refine xo5 ?_
 refine xo3 ?_
 refine xo5 ?_
 refine xo3 ?_
 refine Ab (by simp only[zo];exact low_run (by omega) _ h n (by omega) (by omega)) ?_
 refine Ae rfl (Ab (by simp only[zo,Lz,Bool.false_and]<;>exact rfl) ?_)
 refine xo45 ?_
 refine Ab (by simp only[zl,zm,Bool.false_and]<;>exact rfl) ?_
 refine xo46 ?_
 refine Ae rfl (Aa (Af ?_))
 refine Ad (Ap (Aa (Af ?_)))
 refine Ag (Ad (xo5 ?_))
 refine xo3 ?_
 refine xo1 ?_
 refine Aa (Af ?_)
 refine Eo ?_
 refine Ar (Ap (Aa (Af ?_)))
 refine Ad (Ac rfl (xo3 ?_))
 refine xo3 ?_
 refine Ab (by simp only[zo];exact hE _) ?_
 refine Ae rfl (xo7 ?_)
 refine xo4 ?_
 refine Ae rfl (Ae rfl (Aa (Af ?_)))
 refine Ad (Ac rfl (Ac rfl (Ae rfl (Ce 0 (b:=false) ?_))))
 refine Ai rfl (Ac rfl (Ai rfl (xo9 ?_)))
 refine xo0 ?_
 refine Ac rfl (Ae rfl (Ae rfl (Ae rfl (Aa (Af ?_)))))
 refine Av ?_
 refine⟨_,by simp only[F86,Ak,Bb,Cb,zg,zm]<;>exact rfl,?_⟩
 rfl
theorem one_dig{x:List UInt8}(h:Nrm false x)(hl:x.length≤1):∃c:UInt8,x=[c]∧48≤c.toNat∧c.toNat≤57:=by
 have h2:=h.num
 simp only[Ez,Bool.and_eq_true,Bool.not_eq_true',beq_eq_false_iff_ne,ne_eq]at h2
 match x,hl with
 | [],_=>exact absurd rfl h2.1
 | [c],_ =>
  refine⟨c,rfl,?_⟩
  have h3:=h2.2
  simp only[List.all_cons,List.all_nil,Bool.and_true,Gi,Bool.and_eq_true,decide_eq_true_eq]at h3
  exact h3
 | a::b::x,hl=>simp at hl
theorem h9:Dh true 1=[.int .u8 4,.int .u8 0,.str (Gm true 1),.int .i64 1,.int .i64 0,.bool false,.bool false,.bool false,.bool false,.bool false,.int .i64 1]:=rfl
theorem store1_run{d:Nat}(hd:24≤d)(S:St){l:List UInt8}(h:Nrm false l):Az LP NN d 86 [.agg [.bool false,.str (mkS l),.int .i64 0],.agg (Dh true 1),.int .u8 0] S=some (.tup [.sl 1 (bR (strip (Gw 1 l))) (some 1),.bool (!decide (l.length≤1)),.int .i64 0],S,false):=by
 obtain⟨c,hc,xZ,zD⟩:=one_dig (Jy h (n:=1) (by omega) (by omega)).1 (Jy h (n:=1) (by omega) (by omega)).2
 have hE:=fun S:St=>put9_run (d:=d-1) (by omega) S xZ zD
 rw[hc]
 rw[h9,←hc]at hE
 refine run_pure (F:=F86) rfl (by simp only[LP,Al,Bw,zs,zm,h9]<;>exact rfl) rfl (by simp only[LP,zf,zm];try rfl) (by simp only[F86,zv]<;>exact rfl) (by omega) ?_
 rintro d rfl
 refine Ad (Jj ?_)
 refine Jj ?_
 refine Ap (Ap (Ap (Aa (Af ?_))))
 refine Ag (Aq (Ad (xo3 ?_)))
 refine Ab (by simp only[zo];exact Ju (by omega) _ false l h) ?_
 refine xo1 ?_
 refine Ae rfl (Ce 0 (b:=false) ?_)
 refine Ai rfl (xo3 ?_)
 refine Ai rfl (Ab (by simp only[zo];exact Pv (by omega) _ (by omega) true 1 (by omega) (by omega)) ?_)
 refine Ai rfl (xo1 ?_)
 refine xo0 ?_
 refine Ae rfl (Ce 0 (b:=false) ?_)
 refine Ai rfl (Ac rfl (Ai rfl (xo1 ?_)))
 refine xo0 ?_
 refine Ae rfl (Aa (Af ?_))
 refine Ca ?_
 refine Ad (xo5 ?_)
 refine xo3 ?_
 refine xo1 ?_
 refine Ae rfl (Ce 0 (b:=false) ?_)
 refine Ao rfl rfl (Ao rfl rfl (Ao rfl rfl (xo0 ?_)))
 refine Ae rfl (Aa (Af ?_))
 refine Bz (by simp only[opd,zv]) ?_
 refine Aj (Eb (Bd rfl (Ad (xo3 ?_))))
 refine xo5 ?_
 refine xo3 ?_
 refine Ac rfl (Ab (by simp only[zo];exact round_run (by omega) _ h) ?_)
 refine Ae rfl (xo7 ?_)
 refine xo4 ?_
 refine xo8 ?_
 refine Kn ?_
 refine Ae rfl (Aa (Af ?_))
 refine Ad (Ac rfl (xo1 ?_))
 refine Ae rfl (Aa (Af ?_))
 refine Ag (Ad (Ac rfl (Aa (Af ?_))))
 refine Ca ?_
 refine Aj (Bd rfl (Ad (xo3 ?_)))
 refine xo5 ?_
 refine xo3 ?_
 refine xo5 ?_
 refine xo3 ?_
 refine Ab (by simp only[zo];exact R4 (by omega) _ h 1 (by omega) (by omega)) ?_
 refine Ae rfl (xo7 ?_)
 refine xo4 ?_
 refine Ae rfl (Ae rfl (Aa (Af ?_)))
 refine Ad (xo3 ?_)
 refine xo5 ?_
 refine xo3 ?_
 refine xo5 ?_
 refine xo3 ?_
 refine Ab (by simp only[zo];exact low_run (by omega) _ h 1 (by omega) (by omega)) ?_
 refine Ae rfl (Ab (by simp only[zo,Lz,Bool.false_and]<;>exact rfl) ?_)
 refine xo45 ?_
 refine Ab (by simp only[zl,zm,Bool.false_and]<;>exact rfl) ?_
 refine xo46 ?_
 refine Ae rfl (Aa (Af ?_))
 refine Ad (Ap (Aa (Af ?_)))
 refine Ag (Ad (xo5 ?_))
 refine xo3 ?_
 refine xo1 ?_
 refine Aa (Af ?_)
 refine Ca ?_
 refine Aj (Bd rfl (Ad (Ac rfl (xo3 ?_))))
 refine xo3 ?_
 refine Ab (by simp only[zo];exact hE _) ?_
 refine Ae rfl (xo7 ?_)
 refine xo4 ?_
 refine Ae rfl (Ae rfl (Aa (Af ?_)))
 refine Ad (Ac rfl (Ac rfl (Ae rfl (Ce 0 (b:=false) ?_))))
 refine Ai rfl (Ac rfl (Ai rfl (xo9 ?_)))
 refine xo0 ?_
 refine Ac rfl (Ae rfl (Ae rfl (Ae rfl (Aa (Af ?_)))))
 refine Av ?_
 refine⟨_,by simp only[F86,Ak,Bb,Cb,zg]<;>exact rfl,?_⟩
 rfl
theorem typed1_bad{d:Nat}(hd:26≤d)(S:St){a b c:Nat}{op:List (List D)}{l:List UInt8}(hl:l.length≤1000)(hm:(45:UInt8)∉l)(hp:(43:UInt8)∉l)(hq:(46:UInt8)∉l)(hn:Ez (trimB l)=false):Az LP NN d 48 [.agg [.int .i64 (a:Nat),.int .i64 (b:Nat),.int .u8 (c:Nat),.Vu,.int .u8 4,.int .u8 0,.str (Gm true 1),.int .i64 1,.int .i64 0,.bool false,.bool false,.bool false,.bool false,.bool false,.int .i64 1,.sl 5 op (some 1)],.str (mkS l)] S=some (.tup [.Vu,.bool false],S,false):=by
 refine run_pure (F:=F48) rfl (by simp only[LP,Al,Bw,zs,zm]<;>exact rfl) rfl (by simp only[LP,zf,zm];try rfl) (by simp only[F48,zv]<;>exact rfl) (by omega) ?_
 rintro d rfl
 refine Ad (Rq ?_)
 refine Ap (Ap (Aa (Af ?_)))
 refine Ag (Ad (xo2 ?_))
 refine xo2 ?_
 refine xo3 ?_
 refine xo1 ?_
 refine Ae rfl (Ce 0 (b:=true) ?_)
 refine Ao rfl rfl (Ao rfl rfl (Ao rfl rfl (Ao rfl rfl (xo0 ?_))))
 refine Aa (Af ?_)
 refine Em (by simp only[opd,zv]) ?_
 refine Ad (Ac rfl (Ab (by simp only[zo];exact Jv (by omega) _ (by omega)) ?_))
 refine Ab (by simp only[zo];exact parse_bad (by omega) _ (by have:=Kq l;omega) (fun h=>hm (D8 h)) (fun h=>hp (D8 h)) (fun h=>hq (D8 h)) hn) ?_
 refine Ae rfl (xo7 ?_)
 refine xo4 ?_
 refine xo8 ?_
 refine Kn ?_
 refine Ae rfl (Aa (Af ?_))
 refine Ag (Ad (Ac rfl (xo1 ?_)))
 refine Aa (Af ?_)
 refine Eo ?_
 refine Ad (Ap (Ap (Aa (Af ?_))))
 refine Av (D5 (D5 ?_))
 refine⟨_,by simp only[F48,Ak,Bb,Cb,zg]<;>exact rfl,?_⟩
 rfl
theorem typed1_big{d:Nat}(hd:26≤d)(S:St){a b c:Nat}{op:List (List D)}{l:List UInt8}(hl:l.length≤1000)(hm:(45:UInt8)∉l)(hp:(43:UInt8)∉l)(hq:(46:UInt8)∉l)(hn:Ez (trimB l)=true)(uT:62<(Cv (trimB l)).length):Az LP NN d 48 [.agg [.int .i64 (a:Nat),.int .i64 (b:Nat),.int .u8 (c:Nat),.Vu,.int .u8 4,.int .u8 0,.str (Gm true 1),.int .i64 1,.int .i64 0,.bool false,.bool false,.bool false,.bool false,.bool false,.int .i64 1,.sl 5 op (some 1)],.str (mkS l)] S=some (.tup [.Vu,.bool false],S,false):=by
 refine run_pure (F:=F48) rfl (by simp only[LP,Al,Bw,zs,zm]<;>exact rfl) rfl (by simp only[LP,zf,zm];try rfl) (by simp only[F48,zv]<;>exact rfl) (by omega) ?_
 rintro d rfl
 refine Ad (Rq ?_)
 refine Ap (Ap (Aa (Af ?_)))
 refine Ag (Ad (xo2 ?_))
 refine xo2 ?_
 refine xo3 ?_
 refine xo1 ?_
 refine Ae rfl (Ce 0 (b:=true) ?_)
 refine Ao rfl rfl (Ao rfl rfl (Ao rfl rfl (Ao rfl rfl (xo0 ?_))))
 refine Aa (Af ?_)
 refine Em (by simp only[opd,zv]) ?_
 refine Ad (Ac rfl (Ab (by simp only[zo];exact Jv (by omega) _ (by omega)) ?_))
 refine Ab (by simp only[zo];exact parse_big (by omega) _ (by have:=Kq l;omega) (fun h=>hm (D8 h)) (fun h=>hp (D8 h)) (fun h=>hq (D8 h)) hn uT) ?_
 refine Ae rfl (xo7 ?_)
 refine xo4 ?_
 refine xo8 ?_
 refine Kn ?_
 refine Ae rfl (Aa (Af ?_))
 refine Ag (Ad (Ac rfl (xo1 ?_)))
 refine Aa (Af ?_)
 refine Eo ?_
 refine Ad (Ap (Ap (Aa (Af ?_))))
 refine Av (D5 (D5 ?_))
 refine⟨_,by simp only[F48,Ak,Bb,Cb,zg]<;>exact rfl,?_⟩
 rfl
theorem typed1_ok{d:Nat}(hd:26≤d)(S:St){a b c:Nat}{op:List (List D)}{l:List UInt8}(hl:l.length≤1000)(hm:(45:UInt8)∉l)(hp:(43:UInt8)∉l)(hq:(46:UInt8)∉l)(hn:Ez (trimB l)=true)(uT:(Cv (trimB l)).length≤62):Az LP NN d 48 [.agg [.int .i64 (a:Nat),.int .i64 (b:Nat),.int .u8 (c:Nat),.Vu,.int .u8 4,.int .u8 0,.str (Gm true 1),.int .i64 1,.int .i64 0,.bool false,.bool false,.bool false,.bool false,.bool false,.int .i64 1,.sl 5 op (some 1)],.str (mkS l)] S=some (.tup [.sl 1 (bR (strip (Gw 1 (strip (trimB l))))) (some 1),.bool (decide ((strip (trimB l)).length≤1))],S,false):=by
 refine run_pure (F:=F48) rfl (by simp only[LP,Al,Bw,zs,zm]<;>exact rfl) rfl (by simp only[LP,zf,zm];try rfl) (by simp only[F48,zv]<;>exact rfl) (by omega) ?_
 rintro d rfl
 refine Ad (Rq ?_)
 refine Ap (Ap (Aa (Af ?_)))
 refine Ag (Ad (xo2 ?_))
 refine xo2 ?_
 refine xo3 ?_
 refine xo1 ?_
 refine Ae rfl (Ce 0 (b:=true) ?_)
 refine Ao rfl rfl (Ao rfl rfl (Ao rfl rfl (Ao rfl rfl (xo0 ?_))))
 refine Aa (Af ?_)
 refine Em (by simp only[opd,zv]) ?_
 refine Ad (Ac rfl (Ab (by simp only[zo];exact Jv (by omega) _ (by omega)) ?_))
 refine Ab (by simp only[zo];exact dparse_run (by omega) _ (by have:=Kq l;omega) (fun h=>hm (D8 h)) (fun h=>hp (D8 h)) (fun h=>hq (D8 h)) hn uT) ?_
 refine Ae rfl (xo7 ?_)
 refine xo4 ?_
 refine xo8 ?_
 refine Kn ?_
 refine Ae rfl (Aa (Af ?_))
 refine Ag (Ad (Ac rfl (xo1 ?_)))
 refine Aa (Af ?_)
 refine Ca ?_
 refine Aj (Bd rfl (Ad (xo3 ?_)))
 refine xo2 ?_
 refine xo3 ?_
 refine Ab (by simp only[zo];exact store1_run (by omega) _ (Nrm.of false (trimB l) hn uT)) ?_
 refine Ae rfl (xo7 ?_)
 refine xo4 ?_
 refine xo4 ?_
 refine Ae rfl (Ae rfl (Ae rfl (Aa (Af ?_))))
 refine Ad (Ac rfl (Ac rfl (xo1 ?_)))
 refine Ae rfl (Ce 0 (b:=true) ?_)
 refine Ai rfl (Ac rfl (Ai rfl (Ab (by simp only[zo,unD,Bool.not_not]<;>exact rfl) ?_)))
 refine xo0 ?_
 refine Ae rfl (Ae rfl (Aa (Af ?_)))
 refine Av (D5 ?_)
 refine⟨_,by simp only[F48,Ak,Bb,Cb,zg]<;>exact rfl,?_⟩
 rfl
theorem typedE_bad{d:Nat}(hd:26≤d)(S:St){n:Nat}(h2:2≤n)(h6:n≤6){a b c:Nat}{op:List (List D)}{l:List UInt8}(hl:l.length≤1000)(hm:(45:UInt8)∉l)(hp:(43:UInt8)∉l)(hq:(46:UInt8)∉l)(hn:Ez (trimB l)=false):Az LP NN d 48 [.agg [.int .i64 (a:Nat),.int .i64 (b:Nat),.int .u8 (c:Nat),.Vu,.int .u8 5,.int .u8 0,.str (Gm true n),.int .i64 (n:Nat),.int .i64 0,.bool false,.bool false,.bool false,.bool false,.bool false,.int .i64 (n:Nat),.sl 5 op (some 1)],.str (mkS l)] S=some (.tup [.Vu,.bool false],S,false):=by
 refine run_pure (F:=F48) rfl (by simp only[LP,Al,Bw,zs,zm]<;>exact rfl) rfl (by simp only[LP,zf,zm];try rfl) (by simp only[F48,zv]<;>exact rfl) (by omega) ?_
 rintro d rfl
 refine Ad (Rq ?_)
 refine Ap (Ap (Aa (Af ?_)))
 refine Ag (Ad (xo2 ?_))
 refine xo2 ?_
 refine xo3 ?_
 refine xo1 ?_
 refine Ae rfl (Ce 0 (b:=false) ?_)
 refine Ai rfl (xo2 ?_)
 refine Ai rfl (xo2 ?_)
 refine Ai rfl (xo3 ?_)
 refine Ai rfl (xo1 ?_)
 refine xo0 ?_
 refine Aa (Af ?_)
 refine Eo ?_
 refine Ad (Ac rfl (Ab (by simp only[zo];exact Jv (by omega) _ (by omega)) ?_))
 refine Ab (by simp only[zo];exact parse_bad (by omega) _ (by have:=Kq l;omega) (fun h=>hm (D8 h)) (fun h=>hp (D8 h)) (fun h=>hq (D8 h)) hn) ?_
 refine Ae rfl (xo7 ?_)
 refine xo4 ?_
 refine xo8 ?_
 refine Kn ?_
 refine Ae rfl (Aa (Af ?_))
 refine Ag (Ad (Ac rfl (xo1 ?_)))
 refine Aa (Af ?_)
 refine Eo ?_
 refine Ad (Ap (Ap (Aa (Af ?_))))
 refine Av (D5 (D5 ?_))
 refine⟨_,by simp only[F48,Ak,Bb,Cb,zg,zm]<;>exact rfl,?_⟩
 rfl
theorem typedE_big{d:Nat}(hd:26≤d)(S:St){n:Nat}(h2:2≤n)(h6:n≤6){a b c:Nat}{op:List (List D)}{l:List UInt8}(hl:l.length≤1000)(hm:(45:UInt8)∉l)(hp:(43:UInt8)∉l)(hq:(46:UInt8)∉l)(hn:Ez (trimB l)=true)(uT:62<(Cv (trimB l)).length):Az LP NN d 48 [.agg [.int .i64 (a:Nat),.int .i64 (b:Nat),.int .u8 (c:Nat),.Vu,.int .u8 5,.int .u8 0,.str (Gm true n),.int .i64 (n:Nat),.int .i64 0,.bool false,.bool false,.bool false,.bool false,.bool false,.int .i64 (n:Nat),.sl 5 op (some 1)],.str (mkS l)] S=some (.tup [.Vu,.bool false],S,false):=by
 refine run_pure (F:=F48) rfl (by simp only[LP,Al,Bw,zs,zm]<;>exact rfl) rfl (by simp only[LP,zf,zm];try rfl) (by simp only[F48,zv]<;>exact rfl) (by omega) ?_
 rintro d rfl
 refine Ad (Rq ?_)
 refine Ap (Ap (Aa (Af ?_)))
 refine Ag (Ad (xo2 ?_))
 refine xo2 ?_
 refine xo3 ?_
 refine xo1 ?_
 refine Ae rfl (Ce 0 (b:=false) ?_)
 refine Ai rfl (xo2 ?_)
 refine Ai rfl (xo2 ?_)
 refine Ai rfl (xo3 ?_)
 refine Ai rfl (xo1 ?_)
 refine xo0 ?_
 refine Aa (Af ?_)
 refine Eo ?_
 refine Ad (Ac rfl (Ab (by simp only[zo];exact Jv (by omega) _ (by omega)) ?_))
 refine Ab (by simp only[zo];exact parse_big (by omega) _ (by have:=Kq l;omega) (fun h=>hm (D8 h)) (fun h=>hp (D8 h)) (fun h=>hq (D8 h)) hn uT) ?_
 refine Ae rfl (xo7 ?_)
 refine xo4 ?_
 refine xo8 ?_
 refine Kn ?_
 refine Ae rfl (Aa (Af ?_))
 refine Ag (Ad (Ac rfl (xo1 ?_)))
 refine Aa (Af ?_)
 refine Eo ?_
 refine Ad (Ap (Ap (Aa (Af ?_))))
 refine Av (D5 (D5 ?_))
 refine⟨_,by simp only[F48,Ak,Bb,Cb,zg,zm]<;>exact rfl,?_⟩
 rfl
theorem typedE_ok{d:Nat}(hd:26≤d)(S:St){n:Nat}(h2:2≤n)(h6:n≤6){a b c:Nat}{op:List (List D)}{l:List UInt8}(hl:l.length≤1000)(hm:(45:UInt8)∉l)(hp:(43:UInt8)∉l)(hq:(46:UInt8)∉l)(hn:Ez (trimB l)=true)(uT:(Cv (trimB l)).length≤62):Az LP NN d 48 [.agg [.int .i64 (a:Nat),.int .i64 (b:Nat),.int .u8 (c:Nat),.Vu,.int .u8 5,.int .u8 0,.str (Gm true n),.int .i64 (n:Nat),.int .i64 0,.bool false,.bool false,.bool false,.bool false,.bool false,.int .i64 (n:Nat),.sl 5 op (some 1)],.str (mkS l)] S=some (.tup [.sl 1 (bR (edS (pad n (strip (Gw n (strip (trimB l))))))) (some n),.bool (decide ((strip (trimB l)).length≤n))],S,false):=by
 refine run_pure (F:=F48) rfl (by simp only[LP,Al,Bw,zs,zm]<;>exact rfl) rfl (by simp only[LP,zf,zm];try rfl) (by simp only[F48,zv]<;>exact rfl) (by omega) ?_
 rintro d rfl
 refine Ad (Rq ?_)
 refine Ap (Ap (Aa (Af ?_)))
 refine Ag (Ad (xo2 ?_))
 refine xo2 ?_
 refine xo3 ?_
 refine xo1 ?_
 refine Ae rfl (Ce 0 (b:=false) ?_)
 refine Ai rfl (xo2 ?_)
 refine Ai rfl (xo2 ?_)
 refine Ai rfl (xo3 ?_)
 refine Ai rfl (xo1 ?_)
 refine xo0 ?_
 refine Aa (Af ?_)
 refine Eo ?_
 refine Ad (Ac rfl (Ab (by simp only[zo];exact Jv (by omega) _ (by omega)) ?_))
 refine Ab (by simp only[zo];exact dparse_run (by omega) _ (by have:=Kq l;omega) (fun h=>hm (D8 h)) (fun h=>hp (D8 h)) (fun h=>hq (D8 h)) hn uT) ?_
 refine Ae rfl (xo7 ?_)
 refine xo4 ?_
 refine xo8 ?_
 refine Kn ?_
 refine Ae rfl (Aa (Af ?_))
 refine Ag (Ad (Ac rfl (xo1 ?_)))
 refine Aa (Af ?_)
 refine Ca ?_
 refine Aj (Bd rfl (Ad (xo3 ?_)))
 refine xo2 ?_
 refine xo3 ?_
 refine Ab (by simp only[zo];exact storeE_run (by omega) _ h2 h6 (Nrm.of false (trimB l) hn uT)) ?_
 refine Ae rfl (xo7 ?_)
 refine xo4 ?_
 refine xo4 ?_
 refine Ae rfl (Ae rfl (Ae rfl (Aa (Af ?_))))
 refine Ad (Ac rfl (Ac rfl (xo1 ?_)))
 refine Ae rfl (Ce 0 (b:=true) ?_)
 refine Ai rfl (Ac rfl (Ai rfl (Ab (by simp only[zo,unD,Bool.not_not]<;>exact rfl) ?_)))
 refine xo0 ?_
 refine Ae rfl (Ae rfl (Aa (Af ?_)))
 refine Av (D5 ?_)
 refine⟨_,by simp only[F48,Ak,Bb,Cb,zg,zm]<;>exact rfl,?_⟩
 rfl
section
variable (d:Nat) (S:St)
theorem xchk_0:(List.range 10).map (fun k=>Cj LP NN (d+16) 38 [.agg (Dh false (1+k))] S)=(List.range 10).map (fun _=>some (.int .i64 0,S,false)):=by kernel_rfl
theorem xchk_1:(List.range 10).map (fun k=>Cj LP NN (d+16) 38 [.agg (Dh false (11+k))] S)=(List.range 10).map (fun _=>some (.int .i64 0,S,false)):=by kernel_rfl
theorem xchk_2:(List.range 10).map (fun k=>Cj LP NN (d+16) 38 [.agg (Dh false (21+k))] S)=(List.range 10).map (fun _=>some (.int .i64 0,S,false)):=by kernel_rfl
theorem xchk_3:(List.range 10).map (fun k=>Cj LP NN (d+16) 38 [.agg (Dh false (31+k))] S)=(List.range 10).map (fun _=>some (.int .i64 0,S,false)):=by kernel_rfl
theorem xchk_4:(List.range 10).map (fun k=>Cj LP NN (d+16) 38 [.agg (Dh false (41+k))] S)=(List.range 10).map (fun _=>some (.int .i64 0,S,false)):=by kernel_rfl
theorem xchk_5:(List.range 10).map (fun k=>Cj LP NN (d+16) 38 [.agg (Dh false (51+k))] S)=(List.range 10).map (fun _=>some (.int .i64 0,S,false)):=by kernel_rfl
theorem xchk_6:(List.range 10).map (fun k=>Cj LP NN (d+16) 38 [.agg (Dh false (61+k))] S)=(List.range 10).map (fun _=>some (.int .i64 0,S,false)):=by kernel_rfl
theorem xchk_7:(List.range 10).map (fun k=>Cj LP NN (d+16) 38 [.agg (Dh false (71+k))] S)=(List.range 10).map (fun _=>some (.int .i64 0,S,false)):=by kernel_rfl
theorem xchk_8:(List.range 10).map (fun k=>Cj LP NN (d+16) 38 [.agg (Dh false (81+k))] S)=(List.range 10).map (fun _=>some (.int .i64 0,S,false)):=by kernel_rfl
theorem xchk_9:(List.range 10).map (fun k=>Cj LP NN (d+16) 38 [.agg (Dh false (91+k))] S)=(List.range 10).map (fun _=>some (.int .i64 0,S,false)):=by kernel_rfl
theorem alw_t(m n:Nat):Cj LP NN (d+4) 136 [.agg (Dh false m),.agg (Dh false n)] S=some (.bool true,S,false):=by kernel_rfl
end
theorem Qk{d:Nat}(hd:16≤d)(S:St){n:Nat}(h1:1≤n)(h2:n≤100):Az LP NN d 38 [.agg (Dh false n)] S=some (.int .i64 0,S,false):=by
 obtain⟨d,rfl⟩:∃d',d=d'+16:=⟨d-16,by omega⟩
 obtain⟨j,k,hj,hk,rfl⟩:∃j k,j<10∧k<10∧n=10*j+1+k:=⟨(n-1) / 10,(n-1) % 10,by omega,by omega,by omega⟩
 match j,hj with
 | 0,_=>exact fast_ok (Ga (xchk_0 d S) k hk)
 | 1,_=>exact fast_ok (Ga (xchk_1 d S) k hk)
 | 2,_=>exact fast_ok (Ga (xchk_2 d S) k hk)
 | 3,_=>exact fast_ok (Ga (xchk_3 d S) k hk)
 | 4,_=>exact fast_ok (Ga (xchk_4 d S) k hk)
 | 5,_=>exact fast_ok (Ga (xchk_5 d S) k hk)
 | 6,_=>exact fast_ok (Ga (xchk_6 d S) k hk)
 | 7,_=>exact fast_ok (Ga (xchk_7 d S) k hk)
 | 8,_=>exact fast_ok (Ga (xchk_8 d S) k hk)
 | 9,_=>exact fast_ok (Ga (xchk_9 d S) k hk)
theorem alw_run{d:Nat}(hd:4≤d)(S:St)(m n:Nat):Az LP NN d 136 [.agg (Dh false m),.agg (Dh false n)] S=some (.bool true,S,false):=by
 obtain⟨d,rfl⟩:∃d',d=d'+4:=⟨d-4,by omega⟩
 exact fast_ok (alw_t d S m n)
theorem xtext_run{d:Nat}(hd:2≤d)(S:St){n:Nat}(h2:n≤100):Az LP NN d 88 [.int .i64 (n:Nat)] S=some (.agg (Dh false n),S,false):=by
 refine run_pure (F:=F88) rfl (by simp only[LP,Al,zs]<;>exact rfl) rfl (by simp only[LP,zf,zm];try rfl) (by simp only[F88,zv]<;>exact rfl) (by omega) ?_
 rintro d rfl
 refine Ad (xo8 ?_)
 refine Aa (Af ?_)
 refine Ad (Ac rfl (Ab (by simp only[zo];exact Qv (by omega) _ 88 n (by omega)) ?_))
 refine Ac rfl (xo24 ?_)
 refine Kn ?_
 refine Aa (Af ?_)
 refine Av ?_
 refine⟨_,by simp only[F88,Ak,Bb,Cb,zg,zd,rowsOf,Be,List.take,List.drop,zm]<;>exact rfl,?_⟩
 rfl
theorem csize_run{d:Nat}(hd:1≤d)(S:St){n:Nat}(h2:n≤100):Az LP NN d 175 [.int .i64 (n:Nat)] S=some (.int .i64 0,S,false):=by
 have hs1:decide (((n:Nat):Int)<0)=false:=decide_eq_false (by omega)
 have hs2:decide (((n:Nat):Int)>1048576)=false:=decide_eq_false (by omega)
 refine run_pure (F:=F175) rfl (by simp only[LP,Al,zs]<;>exact rfl) rfl (by simp only[LP,zf,zm];try rfl) (by simp only[F175,zv]<;>exact rfl) (by omega) ?_
 rintro d rfl
 refine Ad (Ap (Aa (Af ?_)))
 refine Ag (Aq (Ad (Ac rfl (Ab (by simp only[zo,Bh,hs1]<;>exact rfl) ?_))))
 refine Ae rfl (Aa (Af ?_))
 refine Ca ?_
 refine Ad (Ac rfl (Ab (by simp only[zo,Bh,hs2]<;>exact rfl) ?_))
 refine Ae rfl (Aa (Af ?_))
 refine Ca ?_
 refine Aj (Eb (Bd rfl (Ad (Ap (Aa (Af ?_))))))
 refine Av ?_
 refine⟨_,by simp only[F175,Ak,Bb,Cb,zg]<;>exact rfl,?_⟩
 rfl
def Ml (b:List UInt8) (n:Nat):List UInt8:=b.take n++List.replicate (n-b.length) 32
theorem fitB_len(b:List UInt8)(n:Nat):(Ml b n).length=n:=by
 simp[Ml]
 omega
theorem Mv(l:List UInt8):Bu (mkS l)=bR l:=by simp[Bu,mkS,bR]
theorem fit_rows(b:List UInt8)(n:Nat):(bR b).take (min (bR b).length n)++(bR (List.replicate n 32)).drop (min (bR b).length n)=bR (Ml b n):=by
 rw[Iz,Ml]
 simp only[bR,List.map_append,List.map_take,List.map_replicate,List.drop_replicate]
 congr 1
 ·
  by_cases h:b.length≤n
  ·
   rw[Nat.min_eq_left h,List.take_of_length_le (by simp),List.take_of_length_le (by simp;omega)]
  rw[Nat.min_eq_right (by omega)]
 congr 1
 omega
theorem fitX_run{d:Nat}(hd:3≤d)(S:St)(b:List UInt8)(hb:b.length≤100){n:Nat}(h1:1≤n)(h2:n≤100)(c:Option Nat):Az LP NN d 137 [.sl 1 (bR b) c,.int .i64 (n:Nat),.bool false] S=some (.tup [.sl 1 (bR (Ml b n)) (some n),.int .i64 0],S,false):=by
 have hmk:(0≤((n:Nat):Int)∧((n:Nat):Int)≤((n:Nat):Int)∧n*1≤140737488355328)=True:=eq_true (by omega)
 have hb32:List.take (min (bR (List.replicate n 32)).length n) (bR (List.replicate n 32))++List.drop (min (bR (List.replicate n 32)).length n) (List.replicate n [.int .u8 0])=bR (List.replicate n 32):=by simp[bR]
 have hL:(bR (Ml b n)).length=n:=by rw[Iz,fitB_len]
 have hT:(bR (Ml b n)).take n=bR (Ml b n):=List.take_of_length_le (by rw[Iz,fitB_len];exact Nat.le_refl n)
 refine run_pure (F:=F137) rfl (by simp only[LP,Al,zs]<;>exact rfl) rfl (by simp only[LP,zf,zm];try rfl) (by simp only[F137,zv]<;>exact rfl) (by omega) ?_
 rintro d rfl
 refine Ad (Ap (Ap (Aa (Af ?_))))
 refine Ag (Ad (Ac rfl (Ab (by simp only[zo];exact csize_run (by omega) _ (by omega)) ?_)))
 refine Ae rfl (Aa (Af ?_))
 refine Ad (Ac rfl (xo1 ?_))
 refine Aa (Af ?_)
 refine Ca ?_
 refine Aj (Bd rfl (Ad (Ac rfl (Ab (by simp only[zl,zm,Int.toNat_natCast,hmk,decide_false]<;>exact rfl) ?_))))
 refine Ae rfl (Aa (Af ?_))
 refine Ad (Ac rfl (Ac rfl (Ab (by simp only[zo];exact Qv (by omega) _ 32 n (by omega)) ?_)))
 refine Ab (by simp only[zl,zm,F7,kW,Mv]<;>exact rfl) ?_
 refine Aa (Af ?_)
 refine Ag (Ad (Ac rfl (Aa (Af ?_))))
 refine Ca ?_
 refine Ar (Ac rfl (Ac rfl (Ab (by simp only[zl,zm,M3,Gn,F7,kW]<;>exact rfl) ?_)))
 refine Aa (Af ?_)
 refine Ad (Ac rfl (Ae rfl (Ap (Aa (Af ?_)))))
 refine Av ?_
 refine⟨_,by simp only[F137,Ak,Bb,Cb,zg]<;>exact rfl,?_⟩
 rw[hb32,fit_rows]
 simp[Dv,leave,Vl,Al,Vi,snap,D.Vk,D.Vj,D.free,D.Vo,hT,hL]
theorem mtext_run{d:Nat}(hd:1≤d)(S:St)(m n:Nat)(rows:List (List D))(c:Option Nat):Az LP NN d 140 [.agg [.int .u8 2,.int .u8 0,.str (mkS (List.replicate m 88)),.int .i64 0,.int .i64 0,.bool false,.bool false,.bool false,.bool false,.bool false,.int .i64 (m:Nat),.sl 1 rows c],.agg [.int .u8 2,.int .u8 0,.str (mkS (List.replicate n 88)),.int .i64 0,.int .i64 0,.bool false,.bool false,.bool false,.bool false,.bool false,.int .i64 (n:Nat)]] S=some (.tup [.sl 1 rows c,.int .i64 0],S,false):=by
 refine run_pure (F:=F140) rfl (by simp only[LP,Al,Bw,zs,zm]<;>exact rfl) rfl (by simp only[LP,zf,zm];try rfl) (by simp only[F140,zv]<;>exact rfl) (by omega) ?_
 rintro d rfl
 refine Ad (Jj ?_)
 refine Jj ?_
 refine Ap (Ap (Aa (Af ?_)))
 refine Ag (Ad (xo5 ?_))
 refine xo5 ?_
 refine xo3 ?_
 refine xo1 ?_
 refine Ae rfl (Ce 0 (b:=true) ?_)
 refine Ao rfl rfl (Ao rfl rfl (Ao rfl rfl (xo0 ?_)))
 refine Aa (Af ?_)
 refine Em (by simp only[opd,zv]) ?_
 refine Ad (xo5 ?_)
 refine xo3 ?_
 refine Ae rfl (Ap (Aa (Af ?_)))
 refine Av (D5 ?_)
 refine⟨_,by simp only[F140,Ak,Bb,Cb,zg]<;>exact rfl,?_⟩
 rfl
theorem move_run{d:Nat}(hd:17≤d)(S:St)(b:List UInt8)(kg:1≤b.length)(hb:b.length≤100){n:Nat}(h1:1≤n)(h2:n≤100)(c:Option Nat):Az LP NN d 87 [.agg [.int .u8 2,.int .u8 0,.str (mkS (List.replicate b.length 88)),.int .i64 0,.int .i64 0,.bool false,.bool false,.bool false,.bool false,.bool false,.int .i64 (b.length:Nat),.sl 1 (bR b) c],.agg [.int .u8 2,.int .u8 0,.str (mkS (List.replicate n 88)),.int .i64 0,.int .i64 0,.bool false,.bool false,.bool false,.bool false,.bool false,.int .i64 (n:Nat)]] S=some (.tup [.sl 1 (bR (Ml b n)) (some n),.int .i64 0],S,false):=by
 refine run_pure (F:=F87) rfl (by simp only[LP,Al,Bw,zs,zm]<;>exact rfl) rfl (by simp only[LP,zf,zm];try rfl) (by simp only[F87,zv]<;>exact rfl) (by omega) ?_
 rintro d rfl
 refine Ad (Jj ?_)
 refine Jj ?_
 refine Ap (Ap (Aa (Af ?_)))
 refine Ag (Aq (Ad (xo5 ?_)))
 refine xo3 ?_
 first
  | refine Ab (by simp only[zo];exact Qk (by omega) _ (n:=b.length) kg hb) ?_
  | refine Ab (by simp only[zo,zx,Iz];exact Qk (by omega) _ (n:=n) h1 h2) ?_
 refine xo1 ?_
 refine Ae rfl (Ce 0 (b:=false) ?_)
 refine Ai rfl (xo3 ?_)
 refine Ai rfl ?_
 first
  | refine Ab (by simp only[zo];exact Qk (by omega) _ (n:=b.length) kg hb) ?_
  | refine Ab (by simp only[zo];exact Qk (by omega) _ (n:=n) h1 h2) ?_
 refine Ai rfl (xo1 ?_)
 refine xo0 ?_
 refine Ae rfl (Aa (Af ?_))
 refine Bz (by simp only[opd,zv]<;>(first | rfl | exact congrArg D.bool (bne_self_eq_false _))) ?_
 refine Ad (xo5 ?_)
 refine xo3 ?_
 refine Ab (by simp only[zo,Kg,Iz]<;>exact rfl) ?_
 refine xo5 ?_
 refine xo5 ?_
 refine xo3 ?_
 refine xo1 ?_
 refine Ae rfl (Aa (Af ?_))
 refine Bz (by simp only[opd,zv]<;>(first | rfl | exact congrArg D.bool (bne_self_eq_false _))) ?_
 refine Ad (xo5 ?_)
 refine xo3 ?_
 refine xo3 ?_
 refine Ab (by simp only[zo];exact alw_run (by omega) _ b.length n) ?_
 refine xo9 ?_
 refine Ae rfl (Aa (Af ?_))
 refine Bz (by simp only[opd,zv]<;>(first | rfl | exact congrArg D.bool (bne_self_eq_false _))) ?_
 refine Ad (xo5 ?_)
 refine xo5 ?_
 refine xo3 ?_
 refine xo1 ?_
 refine Ae rfl (Aa (Af ?_))
 refine Bz (by simp only[opd,zv]<;>(first | rfl | exact congrArg D.bool (bne_self_eq_false _))) ?_
 refine Ad (xo5 ?_)
 refine xo3 ?_
 refine xo1 ?_
 refine Ae rfl (Ce 0 (b:=false) ?_)
 refine Ai rfl (xo5 ?_)
 refine Ai rfl (xo3 ?_)
 refine Ai rfl (xo1 ?_)
 refine xo0 ?_
 refine Ae rfl (Aa (Af ?_))
 refine Bz (by simp only[opd,zv]<;>(first | rfl | exact congrArg D.bool (bne_self_eq_false _))) ?_
 refine Aj (Eb (Bd rfl (Ad (xo3 ?_))))
 refine xo3 ?_
 refine Ab (by simp only[zo];exact mtext_run (by omega) _ b.length n (bR b) c) ?_
 refine Ae rfl (xo7 ?_)
 refine xo4 ?_
 refine Ae rfl (Ae rfl (Aa (Af ?_)))
 refine Ag (Aq (Ad (Ac rfl (xo1 ?_))))
 refine Ae rfl (Aa (Af ?_))
 refine Bz (by simp only[opd,zv]<;>(first | rfl | exact congrArg D.bool (bne_self_eq_false _))) ?_
 refine Ad (xo5 ?_)
 refine xo3 ?_
 refine xo1 ?_
 refine Ae rfl (Aa (Af ?_))
 refine Bz (by simp only[opd,zv]<;>(first | rfl | exact congrArg D.bool (bne_self_eq_false _))) ?_
 refine Aj (Eb (Bd rfl (Ad (Ac rfl (xo5 ?_)))))
 refine xo3 ?_
 refine xo5 ?_
 refine xo3 ?_
 refine Ab (by simp only[zo];exact fitX_run (by omega) _ b hb h1 h2 c) ?_
 refine xo7 ?_
 refine xo4 ?_
 refine Ae rfl (Ae rfl (Aa (Af ?_)))
 refine Av ?_
 refine⟨_,by simp only[F87,Ak,Bb,Cb,zg]<;>exact rfl,?_⟩
 rfl
theorem fitB_nil{n:Nat}(h:1≤n):Ml [32] n=Ml [] n:=by
 obtain⟨k,rfl⟩:∃k,n=k+1:=⟨n-1,by omega⟩
 simp[Ml,List.replicate_succ]
theorem typedX_run{d:Nat}(hd:18≤d)(S:St){n a b c:Nat}(h1:1≤n)(h2:n≤100){op:List (List D)}{l:List UInt8}(hl:l.length≤100):Az LP NN d 48 [.agg [.int .i64 (a:Nat),.int .i64 (b:Nat),.int .u8 (c:Nat),.Vu,.int .u8 2,.int .u8 0,.str (mkS (List.replicate n 88)),.int .i64 0,.int .i64 0,.bool false,.bool false,.bool false,.bool false,.bool false,.int .i64 (n:Nat),.sl 5 op (some 1)],.str (mkS l)] S=some (.tup [.sl 1 (bR (Ml l n)) (some n),.bool true],S,false):=by
 have h256:decide (((l.length:Nat):Int)>256)=false:=decide_eq_false (by omega)
 refine run_pure (F:=F48) rfl (by simp only[LP,Al,Bw,zs,zm]<;>exact rfl) rfl (by simp only[LP,zf,zm];try rfl) (by simp only[F48,zv]<;>exact rfl) (by omega) ?_
 rintro d rfl
 refine Ad (Rq ?_)
 refine Ap (Ap (Aa (Af ?_)))
 refine Ag (Ad (xo2 ?_))
 refine xo2 ?_
 refine xo3 ?_
 refine xo1 ?_
 refine Ae rfl (Ce 0 (b:=false) ?_)
 refine Ai rfl (xo2 ?_)
 refine Ai rfl (xo2 ?_)
 refine Ai rfl (xo3 ?_)
 refine Ai rfl (xo1 ?_)
 refine xo0 ?_
 refine Aa (Af ?_)
 refine Ca ?_
 refine Aj (Bd rfl (Ag (Ad (Ac rfl (xo37 ?_)))))
 refine Aa (Af ?_)
 refine Bv (by simp only[opd,zv]<;>exact rfl) (fun hc=>?_) (fun hc=>?_)
 ·
  refine Ar (Ap (Aa (Af ?_)))
  refine Ag (Ad (Ac rfl (Ab (by simp only[zo,Eh,Cs,m32,List.length_singleton]<;>exact rfl) ?_)))
  refine Ab (by simp only[zo,Bh,m32]<;>exact rfl) ?_
  refine Aa (Af ?_)
  refine Bz (by simp only[opd,zv,m32]<;>rfl) ?_
  refine Aj (Bd rfl (Ag (Ey ?_)))
  refine Bq rfl rfl (Bp (by simp only[zo,Eh,Cs,m32,List.length_singleton]<;>exact rfl) rfl rfl ?_)
  refine Ck (by simp only[zo,m32];exact xtext_run (by omega) _ (n:=1) (by omega)) rfl ?_
  refine Bq rfl rfl (Ck (by simp only[zl,Mv,m32]<;>exact rfl) rfl ?_)
  refine Bp (by simp only[zo,Hf,overlay,zc,List.take,Nat.reduceAdd,Nat.reduceLeDiff,zm,m32]<;>exact rfl) rfl rfl ?_
  refine Bp (by simp only[zo,E9,zm,m32]<;>exact rfl) rfl rfl ?_
  refine Ck (by simp only[zl,zm,zd,Be,List.take,List.drop,m32]<;>exact rfl) rfl ?_
  refine Ck (by simp only[zo,m32];exact move_run (by omega) _ [32] (by decide) (by decide) h1 h2 _) rfl ?_
  refine Dq rfl rfl (Bp (by simp only[zo,Lz,m32]<;>exact rfl) rfl rfl ?_)
  refine Bp (by simp only[zo,Lz,Ls_,m32]<;>exact rfl) rfl rfl ?_
  refine Dq rfl rfl (Dq rfl rfl (Cw (Af ?_)))
  refine Ad (Ac rfl (Ac rfl (Ab (by simp only[zo,Bh,m32]<;>exact rfl) ?_)))
  refine Ae rfl (Ae rfl (Aa (Af ?_)))
  refine Av ?_
  refine⟨_,by simp only[F48,Ak,Bb,Cb,zg,zm]<;>exact rfl,?_⟩
  rw[(eqNil l).1 hc,←fitB_nil h1]
  rfl
 have vU:1≤l.length:=by
  cases l with
  | nil=>cases hc
  | cons a l=>simp
 refine Aj (Bd rfl (Ag (Ad (Ac rfl (Km ?_)))))
 refine Ab (by simp only[zo,Bh,h256]<;>exact rfl) ?_
 refine Aa (Af ?_)
 refine Ca ?_
 refine Aj (Bd rfl (Ag (Ey ?_)))
 refine Bq rfl rfl (Bp (by simp only[zo,Eh,Cs]<;>exact rfl) rfl rfl ?_)
 refine Ck (by simp only[zo];exact xtext_run (by omega) _ (n:=l.length) (by omega)) rfl ?_
 refine Bq rfl rfl (Ck (by simp only[zl,Mv]<;>exact rfl) rfl ?_)
 refine Bp (by simp only[zo,Hf,overlay,zc,List.take,Nat.reduceAdd,Nat.reduceLeDiff,zm]<;>exact rfl) rfl rfl ?_
 refine xo6 rfl rfl ?_
 refine Iq rfl ?_
 refine Ck (by simp only[zo];exact move_run (by omega) _ l vU hl h1 h2 _) rfl ?_
 refine Dq rfl rfl (xo25 rfl rfl ?_)
 refine xo22 rfl rfl ?_
 refine Dq rfl rfl (Dq rfl rfl (Cw (Af ?_)))
 refine Ad (Ac rfl (Ac rfl (xo1 ?_)))
 refine Ae rfl (Ae rfl (Aa (Af ?_)))
 refine Av ?_
 refine⟨_,by simp only[F48,Ak,Bb,Cb,zg,zm]<;>exact rfl,?_⟩
 rfl
theorem fitB_pad{l:List UInt8}{k n:Nat}(h1:n≤l.length+k)(h2:k=0∨l.length+k≤n):(l++List.replicate k 32).take n=Ml l n:=by
 rcases h2 with rfl | h2
 ·
  rw[Ml,List.replicate_zero,List.append_nil,show n-l.length=0 by omega]
  simp
 rw[Ml,List.take_of_length_le (by simp;omega),List.take_of_length_le (by omega),show n-l.length=k by omega]
theorem fitted_X{d:Nat}(hd:8≤d)(S:St)(f:FM)(hnu:f.nu=false){l:List UInt8}(hl:l.length≤100):Az LP NN d 22 [.agg f.row,.str (mkS l)] S=some (.tup [.str (mkS (Ml l f.size)),.bool true],S,false):=by
 have xG:=f.size_le
 refine run_pure (F:=F22) rfl (by simp only[LP,Al,Bw,zs,zm,FM.row]<;>exact rfl) rfl (by simp only[LP,zf,zm];try rfl) (by simp only[F22,zv]<;>exact rfl) (by omega) ?_
 rintro d rfl
 refine Ad (Jj ?_)
 refine Ap (Ap (Aa (Af ?_)))
 refine Ag (Ad (xo5 ?_))
 refine xo3 ?_
 refine xo9 ?_
 refine Aa (Af ?_)
 refine Em (by simp only[opd,zv]<;>(exact congrArg (fun b=>D.bool (!b)) hnu)) ?_
 refine Ag (Aq (Cz (fun n env S'=>∃(k:Nat) (u7:D),(k=0∨l.length+k≤f.size)∧n=f.size-(l.length+k)∧S'=⟨[],0⟩∧env=[.agg f.row,.str (mkS (l++List.replicate k 32)),.Vw f.row 0,.str ⟨#[]⟩,.bool false,.undef,.bool (!f.nu),u7,.undef,.undef,.undef,.undef,.undef,.undef,.undef,.undef]) (f.size-l.length) (by omega) (⟨0,_,.inl rfl,rfl,rfl,by rw[List.replicate_zero,List.append_nil];exact rfl⟩) ?_))
 rintro n env S' ⟨k,u7,hk,kV,rfl,rfl⟩
 refine Ag (Ad (Ac rfl (xo27 ?_)))
 refine xo42 ?_
 first
  | refine Ab (by simp only[zo,FM.row];exact Gg (by omega) _ f) ?_
  | refine Ab (by simp only[zo,zx,Dp,FM.row];exact Gg (by omega) _ f) ?_
  | refine Ab (by simp only[zo,zx,Dp,FM.row];exact Gg (by omega) _ f) ?_
 refine Uz ?_
 refine Aa (Af ?_)
 refine Bv (by simp only[opd,zv,FM.row]<;>exact rfl) (fun yG=>?_) (fun yG=>?_)
 ·
  have hltk:l.length+k<f.size:=by have:=of_decide_eq_true yG;simp at this;omega
  refine Aj (Bd rfl (Aq (Ar (Ac rfl (Ab (by simp only[zo,Bh,m32,Jt,Cs];rw[if_neg (by rw[show IntKind.i64.max=9223372036854775807 from rfl];simp only[Ll_,List.length_replicate,List.length_singleton];omega)];exact rfl) ?_)))))
  refine Ae rfl (Aa (Eb (Fb (by simp only[ze]<;>exact rfl) ?_)))
  exact⟨f.size-(l.length+(k+1)),by omega,k+1,_,.inr (by omega),rfl,rfl,by rw[List.replicate_succ',←Lo_]⟩
 have zF:f.size≤l.length+k:=by have:=of_decide_eq_false yG;simp at this;omega
 rw[←fitB_pad zF hk]
 refine Cf (E5 (Fp (Fa (Bd rfl (Ad (Ac rfl (xo42 ?_)))))))
 first
  | refine Ab (by simp only[zo,FM.row];exact Gg (by omega) _ f) ?_
  | refine Ab (by simp only[zo,zx,Dp,FM.row];exact Gg (by omega) _ f) ?_
  | refine Ab (by simp only[zo,zx,Dp,FM.row];exact Gg (by omega) _ f) ?_
 refine Ab (by simp only[opd,zv,Ba,aop,LOp.loud,Bool.false_eq_true,if_false];rw[Rw _ (l++List.replicate k 32) f.size _ rfl (by simp;omega)];exact rfl) ?_
 refine Ae rfl (Ap (Aa (Af ?_)))
 refine Av (D5 ?_)
 refine⟨_,by simp only[F22,Ak,Bb,Cb,zg]<;>exact rfl,?_⟩
 rfl
theorem isDig_of{c:UInt8}(h1:decide (((c.toNat:Nat):Int)<48)=false)(h2:decide (((c.toNat:Nat):Int)>57)=false):Gi c=true:=by
 rw[decide_eq_false_iff_not]at h1 h2
 rw[Gi,Bool.and_eq_true,decide_eq_true_eq,decide_eq_true_eq]
 omega
theorem isDig_no{l:List UInt8}{c:UInt8}(hc:c∈l)(h:((c.toNat:Nat):Int)<48∨((c.toNat:Nat):Int)>57):Ez l=false:=by
 rw[Ez,Bool.and_eq_false_iff]
 right
 rw[List.all_eq_false]
 refine⟨c,hc,?_⟩
 rw[Gi,Bool.and_eq_true,decide_eq_true_eq,decide_eq_true_eq]
 omega
theorem isNum_of{l:List UInt8}(h0:(l==[])=false)(h:∀j,j<l.length→∀c,l[j]?=some c→Gi c=true):Ez l=true:=by
 rw[Ez,h0,Bool.not_false,Bool.true_and,List.all_eq_true]
 intro c hc
 obtain⟨j,hj,e⟩:=List.getElem_of_mem hc
 exact h j hj c (by rw[Lg hj,e])
theorem Tf{l:List UInt8}(h:l≠[]):strip (48::l)=strip l:=by
 have:Cv (48::l)=Cv l:=by rw[Cv,Cv,List.dropWhile_cons,if_pos (by decide)]
 rw[strip,strip,this]
theorem strip_ne{c:UInt8}(l:List UInt8)(h:¬(c==48)=true):strip (c::l)=c::l:=by
 rw[strip,Cv,List.dropWhile_cons,if_neg h]
 rfl
theorem strip_one(l:List UInt8)(h:l.length≤1)(h0:l≠[]):strip l=l:=by
 match l,h with
 | [],_=>exact absurd rfl h0
 | [c], _ =>
  by_cases hc:c=48
  ·
   subst hc;rfl
  exact strip_ne [] (by simpa using hc)
 | a::b::l,h=>simp at h
theorem lskip_le(b:UInt8)(l:List UInt8):(D9 b l).length≤l.length:=(List.dropWhile_suffix _).length_le
def Sn (nu:Bool) (n:Nat) (l:List UInt8):Option (List UInt8):=if nu then (if Ez (Es 32 (D9 32 l))=true∧(strip (Es 32 (D9 32 l))).length≤n then some (List.replicate (n-(strip (Es 32 (D9 32 l))).length) 32++strip (Es 32 (D9 32 l))) else none) else some (Ml l n)
theorem Sm{n:Nat}{l t:List UInt8}(ht:t=Es 32 (D9 32 l))(h:Ez t=false):Sn true n l=none:=by
 rw[Sn,if_pos rfl,←ht,if_neg (by rw[h];exact fun e=>Bool.false_ne_true e.1)]
theorem fitP_big{n:Nat}{l t:List UInt8}(ht:t=Es 32 (D9 32 l))(h:¬(strip t).length≤n):Sn true n l=none:=by
 rw[Sn,if_pos rfl,←ht,if_neg (fun e=>h e.2)]
theorem fitP_ok{n:Nat}{l t:List UInt8}(ht:t=Es 32 (D9 32 l))(h:Ez t=true)(h2:(strip t).length≤n):Sn true n l=some (List.replicate (n-(strip t).length) 32++strip t):=by
 rw[Sn,if_pos rfl,←ht,if_pos ⟨h,h2⟩]
def fitD:Option (List UInt8)→D
 | none=>.tup [.str ⟨#[]⟩,.bool false]
 | some b=>.tup [.str (mkS b),.bool true]
theorem fitted_N{d:Nat}(hd:8≤d)(S:St)(f:FM)(hnu:f.nu=true){l:List UInt8}(hl:l.length≤100):Az LP NN d 22 [.agg f.row,.str (mkS l)] S=some (fitD (Sn true f.size l),S,false):=by
 have xG:=f.size_le
 refine run_pure (F:=F22) rfl (by simp only[LP,Al,Bw,zs,zm,FM.row]<;>exact rfl) rfl (by simp only[LP,zf,zm];try rfl) (by simp only[F22,zv]<;>exact rfl) (by omega) ?_
 rintro d rfl
 refine Ad (Jj ?_)
 refine Ap (Ap (Aa (Af ?_)))
 refine Ag (Ad (xo5 ?_))
 refine xo3 ?_
 refine xo9 ?_
 refine Aa (Af ?_)
 refine Bz (by simp only[opd,zv]<;>(exact congrArg (fun b=>D.bool (!b)) hnu)) ?_
 refine Aj (Bd rfl ?_)
 refine cw_cut (fun env S'=>∃(u8:D),S'=⟨[],0⟩∧env=[.agg f.row,.str (mkS (D9 32 l)),.Vw f.row 0,.str ⟨#[]⟩,.bool false,.undef,.bool (!f.nu),.undef,u8,.undef,.undef,.undef,.undef,.undef,.undef,.undef]) ?_ ?_
 ·
  refine Aq (Cz (fun n env S'=>∃(l':List UInt8) (u8:D),D9 32 l'=D9 32 l∧l'.length=n∧S'=⟨[],0⟩∧env=[.agg f.row,.str (mkS l'),.Vw f.row 0,.str ⟨#[]⟩,.bool false,.undef,.bool (!f.nu),.undef,u8,.undef,.undef,.undef,.undef,.undef,.undef,.undef]) (l.length) (by omega) (⟨l,_,rfl,rfl,rfl,rfl⟩) ?_)
  rintro n env S' ⟨l',u8,hl',rfl,rfl,rfl⟩
  refine Ag (Ad (Ac rfl (xo27 ?_)))
  refine Uz ?_
  refine Ae rfl ?_
  refine Dr 0 (by simp only[zv]<;>exact rfl) (by simp only[zn]<;>exact rfl) (by simp only[zn]<;>exact rfl) (fun hgB=>?_) (fun hgB=>?_)
  ·
   obtain⟨c,l'',rfl⟩:∃c l'',l'=c::l'':=by
    cases l' with
    | nil=>simp at hgB
    | cons c l=>exact⟨c,l,rfl⟩
   rename List UInt8=>l'
   refine Ai rfl (Ac rfl (Ai rfl (Ab (by simp only[zo,Ee,zm,Dp,FM.row]<;>exact rfl) ?_)))
   refine Ai rfl (Uz ?_)
   refine xo30 ?_
   refine Aa (Af ?_)
   refine Bv (by simp only[opd,zv,FM.row]<;>exact rfl) (fun hcBT=>?_) (fun hcBT=>?_)
   ·
    have h32:(c==32)=true:=u8beq (b:=32) hcBT
    refine Aj (Bd rfl (Aq (Ar (Ac rfl (Ab (by simp only[opd,zv,Ba,aop,LOp.loud,Bool.false_eq_true,if_false];rw[Ht _ _ 1 1 rfl (by simp)];exact rfl) ?_)))))
    refine Ae rfl (Aa (Eb (Fb (by simp only[ze]<;>exact rfl) ?_)))
    exact⟨l'.length,by simp,l',_,by rw[←hl',D9,D9,List.dropWhile_cons,if_pos h32],rfl,rfl,rfl⟩
   refine Cf (E5 (Fp (Fa (ck_n rfl ?_))))
   exact⟨_,rfl,by rw[←hl',D9,List.dropWhile_cons,if_neg (u8bne (b:=32) hcBT)]<;>rfl⟩
  obtain rfl:l'=[]:=by
   cases l' with
   | nil=>rfl
   | cons c l=>have:=of_decide_eq_false hgB;simp at this
  refine Ao rfl rfl (Ao rfl rfl (Ao rfl rfl (xo30 ?_)))
  refine Aa (Af ?_)
  refine Bz (by simp only[opd,zv,FM.row]) ?_
  refine Cf (E5 (Fp (Fa (ck_n rfl ?_))))
  exact⟨_,rfl,by rw[←hl']<;>rfl⟩
 rintro env S' ⟨u8,rfl,rfl⟩
 refine cw_cut (fun env S'=>∃(u8 u9:D),S'=⟨[],0⟩∧env=[.agg f.row,.str (mkS (Es 32 (D9 32 l))),.Vw f.row 0,.str ⟨#[]⟩,.bool false,.undef,.bool (!f.nu),.undef,u8,u9,.undef,.undef,.undef,.undef,.undef,.undef]) ?_ ?_
 ·
  refine Aq (Cz (fun n env S'=>∃(l':List UInt8) (u9:D),Es 32 l'=Es 32 (D9 32 l)∧l'.length=n∧n≤100∧S'=⟨[],0⟩∧env=[.agg f.row,.str (mkS l'),.Vw f.row 0,.str ⟨#[]⟩,.bool false,.undef,.bool (!f.nu),.undef,u8,u9,.undef,.undef,.undef,.undef,.undef,.undef]) ((D9 32 l).length) (by have:=lskip_le 32 l;omega) (⟨D9 32 l,_,rfl,rfl,by have:=(List.dropWhile_suffix (·==(32:UInt8)) (l:=l)).length_le;exact Nat.le_trans this hl,rfl,rfl⟩) ?_)
  rintro n env S' ⟨l',u9,hl',rfl,yD,rfl,rfl⟩
  refine Ag (Ad (Ac rfl (xo27 ?_)))
  refine Uz ?_
  refine Ae rfl ?_
  refine Dr 0 (by simp only[zv]<;>exact rfl) (by simp only[zn]<;>exact rfl) (by simp only[zn]<;>exact rfl) (fun hgXC=>?_) (fun hgXC=>?_)
  ·
   obtain⟨l'',c,rfl⟩:∃l'' c,l'=l''++[c]:=by
    rcases List.eq_nil_or_concat l' with h | ⟨a,b,h⟩
    ·
     subst h;simp at hgXC
    exact⟨a,b,by simpa using h⟩
   rename List UInt8=>l'
   have hw:IntKind.i64.wrap (((l'++[c]).length:Nat)-1:Int)=(l'.length:Int):=by rw[IntKind.wrap_i64];simp at yD ⊢;omega
   have hix:(l'++[c])[l'.length]?=some c:=by simp
   have h0:(0:Int)≤(l'.length:Int):=by omega
   have xQ:=aI hw (aI hix (aI h0 (@Int.toNat_natCast)))
   refine Ai rfl (Ac rfl (Ai rfl (Ac rfl (Ai rfl (xo27 ?_)))))
   refine Ai rfl (Ab (by simp only[zo,Bh,FM.row,xQ]<;>exact rfl) ?_)
   refine Ai rfl (Ab (by simp only[zo,Ee,zm,Dp,FM.row,xQ]<;>exact rfl) ?_)
   refine Ai rfl (Uz ?_)
   refine xo30 ?_
   refine Aa (Af ?_)
   refine Bv (by simp only[opd,zv,FM.row]<;>exact rfl) (fun hcXCT=>?_) (fun hcXCT=>?_)
   ·
    have h32:(c==32)=true:=u8beq (b:=32) hcXCT
    refine Aj (Bd rfl (Aq (Ar (Ac rfl (Ac rfl (xo27 ?_))))))
    refine Ab (by simp only[zo,Bh,FM.row,xQ]<;>exact rfl) ?_
    refine Ab (by simp only[opd,zv,Ba,aop,LOp.loud,Bool.false_eq_true,if_false];rw[Rw _ (l'++[c]) l'.length _ rfl (by simp),List.take_left];exact rfl) ?_
    refine Ae rfl (Aa (Eb (Fb (by simp only[ze]<;>exact rfl) ?_)))
    exact⟨l'.length,by simp,l',_,by rw[←hl',Lx,if_pos h32],rfl,by simp at yD;omega,rfl,rfl⟩
   refine Cf (E5 (Fp (Fa (ck_n rfl ?_))))
   exact⟨_,_,rfl,by rw[←hl',Lx,if_neg (u8bne (b:=32) hcXCT)]<;>rfl⟩
  obtain rfl:l'=[]:=by
   cases l' with
   | nil=>rfl
   | cons c l=>have:=of_decide_eq_false hgXC;simp at this
  refine Ao rfl rfl (Ao rfl rfl (Ao rfl rfl (Ao rfl rfl (Ao rfl rfl (Ao rfl rfl (xo30 ?_))))))
  refine Aa (Af ?_)
  refine Bz (by simp only[opd,zv,FM.row]) ?_
  refine Cf (E5 (Fp (Fa (ck_n rfl ?_))))
  exact⟨_,_,rfl,by rw[←hl']<;>rfl⟩
 rintro env S' ⟨u8,u9,rfl,rfl⟩
 obtain⟨t,ht⟩:∃t,t=Es 32 (D9 32 l):=⟨_,rfl⟩
 rw[←ht]
 have uD:t.length≤100:=by rw[ht];exact Nat.le_trans (Qt 32 _) (Nat.le_trans (List.dropWhile_suffix (·==(32:UInt8)) (l:=l)).length_le hl)
 refine Ag (Ad (Ac rfl (Ab (by simp only[zo,Bh,Dy,Er,FM.row]<;>exact rfl) ?_)))
 refine Aa (Af ?_)
 refine Bv (by simp only[opd,zv,FM.row]<;>exact rfl) (fun hcXY=>?_) (fun hcXY=>?_)
 ·
  refine Ad (Ap (Ap (Aa (Af ?_))))
  refine Av (D5 ?_)
  refine⟨_,by simp only[F22,Ak,Bb,Cb,zg]<;>exact rfl,?_⟩
  rw[Sm ht (by rw[eq_of_beq hcXY];rfl)]
  rfl
 have ht0:t≠[]:=beq_eq_false_iff_ne.1 hcXY
 refine Aj (Bd rfl (Ag (Ad (Ap (Aa (Af ?_))))))
 refine Aq (Cz (fun n env S'=>∃(i:Nat) (u11 u12:D),i≤t.length∧n=t.length-i∧S'=⟨[],0⟩∧env=[.agg f.row,.str (mkS t),.Vw f.row 0,.str ⟨#[]⟩,.bool false,.int .i64 (i:Nat),.bool (!f.nu),.undef,u8,u9,.bool (t==[]),u11,u12,.undef,.undef,.undef]∧∀j,j<i→∀c,t[j]?=some c→Gi c=true) (t.length) (by omega) (⟨0,_,_,by omega,by omega,rfl,rfl,fun j h=>absurd h (by omega)⟩) ?_)
 rintro n env S' ⟨i,u11,u12,hi,kV,rfl,rfl,xq⟩
 refine Ag (Ad (Ac rfl (Ac rfl (xo27 ?_))))
 refine Uz ?_
 refine Aa (Af ?_)
 refine Bv (by simp only[opd,zv,FM.row]<;>exact rfl) (fun ru=>?_) (fun ru=>?_)
 ·
  have xu:i<t.length:=by have:=of_decide_eq_true ru;omega
  have vX:=Dx i (by omega)
  have h0i:(0:Int)≤(i:Int):=by omega
  obtain⟨c,kR⟩:∃c,t[i]?=some c:=⟨t[i],Lg xu⟩
  have qO:c∈t:=Lm kR
  have xP:=aI vX (aI kR (aI h0i (@Int.toNat_natCast)))
  refine Aj (Bd rfl (Ag (Aq (Ad (Ac rfl (Ac rfl (Ab (by simp only[zo,Ee,zm,Dp,FM.row,xP]<;>exact rfl) ?_)))))))
  refine Uz ?_
  refine Ae rfl ?_
  refine Dr 0 (by simp only[zv]<;>exact rfl) (by simp only[zn]<;>exact rfl) (by simp only[zn]<;>exact rfl) (fun vH=>?_) (fun vH=>?_)
  ·
   refine Ao rfl rfl (Ao rfl rfl (Ao rfl rfl (Ao rfl rfl (xo30 ?_))))
   refine Aa (Af ?_)
   refine Em (by simp only[opd,zv,FM.row]) ?_
   refine Ad (Ap (Ap (Aa (Af ?_))))
   refine Av (G9 (D5 (Nw (G9 (D5 ?_)))))
   refine⟨_,by simp only[F22,Ak,Bb,Cb,zg]<;>exact rfl,?_⟩
   rw[Sm ht (isDig_no qO (.inl (of_decide_eq_true vH)))]
   rfl
  refine Ai rfl (Ac rfl (Ai rfl (Ac rfl (Ai rfl (Ab (by simp only[zo,Ee,zm,Dp,FM.row,xP]<;>exact rfl) ?_)))))
  refine Ai rfl (Uz ?_)
  refine xo30 ?_
  refine Aa (Af ?_)
  refine Bv (by simp only[opd,zv,FM.row]<;>exact rfl) (fun wZ=>?_) (fun wZ=>?_)
  ·
   refine Ad (Ap (Ap (Aa (Af ?_))))
   refine Av (G9 (D5 (Nw (G9 (D5 ?_)))))
   refine⟨_,by simp only[F22,Ak,Bb,Cb,zg]<;>exact rfl,?_⟩
   rw[Sm ht (isDig_no qO (.inr (of_decide_eq_true wZ)))]
   rfl
  have hdg:Gi c=true:=isDig_of vH wZ
  refine Aj (Eb (Bd rfl (Ar (Ac rfl (Ab (by simp only[zo,Bh,FM.row,xP]<;>exact rfl) ?_)))))
  refine Ae rfl (Aa (Fb (by simp only[ze]<;>exact rfl) ?_))
  exact⟨t.length-(i+1),by omega,i+1,_,_,by omega,rfl,rfl,rfl,fun j hj c hc=>by
   by_cases hji:j=i
   ·
    subst hji;rw[kR]at hc;cases hc;exact hdg
   exact xq j (by omega) c hc⟩
 have hi':t.length=i:=by have:=of_decide_eq_false ru;omega
 subst hi'
 have w9:Ez t=true:=isNum_of hcXY xq
 refine Cf (E5 (Fp (Fa (Bd rfl ?_))))
 refine cw_cut (fun env S'=>∃(u8 u9 u12 u13:D),S'=⟨[],0⟩∧env=[.agg f.row,.str (mkS (strip t)),.Vw f.row 0,.str ⟨#[]⟩,.bool false,.int .i64 (t.length:Nat),.bool (!f.nu),.undef,u8,u9,.bool (t==[]),.bool (decide (((t.length:Nat):Int)<((t.length:Nat):Int))),u12,u13,.undef,.undef]) ?_ ?_
 ·
  refine Aq (Cz (fun n env S'=>∃(l':List UInt8) (u13:D),strip l'=strip t∧l'≠[]∧l'.length=n∧n≤100∧S'=⟨[],0⟩∧env=[.agg f.row,.str (mkS l'),.Vw f.row 0,.str ⟨#[]⟩,.bool false,.int .i64 (t.length:Nat),.bool (!f.nu),.undef,u8,u9,.bool (t==[]),.bool (decide (((t.length:Nat):Int)<((t.length:Nat):Int))),u12,u13,.undef,.undef]) (t.length) (by omega) (⟨t,_,rfl,ht0,rfl,uD,rfl,rfl⟩) ?_)
  rintro n env S' ⟨l',u13,hl',uE,rfl,yD,rfl,rfl⟩
  refine Ag (Ad (Ac rfl (xo27 ?_)))
  refine Uz ?_
  refine Ae rfl ?_
  refine Dr 0 (by simp only[zv]<;>exact rfl) (by simp only[zn]<;>exact rfl) (by simp only[zn]<;>exact rfl) (fun zW=>?_) (fun zW=>?_)
  ·
   obtain⟨c,l'',rfl⟩:∃c l'',l'=c::l'':=by
    cases l' with
    | nil=>simp at zW
    | cons c l=>exact⟨c,l,rfl⟩
   rename List UInt8=>l'
   refine Ai rfl (Ac rfl (Ai rfl (Ab (by simp only[zo,Ee,zm,Dp,FM.row]<;>exact rfl) ?_)))
   refine Ai rfl (Uz ?_)
   refine xo30 ?_
   refine Aa (Af ?_)
   refine Bv (by simp only[opd,zv,FM.row]<;>exact rfl) (fun wo=>?_) (fun wo=>?_)
   ·
    have h48:c=48:=by have:=u8beq (b:=48) wo;simpa using this
    have xA:l'≠[]:=by
     rintro rfl
     simp at zW
    refine Aj (Bd rfl (Aq (Ar (Ac rfl (Ab (by simp only[opd,zv,Ba,aop,LOp.loud,Bool.false_eq_true,if_false];rw[Ht _ _ 1 1 rfl (by simp)];exact rfl) ?_)))))
    refine Ae rfl (Aa (Eb (Fb (by simp only[ze]<;>exact rfl) ?_)))
    exact⟨l'.length,by simp,l',_,by rw[←hl',h48,Tf xA],xA,rfl,by simp at yD;omega,rfl,rfl⟩
   refine Cf (E5 (Fp (Fa (ck_n rfl ?_))))
   exact⟨_,_,_,_,rfl,by rw[←hl',strip_ne _ (u8bne (b:=48) wo)]⟩
  have h1:l'.length≤1:=by have:=of_decide_eq_false zW;omega
  refine Ao rfl rfl (Ao rfl rfl (Ao rfl rfl (xo30 ?_)))
  refine Aa (Af ?_)
  refine Bz (by simp only[opd,zv,FM.row]) ?_
  refine Cf (E5 (Fp (Fa (ck_n rfl ?_))))
  exact⟨_,_,_,_,rfl,by rw[←hl',strip_one _ h1 uE]⟩
 rintro env S' ⟨u8,u9,u12,u13,rfl,rfl⟩
 refine Ag (Ad (Ac rfl (xo27 ?_)))
 refine xo42 ?_
 first
  | refine Ab (by simp only[zo,FM.row];exact Gg (by omega) _ f) ?_
  | refine Ab (by simp only[zo,zx,Dp,FM.row];exact Gg (by omega) _ f) ?_
  | refine Ab (by simp only[zo,zx,Dp,FM.row];exact Gg (by omega) _ f) ?_
 refine Uz ?_
 refine Aa (Af ?_)
 refine Bv (by simp only[opd,zv,FM.row]<;>exact rfl) (fun uf=>?_) (fun uf=>?_)
 ·
  refine Ad (Ap (Ap (Aa (Af ?_))))
  refine Av (D5 ?_)
  refine⟨_,by simp only[F22,Ak,Bb,Cb,zg]<;>exact rfl,?_⟩
  rw[fitP_big ht (by have:=of_decide_eq_true uf;omega)]
  rfl
 have hfl:(strip t).length≤f.size:=by have:=of_decide_eq_false uf;omega
 refine Aj (Bd rfl (Ag (Aq (Cz (fun n env S'=>∃(k:Nat) (u14 u15:D),k+(strip t).length≤f.size∧n=f.size-(k+(strip t).length)∧S'=⟨[],0⟩∧env=[.agg f.row,.str (mkS (List.replicate k 32++strip t)),.Vw f.row 0,.str ⟨#[]⟩,.bool false,.int .i64 (t.length:Nat),.bool (!f.nu),.undef,u8,u9,.bool (t==[]),.bool (decide (((t.length:Nat):Int)<((t.length:Nat):Int))),u12,u13,u14,u15]) (f.size-(strip t).length) (by omega) (⟨0,_,_,by omega,by omega,rfl,rfl⟩) ?_))))
 rintro n env S' ⟨k,u14,u15,hk,kV,rfl,rfl⟩
 refine Ag (Ad (Ac rfl (xo27 ?_)))
 refine xo42 ?_
 first
  | refine Ab (by simp only[zo,FM.row];exact Gg (by omega) _ f) ?_
  | refine Ab (by simp only[zo,zx,Dp,FM.row];exact Gg (by omega) _ f) ?_
  | refine Ab (by simp only[zo,zx,Dp,FM.row];exact Gg (by omega) _ f) ?_
 refine Uz ?_
 refine Aa (Af ?_)
 refine Bv (by simp only[opd,zv,FM.row]<;>exact rfl) (fun zO=>?_) (fun zO=>?_)
 ·
  have hltk:k+(strip t).length<f.size:=by have:=of_decide_eq_true zO;simp at this;omega
  refine Aj (Bd rfl (Aq (Ar (Ac rfl (Ab (by simp only[zo,Bh,m32,Jt,Cs];first | (rw[if_neg (by rw[show IntKind.i64.max=9223372036854775807 from rfl];simp only[Ll_,List.length_replicate,List.length_singleton];omega)];exact rfl) | exact rfl) ?_)))))
  refine Ae rfl (Aa (Eb (Fb (by simp only[ze]<;>exact rfl) ?_)))
  exact⟨f.size-(k+1+(strip t).length),by omega,k+1,_,_,by omega,rfl,rfl,by rw[List.replicate_succ,List.cons_append]<;>exact rfl⟩
 have zF:f.size≤k+(strip t).length:=by have:=of_decide_eq_false zO;simp at this;omega
 refine Cf (E5 (Fp (Fa (Bd rfl (Ad (Ac rfl (Ae rfl (Ap (Aa (Af ?_))))))))))
 refine Av ?_
 refine⟨_,by simp only[F22,Ak,Bb,Cb,zg]<;>exact rfl,?_⟩
 rw[fitP_ok ht w9 hfl,show f.size-(strip t).length=k by omega]
 rfl
theorem rskip_cons(b c:UInt8)(l:List UInt8):Es b (c::l)=if Es b l=[] then (if c==b then [] else [c]) else c::Es b l:=by
 unfold Es
 rw[List.reverse_cons,List.dropWhile_append]
 by_cases h:List.dropWhile (·==b) l.reverse=[]
 ·
  rw[h]
  simp only[List.isEmpty_nil,if_true,List.reverse_nil,List.dropWhile_cons,List.dropWhile_nil]
  split<;>rfl
 rw[if_neg (by simpa using h),if_neg (by simpa using h),List.reverse_append]
 rfl
theorem trim_comm(l:List UInt8):D9 32 (Es 32 l)=Es 32 (D9 32 l):=by
 induction l with
 | nil=>rfl
 | cons c l ih =>
  rw[rskip_cons]
  by_cases hc:(c==32)=true
  ·
   rw[show D9 32 (c::l)=D9 32 l by rw[D9,D9,List.dropWhile_cons,if_pos hc],←ih,if_pos hc]
   split
   ·
    rename_i h;rw[h]
   rw[D9,D9,List.dropWhile_cons,if_pos hc]
  rw[show D9 32 (c::l)=c::l by rw[D9,List.dropWhile_cons,if_neg hc],rskip_cons,if_neg hc]
  split<;>rw[D9,List.dropWhile_cons,if_neg hc]
theorem zout_two:∀l:List UInt8,Pj l 2=l
 | []=>rfl
 | b::l=>by
  have h:nst 90 2 b=2:=by unfold nst;split<;>rfl
  rw[Pj,h,zout_two l]
  rfl
theorem zout_lead{x:List UInt8}(hx:∀st:Int,st=0∨st=1→Pj x st=x):∀(k:Nat) (st:Int),st=0∨st=1→Pj (List.replicate k 48++x) st=List.replicate k 32++x
 | 0,st,h=>hx st h
 | k+1,st,h=>by
  have h1:nst 90 st 48=1:=by rcases h with rfl | rfl<;>rfl
  rw[List.replicate_succ,List.cons_append,Pj,h1,zout_lead hx k 1 (.inr rfl),List.replicate_succ]
  rfl
theorem zout_head{c:UInt8}(l:List UInt8)(h:c≠48)(st:Int):Pj (c::l) st=c::l:=by
 have h1:nst 90 st c=2:=if_pos (.inr h)
 rw[Pj,h1,zout_two]
 rfl
theorem edS_pad{s:List UInt8}{n:Nat}(h:strip s=s)(h0:s≠[])(hl:s.length≤n):edS (pad n s)=List.replicate (n-s.length) 32++s:=by
 have hp:0<s.length:=List.length_pos_iff.2 h0
 have e:(pad n s).length-1=(n-s.length)+(s.length-1):=by rw[Js];omega
 rw[edS,e,pad]
 rw[List.take_append,List.drop_append,List.length_replicate,show n-s.length+(s.length-1)-(n-s.length)=s.length-1 by omega,List.take_of_length_le (by simp),List.drop_of_length_le (l:=List.replicate (n-s.length) 48) (by simp),List.nil_append,zout_lead ?_ _ 0 (.inl rfl),Lo_,List.take_append_drop]
 intro st _
 match s,h,h0 with
 | [c],_,_=>rfl
 | c::b::l,h,_ =>
  refine zout_head _ ?_ st
  rintro rfl
  rw[Tf (by simp)]at h
  have h2:=Ow (b::l) (by simp)
  have:=congrArg List.length h
  simp at this
  have:=h2.1
  simp at this
  omega
def typT (nu:Bool) (n:Nat) (l:List UInt8):D × Bool:=if nu then (if Ez (trimB l)=true∧(Cv (trimB l)).length≤62 then (.sl 1 (bR (if n=1 then strip (Gw 1 (strip (trimB l))) else edS (pad n (strip (Gw n (strip (trimB l))))))) (some n),decide ((strip (trimB l)).length≤n)) else (.Vu,false)) else (.sl 1 (bR (Ml l n)) (some n),true)
theorem typT_none{nu:Bool}{n:Nat}{l:List UInt8}(h6:n≤6)(h:Sn nu n l=none):(typT nu n l).2=false:=by
 unfold Sn at h
 unfold typT
 cases nu with
 | false=>cases h
 | true =>
  rw[if_pos rfl]at h ⊢
  rw[←trim_comm]at h
  rw[show D9 32 (Es 32 l)=trimB l from rfl]at h
  by_cases hn:Ez (trimB l)=true∧(Cv (trimB l)).length≤62
  ·
   rw[if_pos hn]
   refine decide_eq_false fun h2=>?_
   rw[if_pos ⟨hn.1,h2⟩]at h
   cases h
  rw[if_neg hn]
theorem typT_some{nu:Bool}{n:Nat}{l b:List UInt8}(h1:1≤n)(h6:n≤6)(h:Sn nu n l=some b):typT nu n l=(.sl 1 (bR b) (some n),true):=by
 unfold Sn at h
 unfold typT
 cases nu with
 | false =>
  rw[if_neg Bool.false_ne_true]at h ⊢
  cases h
  rfl
 | true =>
  rw[if_pos rfl]at h ⊢
  rw[←trim_comm]at h
  rw[show D9 32 (Es 32 l)=trimB l from rfl]at h
  by_cases hn:Ez (trimB l)=true∧(strip (trimB l)).length≤n
  ·
   rw[if_pos hn]at h
   cases h
   have uT:(Cv (trimB l)).length≤62:=by
    have:=hn.2
    unfold strip at this
    split at this
    ·
     rename_i h;rw[h];simp
    omega
   have xA:strip (trimB l)≠[]:=by
    have:=hn.1
    simp only[Ez,Bool.and_eq_true,Bool.not_eq_true',beq_eq_false_iff_ne,ne_eq]at this
    have h2:=(Ow (trimB l) this.1).2
    intro e
    rw[e]at h2
    simp at h2
   rw[if_pos ⟨hn.1,uT⟩,decide_eq_true hn.2]
   congr 3
   rw[Nf (Ls _) hn.2]
   split
   ·
    rename_i e1
    subst e1
    have:0<(strip (trimB l)).length:=List.length_pos_iff.2 xA
    rw[Nf (Ls _) hn.2,show 1-(strip (trimB l)).length=0 by omega]
    rfl
   exact edS_pad (Ls _) xA hn.2
  rw[if_neg hn]at h
  cases h
theorem typT_sl(nu:Bool)(n:Nat)(l:List UInt8):∃ys,SlD 1 ys (typT nu n l).1:=by
 unfold typT
 split
 ·
  split
  ·
   exact⟨_,.of _ _ _⟩
  exact⟨_,.nil _⟩
 exact⟨_,.of _ _ _⟩
def okC (c:UInt8):Bool:=c==32||(decide (48≤c.toNat)&&decide (c.toNat≤57))||(decide (97≤c.toNat)&&decide (c.toNat≤122))
theorem okC_not{l:List UInt8}(h:l.all okC=true){b:UInt8}(hb:okC b=false):b∉l:=fun hm=>by
 have:=List.all_eq_true.1 h b hm
 rw[hb]at this
 cases this
theorem typed_run{d:Nat}(hd:26≤d)(S:St)(f:FM)(p:Nat)(hk:f.kind≠1){l:List UInt8}(hl:l.length≤100)(ho:l.all okC=true):Az LP NN d 48 [.agg (Ia f p),.str (mkS l)] S=some (.tup [(typT f.nu f.size l).1,.bool (typT f.nu f.size l).2],S,false):=by
 have hs:=f.size_le
 have hm:=okC_not ho (b:=45) (by decide)
 have hp:=okC_not ho (b:=43) (by decide)
 have hq:=okC_not ho (b:=46) (by decide)
 unfold Ia
 rw[if_neg hk]
 unfold typT
 cases f.nu with
 | false=>exact typedX_run (by omega) S (n:=f.size) (by omega) (by omega) hl
 | true =>
  rw[if_pos rfl]
  by_cases hn:Ez (trimB l)=true
  ·
   by_cases uT:(Cv (trimB l)).length≤62
   ·
    rw[if_pos ⟨hn,uT⟩]
    by_cases h1:f.size=1
    ·
     rw[h1,if_pos rfl]
     exact typed1_ok hd S (by omega) hm hp hq hn uT
    rw[if_neg h1,shpR_E h1]
    exact typedE_ok hd S (by omega) (by omega) (by omega) hm hp hq hn uT
   rw[if_neg (fun h=>uT h.2)]
   by_cases h1:f.size=1
   ·
    rw[h1]
    exact typed1_big hd S (by omega) hm hp hq hn (by omega)
   rw[shpR_E h1]
   exact typedE_big hd S (by omega) (by omega) (by omega) hm hp hq hn (by omega)
  rw[if_neg (fun h=>hn h.1)]
  have hn':Ez (trimB l)=false:=by simpa using hn
  by_cases h1:f.size=1
  ·
   rw[h1]
   exact typed1_bad hd S (by omega) hm hp hq hn'
  rw[shpR_E h1]
  exact typedE_bad hd S (by omega) (by omega) (by omega) hm hp hq hn'
theorem findOk_ext{T T':Nat→D × Bool}{m m':Nat}(hm:m≤m')(h:∀j,j<m→T' j=T j){j:Nat}{r:Nat × D}(hr:Ef T m j=some r):Ef T' m' j=some r:=by
 induction hk:m-j generalizing j with
 | zero =>
  rw[Ef,if_neg (by omega)]at hr;cases hr
 | succ k ih =>
  rw[Ef,if_pos (by omega)]at hr
  rw[Ef,if_pos (by omega),h j (by omega)]
  split at hr
  ·
   rename_i h1;rw[if_pos h1];exact hr
  rename_i h1;rw[if_neg h1];exact ih hr (by omega)
theorem accF_ext{T T':Nat→Nat→D × Bool}{m m':Nat}(hm:m≤m')(h:∀i j,j<m→T' i j=T i j):∀{l:List FM} {i u:Nat} {out:List (Nat × D)} {r:Nat × List (Nat × D)},Fx T m l i u out=some r→Fx T' m' l i u out=some r
 | [],i,u,out,r,hr=>hr
 | f :: l, i, u, out, r, hr => by
  unfold Fx at hr ⊢
  split at hr
  ·
   rename_i h1;rw[if_pos h1];exact accF_ext hm h hr
  rename_i h1
  rw[if_neg h1]
  split at hr
  ·
   cases hr
  rename_i j b hf
  rw[findOk_ext hm (fun j hj=>h i j hj) hf]
  exact accF_ext hm h hr
theorem accF_skip{T:Nat→Nat→D × Bool}{m i u:Nat}{l:List FM}{out:List (Nat × D)}(hi:i<l.length)(hk:l[i].kind<3):Fx T m (l.drop i) i u out=Fx T m (l.drop (i+1)) (i+1) u out:=by
 rw[List.drop_eq_getElem_cons hi,Fx,if_pos hk]
theorem accF_none{T:Nat→Nat→D × Bool}{m i u:Nat}{l:List FM}{out:List (Nat × D)}(hi:i<l.length)(hk:¬l[i].kind<3)(h:Ef (T i) m u=none):Fx T m (l.drop i) i u out=none:=by
 rw[List.drop_eq_getElem_cons hi,Fx,if_neg hk,h]
theorem accF_some{T:Nat→Nat→D × Bool}{m i u j:Nat}{b:D}{l:List FM}{out:List (Nat × D)}(hi:i<l.length)(hk:¬l[i].kind<3)(h:Ef (T i) m u=some (j,b)):Fx T m (l.drop i) i u out=Fx T m (l.drop (i+1)) (i+1) j (out++[(i,b)]):=by
 rw[List.drop_eq_getElem_cons hi,Fx,if_neg hk,h]
def ltT (l:List FM) (ls:List ByteArray) (i j:Nat):D × Bool:=typT ((l[i]?.map FM.nu).getD false) ((l[i]?.map FM.size).getD 1) ((ls[j]?.map fun s=>s.data.toList).getD [])
theorem ltT_at{l:List FM}{ls:List ByteArray}{i j:Nat}(hi:i<l.length)(hj:j<ls.length):ltT l ls i j=typT l[i].nu l[i].size ls[j].data.toList:=by
 simp[ltT,hi,hj]
theorem ltT_app(l:List FM)(ls m:List ByteArray)(i j:Nat)(hj:j<ls.length):ltT l (ls++m) i j=ltT l ls i j:=by
 rw[ltT,ltT,La_ hj]
def okL (s:ByteArray):Prop:=s.size≤100∧s.data.toList.all okC=true
theorem ba_mkS(s:ByteArray):s=mkS s.data.toList:=by cases s;simp[mkS]
theorem ba_len(s:ByteArray):s.data.toList.length=s.size:=rfl
def Pq (l:List FM) (W:List (Nat × List UInt8)):List (Nat × D):=W.map fun p=>(p.1,.sl 1 (bR p.2) (some ((l[p.1]?.map FM.size).getD 1)))
def Mw (W:List (Nat × List UInt8)):List (List D):=W.map fun p=>[.int .i64 (p.1:Nat),.sl 1 (bR p.2) none]
theorem wOut_snoc(l:List FM)(W:List (Nat × List UInt8)){i:Nat}(hi:i<l.length)(b:List UInt8):Pq l (W++[(i,b)])=Pq l W++[(i,.sl 1 (bR b) (some l[i].size))]:=by simp[Pq,hi]
theorem wRows_snoc(W:List (Nat × List UInt8))(i:Nat)(b:List UInt8):Mw (W++[(i,b)])=Mw W++[[.int .i64 (i:Nat),.sl 1 (bR b) none]]:=by simp[Mw]
theorem Ou(W:List (Nat × List UInt8)):(Mw W).length=W.length:=by simp[Mw]
theorem wRows_at{W:List (Nat × List UInt8)}{i:Nat}(h:i<W.length):(Mw W)[i]?=some [.int .i64 (W[i].1:Nat),.sl 1 (bR W[i].2) none]:=by simp[Mw,h]
theorem I4(l:List FM)(W:List (Nat × List UInt8)):(Ha (Pq l W)).length=W.length:=by simp[Ha,Pq]
theorem wTy_at(l:List FM){W:List (Nat × List UInt8)}{i:Nat}(h:i<W.length):(Ha (Pq l W))[i]?=some [.int .i64 (W[i].1:Nat),.sl 1 (bR W[i].2) (some ((l[W[i].1]?.map FM.size).getD 1))]:=by simp[Ha,Pq,h]
theorem fitted_run{d:Nat}(hd:8≤d)(S:St)(f:FM){s:ByteArray}(h:okL s):Az LP NN d 22 [.agg f.row,.str s] S=some (fitD (Sn f.nu f.size s.data.toList),S,false):=by
 have hl:=h.1
 rw[←ba_len]at hl
 cases hn:f.nu with
 | false =>
  have:=fitted_X hd S f hn hl
  rw[←ba_mkS]at this
  rw[this]
  rfl
 | true =>
  have:=fitted_N hd S f hn hl
  rwa [←ba_mkS]at this
theorem typed_line{d:Nat}(hd:26≤d)(S:St){l:List FM}{ls:List ByteArray}{i j:Nat}(p:Nat)(hi:i<l.length)(hj:j<ls.length)(hk:3≤l[i].kind)(h:okL ls[j]):Az LP NN d 48 [.agg (Ia l[i] p),.str ls[j]] S=some (.tup [(ltT l ls i j).1,.bool (ltT l ls i j).2],S,false):=by
 have hl:=h.1
 rw[←ba_len]at hl
 have:=typed_run hd S l[i] p (by omega) hl h.2
 rw[←ba_mkS]at this
 rw[ltT_at hi hj]
 exact this
theorem ltT_ok{d:Nat}(hd:27≤d){l:List FM}{ls:List ByteArray}(h:∀j (hj:j<ls.length),okL ls[j]):∀i j p (hi:i<l.length) (hj:j<ls.length),3≤l[i].kind→(∀d',d=d'+1→∀S,Az LP NN d' 48 [.agg (Ia l[i] p),.str ls[j]] S=some (.tup [(ltT l ls i j).1,.bool (ltT l ls i j).2],S,false))∧∃ys,SlD 1 ys (ltT l ls i j).1:=fun i j p hi hj hk =>
 ⟨fun d' e S=>typed_line (by omega) S p hi hj hk (h j hj),typT_sl _ _ _⟩
theorem okL_0:okL ⟨#[48]⟩:=⟨by decide,by decide⟩
theorem okL_x:okL ⟨#[120]⟩:=⟨by decide,by decide⟩
theorem law6_run{d:Nat}(hd:40≤d)(S:St){l:List FM}{ls:List ByteArray}{lx xl:D}(yT:SlD 6 (Jl l) lx)(yH:SlD 1 (Co ls) xl):Az LP NN d 6 [lx,xl] S=some (.bool true,S,false):=by
 refine run_pure (F:=F6) rfl (by simp only[LP,Al,yT.Vi,yH.Vi]<;>exact rfl) rfl (by simp only[LP,zm,yT.Vj,yH.Vj];try rfl) (by simp only[F6,zv]<;>exact rfl) (by omega) ?_
 rintro d rfl
 refine Ad (Ap (Aa (Af ?_)))
 refine Ag (Ad (Ac rfl (Ab (by simp only[zo,yT.len,Iy]<;>exact rfl) ?_)))
 refine xo1 ?_
 refine Ae rfl ?_
 refine Dr 0 (by simp only[zv]<;>exact rfl) (by simp only[zn]<;>exact rfl) (by simp only[zn]<;>exact rfl) (fun hg=>?_) (fun hg=>?_)
 ·
  refine Ao rfl rfl (Ao rfl rfl (Ao rfl rfl (xo0 ?_)))
  refine Aa (Af ?_)
  refine Em (by simp only[opd,zv]) ?_
  refine Ad (Ab (by simp only[zo];exact G6 (by omega) _) ?_)
  refine Ae rfl (Aa (Af ?_))
  refine Av (D5 ?_)
  refine⟨_,by simp only[F6,Ak,Bb,Cb,zg]<;>exact rfl,?_⟩
  simp only[Dv,leave,zs,zf,zk]
 refine Ai rfl (Ac rfl (Ai rfl (Ab (by simp only[zo,yH.len,Ej]<;>exact rfl) ?_)))
 refine Ai rfl (xo1 ?_)
 refine xo0 ?_
 refine Aa (Af ?_)
 refine Bv (by simp only[opd,zv]<;>exact rfl) (fun hcF=>?_) (fun hcF=>?_)
 ·
  refine Ad (Ab (by simp only[zo];exact G6 (by omega) _) ?_)
  refine Ae rfl (Aa (Af ?_))
  refine Av (D5 ?_)
  refine⟨_,by simp only[F6,Ak,Bb,Cb,zg]<;>exact rfl,?_⟩
  simp only[Dv,leave,zs,zf,zk]
 have rV:l.length≤12:=by have:=of_decide_eq_false hg;omega
 have hls:ls.length≤30:=by have:=of_decide_eq_false hcF;omega
 obtain⟨H',x0,gs,rows,wr,hof,-,-,hFL,hRW,-⟩:=of_run (d:=d) (by omega) [] 0 (by simp) yT (by omega)
 obtain⟨v,hS⟩:=hFL.src
 have yw:=aI @Dn (aI @Ec (aI @bne_self_eq_false.{0} (hS.cell)))
 refine Aj (Bd rfl (Ad (Ac rfl (Ab (by simp only[zo];exact hof) ?_))))
 refine Ae rfl (xo7 ?_)
 refine xo4 ?_
 refine xo8 ?_
 refine xo43 ?_
 refine Ae rfl (Aa (Af ?_))
 refine Ag (Ad (Ac rfl (xo9 ?_)))
 refine Aa (Af ?_)
 refine Ca ?_
 refine Aj (Bd rfl (Ag (Ad (Ap (Aa (Af ?_))))))
 refine Aq (Cz (fun n env S'=>∃(i:Nat) (u6 u7 u20 u21 u22 u23 u24 u25:D),i≤ls.length∧n=ls.length-i∧S'=⟨H'++[⟨36,4,[[.str nmA,Da x0,.int .i64 ((1:Nat):Int),.int .i64 ((12:Nat):Int)]],0,0,false⟩],0⟩∧env=[lx,xl,.bool false,.ptr H'.length 0 0 0,.bool true,.int .i64 (i:Nat),u6,u7,.undef,.undef,.undef,.undef,.undef,.undef,.undef,.undef,.undef,.undef,.undef,.undef,u20,u21,u22,u23,u24,u25,.undef,.undef,.undef,.undef,.undef,.undef,.undef,.undef]∧∀j (hj:j<ls.length),j<i→okL ls[j]) (ls.length) (by omega) (⟨0,_,_,_,_,_,_,_,_,by omega,by omega,rfl,rfl,fun j hj h=>absurd h (by omega)⟩) ?_)
 rintro n env S' ⟨i,u6,u7,u20,u21,u22,u23,u24,u25,hi,kV,rfl,rfl,xq⟩
 refine Ag (Ad (Ac rfl (Ac rfl (Ab (by simp only[zo,yH.len,Ej]<;>exact rfl) ?_))))
 refine xo1 ?_
 refine Aa (Af ?_)
 refine Bv (by simp only[opd,zv]<;>exact rfl) (fun hcFFA=>?_) (fun hcFFA=>?_)
 ·
  have xu:i<ls.length:=by have:=of_decide_eq_true hcFFA;omega
  have vX:=Dx i (by omega)
  have yN:=fun (S:St)=>yH.iaddrN S .i64 (Jz xu)
  obtain⟨L,hL⟩:∃L,L=ls[i].data.toList:=⟨_,rfl⟩
  have hLs:ls[i]=mkS L:=by rw[hL];exact ba_mkS _
  rw[hLs]at yN
  refine Aj (Bd rfl (Ag (Aq (Ag (Ad (Ac rfl (Ac rfl (Ab (by simp only[zl,zm,yN]<;>exact rfl) ?_))))))))
  refine xo3 ?_
  refine Km ?_
  refine xo1 ?_
  refine Aa (Af ?_)
  refine Bv (by simp only[opd,zv]<;>exact rfl) (fun hcFFAT=>?_) (fun hcFFAT=>?_)
  ·
   refine Ad (Ab (by simp only[zo];exact G6 (by omega) _) ?_)
   refine Ae rfl (Aa (Af ?_))
   refine Av (D5 (G9 (D5 (Nw (G9 (D5 ?_))))))
   refine⟨_,by simp only[F6,Ak,Bb,Cb,zg]<;>exact rfl,?_⟩
   simp only[Dv,leave,zs,zf,zk]
  have hL100:L.length≤100:=by have:=of_decide_eq_false hcFFAT;omega
  refine Aj (Bd rfl (Ad (Ap (Aa (Af ?_)))))
  refine Aq (Cz (fun n env S'=>∃(k:Nat) (u7 u20 u21 u22 u23 u24 u25:D),k≤L.length∧n=L.length-k∧S'=⟨H'++[⟨36,4,[[.str nmA,Da x0,.int .i64 ((1:Nat):Int),.int .i64 ((12:Nat):Int)]],0,0,false⟩],0⟩∧env=[lx,xl,.bool false,.ptr H'.length 0 0 0,.bool true,.int .i64 (i:Nat),.int .i64 (k:Nat),u7,.undef,.undef,.undef,.undef,.undef,.undef,.undef,.undef,.undef,.undef,.undef,.undef,u20,u21,u22,u23,u24,u25,.undef,.undef,.undef,.undef,.undef,.undef,.undef,.undef]∧∀j,j<k→∀c,L[j]?=some c→okC c=true) (L.length) (by omega) (⟨0,_,_,_,_,_,_,_,by omega,by omega,rfl,rfl,fun j h=>absurd h (by omega)⟩) ?_)
  rintro n env S' ⟨k,u7,u20,u21,u22,u23,u24,u25,hk,hnk2,rfl,rfl,qC⟩
  refine Ag (Ad (Ac rfl (Ac rfl (Ac rfl (Ab (by simp only[zl,zm,yN]<;>exact rfl) ?_)))))
  refine xo3 ?_
  refine Km ?_
  refine xo1 ?_
  refine Aa (Af ?_)
  refine Bv (by simp only[opd,zv]<;>exact rfl) (fun ug=>?_) (fun ug=>?_)
  ·
   have qF:k<L.length:=by have:=of_decide_eq_true ug;omega
   have hwk:=Dx k (by omega)
   have h0k:(0:Int)≤(k:Int):=by omega
   obtain⟨c,kR⟩:∃c,L[k]?=some c:=⟨L[k],Lg qF⟩
   have xQ:=aI hwk (aI h0k (aI kR (@Int.toNat_natCast)))
   refine Aj (Bd rfl (Ag (Aq (Ad (Ac rfl (Ac rfl (Ab (by simp only[zl,zm,yN]<;>exact rfl) ?_)))))))
   refine xo3 ?_
   refine Ac rfl (Ab (by simp only[zo,Ee,zm,Dp,xQ]<;>exact rfl) ?_)
   refine Ae rfl (Aa (Af ?_))
   refine Ad (Ac rfl (xo1 ?_))
   refine Ae rfl ?_
   refine Dr 0 (by simp only[zv]<;>exact rfl) (by simp only[zn]<;>exact rfl) (by simp only[zn]<;>exact rfl) (fun uQ=>?_) (fun uQ=>?_)
   ·
    refine Ai rfl (Ac rfl (Ai rfl (xo1 ?_)))
    refine Ai rfl (Ae rfl ?_)
    refine Dr 0 (by simp only[zv]<;>exact rfl) (by simp only[zn]<;>exact rfl) (by simp only[zn]<;>exact rfl) (fun zM=>?_) (fun zM=>?_)
    ·
     refine Ao rfl rfl (Ao rfl rfl (Ai rfl (xo0 ?_)))
     refine xo0 ?_
     refine Ae rfl (Ai rfl (Ac rfl (Ai rfl (xo1 ?_))))
     refine Ai rfl (Ae rfl ?_)
     refine Dr 0 (by simp only[zv]<;>exact rfl) (by simp only[zn]<;>exact rfl) (by simp only[zn]<;>exact rfl) (fun wH=>?_) (fun wH=>?_)
     ·
      refine Ao rfl rfl (Ao rfl rfl (Ai rfl (xo0 ?_)))
      refine xo0 ?_
      refine Aa (Af ?_)
      refine Em (by simp only[opd,zv]) ?_
      refine Ad (Ab (by simp only[zo];exact G6 (by omega) _) ?_)
      refine Ae rfl (Aa (Af ?_))
      refine Av (G9 (D5 (Nw (G9 (G9 (D5 (Nw (G9 (D5 ?_)))))))))
      refine⟨_,by simp only[F6,Ak,Bb,Cb,zg]<;>exact rfl,?_⟩
      simp only[Dv,leave,zs,zf,zk]
     refine Ai rfl (Ac rfl (Ai rfl (xo1 ?_)))
     refine Ai rfl (xo0 ?_)
     refine xo0 ?_
     refine Aa (Af ?_)
     refine Bv (by simp only[opd,zv]<;>exact rfl) (fun vL=>?_) (fun vL=>?_)
     ·
      refine Ad (Ab (by simp only[zo];exact G6 (by omega) _) ?_)
      refine Ae rfl (Aa (Af ?_))
      refine Av (G9 (D5 (Nw (G9 (G9 (D5 (Nw (G9 (D5 ?_)))))))))
      refine⟨_,by simp only[F6,Ak,Bb,Cb,zg]<;>exact rfl,?_⟩
      simp only[Dv,leave,zs,zf,zk]
     have qL:okC c=true:=by
      simp only[okC,Bool.or_eq_true,Bool.and_eq_true,decide_eq_true_eq,beq_iff_eq]
      have h1:=of_decide_eq_true zM
      have h2:=of_decide_eq_false wH
      omega
     refine Aj (Eb (Bd rfl (Ar (Ac rfl (Ab (by simp only[zo,Bh,xQ]<;>exact rfl) ?_)))))
     refine Ae rfl (Aa (Fb (by simp only[ze]<;>exact rfl) ?_))
     exact⟨L.length-(k+1),by omega,k+1,_,_,_,_,_,_,_,by omega,rfl,rfl,rfl,fun j hj c' hc'=>by
      by_cases e:j=k
      ·
       subst e;rw[kR]at hc';cases hc';exact qL
      exact qC j (by omega) c' hc'⟩
    refine Ai rfl (Ac rfl (Ai rfl (xo1 ?_)))
    refine Ai rfl (xo0 ?_)
    refine xo0 ?_
    refine Ae rfl ?_
    refine Dr 0 (by simp only[zv]<;>exact rfl) (by simp only[zn]<;>exact rfl) (by simp only[zn]<;>exact rfl) (fun wI=>?_) (fun wI=>?_)
    ·
     refine Ai rfl (Ac rfl (Ai rfl (xo1 ?_)))
     refine Ai rfl (Ae rfl ?_)
     refine Dr 0 (by simp only[zv]<;>exact rfl) (by simp only[zn]<;>exact rfl) (by simp only[zn]<;>exact rfl) (fun zX=>?_) (fun zX=>?_)
     ·
      refine Ao rfl rfl (Ao rfl rfl (Ai rfl (xo0 ?_)))
      refine xo0 ?_
      refine Aa (Af ?_)
      refine Em (by simp only[opd,zv]) ?_
      refine Ad (Ab (by simp only[zo];exact G6 (by omega) _) ?_)
      refine Ae rfl (Aa (Af ?_))
      refine Av (G9 (D5 (Nw (G9 (G9 (D5 (Nw (G9 (D5 ?_)))))))))
      refine⟨_,by simp only[F6,Ak,Bb,Cb,zg]<;>exact rfl,?_⟩
      simp only[Dv,leave,zs,zf,zk]
     refine Ai rfl (Ac rfl (Ai rfl (xo1 ?_)))
     refine Ai rfl (xo0 ?_)
     refine xo0 ?_
     refine Aa (Af ?_)
     refine Bv (by simp only[opd,zv]<;>exact rfl) (fun zK=>?_) (fun zK=>?_)
     ·
      refine Ad (Ab (by simp only[zo];exact G6 (by omega) _) ?_)
      refine Ae rfl (Aa (Af ?_))
      refine Av (G9 (D5 (Nw (G9 (G9 (D5 (Nw (G9 (D5 ?_)))))))))
      refine⟨_,by simp only[F6,Ak,Bb,Cb,zg]<;>exact rfl,?_⟩
      simp only[Dv,leave,zs,zf,zk]
     have qL:okC c=true:=by
      simp only[okC,Bool.or_eq_true,Bool.and_eq_true,decide_eq_true_eq,beq_iff_eq]
      right
      have h1:=of_decide_eq_false zX
      have h2:=of_decide_eq_false zK
      omega
     refine Aj (Eb (Bd rfl (Ar (Ac rfl (Ab (by simp only[zo,Bh,xQ]<;>exact rfl) ?_)))))
     refine Ae rfl (Aa (Fb (by simp only[ze]<;>exact rfl) ?_))
     exact⟨L.length-(k+1),by omega,k+1,_,_,_,_,_,_,_,by omega,rfl,rfl,rfl,fun j hj c' hc'=>by
      by_cases e:j=k
      ·
       subst e;rw[kR]at hc';cases hc';exact qL
      exact qC j (by omega) c' hc'⟩
    have qL:okC c=true:=by
     simp only[okC,Bool.or_eq_true,Bool.and_eq_true,decide_eq_true_eq,beq_iff_eq]
     left;right
     have h1:=of_decide_eq_false zM
     have h2:=of_decide_eq_false wI
     omega
    refine Ao rfl rfl (Ao rfl rfl (Ao rfl rfl (El rfl (El rfl (Ao rfl rfl (xo0 ?_))))))
    refine Aa (Af ?_)
    refine Bz (by simp only[opd,zv]) ?_
    refine Aj (Eb (Bd rfl (Ar (Ac rfl (Ab (by simp only[zo,Bh,xQ]<;>exact rfl) ?_)))))
    refine Ae rfl (Aa (Fb (by simp only[ze]<;>exact rfl) ?_))
    exact⟨L.length-(k+1),by omega,k+1,_,_,_,_,_,_,_,by omega,rfl,rfl,rfl,fun j hj c' hc'=>by
     by_cases e:j=k
     ·
      subst e;rw[kR]at hc';cases hc';exact qL
     exact qC j (by omega) c' hc'⟩
   have qL:okC c=true:=by
    simp only[okC,Bool.or_eq_true,Bool.and_eq_true,decide_eq_true_eq,beq_iff_eq]
    left;left
    have h:=uQ
    rw[bne_eq_false_iff_eq]at h
    exact UInt8.toNat_inj.1 (by show c.toNat=32;omega)
   refine Ao rfl rfl (Ao rfl rfl (Ao rfl rfl (El rfl (El rfl (Ao rfl rfl (xo0 ?_))))))
   refine Ae rfl (Ao rfl rfl (Ao rfl rfl (Ao rfl rfl (El rfl (El rfl (Ao rfl rfl (xo0 ?_)))))))
   refine Aa (Af ?_)
   refine Bz (by simp only[opd,zv]) ?_
   refine Aj (Eb (Bd rfl (Ar (Ac rfl (Ab (by simp only[zo,Bh,xQ]<;>exact rfl) ?_)))))
   refine Ae rfl (Aa (Fb (by simp only[ze]<;>exact rfl) ?_))
   exact⟨L.length-(k+1),by omega,k+1,_,_,_,_,_,_,_,by omega,rfl,rfl,rfl,fun j hj c' hc'=>by
    by_cases e:j=k
    ·
     subst e;rw[kR]at hc';cases hc';exact qL
    exact qC j (by omega) c' hc'⟩
  have hk':L.length=k:=by have:=of_decide_eq_false ug;omega
  have hokl:okL ls[i]:=⟨by rw[hLs,Cs];exact hL100,by
   rw[←hL,List.all_eq_true]
   intro c hc
   obtain⟨j,hj,e⟩:=List.getElem_of_mem hc
   exact qC j (by omega) c (by rw[Lg hj,e])⟩
  refine Cf (E5 (Fp (Fa (Eb (Bd rfl (Ar (Ac rfl (Ab (by simp only[zo,Bh,vX]<;>exact rfl) ?_))))))))
  refine Ae rfl (Aa (Fb (by simp only[ze]<;>exact rfl) ?_))
  exact⟨ls.length-(i+1),by omega,i+1,_,_,_,_,_,_,_,_,by omega,rfl,rfl,rfl,fun j hj hji=>by
   by_cases e:j=i
   ·
    subst e;exact hokl
   exact xq j hj (by omega)⟩
 have hi':ls.length=i:=by have:=of_decide_eq_false hcFFA;omega
 subst hi'
 have y9:∀j (hj:j<ls.length),okL ls[j]:=fun j hj=>xq j hj hj
 refine Cf (E5 (Fp (Fa (Bd rfl (Ad (Ap (Aa (Af ?_))))))))
 refine Ad (Ap (Aa (Af ?_)))
 refine Ad (Ap (Aa (Af ?_)))
 refine cw_cut (fun env S'=>∃(used q:Nat) (en:Bool) (lh:List U9) (xw:D) (W:List (Nat × List UInt8)) (u11 u12 u26 u27 u28 u29:D),S'=⟨H'++lh,0⟩∧env=[lx,xl,.bool false,.ptr H'.length 0 0 0,.bool true,.int .i64 (ls.length:Nat),u6,u7,xw,.int .i64 (used:Nat),.bool en,u11,u12,.undef,.undef,.undef,.undef,.undef,.undef,.undef,u20,u21,.bool (decide (((ls.length:Nat):Int)<((ls.length:Nat):Int))),u23,u24,u25,u26,u27,u28,u29,.undef,.undef,.undef,.undef]∧OL lh H'.length q xw (Mw W)∧0<q∧lh[0]?=some ⟨36,4,[[.str nmA,Da x0,.int .i64 ((1:Nat):Int),.int .i64 ((12:Nat):Int)]],0,0,false⟩∧W.length≤12∧used≤ls.length∧((en=true∧Fx (ltT l ls) ls.length l 0 0 []=some (used,Pq l W))∨(en=false∧Fx (ltT l ls) ls.length l 0 0 []=none))) ?_ ?_
 ·
  refine Ad (Ap (Aa (Af ?_)))
  refine Aq (Cz (fun n env S'=>∃(i used q:Nat) (en:Bool) (lh:List U9) (xw:D) (W:List (Nat × List UInt8)) (u12 u26 u27 u28 u29:D),i≤l.length∧n=l.length-i∧S'=⟨H'++lh,0⟩∧env=[lx,xl,.bool false,.ptr H'.length 0 0 0,.bool true,.int .i64 (ls.length:Nat),u6,u7,xw,.int .i64 (used:Nat),.bool en,.int .i64 (i:Nat),u12,.undef,.undef,.undef,.undef,.undef,.undef,.undef,u20,u21,.bool (decide (((ls.length:Nat):Int)<((ls.length:Nat):Int))),u23,u24,u25,u26,u27,u28,u29,.undef,.undef,.undef,.undef]∧OL lh H'.length q xw (Mw W)∧0<q∧lh[0]?=some ⟨36,4,[[.str nmA,Da x0,.int .i64 ((1:Nat):Int),.int .i64 ((12:Nat):Int)]],0,0,false⟩∧W.length≤i∧used≤ls.length∧((en=true∧Fx (ltT l ls) ls.length (l.drop i) i used (Pq l W)=Fx (ltT l ls) ls.length l 0 0 [])∨(en=false∧Fx (ltT l ls) ls.length l 0 0 []=none))) (l.length) (by omega) (⟨0,0,1,true,[⟨36,4,[[.str nmA,Da x0,.int .i64 ((1:Nat):Int),.int .i64 ((12:Nat):Int)]],0,0,false⟩],.Vu,[],_,_,_,_,_,by omega,by omega,rfl,rfl,.inl ⟨rfl,rfl⟩,by omega,rfl,by simp,by omega,.inl ⟨rfl,rfl⟩⟩) ?_)
  rintro n env S' ⟨i,used,q,en,lh,xw,W,u12,u26,u27,u28,u29,hi,kV,rfl,rfl,hO,hq,vT,hWl,hus,hm⟩
  refine Ag (Ad (Ac rfl (Ac rfl (Ab (by simp only[zo,yT.len,Iy]<;>exact rfl) ?_))))
  refine xo1 ?_
  refine Ae rfl ?_
  refine Dr 0 (by simp only[zv]<;>exact rfl) (by simp only[zn]<;>exact rfl) (by simp only[zn]<;>exact rfl) (fun vI=>?_) (fun vI=>?_)
  ·
   have xu:i<l.length:=by have:=of_decide_eq_true vI;omega
   have vX:=Dx i (by omega)
   have yN:=fun (S:St)=>yT.iaddrN S .i64 (Sk xu)
   refine Ai rfl (Ac rfl (xo0 ?_))
   refine Aa (Af ?_)
   refine Bv (by simp only[opd,zv]<;>exact rfl) (fun yV=>?_) (fun yV=>?_)
   ·
    obtain⟨-,hm⟩ | ⟨h,-⟩:=hm
    rotate_left
    ·
     rw[h]at yV;cases yV
    have uF:=l[i].kind_le
    refine Aj (Bd rfl (Ag (Aq (Ag (Ad (Ac rfl (Ac rfl (Ab (by simp only[zl,zm,yN,FM.row]<;>exact rfl) ?_))))))))
    refine xo3 ?_
    refine Ab (by simp only[zo];exact Nz (by omega) _ _) ?_
    refine xo1 ?_
    refine Aa (Af ?_)
    refine Bv (by simp only[opd,zv]<;>exact rfl) (fun wz=>?_) (fun wz=>?_)
    ·
     have xM:l[i].kind<3:=by have:=of_decide_eq_true wz;omega
     obtain rfl:en=true:=yV
     refine Cf (E5 (Fa (Bd rfl (Ar (Ac rfl (Ab (by simp only[zo,Bh,vX]<;>exact rfl) ?_))))))
     refine Ae rfl (Aa (Fb (by simp only[ze]<;>exact rfl) ?_))
     exact⟨l.length-(i+1),by omega,i+1,used,q,true,lh,xw,W,_,_,_,_,_,by omega,rfl,rfl,rfl,hO,hq,vT,by omega,hus,.inl ⟨rfl,by rw[←hm];exact (accF_skip xu xM).symm⟩⟩
    have xM:¬l[i].kind<3:=by have:=of_decide_eq_false wz;omega
    have xG:=l[i].size_le
    refine Aj (Bd rfl (Ad (Ap (Aa (Af ?_)))))
    refine Aq (Cz (fun n env S'=>∃(j q2:Nat) (en2:Bool) (lh2:List U9) (xw2:D) (W2:List (Nat × List UInt8)) (v12 v26 v27 v28 v29:D),j≤ls.length∧n=2*(ls.length-j)+(if en2 then 0 else 1)∧S'=⟨H'++lh2,0⟩∧env=[lx,xl,.bool false,.ptr H'.length 0 0 0,.bool true,.int .i64 (ls.length:Nat),u6,u7,xw2,.int .i64 (j:Nat),.bool en2,.int .i64 (i:Nat),v12,.undef,.undef,.undef,.undef,.undef,.undef,.undef,u20,u21,.bool (decide (((ls.length:Nat):Int)<((ls.length:Nat):Int))),u23,u24,u25,v26,v27,v28,v29,.undef,.undef,.undef,.undef]∧OL lh2 H'.length q2 xw2 (Mw W2)∧0<q2∧lh2[0]?=some ⟨36,4,[[.str nmA,Da x0,.int .i64 ((1:Nat):Int),.int .i64 ((12:Nat):Int)]],0,0,false⟩∧W2.length≤i+1∧((en2=false∧Ef (ltT l ls i) ls.length used=Ef (ltT l ls i) ls.length j∧W2=W)∨(en2=true∧∃b,Ef (ltT l ls i) ls.length used=some (j,.sl 1 (bR b) (some l[i].size))∧W2=W++[(i,b)]))) (2*(ls.length-used)+1) (by omega) (⟨used,q,false,lh,xw,W,_,_,_,_,_,hus,rfl,rfl,rfl,hO,hq,vT,by omega,.inl ⟨rfl,rfl,rfl⟩⟩) ?_)
    rintro n env S' ⟨j,q2,en2,lh2,xw2,W2,v12,v26,v27,v28,v29,hj,hnN,rfl,rfl,rR,rH,zL,hW2,hd2⟩
    refine Ag (Ad (Ac rfl (Ac rfl (Ab (by simp only[zo,yH.len,Ej]<;>exact rfl) ?_))))
    refine xo1 ?_
    refine Ae rfl ?_
    refine Dr 0 (by simp only[zv]<;>exact rfl) (by simp only[zn]<;>exact rfl) (by simp only[zn]<;>exact rfl) (fun zB=>?_) (fun zB=>?_)
    ·
     refine Ai rfl (Ac rfl (Ai rfl (xo9 ?_)))
     refine xo0 ?_
     refine Aa (Af ?_)
     refine Bv (by simp only[opd,zv]<;>exact rfl) (fun yu=>?_) (fun yu=>?_)
     ·
      have yc:j<ls.length:=by have:=of_decide_eq_true zB;omega
      have hwj:=Dx j (by omega)
      have yM:=fun (S:St)=>yH.iaddrN S .i64 (Jz yc)
      obtain⟨h,hf,hW⟩ | ⟨h,-⟩:=hd2
      rotate_left
      ·
       rw[h]at yu;cases yu
      subst h
      subst hW
      have xV:=fun S:St=>fitted_run (d:=d) (by omega) S l[i] (y9 j yc)
      rcases hfp:Sn l[i].nu l[i].size ls[j].data.toList with _ | b
      ·
       rw[hfp]at xV
       simp only[fitD]at xV
       have hT2:(ltT l ls i j).2=false:=by rw[ltT_at xu yc];exact typT_none (by omega) hfp
       refine Aj (Bd rfl (Aq (Ad (Ap (Aa (Af ?_))))))
       refine Ag (Ey ?_)
       refine Bq rfl rfl (Bq rfl rfl (Ch (by simp only[zl,zm,yN,FM.row]<;>exact rfl) (by simp only[Bg,zo,yT.fpi]<;>exact rfl) rfl ?_))
       refine Iq rfl ?_
       refine Bq rfl rfl (Bq rfl rfl (Ch (by simp only[zl,zm,yM]<;>exact rfl) (by simp only[Bg,zo,yH.fpi]<;>exact rfl) rfl ?_))
       refine Iq rfl ?_
       refine Ck (by simp only[zo];exact xV _) rfl ?_
       refine Dq rfl rfl (xo25 rfl rfl ?_)
       refine xo22 rfl rfl ?_
       refine Dq rfl rfl (Dq rfl rfl (Cw (Af ?_)))
       refine Ad (Ac rfl (Ab (by simp only[zo,Bh,hwj]<;>exact rfl) ?_))
       refine Ae rfl (Aa (Af ?_))
       refine Ad (Ac rfl (Aa (Af ?_)))
       refine Ca ?_
       refine Aj (Eb (Fb rfl ?_))
       exact⟨2*(ls.length-(j+1))+1,by simp at hnN;omega,j+1,q2,false,lh2,xw2,W2,_,_,_,_,_,by omega,rfl,rfl,rfl,rR,rH,zL,by omega,.inl ⟨rfl,by rw[hf,Ef,if_pos yc,if_neg (by rw[hT2];exact Bool.false_ne_true)],rfl⟩⟩
      rw[hfp]at xV
      simp only[fitD]at xV
      have hT2:ltT l ls i j=(.sl 1 (bR b) (some l[i].size),true):=by rw[ltT_at xu yc];exact typT_some (by omega) (by omega) hfp
      obtain⟨x3,l3,q3,zP,hO3,hq3,hl3,h30,hx3,hkp⟩:=OL.app (H:=H') (lo:=0) (row:=[.int .i64 (i:Nat),.sl 1 (bR b) none]) rfl (Nat.zero_le _) rR rH (by rw[Ou];omega) (by have:=Br zL;omega)
      have vJ:Ed [[D.int .i64 0,D.Vu]] 2 [0] [D.agg [D.int .i64 (i:Nat),.sl 1 (bR b) none]]=some [[D.int .i64 (i:Nat),.sl 1 (bR b) none]]:=by simp[Ed,D.val,D.cells,J4,Sc]
      refine Aj (Bd rfl (Aq (Ad (Ap (Aa (Af ?_))))))
      refine Ag (Ey ?_)
      refine Bq rfl rfl (Bq rfl rfl (Ch (by simp only[zl,zm,yN,FM.row]<;>exact rfl) (by simp only[Bg,zo,yT.fpi]<;>exact rfl) rfl ?_))
      refine Iq rfl ?_
      refine Bq rfl rfl (Bq rfl rfl (Ch (by simp only[zl,zm,yM]<;>exact rfl) (by simp only[Bg,zo,yH.fpi]<;>exact rfl) rfl ?_))
      refine Iq rfl ?_
      refine Ck (by simp only[zo];exact xV _) rfl ?_
      refine Dq rfl rfl (xo25 rfl rfl ?_)
      refine xo22 rfl rfl ?_
      refine Dq rfl rfl (Dq rfl rfl (Cw (Af ?_)))
      refine Ad (Ac rfl (Ab (by simp only[zo,Bh,hwj]<;>exact rfl) ?_))
      refine Ae rfl (Aa (Af ?_))
      refine Ad (Ac rfl (Aa (Af ?_)))
      refine Eo ?_
      refine Ar (Ac rfl (Ac rfl (Ac rfl (Ab (by simp only[zl,Mv]<;>exact rfl) ?_))))
      refine xo24 ?_
      refine Ab (by simp only[zl,zm,Ct,List.replicate,Al,Bw,zs,zc,zf,vJ]<;>exact rfl) ?_
      refine Ab (by simp only[Ba,aop,LOp.loud,lop,if_true,opd,zv];exact zP) ?_
      refine Ae rfl (Aa (Eb (Fb (by simp only[ze]<;>exact rfl) ?_)))
      exact⟨2*(ls.length-(j+1))+0,by simp at hnN;omega,j+1,q3,true,l3,x3,W2++[(i,b)],_,_,_,_,_,by omega,rfl,rfl,rfl,by rw[wRows_snoc];exact hO3,hq3,by rw[h30];exact zL,by simp;omega,.inr ⟨rfl,b,by rw[hf,Ef,if_pos yc,hT2,if_pos rfl],rfl⟩⟩
     have hnx:(en2=true∧Fx (ltT l ls) ls.length (l.drop (i+1)) (i+1) j (Pq l W2)=Fx (ltT l ls) ls.length l 0 0 [])∨(en2=false∧Fx (ltT l ls) ls.length l 0 0 []=none):=by
      rcases hd2 with⟨h,-⟩ | ⟨h,b,h2,h3⟩
      ·
       rw[h]at yu;cases yu
      exact .inl ⟨h,by rw[←hm,accF_some xu xM h2,h3,wOut_snoc l W xu]⟩
     refine Cf (E5 (Fp (Fa (Eb (Bd rfl (Ar (Ac rfl (Ab (by simp only[zo,Bh,vX]<;>exact rfl) ?_))))))))
     refine Ae rfl (Aa (Fb (by simp only[ze]<;>exact rfl) ?_))
     exact⟨l.length-(i+1),by omega,i+1,j,q2,en2,lh2,xw2,W2,_,_,_,_,_,by omega,rfl,rfl,rfl,rR,rH,zL,hW2,hj,hnx⟩
    have hjm:j=ls.length:=by have:=of_decide_eq_false zB;omega
    have hnx:(en2=true∧Fx (ltT l ls) ls.length (l.drop (i+1)) (i+1) j (Pq l W2)=Fx (ltT l ls) ls.length l 0 0 [])∨(en2=false∧Fx (ltT l ls) ls.length l 0 0 []=none):=by
     rcases hd2 with⟨h,h2,-⟩ | ⟨h,b,h2,h3⟩
     ·
      have h3:Ef (ltT l ls i) ls.length ls.length=none:=by rw[Ef,if_neg (by omega)]
      rw[hjm,h3]at h2
      exact .inr ⟨h,by rw[←hm,accF_none xu xM h2]⟩
     exact .inl ⟨h,by rw[←hm,accF_some xu xM h2,h3,wOut_snoc l W xu]⟩
    refine Ao rfl rfl (Ao rfl rfl (xo0 ?_))
    refine Aa (Af ?_)
    refine Bz (by simp only[opd,zv]) ?_
    refine Cf (E5 (Fp (Fa (Eb (Bd rfl (Ar (Ac rfl (Ab (by simp only[zo,Bh,vX]<;>exact rfl) ?_))))))))
    refine Ae rfl (Aa (Fb (by simp only[ze]<;>exact rfl) ?_))
    exact⟨l.length-(i+1),by omega,i+1,j,q2,en2,lh2,xw2,W2,_,_,_,_,_,by omega,rfl,rfl,rfl,rR,rH,zL,hW2,hj,hnx⟩
   have hz:(en=true∧Fx (ltT l ls) ls.length l 0 0 []=some (used,Pq l W))∨(en=false∧Fx (ltT l ls) ls.length l 0 0 []=none):=by
    rcases hm with⟨h,-⟩ | h
    ·
     rw[h]at yV;cases yV
    exact .inr h
   refine Cf (E5 (Fp (Fa (ck_n rfl ?_))))
   exact⟨used,q,en,lh,xw,W,_,_,_,_,_,_,rfl,rfl,hO,hq,vT,by omega,hus,hz⟩
  have hi':i=l.length:=by have:=of_decide_eq_false vI;omega
  have hz:(en=true∧Fx (ltT l ls) ls.length l 0 0 []=some (used,Pq l W))∨(en=false∧Fx (ltT l ls) ls.length l 0 0 []=none):=by
   rcases hm with⟨h,h2⟩ | h
   ·
    rw[hi',List.drop_length]at h2
    exact .inl ⟨h,h2.symm⟩
   exact .inr h
  refine Ao rfl rfl (xo0 ?_)
  refine Aa (Af ?_)
  refine Bz (by simp only[opd,zv]) ?_
  refine Cf (E5 (Fp (Fa (ck_n rfl ?_))))
  exact⟨used,q,en,lh,xw,W,_,_,_,_,_,_,rfl,rfl,hO,hq,vT,by omega,hus,hz⟩
 rintro env S' ⟨used,q,en,lh,xw,W,u11,u12,u26,u27,u28,u29,rfl,rfl,hO,hq,vT,hWl,hus,hz⟩
 rcases hz with⟨rfl,hz⟩ | ⟨rfl,hz⟩
 ·
  obtain⟨r,hA,hr⟩:=Ka (d:=d) (by omega) (hS.mono lh) hRW yH (T:=ltT l ls) (by omega) (by omega) (ltT_ok (by omega) y9) nmA 1 12 0 (Nat.zero_le _)
  rw[hz]at hA
  obtain⟨y,H4,go,wr4,rfl,hTL,hl4,hk4,-⟩:=hA
  have hyl:Im false y=some (.int .i64 (W.length:Nat)):=by
   rcases hTL with⟨rfl,h⟩ | ⟨vs,rfl,-⟩
   ·
    have:=congrArg List.length h
    rw[I4]at this
    rw[show W.length=0 from this]
    rfl
   rw[J3,I4]
  have kN:capD y=some (.int .i64 (W.length:Nat)):=by
   rcases hTL with⟨rfl,h⟩ | ⟨vs,rfl,-⟩
   ·
    have:=congrArg List.length h
    rw[I4]at this
    rw[show W.length=0 from this]
    rfl
   rw[capD_msl,I4]
  have hxwl:=hO.len
  rw[Ou]at hxwl
  refine Ad (Ab (by simp only[zl,zm,zd,Be,List.take,List.drop,yw,vT]<;>exact rfl) ?_)
  refine Ac rfl (Ab (by simp only[zo];exact hr) ?_)
  refine Ae rfl (xo7 ?_)
  refine xo4 ?_
  refine xo4 ?_
  refine Ae rfl (Ae rfl (Ae rfl (Aa (Af ?_))))
  refine Ag (Ad (Ac rfl (xo9 ?_)))
  refine Aa (Af ?_)
  refine Bz (by simp only[opd,zv]<;>(first | rfl | simp)) ?_
  refine Aj (Bd rfl (Ag (Ad (Ac rfl (Qj ?_)))))
  refine Ae rfl (Ce 0 (b:=false) ?_)
  refine Ai rfl (Ac rfl (Ai rfl (Ac rfl (Ai rfl (Qj ?_)))))
  refine xo0 ?_
  refine Ae rfl (Ce 0 (b:=false) ?_)
  refine Ai rfl (Ac rfl (Ai rfl (Ab (by simp only[zo,hyl]<;>exact rfl) ?_)))
  refine Ai rfl (Ac rfl (Ai rfl (Ab (by simp only[zo,hxwl]<;>exact rfl) ?_)))
  refine Ai rfl (Qj ?_)
  refine xo0 ?_
  refine Ae rfl (Ce 0 (b:=false) ?_)
  refine Ai rfl (Ac rfl (Ai rfl (Ab (by simp only[zo,kN]<;>exact rfl) ?_)))
  refine Ai rfl (Ac rfl (Ai rfl (Ab (by simp only[zo,hyl]<;>exact rfl) ?_)))
  refine Ai rfl (Qj ?_)
  refine xo0 ?_
  refine Aa (Af ?_)
  refine Bz (by simp only[opd,zv]<;>(first | rfl | simp)) ?_
  refine Aj (Bd rfl (Ag (Ad (Ap (Aa (Af ?_))))))
  refine Aq (Cz (fun n env S'=>∃(i:Nat) (p30 p31 p32 p33:D),i≤W.length∧n=W.length-i∧S'=⟨H4,0⟩∧env=[lx,xl,.bool false,.ptr H'.length 0 0 0,.bool true,.int .i64 (ls.length:Nat),u6,u7,xw,.int .i64 (used:Nat),.bool true,u11,u12,y,.int .i64 (used:Nat),.int .i64 0,.int .i64 (i:Nat),.undef,.undef,.undef,u20,u21,.bool (decide (((ls.length:Nat):Int)<((ls.length:Nat):Int))),u23,u24,u25,u26,u27,u28,u29,p30,p31,p32,p33]) (W.length) (by omega) (⟨0,_,_,_,_,by omega,by omega,rfl,rfl⟩) ?_)
  rintro n env S' ⟨i,p30,p31,p32,p33,hi,kV,rfl,rfl⟩
  refine Ag (Ad (Ac rfl (Ac rfl (Ab (by simp only[zo,hyl]<;>exact rfl) ?_))))
  refine xo1 ?_
  refine Aa (Af ?_)
  refine Bv (by simp only[opd,zv]<;>exact rfl) (fun wu=>?_) (fun wu=>?_)
  ·
   have xu:i<W.length:=by have:=of_decide_eq_true wu;omega
   have vX:=Dx i (by omega)
   have h0i:(0:Int)≤(i:Int):=by omega
   have hii:(i:Int)<((W.length:Nat):Int):=by omega
   obtain⟨vs,rfl,kG⟩:∃vs,y=.msl go vs 0 W.length (some W.length)∧H4[go]?=some ⟨74,2,Ha (Pq l W),vs,0,true⟩:=by
    rcases hTL with⟨-,h⟩ | h
    ·
     exfalso
     have:=congrArg List.length h
     rw[I4,List.length_nil]at this
     omega
    rwa [I4]at h
   obtain⟨vw,rfl,how⟩:∃vw,xw=.msl (H'.length+q) vw 0 W.length none∧lh[q]?=some ⟨74,2,Mw W,vw,0,true⟩:=by
    rcases hO with⟨-,h⟩ | h
    ·
     exfalso
     have:=congrArg List.length h
     rw[Ou,List.length_nil]at this
     omega
    rwa [Ou]at h
   have how4:H4[H'.length+q]?=some ⟨74,2,Mw W,vw,0,true⟩:=by
    rw[hk4 _ (by rw[Ll_];have:=Br how;omega),Dn]
    exact how
   have hty:=wTy_at l xu
   have kC:=wRows_at xu
   have xP:=aI kG (aI how4 (aI hty (aI kC (aI h0i (aI hii (aI vX (@Int.toNat_natCast)))))))
   refine Aj (Bd rfl (Ag (Aq (Ag (Ey ?_)))))
   refine Bq rfl rfl (Bq rfl rfl (Ck (by simp only[zl,zm,Cq,xP]<;>exact rfl) rfl ?_))
   refine Bp (by simp only[zo,E9,zm,xP]<;>exact rfl) rfl rfl ?_
   refine xo34 rfl ?_
   refine Bq rfl rfl (Bq rfl rfl (Ck (by simp only[zl,zm,Cq,xP]<;>exact rfl) rfl ?_))
   refine Bp (by simp only[zo,E9,zm,xP]<;>exact rfl) rfl rfl ?_
   refine xo34 rfl ?_
   refine Bp (by simp only[zo,Bh,yw,xP]<;>exact rfl) rfl rfl ?_
   refine Dq rfl rfl (dw_kq 0 (b:=false) ?_)
   refine Lh rfl (Bq rfl rfl (Lh rfl (Bq rfl rfl (Lh rfl (Ck (by simp only[zl,zm,Cq,xP]<;>exact rfl) rfl ?_)))))
   refine Lh rfl (Bp (by simp only[zo,E9,zm,xP]<;>exact rfl) rfl rfl ?_)
   refine Lh rfl (xo34 rfl ?_)
   refine Lh rfl (Ck (by simp only[zl,zm,Gn,Ms,xP]<;>exact rfl) rfl ?_)
   refine Lh rfl (Bq rfl rfl (Lh rfl (Bq rfl rfl (Lh rfl (Ck (by simp only[zl,zm,Cq,xP]<;>exact rfl) rfl ?_)))))
   refine Lh rfl (Bp (by simp only[zo,E9,zm,xP]<;>exact rfl) rfl rfl ?_)
   refine Lh rfl (xo34 rfl ?_)
   refine Lh rfl (Ck (by simp only[zl,zm,Gn,Ms,xP]<;>exact rfl) rfl ?_)
   refine Lh rfl (Bp (by simp only[zo,Bh,xP]<;>exact rfl) rfl rfl ?_)
   refine Bp (by simp only[zo,xP]<;>exact rfl) rfl rfl ?_
   refine Cw (Af ?_)
   refine Bz (by simp only[opd,zv,xP]<;>(first | rfl | simp)) ?_
   refine Aj (Eb (Bd rfl (Ar (Ac rfl (xo29 ?_)))))
   refine Ae rfl (Aa (Fb (by simp only[ze]<;>exact rfl) ?_))
   exact⟨W.length-(i+1),by omega,i+1,_,_,_,_,by omega,rfl,rfl,rfl⟩
  have hi':W.length=i:=by have:=of_decide_eq_false wu;omega
  subst hi'
  obtain⟨l4,rfl⟩:=ext_of hl4 hk4
  obtain⟨l5,hl5⟩:∃l5,l5=lh++l4:=⟨_,rfl⟩
  rw[Lo_,←hl5]
  have zH:l5≠[]:=by
   intro e
   have:=Br vT
   rw[e]at hl5
   have:=congrArg List.length hl5
   simp at this
   omega
  have hsb5:l5[0]?=some ⟨36,4,[[.str nmA,Da x0,.int .i64 ((1:Nat):Int),.int .i64 ((12:Nat):Int)]],0,0,false⟩:=by rw[hl5,La_ (Br vT)];exact vT
  obtain⟨ls2,hls2⟩:∃ls2,ls2=ls++[⟨#[48]⟩,⟨#[120]⟩]:=⟨_,rfl⟩
  have zy:ls2.length=ls.length+2:=by rw[hls2];simp
  have hsr:Co ls2=Co ls++[[.str ⟨#[48]⟩],[.str ⟨#[120]⟩]]:=by rw[hls2];simp[Co]
  have hok2:∀j (hj:j<ls2.length),okL ls2[j]:=by
   subst hls2
   intro j hj
   by_cases h:j<ls.length
   ·
    rw[List.getElem_append_left h];exact y9 j h
   rw[List.getElem_append_right (by omega)]
   rcases (by omega:j-ls.length=0∨j-ls.length=1) with h | h
   ·
    simp only[h];exact okL_0
   simp only[h];exact okL_x
  have hz2:Fx (ltT l ls2) ls2.length l 0 0 []=some (used,Pq l W):=by
   rw[zy,hls2]
   exact accF_ext (by omega) (fun i j hj=>ltT_app l ls _ i j hj) hz
  have hrd:=fun S=>yH.read S
  rcases Nat.eq_zero_or_pos ls.length with yD | yD
  ·
   have h0:Co ls=[]:=by rw[List.eq_nil_of_length_eq_zero yD];rfl
   have vQ:∀c,Ci 9 1 16 1 (.sl 1 [] c) xl ⟨H'++l5,0⟩=some (.sl 1 [] c,⟨H'++l5,0⟩,false):=fun c=>by simp[Ci,hrd,h0,Bi]
   have hap2:∀c,Ci 9 1 16 1 (.sl 1 [] (some 0)) (.sl 1 [[.str ⟨#[48]⟩],[.str ⟨#[120]⟩]] c) ⟨H'++l5,0⟩=some (.msl (H'.length+l5.length) 0 0 (ls.length+2) none,⟨H'++(l5++[⟨9,1,Co ls2,0,1,true⟩]),0⟩,true):=fun c=>by simp[Ci,De,Bi,newAt,hsr,h0,yD]
   have hS6:=hS.mono (l5++[⟨9,1,Co ls2,0,1,true⟩])
   obtain⟨r2,hA2,uZ⟩:=Ka (d:=d) (by omega) hS6 hRW (SlD.of 1 (Co ls2) none) (T:=ltT l ls2) (by omega) (by omega) (ltT_ok (by omega) hok2) nmA 1 12 0 (Nat.zero_le _)
   rw[hz2]at hA2
   obtain⟨y2,H6,go2,wr6,rfl,hTL2,-,-,-⟩:=hA2
   have uI:(H'++(l5++[⟨9,1,Co ls2,0,1,true⟩]))[H'.length+l5.length]?=some ⟨9,1,Co ls2,0,1,true⟩:=by rw[Dn,Ec];rfl
   have hT6:(Co ls2).take (ls.length+2)=Co ls2:=List.take_of_length_le (by rw[Ej,zy];exact Nat.le_refl _)
   have wO:=fun m:Nat=>hS6.snap m []
   simp only[List.append_nil]at wO
   have za:Az LP NN d 23 [.agg [.str nmA,Da x0,.int .i64 ((1:Nat):Int),.int .i64 ((12:Nat):Int)],.msl (H'.length+l5.length) 0 0 (ls.length+2) none] ⟨H'++(l5++[⟨9,1,Co ls2,0,1,true⟩]),0⟩=some (.tup [y2,.int .i64 (used:Nat),.int .i64 0],⟨H6,0⟩,wr6):=by
    rw[run_snap (args':=[.agg [.str nmA,Da x0,.int .i64 ((1:Nat):Int),.int .i64 ((12:Nat):Int)],.sl 1 (Co ls2) none]) rfl ?_ ?_]
    ·
     exact uZ
    ·
     simp[Al,Hz,Bw,Ja,Jb,wO,Jw,Ie,hT6]
    simp[Al,Hz,Bw,Ja,Jb,wO,Qo]
   have hy2:Im false y2=some (.int .i64 (W.length:Nat)):=by
    rcases hTL2 with⟨rfl,h⟩ | ⟨vs,rfl,-⟩
    ·
     have:=congrArg List.length h
     rw[I4]at this
     rw[show W.length=0 from this]
     rfl
    rw[J3,I4]
   refine Cf (E5 (Fp (Fa (Bd rfl (Ag (Ey ?_))))))
   refine Ck (by simp only[zl,zm,zd,Be,List.take,List.drop,yw,hsb5]<;>exact rfl) rfl ?_
   refine Ch (by simp only[zl,Ct,List.replicate,Al]<;>exact rfl) (by simp only[Bg,zo,zq]<;>exact rfl) (by first | rfl | (simp[show ob 0 1=[false] from rfl,Vh,Bc,Aw,Cg,Ay,Bo,dj,Au,Am,Bn,Bj,Cr,Dm,Cn,Bf,yT.fpi,yH.fpi,zH];done) | (cases wr6<;>simp[show ob 0 1=[false] from rfl,Vh,Bc,Aw,Cg,Ay,Bo,dj,Au,Am,Bn,Bj,Cr,Dm,Cn,Bf,yT.fpi,yH.fpi,zH])) ?_
   refine Bq rfl rfl (Ch (by simp only[Ba,aop,LOp.loud,lop,if_true,opd,zv];first | exact hap2 _ | exact vQ _ | exact vQ _ rfl) (by simp only[Bg,zo,zq]<;>exact rfl) (by first | rfl | (simp[show ob 6 3=[true,true,false] from rfl,Vh,Bc,Aw,Cg,Ay,Bo,dj,Au,Am,Bn,Bj,Cr,Dm,Cn,Bf,yT.fpi,yH.fpi,zH];done) | (cases wr6<;>simp[show ob 6 3=[true,true,false] from rfl,Vh,Bc,Aw,Cg,Ay,Bo,dj,Au,Am,Bn,Bj,Cr,Dm,Cn,Bf,yT.fpi,yH.fpi,zH])) ?_)
   refine Ch (by simp only[zl,zm,Ct,List.replicate,Al,zs,zc,zf]<;>exact rfl) (by simp only[Bg,zo,zq]<;>exact rfl) (by first | rfl | (simp[show ob 0 4=[false,false,false,false] from rfl,Vh,Bc,Aw,Cg,Ay,Bo,dj,Au,Am,Bn,Bj,Cr,Dm,Cn,Bf,yT.fpi,yH.fpi,zH];done) | (cases wr6<;>simp[show ob 0 4=[false,false,false,false] from rfl,Vh,Bc,Aw,Cg,Ay,Bo,dj,Au,Am,Bn,Bj,Cr,Dm,Cn,Bf,yT.fpi,yH.fpi,zH])) ?_
   refine Ch (by simp only[Ba,aop,LOp.loud,lop,if_true,opd,zv];first | exact hap2 _ | exact vQ _ | exact vQ _ rfl) (by simp only[Bg,zo,zq]<;>exact rfl) (by first | rfl | (simp[show ob 30 5=[true,true,true,true,false] from rfl,Vh,Bc,Aw,Cg,Ay,Bo,dj,Au,Am,Cr,Dm,Cn,Bf,zH];done) | (cases wr6<;>simp[show ob 30 5=[true,true,true,true,false] from rfl,Vh,Bc,Aw,Cg,Ay,Bo,dj,Au,Am,Bn,Bj,Cr,Dm,Cn,Bf,yT.fpi,yH.fpi,zH])) ?_
   refine Ch (by simp only[zo];exact za) (by simp only[Bg,zo,zq]<;>exact rfl) (by first | rfl | (simp[show ob 63 6=[true,true,true,true,true,true] from rfl,Vh,Bc,Aw,Cg,Ay,Bo,dj,Au,Am,Bn,Bj,Cr,Dm,Cn,Bf];done) | (cases wr6<;>simp[show ob 63 6=[true,true,true,true,true,true] from rfl,Vh,Bc,Aw,Cg,Ay,Bo,dj,Au,Am,Bj,Cr,Dm,Cn,Bf])) ?_
   refine Dq rfl rfl (xo25 rfl rfl ?_)
   refine xo22 rfl rfl ?_
   refine xo22 rfl rfl ?_
   refine Dq rfl rfl (Dq rfl rfl (Dq rfl rfl (Cw (Af ?_))))
   refine Ad (Ac rfl (xo36 ?_))
   refine Ae rfl (Ce 0 (b:=true) ?_)
   refine Ai rfl (Ac rfl (Ai rfl (Ac rfl (Ai rfl (xo36 ?_)))))
   refine xo0 ?_
   refine Ae rfl (Ce 0 (b:=true) ?_)
   refine Ai rfl (Ac rfl (Ai rfl (Ab (by simp only[zo,hy2]<;>exact rfl) ?_)))
   refine Ai rfl (Ac rfl (Ai rfl (Ab (by simp only[zo,hyl]<;>exact rfl) ?_)))
   refine Ai rfl (xo36 ?_)
   refine xo0 ?_
   refine Ae rfl (Ce 0 (b:=true) ?_)
   refine Ai rfl (Ab (by simp only[zo];exact G6 (by omega) _) ?_)
   refine xo0 ?_
   refine Ae rfl (Aa (Af ?_))
   refine Av ?_
   refine⟨_,by simp only[F6,Ak,Bb,Cb,zg]<;>exact rfl,?_⟩
   simp only[Dv,leave,zs,zf,zk]
  have h0:(Co ls).isEmpty=false:=by
   have:=Ej ls
   cases h:Co ls with
   | nil=>rw[h]at this;simp at this;omega
   | cons a b=>rfl
  have vQ:∀c,c=some 0→Ci 9 1 16 1 (.sl 1 [] c) xl ⟨H'++l5,0⟩=some (.msl (H'.length+l5.length) 0 0 ls.length none,⟨H'++(l5++[⟨9,1,Co ls,0,1,true⟩]),0⟩,true):=fun c hc=>by
   subst hc
   have hb:ls.length*16≤140737488355328:=by omega
   simp[Ci,hrd,h0,Bi,newAt,Ej,hb]
  have hat0:(H'++(l5++[(⟨9,1,Co ls,0,1,true⟩:U9)]))[H'.length+l5.length]?=some ⟨9,1,Co ls,0,1,true⟩:=by rw[Dn,Ec];rfl
  have hap2:∀c,Ci 9 1 16 1 (.msl (H'.length+l5.length) 0 0 ls.length none) (.sl 1 [[.str ⟨#[48]⟩],[.str ⟨#[120]⟩]] c) ⟨H'++(l5++[⟨9,1,Co ls,0,1,true⟩]),0⟩=some (.msl (H'.length+l5.length) 1 0 (ls.length+2) none,⟨H'++(l5++[⟨9,1,Co ls2,1,1,true⟩]),0⟩,true):=fun c=>by
   have hb:(ls.length+2)*16≤140737488355328:=by omega
   simp[Ci,De,Bi,rowsOf,setAt,Ej,hb,hsr]
  have hS6:=hS.mono (l5++[⟨9,1,Co ls2,1,1,true⟩])
  obtain⟨r2,hA2,uZ⟩:=Ka (d:=d) (by omega) hS6 hRW (SlD.of 1 (Co ls2) none) (T:=ltT l ls2) (by omega) (by omega) (ltT_ok (by omega) hok2) nmA 1 12 0 (Nat.zero_le _)
  rw[hz2]at hA2
  obtain⟨y2,H6,go2,wr6,rfl,hTL2,-,-,-⟩:=hA2
  have uI:(H'++(l5++[⟨9,1,Co ls2,1,1,true⟩]))[H'.length+l5.length]?=some ⟨9,1,Co ls2,1,1,true⟩:=by rw[Dn,Ec];rfl
  have hT6:(Co ls2).take (ls.length+2)=Co ls2:=List.take_of_length_le (by rw[Ej,zy];exact Nat.le_refl _)
  have wO:=fun m:Nat=>hS6.snap m []
  simp only[List.append_nil]at wO
  have za:Az LP NN d 23 [.agg [.str nmA,Da x0,.int .i64 ((1:Nat):Int),.int .i64 ((12:Nat):Int)],.msl (H'.length+l5.length) 1 0 (ls.length+2) none] ⟨H'++(l5++[⟨9,1,Co ls2,1,1,true⟩]),0⟩=some (.tup [y2,.int .i64 (used:Nat),.int .i64 0],⟨H6,0⟩,wr6):=by
   rw[run_snap (args':=[.agg [.str nmA,Da x0,.int .i64 ((1:Nat):Int),.int .i64 ((12:Nat):Int)],.sl 1 (Co ls2) none]) rfl ?_ ?_]
   ·
    exact uZ
   ·
    simp[Al,Hz,Bw,Ja,Jb,wO,Jw,Ie,hT6]
   simp[Al,Hz,Bw,Ja,Jb,wO,Qo]
  have hy2:Im false y2=some (.int .i64 (W.length:Nat)):=by
   rcases hTL2 with⟨rfl,h⟩ | ⟨vs,rfl,-⟩
   ·
    have:=congrArg List.length h
    rw[I4]at this
    rw[show W.length=0 from this]
    rfl
   rw[J3,I4]
  refine Cf (E5 (Fp (Fa (Bd rfl (Ag (Ey ?_))))))
  refine Ck (by simp only[zl,zm,zd,Be,List.take,List.drop,yw,hsb5]<;>exact rfl) rfl ?_
  refine Ch (by simp only[zl,Ct,List.replicate,Al]<;>exact rfl) (by simp only[Bg,zo,zq]<;>exact rfl) (by first | rfl | (simp[show ob 0 1=[false] from rfl,Vh,Bc,Aw,Cg,Ay,Bo,dj,Au,Am,Bn,Bj,Cr,Dm,Cn,Bf,yT.fpi,yH.fpi,zH];done) | (cases wr6<;>simp[show ob 0 1=[false] from rfl,Vh,Bc,Aw,Cg,Ay,Bo,dj,Au,Am,Bn,Bj,Cr,Dm,Cn,Bf,yT.fpi,yH.fpi,zH])) ?_
  refine Bq rfl rfl (Ch (by simp only[Ba,aop,LOp.loud,lop,if_true,opd,zv];first | exact hap2 _ | exact vQ _ | exact vQ _ rfl) (by simp only[Bg,zo,zq]<;>exact rfl) (by first | rfl | (simp[show ob 6 3=[true,true,false] from rfl,Aw,Cg,Ay,Bo,dj,Au,Am,Cr,Dm,Cn,Bf,zH];done) | (cases wr6<;>simp[show ob 6 3=[true,true,false] from rfl,Vh,Bc,Aw,Cg,Ay,Bo,dj,Au,Am,Bn,Bj,Cr,Dm,Cn,Bf,yT.fpi,yH.fpi,zH])) ?_)
  refine Ch (by simp only[zl,zm,Ct,List.replicate,Al,zs,zc,zf]<;>exact rfl) (by simp only[Bg,zo,zq]<;>exact rfl) (by first | rfl | (simp[show ob 0 4=[false,false,false,false] from rfl,Vh,Bc,Aw,Cg,Ay,Bo,dj,Au,Am,Bn,Bj,Cr,Dm,Cn,Bf,yT.fpi,yH.fpi,zH];done) | (cases wr6<;>simp[show ob 0 4=[false,false,false,false] from rfl,Vh,Bc,Aw,Cg,Ay,Bo,dj,Au,Am,Bn,Bj,Cr,Dm,Cn,Bf,yT.fpi,yH.fpi,zH])) ?_
  refine Ch (by simp only[Ba,aop,LOp.loud,lop,if_true,opd,zv];first | exact hap2 _ | exact vQ _ | exact vQ _ rfl) (by simp only[Bg,zo,zq]<;>exact rfl) (by first | rfl | (simp[show ob 30 5=[true,true,true,true,false] from rfl,Vh,Bc,Aw,Cg,Ay,Bo,dj,Au,Am,Cr,Dm,Cn,Bf,zH];done) | (cases wr6<;>simp[show ob 30 5=[true,true,true,true,false] from rfl,Vh,Bc,Aw,Cg,Ay,Bo,dj,Au,Am,Bn,Bj,Cr,Dm,Cn,Bf,yT.fpi,yH.fpi,zH])) ?_
  refine Ch (by simp only[zo];exact za) (by simp only[Bg,zo,zq]<;>exact rfl) (by first | rfl | (simp[show ob 63 6=[true,true,true,true,true,true] from rfl,Vh,Bc,Aw,Cg,Ay,Bo,dj,Au,Am,Bn,Bj,Cr,Dm,Cn,Bf];done) | (cases wr6<;>simp[show ob 63 6=[true,true,true,true,true,true] from rfl,Vh,Bc,Aw,Cg,Ay,Bo,dj,Au,Am,Bj,Cr,Dm,Cn,Bf])) ?_
  refine Dq rfl rfl (xo25 rfl rfl ?_)
  refine xo22 rfl rfl ?_
  refine xo22 rfl rfl ?_
  refine Dq rfl rfl (Dq rfl rfl (Dq rfl rfl (Cw (Af ?_))))
  refine Ad (Ac rfl (xo36 ?_))
  refine Ae rfl (Ce 0 (b:=true) ?_)
  refine Ai rfl (Ac rfl (Ai rfl (Ac rfl (Ai rfl (xo36 ?_)))))
  refine xo0 ?_
  refine Ae rfl (Ce 0 (b:=true) ?_)
  refine Ai rfl (Ac rfl (Ai rfl (Ab (by simp only[zo,hy2]<;>exact rfl) ?_)))
  refine Ai rfl (Ac rfl (Ai rfl (Ab (by simp only[zo,hyl]<;>exact rfl) ?_)))
  refine Ai rfl (xo36 ?_)
  refine xo0 ?_
  refine Ae rfl (Ce 0 (b:=true) ?_)
  refine Ai rfl (Ab (by simp only[zo];exact G6 (by omega) _) ?_)
  refine xo0 ?_
  refine Ae rfl (Aa (Af ?_))
  refine Av ?_
  refine⟨_,by simp only[F6,Ak,Bb,Cb,zg]<;>exact rfl,?_⟩
  simp only[Dv,leave,zs,zf,zk]
 obtain⟨r,hA,hr⟩:=Ka (d:=d) (by omega) (hS.mono lh) hRW yH (T:=ltT l ls) (by omega) (by omega) (ltT_ok (by omega) y9) nmA 1 12 0 (Nat.zero_le _)
 rw[hz]at hA
 rw[show r=_ from hA]at hr
 refine Ad (Ab (by simp only[zl,zm,zd,Be,List.take,List.drop,yw,vT]<;>exact rfl) ?_)
 refine Ac rfl (Ab (by simp only[zo];exact hr) ?_)
 refine Ae rfl (xo7 ?_)
 refine xo4 ?_
 refine xo4 ?_
 refine Ae rfl (Ae rfl (Ae rfl (Aa (Af ?_))))
 refine Ag (Ad (Ac rfl (xo9 ?_)))
 refine Aa (Af ?_)
 refine Eo ?_
 refine Ad (Ac rfl (xo1 ?_))
 refine Ae rfl (Ce 0 (b:=true) ?_)
 refine Ai rfl (Ac rfl (Ai rfl (xo1 ?_)))
 refine xo0 ?_
 refine Ae rfl (Ce 0 (b:=true) ?_)
 refine Ai rfl (Ac rfl (Ai rfl (Ab (by simp only[zo,K8]<;>exact rfl) ?_)))
 refine Ai rfl (xo1 ?_)
 refine xo0 ?_
 refine Ae rfl (Ce 0 (b:=true) ?_)
 refine Ai rfl (Ab (by simp only[zo];exact G6 (by omega) _) ?_)
 refine xo0 ?_
 refine Ae rfl (Aa (Af ?_))
 refine Av (D5 ?_)
 refine⟨_,by simp only[F6,Ak,Bb,Cb,zg]<;>exact rfl,?_⟩
 simp only[Dv,leave,zs,zf,zk]
open Go.ChangeShapes Go.WideShapes Go.ChangeAt Go.RowKit
set_option maxRecDepth 100000
theorem own:ownKnob Tryz.prog.godebug=none:=by kernel_rfl
theorem laidOut:laidOutB Tryz.prog=true:=by kernel_rfl
theorem ty4:Tryz.prog.underlying 4=some .bool:=by kernel_rfl
theorem ty5:Tryz.prog.underlying 5=some (.int .u8):=by kernel_rfl
theorem ty9:Tryz.prog.underlying 9=some .string:=by kernel_rfl
theorem ty22:Tryz.prog.underlying 22=some (.slice 50):=by kernel_rfl
theorem ty64:Tryz.prog.underlying 64=some (.slice 9):=by kernel_rfl
noncomputable def fs50:Array Field:=match Tryz.prog.underlying 50 with
  | some (.struct fs)=>fs
  | _=>#[]
theorem ty50:∃fs:Array Field,Tryz.prog.underlying 50=some (.struct fs)∧fs.size=6∧fs.toList.map (·.type)=[5,5,5,5,4,4]:=⟨fs50,by kernel_rfl,by kernel_rfl,by kernel_rfl⟩
def Ny:List (String × DataW Unit):=Rows.screensParseRow.laid
theorem door_met(os:Os)(args:Array Value):laidMetH Tryz.prog Ny ((World.laidAll Tryz.prog os Ny).forCall (fun _ _=>0) ⟨#[],args,[]⟩).memory:=by
  rw[MakeChecks.laidMetH_plain _ _ _ (by kernel_rfl)]
  exact laidMet_laidAll _ (by kernel_rfl) (by kernel_rfl)
theorem fieldsArg{ds:List D}(h:Sh Tryz.prog 3 22 ds):∃(x:D) (l:List FM),ds=[x]∧SlD 6 (Jl l) x:=by
  have e1:Tryz.prog.cellsOf 50=6:=by kernel_rfl
  obtain⟨fs,hu,hn,ht⟩:=ty50
  obtain⟨x,rows,rfl,hS,_,hr⟩:=Sh.slice ty22 h
  rw[e1]at hS
  obtain⟨l,rfl⟩:=rows_of (f:=FM.row) (rows:=rows) (fun r hr'=>by
    obtain⟨parts,rfl,hp,hf⟩:=Sh.struct hu (hr r hr')
    have tk:∀(j:Nat) (t:TypeId),[5,5,5,5,4,4][j]?=some t→∃f:Field,fs[j]?=some f∧f.type=t:=fun j t hj=>by
      rw[←ht,Lp_]at hj
      rw[←Array.getElem?_toList]
      cases e:fs.toList[j]? with
      | none=>rw[e]at hj;cases hj
      | some f=>rw[e]at hj;exact⟨f,rfl,Option.some.inj hj⟩
    obtain⟨f0,g0,t0⟩:=tk 0 5 rfl
    obtain⟨f1,g1,t1⟩:=tk 1 5 rfl
    obtain⟨f2,g2,t2⟩:=tk 2 5 rfl
    obtain⟨f3,g3,t3⟩:=tk 3 5 rfl
    obtain⟨f4,g4,t4⟩:=tk 4 4 rfl
    obtain⟨f5,g5,t5⟩:=tk 5 4 rfl
    obtain⟨r0,h0,s0⟩:=hf 0 _ g0
    obtain⟨r1,h1,s1⟩:=hf 1 _ g1
    obtain⟨r2,h2,s2⟩:=hf 2 _ g2
    obtain⟨r3,h3,s3⟩:=hf 3 _ g3
    obtain⟨r4,h4,s4⟩:=hf 4 _ g4
    obtain⟨r5,h5,s5⟩:=hf 5 _ g5
    rw[t0]at s0;rw[t1]at s1;rw[t2]at s2;rw[t3]at s3;rw[t4]at s4;rw[t5]at s5
    obtain⟨n0,rfl,w0⟩:=Sh.int ty5 s0
    obtain⟨n1,rfl,w1⟩:=Sh.int ty5 s1
    obtain⟨n2,rfl,w2⟩:=Sh.int ty5 s2
    obtain⟨n3,rfl,w3⟩:=Sh.int ty5 s3
    obtain⟨b4,rfl⟩:=Sh.bool ty4 s4
    obtain⟨b5,rfl⟩:=Sh.bool ty4 s5
    obtain⟨m0,rfl,k0⟩:=u8_nat w0
    obtain⟨m1,rfl,k1⟩:=u8_nat w1
    obtain⟨m2,rfl,k2⟩:=u8_nat w2
    obtain⟨m3,rfl,k3⟩:=u8_nat w3
    rw[hn]at hp
    match parts,hp,h0,h1,h2,h3,h4,h5 with
    | [p0, p1, p2, p3, p4, p5], _, h0, h1, h2, h3, h4, h5 =>
      simp at h0 h1 h2 h3 h4 h5
      subst h0 h1 h2 h3 h4 h5
      exact⟨⟨m0,m1,m2,m3,b4,b5,k0,k1,k2,k3⟩,rfl⟩)
  exact⟨x,l,rfl,hS⟩
theorem linesArg{ds:List D}(h:Sh Tryz.prog 3 64 ds):∃(x:D) (l:List ByteArray),ds=[x]∧SlD 1 (Co l) x:=by
  have e1:Tryz.prog.cellsOf 9=1:=by kernel_rfl
  obtain⟨x,rows,rfl,hS,hm,hr⟩:=Sh.slice ty64 h
  rw[e1]at hS
  obtain⟨l,rfl⟩:=rows_of (f:=fun a:ByteArray=>[D.str a]) (rows:=rows) (fun r h=>by
    obtain⟨s,rfl,-⟩:=Sh.str ty9 (hr r h)
    exact⟨s,rfl⟩)
  exact⟨x,l,rfl,hS⟩
theorem glob_ok{W:World}(h:laidMetH Tryz.prog Ny W):GlobOK GT W:=by
  rw[MakeChecks.laidMetH_plain _ _ _ (by kernel_rfl)]at h
  intro g row hg
  unfold GT at hg
  split at hg
  · cases hg
    exact Q8 h (x:=(Ny[8]'(by decide))) (List.getElem_mem _) (n:=3) (t:=((Tryz.prog.globals[0]?).map (·.type)).getD 0) (by kernel_rfl) (by kernel_rfl) (by kernel_rfl) (by kernel_rfl)
  · cases hg
    exact Q8 h (x:=(Ny[10]'(by decide))) (List.getElem_mem _) (n:=3) (t:=((Tryz.prog.globals[2]?).map (·.type)).getD 0) (by kernel_rfl) (by kernel_rfl) (by kernel_rfl) (by kernel_rfl)
  · cases hg
    exact Q8 h (x:=(Ny[9]'(by decide))) (List.getElem_mem _) (n:=3) (t:=((Tryz.prog.globals[5]?).map (·.type)).getD 0) (by kernel_rfl) (by kernel_rfl) (by kernel_rfl) (by kernel_rfl)
  · cases hg
    exact Q8 h (x:=(Ny[7]'(by decide))) (List.getElem_mem _) (n:=3) (t:=((Tryz.prog.globals[8]?).map (·.type)).getD 0) (by kernel_rfl) (by kernel_rfl) (by kernel_rfl) (by kernel_rfl)
  · cases hg
    exact Q8 h (x:=(Ny[2]'(by decide))) (List.getElem_mem _) (n:=3) (t:=((Tryz.prog.globals[10]?).map (·.type)).getD 0) (by kernel_rfl) (by kernel_rfl) (by kernel_rfl) (by kernel_rfl)
  cases hg
end Go.Proofs.YtkaedpmmopigkaaGreatDoor
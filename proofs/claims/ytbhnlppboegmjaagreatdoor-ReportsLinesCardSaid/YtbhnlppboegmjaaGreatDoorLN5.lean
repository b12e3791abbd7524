/- Proved here: parts of the proof, joined (K60, K61, K62, K63, K64, K65, K66, K67, K68, K69, K70, K71, K72, K73, K74, K75, K76, K77, K78, K79, K80, K81, K82, K83, K84): an abstract machine, its soundness, what functions of the program compute in it; no condition. -/
import Derived.Test.YtbhnlppboegmjaaGreatDoorLN4
namespace Go.Proofs.YtbhnlppboegmjaaGreatDoor
set_option linter.unusedSimpArgs false
set_option linter.unusedVariables false
set_option maxRecDepth 100000
set_option maxHeartbeats 4000000
theorem csize_run{d:Nat}(hd:1≤d)(S:St){n:Nat}(h2:n≤100):Bd LP NN d 145 [.int .i64 (n:Nat)] S=some (.int .i64 0,S,false):=by
 have kC:decide (((n:Nat):Int)<0)=false:=decide_eq_false (by omega);have hs2:decide (((n:Nat):Int)>1048576)=false:=decide_eq_false (by omega);refine rq (F:=F145) rfl (by simp only[LP,snapVs,zs,zm]<;>exact rfl) (by simp only[F145,zv]<;>exact rfl) ?_;rintro d rfl;refine Ad (Aw (Aa (Af ?_)));refine Ai (Aq (Ad (Ae rfl (Ac (by simp only[zo,Bf,kC]<;>exact rfl) ?_))));refine Ag rfl (Aa (Af ?_));apply Be (by simp only[opd,zv]<;>(first | rfl | simp));refine Ad (Ae rfl (Ac (by simp only[zo,Bf,hs2]<;>exact rfl) ?_));refine Ag rfl (Aa (Af ?_));apply Be (by simp only[opd,zv]<;>(first | rfl | simp));refine Ak (D8 (Bi rfl (Ad (Aw (Aa (Af ?_))))));apply A7;refine⟨_,by simp only[F145,resultD,Ba,resD,zg]<;>exact rfl,?_⟩;rfl
def fitB (b:List UInt8) (n:Nat):List UInt8:=b.take n++List.replicate (n-b.length) 32
theorem fitB_len(b:List UInt8)(n:Nat):(fitB b n).length=n:=by
 simp[fitB];omega
theorem fit_rows(b:List UInt8)(n:Nat):(bR b).take (min (bR b).length n)++(bR (List.replicate n 32)).drop (min (bR b).length n)=bR (fitB b n):=by
 rw[Mc,fitB];simp only[bR,List.map_append,List.map_take,List.map_replicate,List.drop_replicate];congr 1
 ·
  by_cases h:b.length≤n
  ·
   rw[Nat.min_eq_left h,List.take_of_length_le (by simp),List.take_of_length_le (by simp;omega)]
  rw[Nat.min_eq_right (by omega)]
 congr 1;omega
theorem fitX_run{d:Nat}(hd:3≤d)(S:St)(b:List UInt8)(hb:b.length≤100){n:Nat}(h1:1≤n)(h2:n≤100)(c:Option Nat):Bd LP NN d 101 [.sl 1 (bR b) c,.int .i64 (n:Nat),.bool false] S=some (.tup [.sl 1 (bR (fitB b n)) (some n),.int .i64 0],S,false):=by
 have hmk:(0≤((n:Nat):Int)∧((n:Nat):Int)≤((n:Nat):Int)∧n*1≤140737488355328)=True:=eq_true (by omega);have hb32:List.take (min (bR (List.replicate n 32)).length n) (bR (List.replicate n 32))++List.drop (min (bR (List.replicate n 32)).length n) (List.replicate n [.int .u8 0])=bR (List.replicate n 32):=by simp[bR]
 have hL:(bR (fitB b n)).length=n:=by rw[Mc,fitB_len]
 have hT:(bR (fitB b n)).take n=bR (fitB b n):=List.take_of_length_le (by rw[Mc,fitB_len];exact Nat.le_refl n);refine rq (F:=F101) rfl (by simp only[LP,snapVs,zs,zm]<;>exact rfl) (by simp only[F101,zv]<;>exact rfl) ?_;rintro d rfl;refine Ad (Aw (Aw (Aa (Af ?_))));refine Ai (Ad (Ae rfl (Ac (by simp only[zo];exact csize_run (by omega) _ (by omega)) ?_)));refine Ag rfl (Aa (Af ?_));refine Ad (Ae rfl (xo2 (h:=?_)));refine Aa (Af ?_);apply Be (by simp only[opd,zv]<;>(first | rfl | simp));refine Ak (Bi rfl (Ad (Ae rfl (Ac (by simp only[zl,zm,Int.toNat_natCast,hmk,decide_false]<;>exact rfl) ?_))));refine Ag rfl (Aa (Af ?_));refine Ad (Ae rfl (Ae rfl (Ac (by simp only[zo];exact rep_run (by omega) _ 32 n (by omega)) ?_)));apply Ac (by simp only[zl,zm,Ih,kW,Fz]<;>exact rfl);refine Aa (Af ?_);refine Ai (Ad (Ae rfl (Aa (Af ?_))));apply Be (by simp only[opd,zv]<;>(first | rfl | simp));refine Am (Ae rfl (Ae rfl (Ac (by simp only[zl,zm,Wi,E8,Ih,kW]<;>exact rfl) ?_)));refine Aa (Af ?_);refine Ad (Ae rfl (Ag rfl (Aw (Aa (Af ?_)))));apply A7;refine⟨_,by simp only[F101,resultD,Ba,resD,zg]<;>exact rfl,?_⟩;rw[hb32,fit_rows];simp[leaveP,leave,Aae,snapVs,Aac,snap,D.Aad,D.freeV,D.free,D.Aah,hT,hL]
section
variable (d:Nat) (S:St)
theorem alwT:E5 LP NN (d+3) 146 [.agg (shT 1),.agg (shT 1)] S=some (.bool true,S,false):=by kernel_rfl
theorem alwN:E5 LP NN (d+3) 146 [.agg (shN 3),.agg (shN 3)] S=some (.bool true,S,false):=by kernel_rfl
end
theorem alwT_run{d:Nat}(hd:3≤d)(S:St):Bd LP NN d 146 [.agg (shT 1),.agg (shT 1)] S=some (.bool true,S,false):=by
 obtain⟨d,rfl⟩:∃d',d=d'+3:=⟨d-3,by omega⟩;exact fast_ok (alwT d S)
theorem alwN_run{d:Nat}(hd:3≤d)(S:St):Bd LP NN d 146 [.agg (shN 3),.agg (shN 3)] S=some (.bool true,S,false):=by
 obtain⟨d,rfl⟩:∃d',d=d'+3:=⟨d-3,by omega⟩;exact fast_ok (alwN d S)
theorem mtext_run{d:Nat}(hd:1≤d)(S:St)(rows:List (List D))(c:Option Nat):Bd LP NN d 150 [.agg [.int .u8 2,.int .u8 0,.str (mkS (List.replicate 1 88)),.int .i64 0,.int .i64 0,.bool false,.bool false,.bool false,.bool false,.bool false,.int .i64 ((1:Nat):Int),.sl 1 rows c],.agg [.int .u8 2,.int .u8 0,.str (mkS (List.replicate 1 88)),.int .i64 0,.int .i64 0,.bool false,.bool false,.bool false,.bool false,.bool false,.int .i64 ((1:Nat):Int)]] S=some (.tup [.sl 1 rows c,.int .i64 0],S,false):=by
 refine rq (F:=F150) rfl (by simp only[LP,snapVs,Bh,zs,zm]<;>exact rfl) (by simp only[F150,zv]<;>exact rfl) ?_;rintro d rfl;refine Ad (xo8 (h:=xo8 (h:=?_)));refine Aw (Aw (Aa (Af ?_)));refine Ai (Ad (xo5 (h:=xo5 (h:=xo0 (h:=xo2 (h:=Ag rfl (En 0 (b:=true) ?_)))))));refine Cm rfl rfl (Cm rfl rfl (Cm rfl rfl (xo3 (h:=?_))));refine Aa (Af ?_);apply Ez (by simp only[opd,zv]);refine Ad (xo5 (h:=xo0 (h:=Ag rfl (Aw ?_))));refine Aa (Af ?_);refine A7 (Nu ?_);refine⟨_,by simp only[F150,resultD,Ba,resD,zg]<;>exact rfl,?_⟩;rfl
theorem moveT_run{d:Nat}(hd:18≤d)(S:St)(b:UInt8)(c:Option Nat):Bd LP NN d 102 [.agg [.int .u8 2,.int .u8 0,.str (mkS (List.replicate 1 88)),.int .i64 0,.int .i64 0,.bool false,.bool false,.bool false,.bool false,.bool false,.int .i64 ((1:Nat):Int),.sl 1 (bR [b]) c],.agg [.int .u8 2,.int .u8 0,.str (mkS (List.replicate 1 88)),.int .i64 0,.int .i64 0,.bool false,.bool false,.bool false,.bool false,.bool false,.int .i64 ((1:Nat):Int)]] S=some (.tup [.sl 1 (bR [b]) (some 1),.int .i64 0],S,false):=by
 refine rq (F:=F102) rfl (by simp only[LP,snapVs,Bh,zs,zm]<;>exact rfl) (by simp only[F102,zv]<;>exact rfl) ?_;rintro d rfl;refine Ad (xo8 (h:=xo8 (h:=?_)));refine Aw (Aw (Aa (Af ?_)));refine Ai (Aq (Ad (xo5 (h:=xo0 (h:=Ac (by simp only[zo];exact ckT_run (by omega) _ (n:=1) (by omega) (by omega)) ?_)))));refine xo2 (h:=Ag rfl (En 0 (b:=false) ?_));refine Ap rfl (xo0 (h:=?_));refine Ap rfl (Ac (by simp only[zo];exact ckT_run (by omega) _ (n:=1) (by omega) (by omega)) ?_);refine Ap rfl (xo2 (h:=xo3 (h:=Ag rfl (Aa ?_))));refine Af ?_;apply Be (by simp only[opd,zv]<;>(first | rfl | exact congrArg D.bool (bne_self_eq_false _) | simp));refine Ad (xo5 (h:=xo0 (h:=Ac (by simp only[zo,Fq,Mc]<;>exact rfl) ?_)));refine xo5 (h:=xo5 (h:=xo0 (h:=xo2 (h:=Ag rfl (Aa ?_)))));refine Af ?_;apply Be (by simp only[opd,zv]<;>(first | rfl | exact congrArg D.bool (bne_self_eq_false _) | simp));refine Ad (xo5 (h:=xo0 (h:=xo0 (h:=Ac (by simp only[zo];exact alwT_run (by omega) _) ?_))));refine Zo (h:=Ag rfl (Aa ?_));refine Af ?_;apply Be (by simp only[opd,zv]<;>(first | rfl | exact congrArg D.bool (bne_self_eq_false _) | simp));refine Ad (xo5 (h:=xo5 (h:=xo0 (h:=xo2 (h:=Ag rfl (Aa ?_))))));refine Af ?_;apply Be (by simp only[opd,zv]<;>(first | rfl | exact congrArg D.bool (bne_self_eq_false _) | simp));refine Ad (xo5 (h:=xo0 (h:=xo2 (h:=Ag rfl (En 0 (b:=false) ?_)))));refine Ap rfl (xo5 (h:=?_));refine Ap rfl (xo0 (h:=?_));refine Ap rfl (xo2 (h:=xo3 (h:=Ag rfl (Aa ?_))));refine Af ?_;apply Be (by simp only[opd,zv]<;>(first | rfl | exact congrArg D.bool (bne_self_eq_false _) | simp));refine Ak (D8 (Bi rfl (Ad (xo0 (h:=xo0 (h:=Ac (by simp only[zo];exact mtext_run (by omega) _ (bR [b]) c) ?_))))));refine Ag rfl (Lh (h:=Jo (h:=Ag rfl (Ag rfl ?_))));refine Aa (Af ?_);refine Ai (Aq (Ad (Ae rfl (xo2 (h:=Ag rfl (Aa ?_))))));refine Af ?_;apply Be (by simp only[opd,zv]<;>(first | rfl | exact congrArg D.bool (bne_self_eq_false _) | simp));refine Ad (xo5 (h:=xo0 (h:=xo2 (h:=Ag rfl (Aa ?_)))));refine Af ?_;apply Be (by simp only[opd,zv]<;>(first | rfl | exact congrArg D.bool (bne_self_eq_false _) | simp));refine Ak (D8 (Bi rfl (Ad (Ae rfl (xo5 (h:=xo0 (h:=xo5 (h:=xo0 (h:=Ac (by simp only[zo];exact fitX_run (by omega) _ [b] (by simp) (n:=1) (by omega) (by omega) c) ?_)))))))));refine Lh (h:=Jo (h:=Ag rfl (Ag rfl ?_)));refine Aa (Af ?_);apply A7;refine⟨_,by simp only[F102,resultD,Ba,resD,zg,zm]<;>exact rfl,?_⟩;rfl
theorem mnum_run{d:Nat}(hd:20≤d)(S:St){m:Nat}(hm:m<1000)(c:Option Nat):Bd LP NN d 147 [.agg [.int .u8 4,.int .u8 0,.str (mkS (List.replicate 3 57)),.int .i64 ((3:Nat):Int),.int .i64 0,.bool false,.bool false,.bool false,.bool false,.bool false,.int .i64 ((3:Nat):Int),.sl 1 (bR (Bl m 3)) c]] S=some (.tup [dcD m,.int .i64 0],S,false):=by
 have hnf:=Xf m (k:=3) (by omega);have hlf:=Bz m 3;have xP:=H9 (n:=m) (k:=3) (by omega) (by omega) (by omega);refine rq (F:=F147) rfl (by simp only[LP,snapVs,Bh,zs,zm]<;>exact rfl) (by simp only[F147,zv]<;>exact rfl) ?_;rintro d rfl;refine Ad (xo8 (h:=Ko (h:=?_)));refine Aw (Aa (Af ?_));refine Ai (Ad (xo5 (h:=xo5 (h:=xo0 (h:=?_)))));refine Aa (Af ?_);refine Aq (Ad (xo2 (h:=Ag rfl (Aa ?_))));refine Af ?_;apply Ez (by simp only[opd,zv]<;>(first | rfl | exact congrArg D.bool (bne_self_eq_false _) | simp));refine Ad (xo0 (h:=Ac (by simp only[zo];exact uget_run (n:=3) (by omega) _ (by omega) (by omega) hnf hlf c) ?_));apply Ac (by simp only[zo,Lz,xP]<;>exact rfl);apply Ac (by simp only[zo,Lz,Ls_,xP]<;>exact rfl);apply Ac (by simp only[zl,zm,Bg,overlay,Bh,zs,zc,zf,List.take,List.drop,xP]<;>exact rfl);refine Ag rfl (Aa (Af ?_));refine A7 (bk_r (Nu ?_));refine⟨_,by simp only[F147,resultD,Ba,resD,zg,zd,rowsOf,Au,List.take,List.drop,zm]<;>exact rfl,?_⟩;rfl
theorem mput_run{d:Nat}(hd:19≤d)(S:St){m:Nat}(hm:m<1000):Bd LP NN d 149 [dcD m,.agg [.int .u8 4,.int .u8 0,.str (mkS (List.replicate 3 57)),.int .i64 ((3:Nat):Int),.int .i64 0,.bool false,.bool false,.bool false,.bool false,.bool false,.int .i64 ((3:Nat):Int)]] S=some (.tup [.sl 1 (bR (Bl m 3)) (some 3),.int .i64 0],S,false):=by
 have uw:=Ul (n:=m) (by omega);have hmm:m % 10 ^ 3=m:=Nat.mod_eq_of_lt (by omega);refine rq (F:=F149) rfl (by simp only[LP,snapVs,Bh,zs,zm,dcD]<;>exact rfl) (by simp only[F149,zv]<;>exact rfl) ?_;rintro d rfl;refine Ad (xo8 (h:=xo8 (h:=?_)));refine Aw (Aw (Aa (Af ?_)));refine Ad (xo0 (h:=xo5 (h:=xo0 (h:=Ac (by simp only[zo];exact dcut_run (by omega) _ uw) ?_))));refine Ag rfl (Lh (h:=Jo (h:=Jo (h:=Ko (h:=Qx (h:=Ag rfl (Ag rfl ?_)))))));refine Aa (Af ?_);refine Ai (Ad (Ae rfl (xo2 (h:=?_))));refine Aa (Af ?_);apply Be (by simp only[opd,zv]<;>(first | rfl | exact congrArg D.bool (bne_self_eq_false _) | simp));refine Ak (Bi rfl (Ad (xo0 (h:=xo5 (h:=xo0 (h:=xo5 (h:=xo0 (h:=Ac (by simp only[zo];exact low_run (by omega) _ uw 3 (by omega) (by omega)) ?_))))))));refine Ag rfl (Ac (by simp only[zo,Lz,Bool.false_and,Jj (show m<10 ^ 19 by omega) (show 1≤3 by omega) (show 3≤20 by omega),hmm]<;>exact rfl) ?_);apply Ac (by simp only[zo,Lz,Ls_,Bool.false_and,Jj (show m<10 ^ 19 by omega) (show 1≤3 by omega) (show 3≤20 by omega),hmm]<;>exact rfl);apply Ac (by simp only[zl,zm,Bool.false_and,Jj (show m<10 ^ 19 by omega) (show 1≤3 by omega) (show 3≤20 by omega),hmm]<;>exact rfl);apply Ac (by simp only[zl,zm,Bg,overlay,Bh,zs,zc,zf,List.take,List.drop,Bool.false_and,Jj (show m<10 ^ 19 by omega) (show 1≤3 by omega) (show 3≤20 by omega),hmm]<;>exact rfl);refine Ag rfl (Aa (Af ?_));refine Ai (Ad (Ae rfl (xo2 (h:=?_))));refine Aa (Af ?_);apply Be (by simp only[opd,zv]<;>(first | rfl | exact congrArg D.bool (bne_self_eq_false _) | simp));refine Ak (Bi rfl (Ad (xo0 (h:=xo0 (h:=Ac (by simp only[zo];exact put_run (by omega) _ (n:=3) (m:=m) (by omega) (by omega) (by omega)) ?_)))));refine Lh (h:=Jo (h:=Ag rfl (Ag rfl ?_)));refine Aa (Af ?_);apply A7;refine⟨_,by simp only[F149,resultD,Ba,resD,zg]<;>exact rfl,?_⟩;simp only[leaveP,leave,snapVs,zs,zf,zk]
theorem moveN_run{d:Nat}(hd:21≤d)(S:St){m:Nat}(hm:m<1000)(c:Option Nat):Bd LP NN d 102 [.agg [.int .u8 4,.int .u8 0,.str (mkS (List.replicate 3 57)),.int .i64 ((3:Nat):Int),.int .i64 0,.bool false,.bool false,.bool false,.bool false,.bool false,.int .i64 ((3:Nat):Int),.sl 1 (bR (Bl m 3)) c],.agg [.int .u8 4,.int .u8 0,.str (mkS (List.replicate 3 57)),.int .i64 ((3:Nat):Int),.int .i64 0,.bool false,.bool false,.bool false,.bool false,.bool false,.int .i64 ((3:Nat):Int)]] S=some (.tup [.sl 1 (bR (Bl m 3)) (some 3),.int .i64 0],S,false):=by
 refine rq (F:=F102) rfl (by simp only[LP,snapVs,Bh,zs,zm]<;>exact rfl) (by simp only[F102,zv]<;>exact rfl) ?_;rintro d rfl;refine Ad (xo8 (h:=xo8 (h:=?_)));refine Aw (Aw (Aa (Af ?_)));refine Ai (Aq (Ad (xo5 (h:=xo0 (h:=Ac (by simp only[zo];exact Z7 (by omega) _ (n:=3) (by omega) (by omega)) ?_)))));refine xo2 (h:=Ag rfl (En 0 (b:=false) ?_));refine Ap rfl (xo0 (h:=?_));refine Ap rfl (Ac (by simp only[zo];exact Z7 (by omega) _ (n:=3) (by omega) (by omega)) ?_);refine Ap rfl (xo2 (h:=xo3 (h:=Ag rfl (Aa ?_))));refine Af ?_;apply Be (by simp only[opd,zv]<;>(first | rfl | exact congrArg D.bool (bne_self_eq_false _) | simp));refine Ad (xo5 (h:=xo0 (h:=Ac (by simp only[zo,Fq,Mc,Bz]<;>exact rfl) ?_)));refine xo5 (h:=xo5 (h:=xo0 (h:=xo2 (h:=Ag rfl (Aa ?_)))));refine Af ?_;apply Be (by simp only[opd,zv]<;>(first | rfl | exact congrArg D.bool (bne_self_eq_false _) | simp));refine Ad (xo5 (h:=xo0 (h:=xo0 (h:=Ac (by simp only[zo];exact alwN_run (by omega) _) ?_))));refine Zo (h:=Ag rfl (Aa ?_));refine Af ?_;apply Be (by simp only[opd,zv]<;>(first | rfl | exact congrArg D.bool (bne_self_eq_false _) | simp));refine Ad (xo5 (h:=xo5 (h:=xo0 (h:=xo2 (h:=Ag rfl (Aa ?_))))));refine Af ?_;apply Be (by simp only[opd,zv]<;>(first | rfl | exact congrArg D.bool (bne_self_eq_false _) | simp));refine Ad (xo5 (h:=xo0 (h:=xo2 (h:=Ag rfl (En 0 (b:=true) ?_)))));refine Cm rfl rfl (Cm rfl rfl (Cm rfl rfl (xo3 (h:=Ag rfl (Aa ?_)))));refine Af ?_;apply Ez (by simp only[opd,zv]);refine Ad (xo0 (h:=Ac (by simp only[zo];exact mnum_run (by omega) _ hm c) ?_));refine Ag rfl (Lh (h:=Jo (h:=Ko (h:=Ac (by simp only[zl,zm,Bg,overlay,List.take]<;>exact rfl) ?_))));refine Ag rfl (Aa (Af ?_));refine Ai (Ad (Ae rfl (xo2 (h:=?_))));refine Aa (Af ?_);apply Be (by simp only[opd,zv]<;>(first | rfl | exact congrArg D.bool (bne_self_eq_false _) | simp));refine Ak (Bi rfl (Ai (Ad (xo5 (h:=xo0 (h:=xo2 (h:=?_)))))));refine Aa (Af ?_);apply Be (by simp only[opd,zv]<;>(first | rfl | exact congrArg D.bool (bne_self_eq_false _) | simp));refine Ak (Bi rfl (Ad (xo47 (h:=xo0 (h:=Ac (by simp only[zo];exact mput_run (by omega) _ hm) ?_)))));refine Lh (h:=Jo (h:=Ag rfl (Ag rfl ?_)));refine Aa (Af ?_);refine A7 (bk_r (Nu ?_));refine⟨_,by simp only[F102,resultD,Ba,resD,zg]<;>exact rfl,?_⟩;simp only[leaveP,leave,snapVs,zs,zf,zk]
def itD (col:Nat) (sh:List D) (src:Nat) (tx:D) (ix:Nat):List D:=.int .i64 (col:Nat)::sh++[.int .u8 (src:Nat),tx,.int .i64 (ix:Nat)]
def Uu (col:Nat) (l:List UInt8):List D:=itD col (shT l.length) 1 (.sl 1 (bR l) none) 0
def keyI (col ix:Nat):List D:=itD col (shT 1) 2 .nils ix
def Qo (col:Nat):List (List D):=[keyI col 0,keyI (col+1) 1]
def numI (col:Nat):List D:=itD col (shN 3) 2 .nils 2
def Qu:List D:=itD 3 (shN 2) 4 .nils 0
def totI (i:Nat):List D:=itD 7 (shN 6) 3 .nils i
structure LnM where
 plus:Nat
 items:List (List D)
 cap:Option Nat
structure GrM where
 kind:Nat
 level:Nat
 np:Bool
 lines:List LnM
 cap:Option Nat
def slB (b:Bool) (sz:Nat) (rows:List (List D)) (cap:Option Nat):D:=if rows.isEmpty then .nils else .sl sz rows (if b then none else cap)
def LnM.row (b:Bool) (l:LnM):List D:=[.int .i64 (l.plus:Nat),slB b 15 l.items l.cap]
def GrM.row (b:Bool) (g:GrM):List D:=[.int .u8 (g.kind:Nat),.int .i64 (g.level:Nat),.bool g.np,slB b 2 (g.lines.map (LnM.row b)) g.cap]
def CM.nps (x:CM) (k:Nat):Bool:=x.paged&&(x.np / 2 ^ k % 2==1)
def CM.blk (x:CM) (k:Nat):Bool:=x.bl / 2 ^ k % 2==1
def gD1 (x:CM):GrM:=⟨4,0,x.nps 0,[⟨1,Qo 1++[numI 4],none⟩],some 1⟩
def gD2:GrM:=⟨4,0,false,[⟨2,[numI 10],some 1⟩],some 1⟩
def gRH:GrM:=⟨1,0,false,[⟨1,[Uu 1 [82,72]],some 1⟩],some 1⟩
def gPH:GrM:=⟨2,0,false,[⟨1,[Uu 1 [80],Qu],some 2⟩],some 1⟩
def dgt (i:Nat):UInt8:=UInt8.ofNat (48+i)
def gH (x:CM) (i:Nat):GrM:=⟨3,i,x.nps (1+i),[⟨1,[Uu 1 [72,dgt i]]++Qo 4,none⟩],some 1⟩
def gF (x:CM) (i:Nat):GrM:=⟨5,i,false,[⟨1,[Uu 1 [70,dgt i]]++Qo 4++[totI i],none⟩]++(if x.blk i then [⟨1,[],none⟩] else []),if x.blk i then none else some 1⟩
def gPF:GrM:=⟨6,0,false,[⟨2,[Uu 1 [66],Qu],some 2⟩],some 1⟩
def gRF:GrM:=⟨7,0,false,[⟨1,[Uu 1 [82,70]],some 1⟩],some 1⟩
def CM.g1 (x:CM):List GrM:=if x.has 0 then [gRH] else []
def CM.g2 (x:CM):List GrM:=if x.has 1&&x.paged then [gPH] else []
def CM.gh (x:CM) (i:Nat):List GrM:=if x.has (2+i) then [gH x i] else []
def CM.gf (x:CM) (i:Nat):List GrM:=if x.has (5+i) then [gF x i] else []
def CM.gl (x:CM):Nat→List GrM
 | 0=>[]
 | i+1=>x.gl i++(x.gh i++x.gf i)
def CM.g8 (x:CM):List GrM:=if x.has 8&&x.paged then [gPF] else []
def CM.g9 (x:CM):List GrM:=if x.has 9 then [gRF] else []
def CM.grps (x:CM):List GrM:=[gD1 x,gD2]++x.g1++x.g2++x.gl (x.ctl+1)++x.g8++x.g9
def Gu (b:Bool):D:=.sl 11 [shT 1,shT 1,shN 3] (if b then none else some 3)
def CM.ctlR (x:CM) (n:Nat):List (List D):=(List.range n).map fun i=>[.int .i64 (i:Nat)]
def CM.totR (x:CM) (n:Nat):List (List D):=(List.range n).map fun i=>[.int .i64 2,.int .i64 (i:Nat)]
def CM.P (x:CM):Nat:=if x.paged then x.last+2 else 0
def CM.F (x:CM):Nat:=if x.paged then x.first else 0
def CM.L (x:CM):Nat:=if x.paged then x.last else 0
def CM.rep (b:Bool) (x:CM):List D:=[Gu b,slB true 1 (x.ctlR x.ctl) none,.int .i64 (x.P:Nat),.int .i64 (x.F:Nat),.int .i64 (x.L:Nat),slB true 4 (x.grps.map (GrM.row b)) none,slB true 2 (x.totR (x.ctl+1)) none]
theorem Rw{d:Nat}(hd:17≤d)(S:St)(c:Nat)(hc:c≤100):Bd LP NN d 33 [.int .i64 (c:Nat)] S=some (.sl 15 (Qo c) (some 2),S,false):=by
 have zT:IntKind.i64.wrap (((c:Nat):Int)+1)=((c+1:Nat):Int):=by rw[IntKind.wrap_i64];omega
 refine rq (F:=F33) rfl (by simp only[LP,snapVs,zs,zm]<;>exact rfl) (by simp only[F33,zv]<;>exact rfl) ?_;rintro d rfl;refine Ad (Aw (Aa (Af ?_)));refine Ad (Ae rfl (Ac (by simp only[zo];exact G5 (n:=1) (by omega) _ (by omega) (by omega)) ?_));refine xo57 (h:=Ae rfl (Ac (by simp only[zo,Bf,shT,zT]<;>exact rfl) ?_));apply Ac (by simp only[zo,shT];exact G5 (n:=1) (by omega) _ (by omega) (by omega));refine xo57 (h:=Ac (by simp only[zl,zm,C9,List.replicate,snapVs,Bh,zs,zc,zf,shT]<;>exact rfl) ?_);refine Ag rfl (Aa (Af ?_));apply A7;refine⟨_,by simp only[F33,resultD,Ba,resD,zg]<;>exact rfl,?_⟩;rfl
theorem Ic{d:Nat}(hd:17≤d)(S:St)(c:Nat){l:List UInt8}(h1:1≤l.length)(h6:l.length≤6):Bd LP NN d 35 [.int .i64 (c:Nat),.str (mkS l)] S=some (.agg (Uu c l),S,false):=by
 refine rq (F:=F35) rfl (by simp only[LP,snapVs,zs,zm]<;>exact rfl) (by simp only[F35,zv]<;>exact rfl) ?_;rintro d rfl;refine Ad (Ko (h:=?_));refine Aa (Af ?_);refine Ad (Ae rfl (Ae rfl (Qy (h:=Ac (by simp only[zo];exact G5 (n:=l.length) (by omega) _ h1 h6) ?_))));refine Ae rfl (Ac (by simp only[zl,shT,Fz]<;>exact rfl) ?_);refine xo57 (h:=Ac (by simp only[zl,zm,Bg,overlay,Bh,zs,zc,zf,List.take,List.drop,shT]<;>exact rfl) ?_);refine Aa (Af ?_);apply A7;refine⟨_,by simp only[F35,resultD,Ba,resD,zg,zd,rowsOf,Au,List.take,List.drop,zm]<;>exact rfl,?_⟩;simp only[leaveP,leave,Bh,zs,zf,zk];rfl
def F10t:LCode:=match F10.body with | .seq _ (.seq _ (.seq _ (.seq _ (t))))=>t | _=>.skip
structure OfB (x:CM) (B:List Z9) (C T:D):Prop where
 h0:B[0]?=some ⟨37,7,[[.nils,.nils,.int .i64 0,.int .i64 0,.int .i64 0,.nils,.nils]],0,0,false⟩
 h1:B[1]?=some ⟨37,7,[[Gu false,C,.int .i64 0,.int .i64 0,.int .i64 0,.nils,T]],0,0,false⟩
 lt:1<B.length
 hC:∀m K,(∀i,i<B.length→2≤i→K[i]?=B[i]?)→snap m K C=some (slB true 1 (x.ctlR x.ctl) none)
 hT:∀m K,(∀i,i<B.length→2≤i→K[i]?=B[i]?)→snap m K T=some (slB true 2 (x.totR (x.ctl+1)) none)
 vC:C.Aag=true∧C.val=true∧C.cells=[C]
 vT:T.Aag=true∧T.val=true∧T.cells=[T]
theorem of_pre0{d:Nat}(hd:17≤d)(x:CM)(uQ:x.ctl=0){Q:LExit→List D→St→Prop}
  (wH:∀(B:List Z9) (C T:D) (u4 u5 u6 u7 u8 u9 u10 u11 u12 u13 u14 u15 u16 u17 u18 u19 u20 u21 u22:D),OfB x B C T→CW (Bd LP NN d) F10t Q [.agg x.row,.cptr x.row 0,.ptr 0 0 0 0,.ptr 1 0 0 0,u4,u5,u6,u7,u8,u9,u10,u11,u12,u13,u14,u15,u16,u17,u18,u19,u20,u21,u22] ⟨B,0⟩):CW (Bd LP NN d) F10.body Q [.agg x.row,.undef,.undef,.undef,.undef,.undef,.undef,.undef,.undef,.undef,.undef,.undef,.undef,.undef,.undef,.undef,.undef,.undef,.undef,.undef,.undef,.undef,.undef] ⟨[],0⟩:=by
 have zK:∀S,Bd LP NN d 22 [.agg x.row] S=some (.int .i64 ((0:Nat):Int),S,false):=fun S=>by rw[←uQ];exact L8 (by omega) S x
 refine Ad (xo67 (h:=Ac (by simp only[zl,zm,CM.row]<;>exact rfl) ?_));refine Aa (Af ?_);refine Ad (Ac (by simp only[zo,CM.row];exact G5 (n:=1) (by omega) _ (by omega) (by omega)) ?_);apply Ac (by simp only[zo,CM.row,shT];exact G5 (n:=1) (by omega) _ (by omega) (by omega));apply Ac (by simp only[zo,CM.row,shT];exact Ju (n:=3) (by omega) _ (by omega) (by omega));refine xo68 (h:=xo69 (h:=Ac (by simp only[zl,zm,CM.row,shT,shN]<;>exact rfl) ?_));refine xo70 (h:=?_);refine Aa (Af ?_);refine Ai (Ad (Aw (Aa (Af ?_))));refine Aq (Ku (F7 (Ai (Ad (Ae rfl (xo9 (h:=Ac (by simp only[zo,CM.row];exact zK _) ?_)))))));refine L9 (h:=?_);refine Aa (Af ?_);apply Be (by simp only[opd,zv,CM.row]<;>rfl);refine Dh (Gj (lu_e (Gl (Bi rfl (Ai (Ad (Aw (Aa (Af ?_)))))))));refine Aq (Ku (F7 (Ai (Ad (Ae rfl (xo9 (h:=Ac (by simp only[zo,CM.row];exact zK _) ?_)))))));refine L9 (h:=?_);refine Aa (Af ?_);apply Ez (by simp only[opd,zv,CM.row]<;>rfl);refine Ak (Bi rfl (Ai (Aq (Am (Le (h:=xo9 (h:=Ae rfl ?_)))))));refine xo38 (h:=xo40 (h:=xo32 (h:=Le (h:=xo33 (h:=?_)))));refine Aa (D8 (Af ?_));refine Am (Ae rfl (L9 (h:=Ag rfl (Aa ?_))));apply Zp (by simp only[ze]<;>exact rfl);refine F7 (Ai (Ad (Ae rfl (xo9 (h:=Ac (by simp only[zo,CM.row];exact zK _) ?_)))));refine L9 (h:=?_);refine Aa (Af ?_);apply Be (by simp only[opd,zv,CM.row]<;>rfl);refine Dh (Gj (lu_e (Gl (Bi rfl ?_))));exact wH _ .nils (.msl 2 0 0 1 none) _ _ _ _ _ _ _ _ _ _ _ _ _ _ _ _ _ _ _ ⟨rfl,rfl,by simp,fun m K h=>by rw[CM.ctlR,uQ];rfl,fun m K h=>by have h2:=h 2 (by simp) (by simp);simp only[snap];rw[CM.totR,uQ,h2];rfl,⟨rfl,rfl,rfl⟩,⟨rfl,rfl,rfl⟩⟩
theorem of_pre1{d:Nat}(hd:17≤d)(x:CM)(uQ:x.ctl=1){Q:LExit→List D→St→Prop}
  (wH:∀(B:List Z9) (C T:D) (u4 u5 u6 u7 u8 u9 u10 u11 u12 u13 u14 u15 u16 u17 u18 u19 u20 u21 u22:D),OfB x B C T→CW (Bd LP NN d) F10t Q [.agg x.row,.cptr x.row 0,.ptr 0 0 0 0,.ptr 1 0 0 0,u4,u5,u6,u7,u8,u9,u10,u11,u12,u13,u14,u15,u16,u17,u18,u19,u20,u21,u22] ⟨B,0⟩):CW (Bd LP NN d) F10.body Q [.agg x.row,.undef,.undef,.undef,.undef,.undef,.undef,.undef,.undef,.undef,.undef,.undef,.undef,.undef,.undef,.undef,.undef,.undef,.undef,.undef,.undef,.undef,.undef] ⟨[],0⟩:=by
 have zK:∀S,Bd LP NN d 22 [.agg x.row] S=some (.int .i64 ((1:Nat):Int),S,false):=fun S=>by rw[←uQ];exact L8 (by omega) S x
 refine Ad (xo67 (h:=Ac (by simp only[zl,zm,CM.row]<;>exact rfl) ?_));refine Aa (Af ?_);refine Ad (Ac (by simp only[zo,CM.row];exact G5 (n:=1) (by omega) _ (by omega) (by omega)) ?_);apply Ac (by simp only[zo,CM.row,shT];exact G5 (n:=1) (by omega) _ (by omega) (by omega));apply Ac (by simp only[zo,CM.row,shT];exact Ju (n:=3) (by omega) _ (by omega) (by omega));refine xo68 (h:=xo69 (h:=Ac (by simp only[zl,zm,CM.row,shT,shN]<;>exact rfl) ?_));refine xo70 (h:=?_);refine Aa (Af ?_);refine Ai (Ad (Aw (Aa (Af ?_))));refine Aq (Ku (F7 (Ai (Ad (Ae rfl (xo9 (h:=Ac (by simp only[zo,CM.row];exact zK _) ?_)))))));refine L9 (h:=?_);refine Aa (Af ?_);apply Ez (by simp only[opd,zv,CM.row]<;>rfl);refine Ak (Bi rfl (Ai (Aq (Am (Le (h:=xo9 (h:=Ae rfl (Ac (by simp only[zl,zm,C9,List.replicate,snapVs,zs,zc,zf,CM.row]<;>exact rfl) ?_))))))));refine xo32 (h:=Le (h:=xo33 (h:=?_)));refine Aa (D8 (Af ?_));refine Am (Ae rfl (L9 (h:=Ag rfl (Aa ?_))));apply Zp (by simp only[ze]<;>exact rfl);refine F7 (Ai (Ad (Ae rfl (xo9 (h:=Ac (by simp only[zo,CM.row];exact zK _) ?_)))));refine L9 (h:=?_);refine Aa (Af ?_);apply Be (by simp only[opd,zv,CM.row]<;>rfl);refine Dh (Gj (lu_e (Gl (Bi rfl (Ai (Ad (Aw (Aa (Af ?_)))))))));refine Aq (Ku (F7 (Ai (Ad (Ae rfl (xo9 (h:=Ac (by simp only[zo,CM.row];exact zK _) ?_)))))));refine L9 (h:=?_);refine Aa (Af ?_);apply Ez (by simp only[opd,zv,CM.row]<;>rfl);refine Ak (Bi rfl (Ai (Aq (Am (Le (h:=xo9 (h:=Ae rfl ?_)))))));refine xo38 (h:=xo40 (h:=xo32 (h:=Le (h:=xo33 (h:=?_)))));refine Aa (D8 (Af ?_));refine Am (Ae rfl (L9 (h:=Ag rfl (Aa ?_))));apply Zp (by simp only[ze]<;>exact rfl);refine F7 (Ai (Ad (Ae rfl (xo9 (h:=Ac (by simp only[zo,CM.row];exact zK _) ?_)))));refine L9 (h:=?_);refine Aa (Af ?_);apply Ez (by simp only[opd,zv,CM.row]<;>rfl);refine Ak (Bi rfl (Ai (Aq (Am (Le (h:=xo9 (h:=Ae rfl ?_)))))));refine xo38 (h:=xo40 (h:=xo32 (h:=Le (h:=xo33 (h:=?_)))));refine Aa (D8 (Af ?_));refine Am (Ae rfl (L9 (h:=Ag rfl (Aa ?_))));apply Zp (by simp only[ze]<;>exact rfl);refine F7 (Ai (Ad (Ae rfl (xo9 (h:=Ac (by simp only[zo,CM.row];exact zK _) ?_)))));refine L9 (h:=?_);refine Aa (Af ?_);apply Be (by simp only[opd,zv,CM.row]<;>rfl);refine Dh (Gj (lu_e (Gl (Bi rfl ?_))));exact wH _ (.msl 2 0 0 1 none) (.msl 3 1 0 2 none) _ _ _ _ _ _ _ _ _ _ _ _ _ _ _ _ _ _ _ ⟨rfl,rfl,by simp,fun m K h=>by have h2:=h 2 (by simp) (by simp);simp only[snap];rw[CM.ctlR,uQ,h2];rfl,fun m K h=>by have h2:=h 3 (by simp) (by simp);simp only[snap];rw[CM.totR,uQ,h2];rfl,⟨rfl,rfl,rfl⟩,⟨rfl,rfl,rfl⟩⟩
theorem of_pre2{d:Nat}(hd:17≤d)(x:CM)(uQ:x.ctl=2){Q:LExit→List D→St→Prop}
  (wH:∀(B:List Z9) (C T:D) (u4 u5 u6 u7 u8 u9 u10 u11 u12 u13 u14 u15 u16 u17 u18 u19 u20 u21 u22:D),OfB x B C T→CW (Bd LP NN d) F10t Q [.agg x.row,.cptr x.row 0,.ptr 0 0 0 0,.ptr 1 0 0 0,u4,u5,u6,u7,u8,u9,u10,u11,u12,u13,u14,u15,u16,u17,u18,u19,u20,u21,u22] ⟨B,0⟩):CW (Bd LP NN d) F10.body Q [.agg x.row,.undef,.undef,.undef,.undef,.undef,.undef,.undef,.undef,.undef,.undef,.undef,.undef,.undef,.undef,.undef,.undef,.undef,.undef,.undef,.undef,.undef,.undef] ⟨[],0⟩:=by
 have zK:∀S,Bd LP NN d 22 [.agg x.row] S=some (.int .i64 ((2:Nat):Int),S,false):=fun S=>by rw[←uQ];exact L8 (by omega) S x
 refine Ad (xo67 (h:=Ac (by simp only[zl,zm,CM.row]<;>exact rfl) ?_));refine Aa (Af ?_);refine Ad (Ac (by simp only[zo,CM.row];exact G5 (n:=1) (by omega) _ (by omega) (by omega)) ?_);apply Ac (by simp only[zo,CM.row,shT];exact G5 (n:=1) (by omega) _ (by omega) (by omega));apply Ac (by simp only[zo,CM.row,shT];exact Ju (n:=3) (by omega) _ (by omega) (by omega));refine xo68 (h:=xo69 (h:=Ac (by simp only[zl,zm,CM.row,shT,shN]<;>exact rfl) ?_));refine xo70 (h:=?_);refine Aa (Af ?_);refine Ai (Ad (Aw (Aa (Af ?_))));refine Aq (Ku (F7 (Ai (Ad (Ae rfl (xo9 (h:=Ac (by simp only[zo,CM.row];exact zK _) ?_)))))));refine L9 (h:=?_);refine Aa (Af ?_);apply Ez (by simp only[opd,zv,CM.row]<;>rfl);refine Ak (Bi rfl (Ai (Aq (Am (Le (h:=xo9 (h:=Ae rfl (Ac (by simp only[zl,zm,C9,List.replicate,snapVs,zs,zc,zf,CM.row]<;>exact rfl) ?_))))))));refine xo32 (h:=Le (h:=xo33 (h:=?_)));refine Aa (D8 (Af ?_));refine Am (Ae rfl (L9 (h:=Ag rfl (Aa ?_))));apply Zp (by simp only[ze]<;>exact rfl);refine F7 (Ai (Ad (Ae rfl (xo9 (h:=Ac (by simp only[zo,CM.row];exact zK _) ?_)))));refine L9 (h:=?_);refine Aa (Af ?_);apply Ez (by simp only[opd,zv,CM.row]<;>rfl);refine Ak (Bi rfl (Ai (Aq (Am (Le (h:=xo9 (h:=Ae rfl (Ac (by simp only[zl,zm,C9,List.replicate,snapVs,zs,zc,zf,CM.row]<;>exact rfl) ?_))))))));refine xo32 (h:=Le (h:=xo33 (h:=?_)));refine Aa (D8 (Af ?_));refine Am (Ae rfl (L9 (h:=Ag rfl (Aa ?_))));apply Zp (by simp only[ze]<;>exact rfl);refine F7 (Ai (Ad (Ae rfl (xo9 (h:=Ac (by simp only[zo,CM.row];exact zK _) ?_)))));refine L9 (h:=?_);refine Aa (Af ?_);apply Be (by simp only[opd,zv,CM.row]<;>rfl);refine Dh (Gj (lu_e (Gl (Bi rfl (Ai (Ad (Aw (Aa (Af ?_)))))))));refine Aq (Ku (F7 (Ai (Ad (Ae rfl (xo9 (h:=Ac (by simp only[zo,CM.row];exact zK _) ?_)))))));refine L9 (h:=?_);refine Aa (Af ?_);apply Ez (by simp only[opd,zv,CM.row]<;>rfl);refine Ak (Bi rfl (Ai (Aq (Am (Le (h:=xo9 (h:=Ae rfl ?_)))))));refine xo38 (h:=xo40 (h:=xo32 (h:=Le (h:=xo33 (h:=?_)))));refine Aa (D8 (Af ?_));refine Am (Ae rfl (L9 (h:=Ag rfl (Aa ?_))));apply Zp (by simp only[ze]<;>exact rfl);refine F7 (Ai (Ad (Ae rfl (xo9 (h:=Ac (by simp only[zo,CM.row];exact zK _) ?_)))));refine L9 (h:=?_);refine Aa (Af ?_);apply Ez (by simp only[opd,zv,CM.row]<;>rfl);refine Ak (Bi rfl (Ai (Aq (Am (Le (h:=xo9 (h:=Ae rfl ?_)))))));refine xo38 (h:=xo40 (h:=xo32 (h:=Le (h:=xo33 (h:=?_)))));refine Aa (D8 (Af ?_));refine Am (Ae rfl (L9 (h:=Ag rfl (Aa ?_))));apply Zp (by simp only[ze]<;>exact rfl);refine F7 (Ai (Ad (Ae rfl (xo9 (h:=Ac (by simp only[zo,CM.row];exact zK _) ?_)))));refine L9 (h:=?_);refine Aa (Af ?_);apply Ez (by simp only[opd,zv,CM.row]<;>rfl);refine Ak (Bi rfl (Ai (Aq (Am (Le (h:=xo9 (h:=Ae rfl ?_)))))));refine xo38 (h:=xo40 (h:=xo32 (h:=Le (h:=xo33 (h:=?_)))));refine Aa (D8 (Af ?_));refine Am (Ae rfl (L9 (h:=Ag rfl (Aa ?_))));apply Zp (by simp only[ze]<;>exact rfl);refine F7 (Ai (Ad (Ae rfl (xo9 (h:=Ac (by simp only[zo,CM.row];exact zK _) ?_)))));refine L9 (h:=?_);refine Aa (Af ?_);apply Be (by simp only[opd,zv,CM.row]<;>rfl);refine Dh (Gj (lu_e (Gl (Bi rfl ?_))));exact wH _ (.msl 2 1 0 2 none) (.msl 3 2 0 3 none) _ _ _ _ _ _ _ _ _ _ _ _ _ _ _ _ _ _ _ ⟨rfl,rfl,by simp,fun m K h=>by have h2:=h 2 (by simp) (by simp);simp only[snap];rw[CM.ctlR,uQ,h2];rfl,fun m K h=>by have h2:=h 3 (by simp) (by simp);simp only[snap];rw[CM.totR,uQ,h2];rfl,⟨rfl,rfl,rfl⟩,⟨rfl,rfl,rfl⟩⟩
theorem of_pre{d:Nat}(hd:17≤d)(x:CM){Q:LExit→List D→St→Prop}
  (wH:∀(B:List Z9) (C T:D) (u4 u5 u6 u7 u8 u9 u10 u11 u12 u13 u14 u15 u16 u17 u18 u19 u20 u21 u22:D),OfB x B C T→CW (Bd LP NN d) F10t Q [.agg x.row,.cptr x.row 0,.ptr 0 0 0 0,.ptr 1 0 0 0,u4,u5,u6,u7,u8,u9,u10,u11,u12,u13,u14,u15,u16,u17,u18,u19,u20,u21,u22] ⟨B,0⟩):CW (Bd LP NN d) F10.body Q [.agg x.row,.undef,.undef,.undef,.undef,.undef,.undef,.undef,.undef,.undef,.undef,.undef,.undef,.undef,.undef,.undef,.undef,.undef,.undef,.undef,.undef,.undef,.undef] ⟨[],0⟩:=by
 have h:x.ctl<3:=Nat.mod_lt _ (by decide);rcases (by omega:x.ctl=0∨x.ctl=1∨x.ctl=2) with e | e | e
 ·
  exact of_pre0 hd x e wH
 ·
  exact of_pre1 hd x e wH
 exact of_pre2 hd x e wH
theorem Ha{H:List Z9}{g:Nat}{o:Z9}(h:H[g]?=some o):g<H.length:=(List.getElem?_eq_some_iff.1 h).1
theorem at_S0(H l:List Z9)(g:Nat)(x:Z9):(H.set g x++l)[H.length]?=l[0]?:=by
 rw[Lr_ (by simp)];simp
theorem at_S(H l:List Z9)(g k:Nat)(x:Z9):(H.set g x++l)[H.length+k]?=l[k]?:=by
 rw[Lr_ (by simp)];simp
theorem set_S0(H l:List Z9)(g:Nat)(x y:Z9):(H.set g x++l).set H.length y=H.set g x++l.set 0 y:=by
 rw[List.set_append_right _ _ (by simp)];simp
theorem set_S(H l:List Z9)(g k:Nat)(x y:Z9):(H.set g x++l).set (H.length+k) y=H.set g x++l.set k y:=by
 rw[List.set_append_right _ _ (by simp)];simp
def oNI (row:List D):Z9:=⟨82,15,[row],0,0,false⟩
def roD (x:CM) (C T G:D):Z9:=⟨37,7,[[Gu false,C,.int .i64 (x.P:Nat),.int .i64 (x.F:Nat),.int .i64 (x.L:Nat),G,T]],0,0,false⟩
def Eo (b:Nat) (gs:List GrM):D:=.msl (b+3) (gs.length-1) 0 gs.length none
def goD (gs:List GrM):Z9:=⟨71,4,gs.map (GrM.row false),gs.length-1,1,true⟩
structure OfK (x:CM) (b:Nat) (K:List Z9) (C T:D) (gs:List GrM):Prop where
 h0:K[0]?=some ⟨37,7,[[.nils,.nils,.int .i64 0,.int .i64 0,.int .i64 0,.nils,.nils]],0,0,false⟩
 h1:K[1]?=some (roD x C T (Eo b gs))
 hg:K[b+3]?=some (goD gs)
 hb:2≤b
 hl:b+4≤K.length
 hC:∀m K',(∀i,i<b→2≤i→K'[i]?=K[i]?)→snap m K' C=some (slB true 1 (x.ctlR x.ctl) none)
 hT:∀m K',(∀i,i<b→2≤i→K'[i]?=K[i]?)→snap m K' T=some (slB true 2 (x.totR (x.ctl+1)) none)
 vC:C.Aag=true∧C.val=true∧C.cells=[C]
 vT:T.Aag=true∧T.val=true∧T.cells=[T]
 ne:gs.length≠0
 le:gs.length≤100
theorem OfK.step{x:CM}{b:Nat}{K:List Z9}{C T:D}{gs:List GrM}(h:OfK x b K C T gs)(g:GrM)(l:List Z9)(yD:gs.length≤99):OfK x b ((K.set (b+3) (goD (gs++[g]))).set 1 (roD x C T (Eo b (gs++[g])))++l) C T (gs++[g]):=by
 have hb:=h.hb;have hl:=h.hl
 have e:∀i,i<b→i≠1→((K.set (b+3) (goD (gs++[g]))).set 1 (roD x C T (Eo b (gs++[g])))++l)[i]?=K[i]?:=fun i hi hn=>by
  rw[La_ (by simp;omega),Ln_ (Ne.symm hn),Ln_ (by omega)]
 exact {
  h0:=by rw[e 0 (by omega) (by omega)];exact h.h0
  h1:=by rw[La_ (by simp;omega),List.getElem?_set_self (by simp;omega)]
  hg:=by rw[La_ (by simp;omega),Ln_ (by omega),List.getElem?_set_self (by omega)]
  hb:=hb
  hl:=by simp;omega
  hC:=fun m K' hk=>h.hC m K' (fun i hi hn=>(hk i hi hn).trans (e i hi (by omega)))
  hT:=fun m K' hk=>h.hT m K' (fun i hi hn=>(hk i hi hn).trans (e i hi (by omega)))
  vC:=h.vC
  vT:=h.vT
  ne:=by simp
  le:=by simp;omega }
theorem OfK.app{x:CM}{b:Nat}{K:List Z9}{C T:D}{gs:List GrM}(h:OfK x b K C T gs)(l:List Z9):OfK x b (K++l) C T gs:=by
 have hb:=h.hb;have hl:=h.hl;have e:∀i,i<b+4→(K++l)[i]?=K[i]?:=fun i hi=>La_ (by omega)
 exact {
  h0:=by rw[e 0 (by omega)];exact h.h0
  h1:=by rw[e 1 (by omega)];exact h.h1
  hg:=by rw[e _ (by omega)];exact h.hg
  hb:=hb
  hl:=by simp;omega
  hC:=fun m K' hk=>h.hC m K' (fun i hi hn=>(hk i hi hn).trans (e i (by omega)))
  hT:=fun m K' hk=>h.hT m K' (fun i hi hn=>(hk i hi hn).trans (e i (by omega)))
  vC:=h.vC
  vT:=h.vT
  ne:=h.ne
  le:=h.le }
theorem grp_app{b:Nat}{K:List Z9}{gs:List GrM}(g:GrM)(h:K[b+3]?=some (goD gs))(xw:gs.length≠0)(yD:gs.length≤100)(c:Option Nat) :
  Dj 71 4 48 1 (Eo b gs) (.sl 4 [g.row false] c) ⟨K,0⟩=some (Eo b (gs++[g]),⟨K.set (b+3) (goD (gs++[g])),0⟩,true):=by
 have e1:gs.length-1+1=gs.length:=by omega
 have e2:(gs.length+1)*48≤140737488355328:=by omega
 simp[Dj,Eo,goD,rowsOf,h,Dn,setAt,Bo,e1,e2]
theorem Uo(g k:Nat)(hk:k≤7):Bf .shr (.int .u8 (g:Nat)) (.int .i64 (k:Nat))=some (.int .u8 ((g / 2 ^ k:Nat):Int)):=by
 simp only[Bf];rw[if_neg (by omega),Int.toNat_natCast,show min k IntKind.u8.bits=k from Nat.min_eq_left (by show k≤8;omega)]
 have h:((g:Nat):Int).fdiv (2 ^ k)=((g / 2 ^ k:Nat):Int):=by
  rw[show ((2:Int) ^ k)=((2 ^ k:Nat):Int) by simp];exact Int.ofNat_fdiv g (2 ^ k) |>.symm
 rw[h]
theorem Nr(m:Nat)(hm:m<256):Bf .and (.int .u8 (m:Nat)) (.int .u8 1)=some (.int .u8 ((m % 2:Nat):Int)):=by
 have h:(BitVec.ofInt 8 (m:Int) &&& BitVec.ofInt 8 1).toNat=m % 2:=by
  rw[BitVec.toNat_and,show (BitVec.ofInt 8 (m:Int)).toNat=m by simp[];omega,show (BitVec.ofInt 8 1).toNat=1 from rfl,Nat.and_one_is_mod]
 simp only[Bf,if_true];rw[show IntKind.u8.bits=8 from rfl,h,show IntKind.u8.wrap ((m % 2:Nat):Int)=((m % 2:Nat):Int) from ?_];have:m % 2<2:=Nat.mod_lt _ (by decide);rcases (by omega:m % 2=0∨m % 2=1) with h | h<;>rw[h]<;>rfl
theorem Ym(m:Nat):(((m % 2:Nat):Int)==1)=(m % 2==1):=by
 rw[Bool.eq_iff_iff,beq_iff_eq,beq_iff_eq];omega
theorem np_lt(x:CM)(k:Nat):x.np / 2 ^ k<256:=Nat.lt_of_le_of_lt (Nat.div_le_self _ _) x.h.2.2.2.1
theorem bl_lt(x:CM)(k:Nat):x.bl / 2 ^ k<256:=Nat.lt_of_le_of_lt (Nat.div_le_self _ _) x.h.2.2.1
theorem Gm{b:Bool}{sz:Nat}{rows:List (List D)}{c:Option Nat}(h:rows.length≠0):slB b sz rows c=.sl sz rows (if b then none else c):=by
 cases rows with
 | nil=>simp at h
 | cons r l=>rfl
theorem OfK.fin{x:CM}{b:Nat}{K:List Z9}{C T:D}(h:OfK x b K C T x.grps)(o:Z9)(m:Nat):Bh m (K.set 0 o) [Gu false,C,.int .i64 (x.P:Nat),.int .i64 (x.F:Nat),.int .i64 (x.L:Nat),Eo b x.grps,T]=some (x.rep false):=by
 have e:∀i,i<b→2≤i→(K.set 0 o)[i]?=K[i]?:=fun i hi hn=>Ln_ (by omega)
 have hg:snap m (K.set 0 o) (Eo b x.grps)=some (slB true 4 (x.grps.map (GrM.row false)) none):=by
  rw[Eo,Ll,Ln_ (by omega),h.hg];simp only[goD,true_and,true_or,if_true,List.drop_zero];rw[List.take_of_length_le (by simp),Gm (by have:=h.ne;simpa using this)];rfl
 simp only[Bh,h.hC m _ e,h.hT m _ e,hg,snap_int,Gu,snap_sl];rfl
theorem Gp(b:Bool)(sz:Nat)(rows:List (List D))(c:Option Nat):(slB b sz rows c).free=true:=by
 unfold slB;split<;>rfl
theorem rep_free(b:Bool)(x:CM):(x.rep b).all D.free=true:=by
 simp only[CM.rep,List.all_cons,List.all_nil,Gp,Gu,W9,Ls,Bool.and_true]
theorem set_id{H:List Z9}{k:Nat}{o:Z9}(h:H[k]?=some o):H.set k o=H:=by
 refine List.ext_getElem? fun j=>?_;rw[List.getElem?_set];by_cases hj:k=j
 ·
  subst hj;rw[if_pos rfl,if_pos (List.getElem?_eq_some_iff.1 h).1];exact h.symm
 rw[if_neg hj]
theorem OfK.first{x:CM}{B:List Z9}{C T:D}(h:OfB x B C T)(o1 o2 o3:Z9){gs:List GrM}(xw:gs.length≠0)(yD:gs.length≤100):OfK x B.length (B.set 1 (roD x C T (Eo B.length gs))++[o1,o2,o3,goD gs]) C T gs:=by
 have hl:=h.lt
 have e:∀i,i<B.length→i≠1→(B.set 1 (roD x C T (Eo B.length gs))++[o1,o2,o3,goD gs])[i]?=B[i]?:=fun i hi hn=>by
  rw[La_ (by simp;omega),Ln_ (Ne.symm hn)]
 exact {
  h0:=by rw[e 0 (by omega) (by omega)];exact h.h0
  h1:=by rw[La_ (by simp;omega),List.getElem?_set_self (by omega)]
  hg:=by rw[at_S];rfl
  hb:=by omega
  hl:=by simp
  hC:=fun m K' hk=>h.hC m K' (fun i hi hn=>(hk i hi hn).trans (e i hi (by omega)))
  hT:=fun m K' hk=>h.hT m K' (fun i hi hn=>(hk i hi hn).trans (e i hi (by omega)))
  vC:=h.vC
  vT:=h.vT
  ne:=xw
  le:=yD }
theorem Nh{b:Nat}{K:List Z9}{gs:List GrM}(g:GrM){row:List D}(hr:row=g.row false)(h:K[b+3]?=some (goD gs))(xw:gs.length≠0)(yD:gs.length≤100)(c:Option Nat) :
  Dj 71 4 48 1 (Eo b gs) (.sl 4 [row] c) ⟨K,0⟩=some (Eo b (gs++[g]),⟨K.set (b+3) (goD (gs++[g])),0⟩,true):=by
 subst hr;exact grp_app g h xw yD c
theorem Sj(g v lo n v' lo' n':Nat)(c c':Option Nat)(x:D):Ey (.msl g v lo n c) x (.msl g v' lo' n' c') true=⟨true,some ([g]++Gz x),some [g],false,none⟩:=by simp only[Ey,Gz,if_true]
theorem Xd(sz:Nat)(rows:List (List D))(c:Option Nat)(g v lo n:Nat)(c':Option Nat)(x:D):Ey (.sl sz rows c) x (.msl g v lo n c') true=⟨true,some ([]++Gz x),some [g],true,none⟩:=by simp[Ey,Gz]
theorem lit_p(c:Nat)(l:List UInt8):Aab (.agg (Uu c l))=true:=rfl
theorem gs_c(b:Nat)(gs:List GrM):(Eo b gs).Aag=true:=rfl
theorem gs_v(b:Nat)(gs:List GrM):(Eo b gs).val=true:=rfl
theorem gs_s(b:Nat)(gs:List GrM):(Eo b gs).cells=[Eo b gs]:=rfl
theorem s012(i:Nat)(hi:i≤2):pop (.slice true 0 true true false) [.str ⟨#[48,49,50]⟩,.int .i64 (i:Nat),.int .i64 (i+1:Nat)]=some (.str (mkS [dgt i])):=by
 match i,hi with
 | 0,_=>rfl
 | 1,_=>rfl
 | 2,_=>rfl
theorem sHF(c e:UInt8):pop (.bin .add) [.str ⟨#[c]⟩,.str (mkS [e])]=some (.str (mkS [c,e])):=rfl
theorem gl_len(x:CM):∀i,(x.gl i).length≤2*i
 | 0=>Nat.le_refl _
 | i+1=>by
  have:=gl_len x i;have h1:(x.gh i).length≤1:=by unfold CM.gh;split<;>simp
  have h2:(x.gf i).length≤1:=by unfold CM.gf;split<;>simp
  simp only[CM.gl,Ll_];omega
theorem Wy(x:CM):([gD1 x,gD2]++x.g1++x.g2).length≤4:=by
 have h1:x.g1.length≤1:=by unfold CM.g1;split<;>simp
 have h2:x.g2.length≤1:=by unfold CM.g2;split<;>simp
 simp only[Ll_,List.length_cons,List.length_nil];omega
theorem of_tail{d:Nat}(hd:17≤d)(x:CM)(S:St)(B:List Z9)(C T:D)(u4 u5 u6 u7 u8 u9 u10 u11 u12 u13 u14 u15 u16 u17 u18 u19 u20 u21 u22:D)(hB:OfB x B C T):CW (Bd LP NN d) F10t (FinP F10 (.agg (x.rep false))) [.agg x.row,.cptr x.row 0,.ptr 0 0 0 0,.ptr 1 0 0 0,u4,u5,u6,u7,u8,u9,u10,u11,u12,u13,u14,u15,u16,u17,u18,u19,u20,u21,u22] ⟨B,0⟩:=by
 have h1B:=hB.h1;have hat1:∀o l,(B.set 1 o++l)[1]?=some o:=fun o l=>by rw[La_ (by simpa using hB.lt),List.getElem?_set_self hB.lt]
 have hat10:∀o,(B.set 1 o)[1]?=some o:=fun o=>List.getElem?_set_self hB.lt;have hset1:∀o o' l,(B.set 1 o++l).set 1 o'=B.set 1 o'++l:=fun o o' l=>by rw[List.set_append_left _ _ (by simpa using hB.lt),List.set_set]
 have hCv1:=hB.vC.1;have hTv1:=hB.vT.1;have xq:=aI @at_S0 (aI @at_S (aI @set_S0 (aI @set_S (aI hat1 (aI hat10 (aI hset1 (aI h1B (aI @List.set_set.{0} (aI @List.length_set.{0} (aI hCv1 (hTv1)))))))))));refine Ig (fun env S'=>∃u4 u5 u6 u7 u8 u9 u10 u11 u12 u13 u14 u15 u16 u17 u18 u19 u20 u21 u22:D,S'=⟨B.set 1 (roD x C T .nils),0⟩∧env=[.agg x.row,.cptr x.row 0,.ptr 0 0 0 0,.ptr 1 0 0 0,u4,u5,u6,u7,u8,u9,u10,u11,u12,u13,u14,u15,u16,u17,u18,u19,u20,u21,u22]) ?_ ?_
 ·
  refine Ad (xo9 (h:=Ac (by simp only[zo,CM.row];exact L6 (by omega) _ x) ?_));refine Aa (Af ?_);refine Bj (by simp only[opd,zv,CM.row]<;>exact rfl) (fun hc=>?_) (fun hc=>?_)
  ·
   have hP:x.P=x.last+2:=by rw[CM.P,if_pos hc]
   have hF:x.F=x.first:=by rw[CM.F,if_pos hc]
   have hL:x.L=x.last:=by rw[CM.L,if_pos hc]
   have hll:x.last≤11:=by unfold CM.last CM.first;omega
   have hwl:IntKind.i64.wrap (((x.last:Nat):Int)+2)=((x.last+2:Nat):Int):=by rw[IntKind.wrap_i64];omega
   refine Ad (xo9 (h:=Ac (by simp only[zo,CM.row];exact Tf (by omega) _ x) ?_));refine Le (h:=xo58 (h:=?_));refine Aa (Af ?_);refine Ad (xo9 (h:=Ac (by simp only[zo,CM.row];exact Um (by omega) _ x) ?_));refine Le (h:=xo58 (h:=?_));refine Aa (Af ?_);refine Am (xo9 (h:=Ac (by simp only[zo,CM.row];exact Um (by omega) _ x) ?_));apply Ac (by simp only[zo,Bf,CM.row,hwl]<;>exact rfl);refine Le (h:=xo58 (h:=?_));refine Aa (Gy (by simp only[ze]<;>exact rfl) ?_);exact⟨_,_,_,_,_,_,_,_,_,_,_,_,_,_,_,_,_,_,_,by simp only[roD,hP,hF,hL],rfl⟩
  have hP:x.P=0:=by rw[CM.P,if_neg (by rw[hc];decide)]
  have hF:x.F=0:=by rw[CM.F,if_neg (by rw[hc];decide)]
  have hL:x.L=0:=by rw[CM.L,if_neg (by rw[hc];decide)]
  refine Ak (Gy rfl ?_);exact⟨_,_,_,_,_,_,_,_,_,_,_,_,_,_,_,_,_,_,_,by rw[roD,hP,hF,hL];exact (congrArg (fun z=>(⟨z,0⟩:St)) (set_id hB.h1)).symm,rfl⟩
 rintro env S' ⟨u4,u5,u6,u7,u8,u9,u10,u11,u12,u13,u14,u15,u16,u17,u18,u19,u20,u21,u22,rfl,rfl⟩;refine Ad (Ac (by simp only[zo,CM.row,roD];exact Ju (n:=3) (by omega) _ (by omega) (by omega)) ?_);refine xo71 (h:=Ac (by simp only[zl,zm,CM.row,shN,xq]<;>exact rfl) ?_);apply Ac (by simp only[zl,zm,Bg,overlay,Bh,zs,zc,zf,List.take,List.drop,CM.row,shN,xq]<;>exact rfl);refine Aa (Af ?_);refine Ad (Ac (by simp only[zl,zm,zd,Au,List.take,List.drop,CM.row,xq]<;>exact rfl) ?_);apply Ac (by simp only[zl,zm,CM.row,xq]<;>exact rfl);apply Ac (by simp only[zl,zm,Bg,overlay,Bh,zs,zc,zf,List.take,List.drop,CM.row,xq]<;>exact rfl);refine Aa (Af ?_);refine Ad (Le (h:=xo58 (h:=?_)));refine Aa (Af ?_);refine Ig (fun env S'=>∃(gs:List GrM) (u4 u5 u8 u9 u10 u11 u12 u13 u14 u15 u16 u17 u18 u19 u20 u21 u22:D),gs=[gD1 x]∧S'=⟨B.set 1 (roD x C T (Eo B.length gs))++[oNI (numI 4),oNI (numI 10),⟨82,15,Qo 1++[numI 4],0,1,true⟩,goD gs],0⟩∧env=[.agg x.row,.cptr x.row 0,.ptr 0 0 0 0,.ptr 1 0 0 0,u4,u5,.ptr B.length 0 0 0,.ptr (B.length+1) 0 0 0,u8,u9,u10,u11,u12,u13,u14,u15,u16,u17,u18,u19,u20,u21,u22]) ?_ ?_
 ·
  apply Fb (by simp only[newsVals,zw,Nat.reduceAdd]<;>exact rfl) (by simp only[zw]<;>exact rfl);refine xo29 (h:=Az (by simp only[zl,zm,zd,Au,List.take,List.drop,CM.row,xq]<;>exact rfl) rfl ?_);refine xo59 (h:=Az (by simp only[zo,CM.row];exact L6 (by omega) _ x) rfl ?_);apply D9 rfl rfl;refine I9 0 (by simp only[zv]<;>exact rfl) (by simp only[zn]<;>exact rfl) (by simp only[zn]<;>exact rfl) (fun hgp=>?_) (fun hgp=>?_)
  ·
   have hnp1:x.nps 0=(x.np % 2==1):=by simp[CM.nps,hgp]
   refine Cb rfl (Aj (by simp only[zo,Ei,zm,CM.row]<;>exact rfl) rfl rfl ?_);refine Cb rfl (xo59 (h:=?_));refine Cb rfl (Aj (by simp only[opd,zv,Ar,aop,LOp.loud,pop,Bool.false_eq_true,if_false];rw[Nr _ (by have:=x.h.2.2.2.1;omega)];exact rfl) rfl rfl ?_);refine Cb rfl (Aj (by simp only[zo,Bf,CM.row,Ym]<;>exact rfl) rfl rfl ?_);apply Aj (by simp only[zo,CM.row]<;>exact rfl) rfl rfl;refine Az (by simp only[zo,CM.row];exact Rw (by omega) _ 1 (by omega)) rfl ?_;refine Az (by simp only[zl,zm,zd,Au,List.take,List.drop,CM.row,xq]<;>exact rfl) rfl ?_;refine xo60 (h:=Dc (by simp only[zl,zm,Dj,Bo,E8,CM.row,xq]<;>exact rfl) (by simp only[fpHere,zo,zq,Xd,Ij]<;>exact rfl) rfl ?_);refine Qr (h:=Az (by simp only[zl,zm,List.replicate,snapVs,Bh,zs,CM.row,xq]<;>exact rfl) rfl ?_);refine Qr (h:=xo60 (h:=Az (by simp only[zl,zm,Dj,Bo,E8,CM.row,xq]<;>exact rfl) rfl ?_));refine xo29 (h:=Az (by simp only[zl,zm,Bg,overlay,zs,zc,zf,List.take,List.drop,CM.row,xq]<;>exact rfl) rfl ?_);refine Ce (Gy (by simp only[ze]<;>exact rfl) ?_);exact⟨[gD1 x],_,_,_,_,_,_,_,_,_,_,_,_,_,_,_,_,_,rfl,by simp only[hnp1,goD,gD1];rfl,rfl⟩
  have hnp1:x.nps 0=false:=by simp[CM.nps,hgp]
  refine Cc rfl rfl (Cc rfl rfl (Cc rfl rfl (Cc rfl rfl (Aj (by simp only[zo,CM.row]<;>exact rfl) rfl rfl ?_))));refine Az (by simp only[zo,CM.row];exact Rw (by omega) _ 1 (by omega)) rfl ?_;refine Az (by simp only[zl,zm,zd,Au,List.take,List.drop,CM.row,xq]<;>exact rfl) rfl ?_;refine xo60 (h:=Dc (by simp only[zl,zm,Dj,Bo,E8,CM.row,xq]<;>exact rfl) (by simp only[fpHere,zo,zq,Xd,Ij]<;>exact rfl) rfl ?_);refine Qr (h:=Az (by simp only[zl,zm,List.replicate,snapVs,Bh,zs,CM.row,xq]<;>exact rfl) rfl ?_);refine Qr (h:=xo60 (h:=Az (by simp only[zl,zm,Dj,Bo,E8,CM.row,xq]<;>exact rfl) rfl ?_));refine xo29 (h:=Az (by simp only[zl,zm,Bg,overlay,zs,zc,zf,List.take,List.drop,CM.row,xq]<;>exact rfl) rfl ?_);refine Ce (Gy (by simp only[ze]<;>exact rfl) ?_);exact⟨[gD1 x],_,_,_,_,_,_,_,_,_,_,_,_,_,_,_,_,_,rfl,by simp only[hnp1,goD,gD1];rfl,rfl⟩
 rintro env S' ⟨gs,u4,u5,u8,u9,u10,u11,u12,u13,u14,u15,u16,u17,u18,u19,u20,u21,u22,yN,rfl,rfl⟩;have xw:gs.length≠0:=by rw[yN];simp
 have yD:gs.length≤1:=by rw[yN];simp
 refine Ig (fun env S'=>∃(K:List Z9) (gs:List GrM) (u4 u5 u6 u7 u8 u9 u10 u11 u12 u13 u14 u15 u16 u17 u18 u19 u20 u21 u22:D),S'=⟨K,0⟩∧gs=[gD1 x,gD2]∧OfK x B.length K C T (gs)∧K.length=B.length+4∧env=[.agg x.row,.cptr x.row 0,.ptr 0 0 0 0,.ptr 1 0 0 0,u4,u5,u6,u7,u8,u9,u10,u11,u12,u13,u14,u15,u16,u17,u18,u19,u20,u21,u22]) ?_ ?_
 ·
  refine Am (Ac (by simp only[zo,Cj,zm,CM.row,roD,oNI]<;>exact rfl) ?_);apply Ac (by simp only[zl,zm,zd,Au,List.take,List.drop,CM.row,xq]<;>exact rfl);apply Ac (by simp only[zl,zm,zd,Au,List.drop,CM.row,xq]<;>exact rfl);apply Ac (by simp only[zl,zm,List.replicate,snapVs,zs,CM.row,xq]<;>exact rfl);refine xo38 (h:=Ac (by simp only[zl,zm,C9,List.replicate,snapVs,Bh,zs,zc,zf,CM.row,xq]<;>exact rfl) ?_);refine xo38 (h:=Ac (by simp only[zl,zm,C9,List.replicate,snapVs,Bh,zs,zc,zf,CM.row,xq]<;>exact rfl) ?_);apply Ac (by simp only[Ar,aop,LOp.loud,lop,if_true,opd,zv];exact Nh gD2 rfl (at_S B _ _ 3 _) xw (by omega) _);apply Ac (by simp only[zo,Cj,zm,CM.row,xq]<;>exact rfl);apply Ac (by simp only[zl,zm,Bg,overlay,zc,List.take,List.drop,CM.row,gs_v,gs_s,xq]<;>exact rfl);refine Aa (Gy (by simp only[ze]<;>exact rfl) ?_);exact⟨_,gs++[gD2],_,_,_,_,_,_,_,_,_,_,_,_,_,_,_,_,_,_,_,rfl,by rw[yN];rfl,OfK.first (gs:=gs++[gD2]) hB _ _ _ (by simp) (by simp;omega),by simp,rfl⟩
 rintro env S' ⟨K,gs,u4,u5,u6,u7,u8,u9,u10,u11,u12,u13,u14,u15,u16,u17,u18,u19,u20,u21,u22,rfl,yN,hK,xg,rfl⟩;have h1:=hK.h1;have hKg:=hK.hg;have hKl:=hK.hl;have xw:=hK.ne;have hA:∀l,(K++l)[1]?=K[1]?:=fun l=>La_ (by omega);have qZ:∀l,(K++l)[B.length+3]?=K[B.length+3]?:=fun l=>La_ (by omega);have hSg:∀o l,(K++l).set (B.length+3) o=K.set (B.length+3) o++l:=fun o l=>List.set_append_left _ _ (by omega);have zQ:∀o,(K.set (B.length+3) o)[1]?=K[1]?:=fun o=>Ln_ (by omega);have yR:∀o l,(K.set (B.length+3) o++l)[1]?=K[1]?:=fun o l=>by rw[La_ (by simp;omega),zQ]
 have hS1:∀o o' l,(K.set (B.length+3) o++l).set 1 o'=(K.set (B.length+3) o).set 1 o'++l:=fun o o' l=>List.set_append_left _ _ (by simp;omega);have hgl0:gs.length≤2:=by rw[yN];simp
 have xI:=aI h1 (aI hA (aI qZ (aI hSg (aI zQ (aI yR (aI hS1 (@List.length_set.{0})))))));refine Ig (fun env S'=>∃(K:List Z9) (gs:List GrM) (u4 u5 u6 u7 u8 u9 u10 u11 u12 u13 u14 u15 u16 u17 u18 u19 u20 u21 u22:D),S'=⟨K,0⟩∧gs=[gD1 x,gD2]++x.g1∧OfK x B.length K C T (gs)∧K.length=B.length+4∧env=[.agg x.row,.cptr x.row 0,.ptr 0 0 0 0,.ptr 1 0 0 0,u4,u5,u6,u7,u8,u9,u10,u11,u12,u13,u14,u15,u16,u17,u18,u19,u20,u21,u22]) ?_ ?_
 ·
  refine Ad (xo9 (h:=Ac (by simp only[zo,CM.row];exact Jb (by omega) _ x 0 (by omega)) ?_));refine Aa (Af ?_);refine Bj (by simp only[opd,zv,CM.row]<;>exact rfl) (fun hcpde=>?_) (fun hcpde=>?_)
  ·
   refine Eh ?_;refine xo29 (h:=Dc (by simp only[zl,zm,zd,Au,List.take,List.drop,CM.row,roD,roD,xI]<;>exact rfl) (by simp only[fpHere,zo,zq,Eo]<;>exact rfl) rfl ?_);apply Dc (by simp only[zo,CM.row];exact Ic (by omega) _ 1 (l:=[82,72]) (by decide) (by decide)) (by simp only[fpHere,zo,zq,Eo]<;>exact rfl) rfl;apply Dc (by simp only[zl,List.replicate,snapVs,zs,CM.row]<;>exact rfl) (by simp only[fpHere,zo,zq,Eo]<;>exact rfl) rfl;refine Qr (h:=Dc (by simp only[zl,zm,C9,List.replicate,snapVs,Bh,zs,zc,zf,CM.row]<;>exact rfl) (by simp only[fpHere,zo,zq,Eo]<;>exact rfl) rfl ?_);refine Qr (h:=Dc (by simp only[zl,zm,C9,List.replicate,snapVs,Bh,zs,zc,zf,CM.row]<;>exact rfl) (by simp only[fpHere,zo,zq,Eo]<;>exact rfl) rfl ?_);apply Dc (by simp only[Ar,aop,LOp.loud,lop,if_true,opd,zv];exact Nh gRH rfl hKg xw (by omega) _) (by simp only[fpHere,zo,zq,Eo,Sj,Ij]<;>exact rfl) rfl;refine xo29 (h:=Dc (by simp only[zl,zm,Bg,overlay,zc,List.take,List.drop,CM.row,roD,gs_v,gs_s,xq,roD,xI]<;>exact rfl) (by simp only[fpHere,zo,zq,Eo]<;>exact rfl) rfl ?_);refine Ce (Gy (by simp only[ze]<;>exact rfl) ?_);exact⟨_,gs++[gRH],_,_,_,_,_,_,_,_,_,_,_,_,_,_,_,_,_,_,_,rfl,by rw[CM.g1,if_pos hcpde,yN],by have:=hK.step gRH [] (by omega);rwa [List.append_nil]at this,by simp[xg],rfl⟩
  refine Ak (Gy rfl ?_);exact⟨K,gs,_,_,_,_,_,_,_,_,_,_,_,_,_,_,_,_,_,_,_,rfl,by rw[CM.g1,if_neg (by rw[hcpde];decide),List.append_nil,yN],hK,xg,rfl⟩
 rintro env S' ⟨K,gs,u4,u5,u6,u7,u8,u9,u10,u11,u12,u13,u14,u15,u16,u17,u18,u19,u20,u21,u22,rfl,yN,hK,xg,rfl⟩;have h1:=hK.h1;have hKg:=hK.hg;have hKl:=hK.hl;have xw:=hK.ne;have hA:∀l,(K++l)[1]?=K[1]?:=fun l=>La_ (by omega);have qZ:∀l,(K++l)[B.length+3]?=K[B.length+3]?:=fun l=>La_ (by omega);have hSg:∀o l,(K++l).set (B.length+3) o=K.set (B.length+3) o++l:=fun o l=>List.set_append_left _ _ (by omega);have zQ:∀o,(K.set (B.length+3) o)[1]?=K[1]?:=fun o=>Ln_ (by omega);have yR:∀o l,(K.set (B.length+3) o++l)[1]?=K[1]?:=fun o l=>by rw[La_ (by simp;omega),zQ]
 have hS1:∀o o' l,(K.set (B.length+3) o++l).set 1 o'=(K.set (B.length+3) o).set 1 o'++l:=fun o o' l=>List.set_append_left _ _ (by simp;omega);have hgl0:gs.length≤4:=by { rw[yN];have:=Wy x;simp only[Ll_]at this ⊢;omega }
 have y5:=aI h1 (aI hA (aI qZ (aI hSg (aI zQ (aI yR (aI hS1 (@List.length_set.{0})))))));refine Ad (Ac (by simp only[zo,CM.row];exact Ju (n:=2) (by omega) _ (by omega) (by omega)) ?_);refine xo71 (h:=Ac (by simp only[zl,zm,CM.row,shN]<;>exact rfl) ?_);apply Ac (by simp only[zl,zm,Bg,overlay,Bh,zs,zc,zf,List.take,List.drop,CM.row,shN]<;>exact rfl);refine Aa (Af ?_);refine Ig (fun env S'=>∃(K:List Z9) (gs:List GrM) (u4 u5 u6 u7 u9 u10 u11 u12 u13 u14 u15 u16 u17 u18 u19 u20 u21 u22:D),S'=⟨K,0⟩∧gs=[gD1 x,gD2]++x.g1++x.g2∧OfK x B.length K C T (gs)∧K[B.length+4]?=some (oNI Qu)∧env=[.agg x.row,.cptr x.row 0,.ptr 0 0 0 0,.ptr 1 0 0 0,u4,u5,u6,u7,.ptr (B.length+4) 0 0 0,u9,u10,u11,u12,u13,u14,u15,u16,u17,u18,u19,u20,u21,u22]) ?_ ?_
 ·
  refine Ad (xo9 (h:=Ac (by simp only[zo,CM.row];exact Jb (by omega) _ x 1 (by omega)) ?_));apply Ag rfl;refine G9 0 (by simp only[zv]<;>exact rfl) (by simp only[zn]<;>exact rfl) (by simp only[zn]<;>exact rfl) (fun qK=>?_) (fun qK=>?_)
  ·
   refine Ap rfl (xo9 (h:=?_));refine Ap rfl (Ac (by simp only[zo,CM.row];exact L6 (by omega) _ x) ?_);apply Ac (by simp only[zo,CM.row]<;>exact rfl);refine Aa (Af ?_);refine Bj (by simp only[opd,zv,CM.row]<;>exact rfl) (fun qM=>?_) (fun qM=>?_)
   ·
    apply Fb (by simp only[newsVals,zw,Nat.reduceAdd]<;>exact rfl) (by simp only[zw]<;>exact rfl);refine xo29 (h:=Dc (by simp only[zl,zm,zd,Au,List.take,List.drop,CM.row,roD,roD,roD,y5]<;>exact rfl) (by simp only[fpHere,zo,zq,Eo]<;>exact rfl) rfl ?_);apply Dc (by simp only[zo,CM.row];exact Ic (by omega) _ 1 (l:=[80]) (by decide) (by decide)) (by simp only[fpHere,zo,zq,Eo]<;>exact rfl) rfl;apply Dc (by simp only[zl,zm,zd,Au,List.take,List.drop,CM.row]<;>exact rfl) (by simp only[fpHere,zo,zq,Eo]<;>exact rfl) rfl;apply Dc (by simp only[zl,zm,List.replicate,snapVs,Bh,zs,CM.row]<;>exact rfl) (by simp only[fpHere,zo,zq,Eo]<;>exact rfl) rfl;refine Qr (h:=Dc (by simp only[zl,zm,C9,List.replicate,snapVs,Bh,zs,zc,zf,CM.row]<;>exact rfl) (by simp only[fpHere,zo,zq,Eo]<;>exact rfl) rfl ?_);refine Qr (h:=Dc (by simp only[zl,zm,C9,List.replicate,snapVs,Bh,zs,zc,zf,CM.row]<;>exact rfl) (by simp only[fpHere,zo,zq,Eo]<;>exact rfl) rfl ?_);apply Dc (by simp only[Ar,aop,LOp.loud,lop,if_true,opd,zv];exact Nh gPH rfl ((qZ _).trans hKg) xw (by omega) _) (by simp only[fpHere,zo,zq,Eo,Sj,Ij]<;>exact rfl) rfl;apply Aj (by simp only[zo,Cj,zm,CM.row,y5]<;>exact rfl) rfl rfl;apply Dc (by simp only[zl,zm,Bg,overlay,zc,List.take,List.drop,CM.row,roD,gs_v,gs_s,xq,roD,roD,y5]<;>exact rfl) (by simp only[fpHere,zo,zq,Eo]<;>exact rfl) rfl;refine Ce (Gy (by simp only[ze]<;>exact rfl) ?_);have h16:(x.has 1&&x.paged)=true:=by rw[qK,qM];rfl
    have hpg0:(K++[oNI Qu])[B.length+4]?=some (oNI Qu):=by rw[Lr_ (by omega),xg,Nat.sub_self];rfl
    exact⟨_,gs++[gPH],_,_,_,_,_,_,_,_,_,_,_,_,_,_,_,_,_,_,rfl,(by rw[CM.g2,h16,if_pos rfl,yN]),hK.step gPH [oNI Qu] (by omega),(by rw[Lr_ (by simp only[List.length_set];omega)];simp only[List.length_set,xg,Nat.sub_self];rfl),by rw[xg]⟩
   refine Ak (Gy rfl ?_);have h16:(x.has 1&&x.paged)=false:=by rw[qK,qM];rfl
   have hpg0:(K++[oNI Qu])[B.length+4]?=some (oNI Qu):=by rw[Lr_ (by omega),xg,Nat.sub_self];rfl
   exact⟨_,gs,_,_,_,_,_,_,_,_,_,_,_,_,_,_,_,_,_,_,rfl,(by rw[CM.g2,h16,if_neg (by decide),List.append_nil,yN]),hK.app [oNI Qu],hpg0,by rw[xg]⟩
  refine Cm rfl rfl (Cm rfl rfl (Ac (by simp only[zo,CM.row]<;>exact rfl) ?_));refine Aa (Af ?_);apply Be (by simp only[opd,zv,CM.row]);refine Ak (Gy rfl ?_);have h16:(x.has 1&&x.paged)=false:=by rw[qK];rfl
  have hpg0:(K++[oNI Qu])[B.length+4]?=some (oNI Qu):=by rw[Lr_ (by omega),xg,Nat.sub_self];rfl
  exact⟨_,gs,_,_,_,_,_,_,_,_,_,_,_,_,_,_,_,_,_,_,rfl,(by rw[CM.g2,h16,if_neg (by decide),List.append_nil,yN]),hK.app [oNI Qu],hpg0,by rw[xg]⟩
 rintro env S' ⟨K,gs,u4,u5,u6,u7,u9,u10,u11,u12,u13,u14,u15,u16,u17,u18,u19,u20,u21,u22,rfl,yN,hK,wE,rfl⟩;have h1:=hK.h1;have hKg:=hK.hg;have hKl:=hK.hl;have xw:=hK.ne;have hA:∀l,(K++l)[1]?=K[1]?:=fun l=>La_ (by omega);have qZ:∀l,(K++l)[B.length+3]?=K[B.length+3]?:=fun l=>La_ (by omega);have hSg:∀o l,(K++l).set (B.length+3) o=K.set (B.length+3) o++l:=fun o l=>List.set_append_left _ _ (by omega);have zQ:∀o,(K.set (B.length+3) o)[1]?=K[1]?:=fun o=>Ln_ (by omega);have yR:∀o l,(K.set (B.length+3) o++l)[1]?=K[1]?:=fun o l=>by rw[La_ (by simp;omega),zQ]
 have hS1:∀o o' l,(K.set (B.length+3) o++l).set 1 o'=(K.set (B.length+3) o).set 1 o'++l:=fun o o' l=>List.set_append_left _ _ (by simp;omega);have hAp:∀l,(K++l)[B.length+4]?=K[B.length+4]?:=fun l=>La_ (by have:=Ha wE;omega);have hsp:=wE;have zz6:=aI h1 (aI hA (aI qZ (aI hSg (aI zQ (aI yR (aI hS1 (aI @List.length_set.{0} (aI hAp (wE)))))))));refine Ai (Ad (Aw (Aa (Af ?_))));refine Aq (D5 (fun n env S'=>∃(i:Nat) (K:List Z9) (gs:List GrM) (u4 u5 u6 u7 u10 u11 u12 u13 u14 u15 u16 u17 u18 u19 u20 u21 u22:D),i≤x.ctl+1∧n=x.ctl+1-i∧S'=⟨K,0⟩∧gs=[gD1 x,gD2]++x.g1++x.g2++x.gl i∧OfK x B.length K C T (gs)∧K[B.length+4]?=some (oNI Qu)∧env=[.agg x.row,.cptr x.row 0,.ptr 0 0 0 0,.ptr 1 0 0 0,u4,u5,u6,u7,.ptr (B.length+4) 0 0 0,.int .i64 (i:Nat),u10,u11,u12,u13,u14,u15,u16,u17,u18,u19,u20,u21,u22]) (x.ctl+1) (by have h6:x.ctl<3:=Nat.mod_lt _ (by decide);omega) (⟨0,K,gs,_,_,_,_,_,_,_,_,_,_,_,_,_,_,_,_,_,by omega,by omega,rfl,by rw[CM.gl,List.append_nil,yN],hK,wE,rfl⟩) ?_);rintro n env S' ⟨i,K,gs,u4,u5,u6,u7,u10,u11,u12,u13,u14,u15,u16,u17,u18,u19,u20,u21,u22,hi,hnk,rfl,yN,hK,wE,rfl⟩;have h1:=hK.h1;have hKg:=hK.hg;have hKl:=hK.hl;have xw:=hK.ne;have hA:∀l,(K++l)[1]?=K[1]?:=fun l=>La_ (by omega);have qZ:∀l,(K++l)[B.length+3]?=K[B.length+3]?:=fun l=>La_ (by omega);have hSg:∀o l,(K++l).set (B.length+3) o=K.set (B.length+3) o++l:=fun o l=>List.set_append_left _ _ (by omega);have zQ:∀o,(K.set (B.length+3) o)[1]?=K[1]?:=fun o=>Ln_ (by omega);have yR:∀o l,(K.set (B.length+3) o++l)[1]?=K[1]?:=fun o l=>by rw[La_ (by simp;omega),zQ]
 have hS1:∀o o' l,(K.set (B.length+3) o++l).set 1 o'=(K.set (B.length+3) o).set 1 o'++l:=fun o o' l=>List.set_append_left _ _ (by simp;omega);have hAp:∀l,(K++l)[B.length+4]?=K[B.length+4]?:=fun l=>La_ (by have:=Ha wE;omega);have hsp:=wE;have zz7:=aI h1 (aI hA (aI qZ (aI hSg (aI zQ (aI yR (aI hS1 (aI @List.length_set.{0} (aI hAp (wE)))))))));refine Ai (Ad (Ae rfl (xo9 (h:=Ac (by simp only[zo,CM.row];exact L8 (by omega) _ x) ?_))));refine L9 (h:=?_);refine Aa (Af ?_);refine Bj (by simp only[opd,zv,CM.row]<;>exact rfl) (fun wL=>?_) (fun wL=>?_)
 ·
  have yS:i≤x.ctl:=by have:=of_decide_eq_true wL;omega
  have yP:i≤2:=by have:=of_decide_eq_true wL;have h6:x.ctl<3:=Nat.mod_lt _ (by decide);omega
  have uG:IntKind.i64.wrap (2+((i:Nat):Int))=((2+i:Nat):Int):=by rw[IntKind.wrap_i64];omega
  have hw5:IntKind.i64.wrap (5+((i:Nat):Int))=((5+i:Nat):Int):=by rw[IntKind.wrap_i64];omega
  have zT:IntKind.i64.wrap (1+((i:Nat):Int))=((1+i:Nat):Int):=by rw[IntKind.wrap_i64];omega
  have yH:=Dt i (by omega);have hgl:gs.length≤8:=by rw[yN];have h9:=Wy x;have h8:=gl_len x i;simp only[Ll_]at h9 ⊢;omega
  have zz8:=aI uG (aI hw5 (aI zT (yH)));refine Ak (Bi rfl (Ai (Aq ?_)));refine Ig (fun env S'=>∃(K:List Z9) (gs:List GrM) (u4 u5 u6 u7 u10 u11 u12 u13 u14 u15 u16 u17 u18 u19 u20 u21 u22:D),S'=⟨K,0⟩∧gs=[gD1 x,gD2]++x.g1++x.g2++x.gl i++x.gh i∧OfK x B.length K C T (gs)∧K[B.length+4]?=some (oNI Qu)∧env=[.agg x.row,.cptr x.row 0,.ptr 0 0 0 0,.ptr 1 0 0 0,u4,u5,u6,u7,.ptr (B.length+4) 0 0 0,.int .i64 (i:Nat),u10,u11,u12,u13,u14,u15,u16,u17,u18,u19,u20,u21,u22]) ?_ ?_
  ·
   refine Ad (xo9 (h:=Ae rfl (Ac (by simp only[zo,Bf,CM.row,zz8]<;>exact rfl) ?_)));apply Ac (by simp only[zo,CM.row];exact Jb (by omega) _ x (2+i) (by omega));refine Aa (Af ?_);refine Bj (by simp only[opd,zv,CM.row]<;>exact rfl) (fun zO=>?_) (fun zO=>?_)
   ·
    refine Eh ?_;refine xo29 (h:=Dc (by simp only[zl,zm,zd,Au,List.take,List.drop,CM.row,roD,roD,roD,roD,roD,zz7]<;>exact rfl) (by simp only[fpHere,zo,zq,Eo]<;>exact rfl) rfl ?_);refine Bc rfl rfl (Dc (by simp only[zl,zm,zd,Au,List.take,List.drop,CM.row]<;>exact rfl) (by simp only[fpHere,zo,zq,Eo]<;>exact rfl) rfl ?_);apply Dc (by simp only[zo,CM.row];exact L6 (by omega) _ x) (by simp only[fpHere,zo,zq,Eo]<;>exact rfl) rfl;apply D9 rfl rfl;refine I9 0 (by simp only[zv]<;>exact rfl) (by simp only[zn]<;>exact rfl) (by simp only[zn]<;>exact rfl) (fun wo=>?_) (fun wo=>?_)
    ·
     have hnp:x.nps (1+i)=(x.np / 2 ^ (1+i) % 2==1):=by simp[CM.nps,wo]
     refine Cb rfl (Aj (by simp only[zo,Ei,zm,CM.row]<;>exact rfl) rfl rfl ?_);refine Cb rfl (Dc (by simp only[zl,zm,zd,Au,List.take,List.drop,CM.row]<;>exact rfl) (by simp only[fpHere,zo,zq,Eo]<;>exact rfl) rfl ?_);refine Cb rfl (Bc rfl rfl (Cb rfl (Aj (by simp only[zo,Bf,CM.row,zz8]<;>exact rfl) rfl rfl ?_)));refine Cb rfl (Aj (by simp only[opd,zv,Ar,aop,LOp.loud,pop,Bool.false_eq_true,if_false,CM.row];rw[Uo _ _ (by omega)];exact rfl) rfl rfl ?_);refine Cb rfl (Aj (by simp only[opd,zv,Ar,aop,LOp.loud,pop,Bool.false_eq_true,if_false];rw[Nr _ (np_lt x (1+i))];exact rfl) rfl rfl ?_);refine Cb rfl (Aj (by simp only[zo,Bf,CM.row,Ym]<;>exact rfl) rfl rfl ?_);apply Aj (by simp only[zo,CM.row]<;>exact rfl) rfl rfl;refine Bc rfl rfl (Bc rfl rfl (Aj (by simp only[zo,Bf,CM.row,zz8]<;>exact rfl) rfl rfl ?_));apply Aj (by simp only[opd,zv,Ar,aop,LOp.loud,Bool.false_eq_true,if_false];rw[s012 i yP];exact rfl) rfl rfl;apply Aj (by simp only[opd,zv,Ar,aop,LOp.loud,Bool.false_eq_true,if_false];rw[sHF];exact rfl) rfl rfl;apply Dc (by simp only[zo,CM.row];exact Ic (by omega) _ 1 (l:=[72,dgt i]) (by simp) (by simp)) (by simp only[fpHere,zo,zq,Eo]<;>exact rfl) rfl;apply Dc (by simp only[zl,List.replicate,snapVs,zs,CM.row]<;>exact rfl) (by simp only[fpHere,zo,zq,Eo]<;>exact rfl) rfl;apply Dc (by simp only[zo,CM.row];exact Rw (by omega) _ 4 (by omega)) (by simp only[fpHere,zo,zq,Eo]<;>exact rfl) rfl;apply Dc (by simp only[zl,zm,Dj,Bo,E8,CM.row]<;>exact rfl) (by simp only[fpHere,zo,zq,Eo,Xd,Ij]<;>exact rfl) (by (try simp only[List.all_cons,lit_p])<;>(simp[show ob 4177976 22=[true,true,true,true,true,true,true,true,false,false,false,false,false,false,false,false,true,true,true,false,false,false] from rfl,okHere,Je,Ew,Ir,dj,Dv,fpQuiet,Qi];omega));refine Qr (h:=Dc (by simp only[zl,zm,List.replicate,snapVs,Bh,zs,zc,CM.row]<;>exact rfl) (by simp only[fpHere,zo,zq,Eo]<;>exact rfl) rfl ?_);refine Qr (h:=Dc (by simp only[zl,zm,C9,List.replicate,snapVs,Bh,zs,zc,zf,CM.row]<;>exact rfl) (by simp only[fpHere,zo,zq,Eo]<;>exact rfl) rfl ?_);apply Dc (by simp only[Ar,aop,LOp.loud,lop,if_true,opd,zv];exact Nh (gH x i) (by simp only[gH,hnp];rfl) ((qZ _).trans hKg) xw (by omega) _) (by simp only[fpHere,zo,zq,Eo,Sj,Ij]<;>exact rfl) rfl;apply Aj (by simp only[zo,Cj,zm,CM.row,zz7]<;>exact rfl) rfl rfl;apply Dc (by simp only[zl,zm,Bg,overlay,zc,List.take,List.drop,CM.row,roD,gs_v,gs_s,xq,roD,roD,roD,roD,zz7]<;>exact rfl) (by simp only[fpHere,zo,zq,Eo]<;>exact rfl) rfl;refine Ce (Gy (by simp only[ze]<;>exact rfl) ?_);exact⟨_,gs++[gH x i],_,_,_,_,_,_,_,_,_,_,_,_,_,_,_,_,_,rfl,(by rw[CM.gh,if_pos zO,yN]),hK.step (gH x i) _ (by omega),(by rw[La_ (by simp only[List.length_set];exact Ha wE),Ln_ (by omega),Ln_ (by omega)];exact wE),rfl⟩
    have hnp:x.nps (1+i)=false:=by simp[CM.nps,wo]
    refine Cc rfl rfl (Cc rfl rfl (Cc rfl rfl (Cc rfl rfl (Cc rfl rfl (Cc rfl rfl (Cc rfl rfl (Aj (by simp only[zo,CM.row]<;>exact rfl) rfl rfl ?_)))))));refine Bc rfl rfl (Bc rfl rfl (Aj (by simp only[zo,Bf,CM.row,zz8]<;>exact rfl) rfl rfl ?_));apply Aj (by simp only[opd,zv,Ar,aop,LOp.loud,Bool.false_eq_true,if_false];rw[s012 i yP];exact rfl) rfl rfl;apply Aj (by simp only[opd,zv,Ar,aop,LOp.loud,Bool.false_eq_true,if_false];rw[sHF];exact rfl) rfl rfl;apply Dc (by simp only[zo,CM.row];exact Ic (by omega) _ 1 (l:=[72,dgt i]) (by simp) (by simp)) (by simp only[fpHere,zo,zq,Eo]<;>exact rfl) rfl;apply Dc (by simp only[zl,List.replicate,snapVs,zs,CM.row]<;>exact rfl) (by simp only[fpHere,zo,zq,Eo]<;>exact rfl) rfl;apply Dc (by simp only[zo,CM.row];exact Rw (by omega) _ 4 (by omega)) (by simp only[fpHere,zo,zq,Eo]<;>exact rfl) rfl;apply Dc (by simp only[zl,zm,Dj,Bo,E8,CM.row]<;>exact rfl) (by simp only[fpHere,zo,zq,Eo,Xd,Ij]<;>exact rfl) (by (try simp only[List.all_cons,lit_p])<;>(simp[show ob 4177976 22=[true,true,true,true,true,true,true,true,false,false,false,false,false,false,false,false,true,true,true,false,false,false] from rfl,okHere,Je,Ew,Ir,dj,Dv,fpQuiet,Qi];omega));refine Qr (h:=Dc (by simp only[zl,zm,List.replicate,snapVs,Bh,zs,zc,CM.row]<;>exact rfl) (by simp only[fpHere,zo,zq,Eo]<;>exact rfl) rfl ?_);refine Qr (h:=Dc (by simp only[zl,zm,C9,List.replicate,snapVs,Bh,zs,zc,zf,CM.row]<;>exact rfl) (by simp only[fpHere,zo,zq,Eo]<;>exact rfl) rfl ?_);apply Dc (by simp only[Ar,aop,LOp.loud,lop,if_true,opd,zv];exact Nh (gH x i) (by simp only[gH,hnp];rfl) ((qZ _).trans hKg) xw (by omega) _) (by simp only[fpHere,zo,zq,Eo,Sj,Ij]<;>exact rfl) rfl;apply Aj (by simp only[zo,Cj,zm,CM.row,zz7]<;>exact rfl) rfl rfl;apply Dc (by simp only[zl,zm,Bg,overlay,zc,List.take,List.drop,CM.row,roD,gs_v,gs_s,xq,roD,roD,roD,roD,zz7]<;>exact rfl) (by simp only[fpHere,zo,zq,Eo]<;>exact rfl) rfl;refine Ce (Gy (by simp only[ze]<;>exact rfl) ?_);exact⟨_,gs++[gH x i],_,_,_,_,_,_,_,_,_,_,_,_,_,_,_,_,_,rfl,(by rw[CM.gh,if_pos zO,yN]),hK.step (gH x i) _ (by omega),(by rw[La_ (by simp only[List.length_set];exact Ha wE),Ln_ (by omega),Ln_ (by omega)];exact wE),rfl⟩
   refine Ak (Gy rfl ?_);exact⟨K,gs,_,_,_,_,_,_,_,_,_,_,_,_,_,_,_,_,_,rfl,(by rw[CM.gh,if_neg (by rw[zO];decide),List.append_nil,yN]),hK,wE,rfl⟩
  rintro env S' ⟨K,gs,u4,u5,u6,u7,u10,u11,u12,u13,u14,u15,u16,u17,u18,u19,u20,u21,u22,rfl,yN,hK,wE,rfl⟩;have h1:=hK.h1;have hKg:=hK.hg;have hKl:=hK.hl;have xw:=hK.ne;have hA:∀l,(K++l)[1]?=K[1]?:=fun l=>La_ (by omega);have qZ:∀l,(K++l)[B.length+3]?=K[B.length+3]?:=fun l=>La_ (by omega);have hSg:∀o l,(K++l).set (B.length+3) o=K.set (B.length+3) o++l:=fun o l=>List.set_append_left _ _ (by omega);have zQ:∀o,(K.set (B.length+3) o)[1]?=K[1]?:=fun o=>Ln_ (by omega);have yR:∀o l,(K.set (B.length+3) o++l)[1]?=K[1]?:=fun o l=>by rw[La_ (by simp;omega),zQ]
  have hS1:∀o o' l,(K.set (B.length+3) o++l).set 1 o'=(K.set (B.length+3) o).set 1 o'++l:=fun o o' l=>List.set_append_left _ _ (by simp;omega);have hAp:∀l,(K++l)[B.length+4]?=K[B.length+4]?:=fun l=>La_ (by have:=Ha wE;omega);have hsp:=wE;have hgl2:gs.length≤9:=by rw[yN];have h9:=Wy x;have h8:=gl_len x i;have h7:(x.gh i).length≤1:=by { unfold CM.gh;split<;>simp };simp only[Ll_]at h9 ⊢;omega
  have zz9:=aI h1 (aI hA (aI qZ (aI hSg (aI zQ (aI yR (aI hS1 (aI @List.length_set.{0} (aI hAp (wE)))))))));refine Ad (xo9 (h:=Ae rfl (Ac (by simp only[zo,Bf,CM.row,zz8]<;>exact rfl) ?_)));apply Ac (by simp only[zo,CM.row];exact Jb (by omega) _ x (5+i) (by omega));refine Aa (Af ?_);refine Bj (by simp only[opd,zv,CM.row]<;>exact rfl) (fun yX=>?_) (fun yX=>?_)
  ·
   refine Ad (Ac (by simp only[zo,CM.row];exact Ju (n:=6) (by omega) _ (by omega) (by omega)) ?_);refine Ae rfl (xo71 (h:=Ac (by simp only[zl,zm,CM.row,shN]<;>exact rfl) ?_));apply Ac (by simp only[zl,zm,Bg,overlay,Bh,zs,zc,zf,List.take,List.drop,CM.row,shN]<;>exact rfl);refine Aa (Af ?_);refine Ai (Fb (by simp only[newsVals,zw,Nat.reduceAdd]<;>exact rfl) (by simp only[zw,newsObj]<;>exact rfl) ?_);refine Bc rfl rfl (Bc rfl rfl (Bc rfl rfl (Aj (by simp only[zo,Bf,CM.row,zz8]<;>exact rfl) rfl rfl ?_)));apply Aj (by simp only[opd,zv,Ar,aop,LOp.loud,Bool.false_eq_true,if_false];rw[s012 i yP];exact rfl) rfl rfl;apply Aj (by simp only[opd,zv,Ar,aop,LOp.loud,Bool.false_eq_true,if_false];rw[sHF];exact rfl) rfl rfl;refine Az (by simp only[zo,CM.row];exact Ic (by omega) _ 1 (l:=[70,dgt i]) (by simp) (by simp)) rfl ?_;refine Az (by simp only[zl,zm,List.replicate,snapVs,zs,CM.row]<;>exact rfl) rfl ?_;refine Az (by simp only[zo,CM.row];exact Rw (by omega) _ 4 (by omega)) rfl ?_;apply Dc (by simp only[zl,zm,Dj,Bo,E8,CM.row]<;>exact rfl) (by simp only[fpHere,zo,zq,Xd,Ij]<;>exact rfl) rfl;apply Dc (by simp only[zl,zm,zd,Au,List.take,List.drop,CM.row]<;>exact rfl) (by simp only[fpHere,zo,zq]<;>exact rfl) (by (try simp only[List.all_cons,lit_p])<;>simp[show ob 0 10=[false,false,false,false,false,false,false,false,false,false] from rfl,okHere,Je,Ew,Ir,dj,Dv,fpQuiet,Qi]);refine Az (by simp only[zl,zm,C9,List.replicate,snapVs,Bh,zs,zc,zf,CM.row]<;>exact rfl) rfl ?_;apply Dc (by simp only[zl,zm,Dj,Bo,E8,CM.row]<;>exact rfl) (by simp only[fpHere,zo,zq,Sj,Ij]<;>exact rfl) rfl;refine Qr (h:=Az (by simp only[zl,zm,List.replicate,snapVs,Bh,zs,zc,CM.row]<;>exact rfl) rfl ?_);refine Qr (h:=Dc (by simp only[zo]<;>exact rfl) (by simp only[fpHere]<;>exact rfl) (by (try simp only[List.all_cons,lit_p])<;>simp[show ob 0 16=[false,false,false,false,false,false,false,false,false,false,false,false,false,false,false,false] from rfl,Aab,Iy,okHere,Je,Ew,Dv,fpQuiet,Jh,Qi]) ?_);refine Az (by simp only[zl,zm,Bg,overlay,Bh,zs,zc,zf,List.take,List.drop,CM.row]<;>exact rfl) rfl ?_;refine Ce (Af ?_);refine Ai (Ad (Ac (by simp only[zo,Ei,zm,CM.row]<;>exact rfl) ?_));refine xo9 (h:=Ae rfl (Ac (by simp only[opd,zv,Ar,aop,LOp.loud,pop,Bool.false_eq_true,if_false,CM.row];rw[Uo _ _ (by omega)];exact rfl) ?_));apply Ac (by simp only[opd,zv,Ar,aop,LOp.loud,pop,Bool.false_eq_true,if_false];rw[Nr _ (bl_lt x i)];exact rfl);apply Ac (by simp only[zo,Bf,CM.row,Ym]<;>exact rfl);refine Aa (Af ?_);refine Bj (by simp only[opd,zv,CM.row]<;>exact rfl) (fun zG=>?_) (fun zG=>?_)
   ·
    have hbk:x.blk i=true:=zG;refine Am (Le (h:=xo9 (h:=xo38 (h:=xo40 (h:=xo32 (h:=Le (h:=xo33 (h:=?_))))))));refine Aa (Af ?_);refine Am (Le (h:=Ac (by simp only[zl,zm,zd,Au,List.take,List.drop,CM.row,roD,roD,roD,roD,roD,roD,zz9]<;>exact rfl) ?_));refine xo9 (h:=Ac (by simp only[zl,zm,List.replicate,snapVs,Bh,zs,CM.row]<;>exact rfl) ?_);apply Ac (by simp only[Ar,aop,LOp.loud,lop,if_true,opd,zv];exact Nh (gF x i) (by simp only[gF,hbk];rfl) ((qZ _).trans hKg) xw (by omega) _);apply Ac (by simp only[zo,Cj,zm,CM.row,zz9]<;>exact rfl);apply Ac (by simp only[zl,zm,Bg,overlay,zc,List.take,List.drop,CM.row,roD,gs_v,gs_s,xq,roD,roD,roD,roD,roD,zz9]<;>exact rfl);refine Aa (D8 (Af ?_));refine Am (Ae rfl (Ac (by simp only[zo,Bf,CM.row,zz8]<;>exact rfl) ?_));refine Ag rfl (Aa (Gh (by simp only[ze]<;>exact rfl) ?_));exact⟨x.ctl+1-(i+1),by omega,i+1,_,gs++[gF x i],_,_,_,_,_,_,_,_,_,_,_,_,_,_,_,_,_,by omega,rfl,rfl,(by rw[CM.gl,CM.gf,if_pos yX,←Lo_,←Lo_,yN]),hK.step (gF x i) _ (by omega),(by rw[La_ (by simp only[List.length_set];exact Ha wE),Ln_ (by omega),Ln_ (by omega)];exact wE),rfl⟩
   have hbk:x.blk i=false:=zG;refine Ak (Bi rfl (Am (Le (h:=Ac (by simp only[zl,zm,zd,Au,List.take,List.drop,CM.row,roD,roD,roD,roD,roD,roD,zz9]<;>exact rfl) ?_))));refine xo9 (h:=xo40 (h:=Ac (by simp only[Ar,aop,LOp.loud,lop,if_true,opd,zv];exact Nh (gF x i) (by simp only[gF,hbk];rfl) ((qZ _).trans hKg) xw (by omega) _) ?_));apply Ac (by simp only[zo,Cj,zm,CM.row,zz9]<;>exact rfl);apply Ac (by simp only[zl,zm,Bg,overlay,List.take,List.drop,CM.row,roD,gs_v,gs_s,xq,roD,roD,roD,roD,roD,zz9]<;>exact rfl);refine Aa (D8 (Af ?_));refine Am (Ae rfl (Ac (by simp only[zo,Bf,CM.row,zz8]<;>exact rfl) ?_));refine Ag rfl (Aa (Gh (by simp only[ze]<;>exact rfl) ?_));exact⟨x.ctl+1-(i+1),by omega,i+1,_,gs++[gF x i],_,_,_,_,_,_,_,_,_,_,_,_,_,_,_,_,_,by omega,rfl,rfl,(by rw[CM.gl,CM.gf,if_pos yX,←Lo_,←Lo_,yN]),hK.step (gF x i) _ (by omega),(by rw[La_ (by simp only[List.length_set];exact Ha wE),Ln_ (by omega),Ln_ (by omega)];exact wE),rfl⟩
  refine Ak (D8 (Bi rfl (Am (Ae rfl (Ac (by simp only[zo,Bf,CM.row,zz8]<;>exact rfl) ?_)))));refine Ag rfl (Aa (Gh (by simp only[ze]<;>exact rfl) ?_));exact⟨x.ctl+1-(i+1),by omega,i+1,K,gs,_,_,_,_,_,_,_,_,_,_,_,_,_,_,_,_,_,by omega,rfl,rfl,(by rw[CM.gl,CM.gf,if_neg (by rw[yX];decide),List.append_nil,←Lo_,yN]),hK,wE,rfl⟩
 have hi':i=x.ctl+1:=by have:=of_decide_eq_false wL;omega
 subst hi';have hgl3:gs.length≤11:=by rw[yN];have h9:=Wy x;have h8:=gl_len x (x.ctl+1);have h6:x.ctl<3:=Nat.mod_lt _ (by decide);simp only[Ll_]at h9 ⊢;omega
 refine Dh (Gj (Hu (Gl (Bi rfl ?_))));refine Ig (fun env S'=>∃(K:List Z9) (gs:List GrM) (u4 u5 u6 u7 u8 u9 u10 u11 u12 u13 u14 u15 u16 u17 u18 u19 u20 u21 u22:D),S'=⟨K,0⟩∧gs=[gD1 x,gD2]++x.g1++x.g2++x.gl (x.ctl+1)++x.g8∧OfK x B.length K C T (gs)∧env=[.agg x.row,.cptr x.row 0,.ptr 0 0 0 0,.ptr 1 0 0 0,u4,u5,u6,u7,u8,u9,u10,u11,u12,u13,u14,u15,u16,u17,u18,u19,u20,u21,u22]) ?_ ?_
 ·
  refine Ad (xo9 (h:=Ac (by simp only[zo,CM.row];exact Jb (by omega) _ x 8 (by omega)) ?_));apply Ag rfl;refine G9 0 (by simp only[zv]<;>exact rfl) (by simp only[zn]<;>exact rfl) (by simp only[zn]<;>exact rfl) (fun zN=>?_) (fun zN=>?_)
  ·
   refine Ap rfl (xo9 (h:=?_));refine Ap rfl (Ac (by simp only[zo,CM.row];exact L6 (by omega) _ x) ?_);apply Ac (by simp only[zo,CM.row]<;>exact rfl);refine Aa (Af ?_);refine Bj (by simp only[opd,zv,CM.row]<;>exact rfl) (fun wB=>?_) (fun wB=>?_)
   ·
    refine Eh ?_;refine xo29 (h:=Dc (by simp only[zl,zm,zd,Au,List.take,List.drop,CM.row,roD,roD,roD,roD,roD,zz7]<;>exact rfl) (by simp only[fpHere,zo,zq,Eo]<;>exact rfl) rfl ?_);apply Dc (by simp only[zo,CM.row];exact Ic (by omega) _ 1 (l:=[66]) (by decide) (by decide)) (by simp only[fpHere,zo,zq,Eo]<;>exact rfl) rfl;apply Dc (by simp only[zl,zm,zd,Au,List.drop,CM.row,oNI,oNI,oNI,zz7]<;>exact rfl) (by simp only[fpHere,zo,zq,Eo]<;>exact rfl) rfl;apply Dc (by simp only[zl,List.replicate,snapVs,zs,CM.row]<;>exact rfl) (by simp only[fpHere,zo,zq,Eo]<;>exact rfl) rfl;refine Qr (h:=Dc (by simp only[zl,zm,C9,List.replicate,snapVs,Bh,zs,zc,zf,CM.row]<;>exact rfl) (by simp only[fpHere,zo,zq,Eo]<;>exact rfl) rfl ?_);refine Qr (h:=Dc (by simp only[zl,zm,C9,List.replicate,snapVs,Bh,zs,zc,zf,CM.row]<;>exact rfl) (by simp only[fpHere,zo,zq,Eo]<;>exact rfl) rfl ?_);apply Dc (by simp only[Ar,aop,LOp.loud,lop,if_true,opd,zv];exact Nh gPF rfl hKg xw (by omega) _) (by simp only[fpHere,zo,zq,Eo,Sj,Ij]<;>exact rfl) rfl;refine xo29 (h:=Dc (by simp only[zl,zm,Bg,overlay,zc,List.take,List.drop,CM.row,roD,gs_v,gs_s,xq,roD,roD,roD,roD,zz7]<;>exact rfl) (by simp only[fpHere,zo,zq,Eo]<;>exact rfl) rfl ?_);refine Ce (Gy (by simp only[ze]<;>exact rfl) ?_);have h21:(x.has 8&&x.paged)=true:=by rw[zN,wB];rfl
    exact⟨_,gs++[gPF],_,_,_,_,_,_,_,_,_,_,_,_,_,_,_,_,_,_,_,rfl,(by rw[CM.g8,if_pos h21,yN]),(by have:=hK.step gPF [] (by omega);rwa [List.append_nil]at this),rfl⟩
   refine Ak (Gy rfl ?_);have h21:(x.has 8&&x.paged)=false:=by rw[zN,wB];rfl
   exact⟨K,gs,_,_,_,_,_,_,_,_,_,_,_,_,_,_,_,_,_,_,_,rfl,(by rw[CM.g8,if_neg (by rw[h21];decide),List.append_nil,yN]),hK,rfl⟩
  refine Cm rfl rfl (Cm rfl rfl (Ac (by simp only[zo,CM.row]<;>exact rfl) ?_));refine Aa (Af ?_);apply Be (by simp only[opd,zv,CM.row]);refine Ak (Gy rfl ?_);have h21:(x.has 8&&x.paged)=false:=by rw[zN];rfl
  exact⟨K,gs,_,_,_,_,_,_,_,_,_,_,_,_,_,_,_,_,_,_,_,rfl,(by rw[CM.g8,if_neg (by rw[h21];decide),List.append_nil,yN]),hK,rfl⟩
 rintro env S' ⟨K,gs,u4,u5,u6,u7,u8,u9,u10,u11,u12,u13,u14,u15,u16,u17,u18,u19,u20,u21,u22,rfl,yN,hK,rfl⟩;have h1:=hK.h1;have hKg:=hK.hg;have hKl:=hK.hl;have xw:=hK.ne;have hA:∀l,(K++l)[1]?=K[1]?:=fun l=>La_ (by omega);have qZ:∀l,(K++l)[B.length+3]?=K[B.length+3]?:=fun l=>La_ (by omega);have hSg:∀o l,(K++l).set (B.length+3) o=K.set (B.length+3) o++l:=fun o l=>List.set_append_left _ _ (by omega);have zQ:∀o,(K.set (B.length+3) o)[1]?=K[1]?:=fun o=>Ln_ (by omega);have yR:∀o l,(K.set (B.length+3) o++l)[1]?=K[1]?:=fun o l=>by rw[La_ (by simp;omega),zQ]
 have hS1:∀o o' l,(K.set (B.length+3) o++l).set 1 o'=(K.set (B.length+3) o).set 1 o'++l:=fun o o' l=>List.set_append_left _ _ (by simp;omega);have hgl4:gs.length≤12:=by rw[yN];have h9:=Wy x;have h8:=gl_len x (x.ctl+1);have h6:x.ctl<3:=Nat.mod_lt _ (by decide);have h7:x.g8.length≤1:=by { unfold CM.g8;split<;>simp };simp only[Ll_]at h9 ⊢;omega
 have zz10:=aI h1 (aI hA (aI qZ (aI hSg (aI zQ (aI yR (aI hS1 (@List.length_set.{0})))))));refine Ig (fun env S'=>∃(K:List Z9) (gs:List GrM) (u4 u5 u6 u7 u8 u9 u10 u11 u12 u13 u14 u15 u16 u17 u18 u19 u20 u21 u22:D),S'=⟨K,0⟩∧gs=[gD1 x,gD2]++x.g1++x.g2++x.gl (x.ctl+1)++x.g8++x.g9∧OfK x B.length K C T (gs)∧env=[.agg x.row,.cptr x.row 0,.ptr 0 0 0 0,.ptr 1 0 0 0,u4,u5,u6,u7,u8,u9,u10,u11,u12,u13,u14,u15,u16,u17,u18,u19,u20,u21,u22]) ?_ ?_
 ·
  refine Ad (xo9 (h:=Ac (by simp only[zo,CM.row];exact Jb (by omega) _ x 9 (by omega)) ?_));refine Aa (Af ?_);refine Bj (by simp only[opd,zv,CM.row]<;>exact rfl) (fun wz=>?_) (fun wz=>?_)
  ·
   refine Eh ?_;refine xo29 (h:=Dc (by simp only[zl,zm,zd,Au,List.take,List.drop,CM.row,roD,roD,roD,roD,roD,roD,zz10]<;>exact rfl) (by simp only[fpHere,zo,zq,Eo]<;>exact rfl) rfl ?_);apply Dc (by simp only[zo,CM.row];exact Ic (by omega) _ 1 (l:=[82,70]) (by decide) (by decide)) (by simp only[fpHere,zo,zq,Eo]<;>exact rfl) rfl;apply Dc (by simp only[zl,List.replicate,snapVs,zs,CM.row]<;>exact rfl) (by simp only[fpHere,zo,zq,Eo]<;>exact rfl) rfl;refine Qr (h:=Dc (by simp only[zl,zm,C9,List.replicate,snapVs,Bh,zs,zc,zf,CM.row]<;>exact rfl) (by simp only[fpHere,zo,zq,Eo]<;>exact rfl) rfl ?_);refine Qr (h:=Dc (by simp only[zl,zm,C9,List.replicate,snapVs,Bh,zs,zc,zf,CM.row]<;>exact rfl) (by simp only[fpHere,zo,zq,Eo]<;>exact rfl) rfl ?_);apply Dc (by simp only[Ar,aop,LOp.loud,lop,if_true,opd,zv];exact Nh gRF rfl hKg xw (by omega) _) (by simp only[fpHere,zo,zq,Eo,Sj,Ij]<;>exact rfl) rfl;refine xo29 (h:=Dc (by simp only[zl,zm,Bg,overlay,zc,List.take,List.drop,CM.row,roD,gs_v,gs_s,xq,roD,roD,roD,roD,roD,zz10]<;>exact rfl) (by simp only[fpHere,zo,zq,Eo]<;>exact rfl) rfl ?_);refine Ce (Gy (by simp only[ze]<;>exact rfl) ?_);exact⟨_,gs++[gRF],_,_,_,_,_,_,_,_,_,_,_,_,_,_,_,_,_,_,_,rfl,(by rw[CM.g9,if_pos wz,yN]),(by have:=hK.step gRF [] (by omega);rwa [List.append_nil]at this),rfl⟩
  refine Ak (Gy rfl ?_);exact⟨K,gs,_,_,_,_,_,_,_,_,_,_,_,_,_,_,_,_,_,_,_,rfl,(by rw[CM.g9,if_neg (by rw[wz];decide),List.append_nil,yN]),hK,rfl⟩
 rintro env S' ⟨K,gs,u4,u5,u6,u7,u8,u9,u10,u11,u12,u13,u14,u15,u16,u17,u18,u19,u20,u21,u22,rfl,yN,hK,rfl⟩;have h1:=hK.h1;have hKg:=hK.hg;have hKl:=hK.hl;have xw:=hK.ne;have hA:∀l,(K++l)[1]?=K[1]?:=fun l=>La_ (by omega);have qZ:∀l,(K++l)[B.length+3]?=K[B.length+3]?:=fun l=>La_ (by omega);have hSg:∀o l,(K++l).set (B.length+3) o=K.set (B.length+3) o++l:=fun o l=>List.set_append_left _ _ (by omega);have zQ:∀o,(K.set (B.length+3) o)[1]?=K[1]?:=fun o=>Ln_ (by omega);have yR:∀o l,(K.set (B.length+3) o++l)[1]?=K[1]?:=fun o l=>by rw[La_ (by simp;omega),zQ]
 have hS1:∀o o' l,(K.set (B.length+3) o++l).set 1 o'=(K.set (B.length+3) o).set 1 o'++l:=fun o o' l=>List.set_append_left _ _ (by simp;omega);have h0:=hK.h0;have hK0:∀o,(K.set 0 o)[0]?=some o:=fun o=>List.getElem?_set_self (by omega);have zz11:=aI h1 (aI hA (aI qZ (aI hSg (aI zQ (aI yR (aI hS1 (aI @List.length_set.{0} (aI h0 (hK0)))))))));refine Ad (Ac (by simp only[zl,zm,zd,Au,List.take,List.drop,CM.row,roD,roD,roD,roD,roD,roD,roD,zz11]<;>exact rfl) ?_);apply Ac (by simp only[zl,zm,Bg,overlay,Bh,zs,zc,zf,List.take,List.drop,CM.row,gs_c,xq,zz11]<;>exact rfl);refine Aa (Af ?_);apply A7;refine⟨_,by simp only[F10,resultD,Ba,resD,zg,zd,rowsOf,Au,List.take,List.drop,zm,hK0]<;>exact rfl,?_⟩;have hg9:gs=x.grps:=yN;subst hg9;have hfin:=fun o m=>hK.fin o m;simp only[leaveP,leave,Xw,Ua,Bool.false_eq_true,if_false,List.length_nil,Nat.min_self,Nat.le_refl,if_true];rw[hfin];simp only[Option.map_some,Yb,rep_free,if_true]
theorem of_run{d:Nat}(hd:18≤d)(S:St)(x:CM):Bd LP NN d 10 [.agg x.row] S=some (.agg (x.rep false),S,false):=by
 refine rq (F:=F10) rfl (by simp only[LP,snapVs,Bh,zs,zm,CM.row]<;>exact rfl) (by simp only[F10,zv]<;>exact rfl) ?_;rintro d rfl;exact of_pre (by omega) x (fun B C T u4 u5 u6 u7 u8 u9 u10 u11 u12 u13 u14 u15 u16 u17 u18 u19 u20 u21 u22 hB=>of_tail (by omega) x S B C T u4 u5 u6 u7 u8 u9 u10 u11 u12 u13 u14 u15 u16 u17 u18 u19 u20 u21 u22 hB)
theorem Xn(e sz bytes kind:Nat)(hk:kind≠0){rows:List (List D)}(hr:rows.length≠0)(hb:rows.length*bytes≤140737488355328)(c:Option Nat)(S:St) :
  Dj e sz bytes kind (.sl sz [] (some 0)) (.sl sz rows c) S=some (.msl S.heap.length 0 0 rows.length none,newAt S ⟨e,sz,rows,0,kind,true⟩,true):=by
 have h1:rows.isEmpty=false:=by cases rows with | nil=>simp at hr | cons a l=>rfl
 simp[Dj,hk,Dn,Bo,h1,hb]
theorem app_new0(e sz bytes:Nat){rows:List (List D)}(hb:rows.length*bytes≤140737488355328)(c:Option Nat)(K:List Z9) :
  Dj e sz bytes 0 (.msl K.length 0 0 0 none) (.sl sz rows c) ⟨K++[⟨e,sz,[],0,0,false⟩],K.length⟩=some (.msl K.length 1 0 rows.length none,⟨K++[⟨e,sz,rows,1,0,true⟩],K.length⟩,true):=by
 simp[Dj,Ik,Bo,rowsOf,setAt,hb]
theorem clone68_run{d:Nat}(hd:1≤d)(S:St)(rows:List (List D))(hr:rows.length≠0)(xR:rows.length≤1000)(c:Option Nat):Bd LP NN d 68 [.sl 11 rows c] S=some (.sl 11 rows none,S,false):=by
 refine rq (F:=F68) rfl (by simp only[LP,snapVs,zs,zm]<;>exact rfl) (by simp only[F68,zv]<;>exact rfl) ?_;rintro d rfl;refine Ad (Aw (Aa (Af ?_)));refine Ai (Ad (Ae rfl (Xq (h:=?_))));refine Aa (Af ?_);refine Dw ?_;refine Ak (Bi rfl (Ad (xo48 (h:=Ae rfl (Ac (by simp only[Ar,aop,LOp.loud,lop,if_true,opd,zv];exact Xn 64 11 56 1 (by decide) hr (by omega) c _) ?_)))));refine Ag rfl (Aa (Af ?_));apply A7;refine⟨_,by simp only[F68,resultD,Ba,resD,zg,zm]<;>exact rfl,?_⟩;simp[leaveP,leave,Aae,Aac,snap,newAt,D.Aad,D.freeV,D.free];rfl
theorem clone69_run{d:Nat}(hd:1≤d)(S:St)(rows:List (List D))(hr:rows.length≠0)(xR:rows.length≤1000)(c:Option Nat):Bd LP NN d 69 [.sl 1 rows c] S=some (.sl 1 rows none,S,false):=by
 refine rq (F:=F69) rfl (by simp only[LP,snapVs,zs,zm]<;>exact rfl) (by simp only[F69,zv]<;>exact rfl) ?_;rintro d rfl;refine Ad (Aw (Aa (Af ?_)));refine Ai (Ad (Ae rfl (Xq (h:=?_))));refine Aa (Af ?_);refine Dw ?_;refine Ak (Bi rfl (Ad (xo48 (h:=Ae rfl (Ac (by simp only[Ar,aop,LOp.loud,lop,if_true,opd,zv];exact Xn 3 1 8 1 (by decide) hr (by omega) c _) ?_)))));refine Ag rfl (Aa (Af ?_));apply A7;refine⟨_,by simp only[F69,resultD,Ba,resD,zg,zm]<;>exact rfl,?_⟩;simp[leaveP,leave,Aae,Aac,snap,newAt,D.Aad,D.freeV,D.free];rfl
theorem clone69_nil{d:Nat}(hd:1≤d)(S:St):Bd LP NN d 69 [.nils] S=some (.nils,S,false):=by
 refine rq (F:=F69) rfl (by simp only[LP,snapVs,zs,zm]<;>exact rfl) (by simp only[F69,zv]<;>exact rfl) ?_;rintro d rfl;refine Ad (Aw (Aa (Af ?_)));refine Ai (Ad (Ae rfl (Xq (h:=?_))));refine Aa (Af ?_);refine Ja ?_;refine Ad (Aw (Aa (Af ?_)));refine A7 (Nu ?_);refine⟨_,by simp only[F69,resultD,Ba,resD,zg]<;>exact rfl,?_⟩;simp only[leaveP,leave,zs,zf,zk]
theorem clone70_run{d:Nat}(hd:1≤d)(S:St)(rows:List (List D))(hr:rows.length≠0)(xR:rows.length≤1000)(c:Option Nat):Bd LP NN d 70 [.sl 2 rows c] S=some (.sl 2 rows none,S,false):=by
 refine rq (F:=F70) rfl (by simp only[LP,snapVs,zs,zm]<;>exact rfl) (by simp only[F70,zv]<;>exact rfl) ?_;rintro d rfl;refine Ad (Aw (Aa (Af ?_)));refine Ai (Ad (Ae rfl (Xq (h:=?_))));refine Aa (Af ?_);refine Dw ?_;refine Ak (Bi rfl (Ad (xo48 (h:=Ae rfl (Ac (by simp only[Ar,aop,LOp.loud,lop,if_true,opd,zv];exact Xn 67 2 16 1 (by decide) hr (by omega) c _) ?_)))));refine Ag rfl (Aa (Af ?_));apply A7;refine⟨_,by simp only[F70,resultD,Ba,resD,zg,zm]<;>exact rfl,?_⟩;simp[leaveP,leave,Aae,Aac,snap,newAt,D.Aad,D.freeV,D.free];rfl
theorem clone74_run{d:Nat}(hd:1≤d)(S:St)(rows:List (List D))(hr:rows.length≠0)(xR:rows.length≤1000)(c:Option Nat):Bd LP NN d 74 [.sl 1 rows c] S=some (.sl 1 rows none,S,false):=by
 refine rq (F:=F74) rfl (by simp only[LP,snapVs,zs,zm]<;>exact rfl) (by simp only[F74,zv]<;>exact rfl) ?_;rintro d rfl;refine Ad (Aw (Aa (Af ?_)));refine Ai (Ad (Ae rfl (Xq (h:=?_))));refine Aa (Af ?_);refine Dw ?_;refine Ak (Bi rfl (Ad (xo48 (h:=Ae rfl (Ac (by simp only[Ar,aop,LOp.loud,lop,if_true,opd,zv];exact Xn 5 1 1 1 (by decide) hr (by omega) c _) ?_)))));refine Ag rfl (Aa (Af ?_));apply A7;refine⟨_,by simp only[F74,resultD,Ba,resD,zg,zm]<;>exact rfl,?_⟩;simp[leaveP,leave,Aae,Aac,snap,newAt,D.Aad,D.freeV,D.free];rfl
theorem clone74_nil{d:Nat}(hd:1≤d)(S:St):Bd LP NN d 74 [.nils] S=some (.nils,S,false):=by
 refine rq (F:=F74) rfl (by simp only[LP,snapVs,zs,zm]<;>exact rfl) (by simp only[F74,zv]<;>exact rfl) ?_;rintro d rfl;refine Ad (Aw (Aa (Af ?_)));refine Ai (Ad (Ae rfl (Xq (h:=?_))));refine Aa (Af ?_);refine Ja ?_;refine Ad (Aw (Aa (Af ?_)));refine A7 (Nu ?_);refine⟨_,by simp only[F74,resultD,Ba,resD,zg]<;>exact rfl,?_⟩;simp only[leaveP,leave,zs,zf,zk]
theorem clone71_run{d:Nat}(hd:1≤d)(K:List Z9)(rows:List (List D))(xR:rows.length≤1000)(c:Option Nat):Bd LP NN d 71 [.sl 4 rows c] ⟨K,0⟩=some (.msl K.length 1 0 rows.length none,⟨K++[⟨71,4,rows,1,0,true⟩],0⟩,true):=by
 refine G8 (F:=F71) rfl (by simp only[LP,snapVs,zs,zm]<;>exact rfl) rfl (by simp only[LP,zf,zm];try rfl) (by simp only[F71,zv]<;>exact rfl) (by omega) ?_;rintro d rfl;refine Ad (Aw (Aa (Af ?_)));refine Ai (Ad (Ae rfl (Xq (h:=?_))));refine Aa (Af ?_);refine Dw ?_;refine Ak (Bi rfl (Ad (xo72 (h:=Ae rfl (Ac (by simp only[Ar,aop,LOp.loud,lop,if_true,opd,zv];exact app_new0 71 4 48 (by omega) c _) ?_)))));refine Ag rfl (Aa (Af ?_));apply A7;refine⟨_,by simp only[F71,resultD,Ba,resD,zg]<;>exact rfl,?_⟩;simp[leave,Aae,Aac,snap,D.Aad,D.freeV,D.free];intro _;rfl
theorem clone72_run{d:Nat}(hd:1≤d)(K:List Z9)(rows:List (List D))(xR:rows.length≤1000)(c:Option Nat):Bd LP NN d 72 [.sl 2 rows c] ⟨K,0⟩=some (.msl K.length 1 0 rows.length none,⟨K++[⟨74,2,rows,1,0,true⟩],0⟩,true):=by
 refine G8 (F:=F72) rfl (by simp only[LP,snapVs,zs,zm]<;>exact rfl) rfl (by simp only[LP,zf,zm];try rfl) (by simp only[F72,zv]<;>exact rfl) (by omega) ?_;rintro d rfl;refine Ad (Aw (Aa (Af ?_)));refine Ai (Ad (Ae rfl (Xq (h:=?_))));refine Aa (Af ?_);refine Dw ?_;refine Ak (Bi rfl (Ad (xo72 (h:=Ae rfl (Ac (by simp only[Ar,aop,LOp.loud,lop,if_true,opd,zv];exact app_new0 74 2 32 (by omega) c _) ?_)))));refine Ag rfl (Aa (Af ?_));apply A7;refine⟨_,by simp only[F72,resultD,Ba,resD,zg]<;>exact rfl,?_⟩;simp[leave,Aae,Aac,snap,D.Aad,D.freeV,D.free];intro _;rfl
theorem clone73_run{d:Nat}(hd:1≤d)(K:List Z9)(rows:List (List D))(xR:rows.length≤1000)(c:Option Nat):Bd LP NN d 73 [.sl 15 rows c] ⟨K,0⟩=some (.msl K.length 1 0 rows.length none,⟨K++[⟨82,15,rows,1,0,true⟩],0⟩,true):=by
 refine G8 (F:=F73) rfl (by simp only[LP,snapVs,zs,zm]<;>exact rfl) rfl (by simp only[LP,zf,zm];try rfl) (by simp only[F73,zv]<;>exact rfl) (by omega) ?_;rintro d rfl;refine Ad (Aw (Aa (Af ?_)));refine Ai (Ad (Ae rfl (Xq (h:=?_))));refine Aa (Af ?_);refine Dw ?_;refine Ak (Bi rfl (Ad (xo72 (h:=Ae rfl (Ac (by simp only[Ar,aop,LOp.loud,lop,if_true,opd,zv];exact app_new0 82 15 104 (by omega) c _) ?_)))));refine Ag rfl (Aa (Af ?_));apply A7;refine⟨_,by simp only[F73,resultD,Ba,resD,zg]<;>exact rfl,?_⟩;simp[leave,Aae,Aac,snap,D.Aad,D.freeV,D.free];intro _;rfl
theorem clone73_nil{d:Nat}(hd:1≤d)(K:List Z9):Bd LP NN d 73 [.nils] ⟨K,0⟩=some (.nils,⟨K,0⟩,false):=by
 refine G8 (F:=F73) rfl (by simp only[LP,snapVs,zs,zm]<;>exact rfl) rfl (by simp only[LP,zf,zm];try rfl) (by simp only[F73,zv]<;>exact rfl) (by omega) ?_;rintro d rfl;refine Ad (Aw (Aa (Af ?_)));refine Ai (Ad (Ae rfl (Xq (h:=?_))));refine Aa (Af ?_);refine Ja ?_;refine Ad (Aw (Aa (Af ?_)));refine A7 (Nu ?_);refine⟨_,by simp only[F73,resultD,Ba,resD,zg]<;>exact rfl,?_⟩;simp[leave,Aae,Aac,snap,D.Aad,D.freeV,D.free];rfl
def ItT (r:List D):Prop:=r.length=15∧r.all D.free=true∧(r[13]?=some .nils∨∃l:List (List D),r[13]?=some (.sl 1 l none)∧l.length≠0∧l.length≤1000)
def itO (items:List (List D)):Z9:=⟨82,15,items,1,0,true⟩
def lnO (M:List (List D)):Z9:=⟨74,2,M,1,0,true⟩
def grO (R:List (List D)):Z9:=⟨71,4,R,1,0,true⟩
def ItF (H:List Z9) (d:D) (items:List (List D)):Prop:=(items.length=0∧d=.nils)∨(items.length≠0∧∃g,d=.msl g 1 0 items.length none∧H[g]?=some (itO items))
def LnF (H:List Z9) (r:List D) (l:LnM):Prop:=∃d,r=[.int .i64 (l.plus:Nat),d]∧ItF H d l.items
def LsF (H:List Z9) (d:D) (ls:List LnM):Prop:=∃(g:Nat) (M:List (List D)),d=.msl g 1 0 ls.length none∧H[g]?=some (lnO M)∧M.length=ls.length∧∀(j:Nat) (l:LnM),ls[j]?=some l→∃r,M[j]?=some r∧LnF H r l
def GrF (H:List Z9) (r:List D) (g:GrM):Prop:=∃d,r=[.int .u8 (g.kind:Nat),.int .i64 (g.level:Nat),.bool g.np,d]∧LsF H d g.lines
def LnOK (l:LnM):Prop:=l.items.length≤100∧∀r∈l.items,ItT r
def Xo (g:GrM):Prop:=g.lines.length≠0∧g.lines.length≤100∧∀l∈g.lines,LnOK l
theorem ItF.mono{H H':List Z9}{d:D}{items:List (List D)}(h:ItF H d items)(hm:∀(j:Nat) (o:Z9),H[j]?=some o→o.elem=82→H'[j]?=some o):ItF H' d items:=by
 rcases h with h | ⟨h,g,h1,h2⟩
 ·
  exact .inl h
 exact .inr ⟨h,g,h1,hm g _ h2 rfl⟩
theorem LnF.mono{H H':List Z9}{r:List D}{l:LnM}(h:LnF H r l)(hm:∀(j:Nat) (o:Z9),H[j]?=some o→o.elem=82→H'[j]?=some o):LnF H' r l:=by
 obtain⟨d,h1,h2⟩:=h;exact⟨d,h1,h2.mono hm⟩
theorem GrF.mono{H H':List Z9}{r:List D}{g:GrM}(h:GrF H r g)(hm:∀(j:Nat) (o:Z9),H[j]?=some o→o.elem=82∨o.elem=74→H'[j]?=some o):GrF H' r g:=by
 obtain⟨d,h1,k,M,h2,h3,h4,h5⟩:=h;refine⟨d,h1,k,M,h2,hm k _ h3 (.inr rfl),h4,fun j l hl=>?_⟩;obtain⟨r',h6,h7⟩:=h5 j l hl;exact⟨r',h6,h7.mono fun j o hj he=>hm j o hj (.inl he)⟩
theorem store_same{H:List Z9}{g v i o:Nat}{t:D}{ob:Z9}{row:List D}(h:H[g]?=some ob)(hv:ob.ver=v)(hk:ob.kind=0)(hr:ob.rows[i]?=some row)(ht:row[o]?=some t)(hc:t.Aag=true)(vJ:t.cells=[t])(hvl:t.val=true):Bg 1 ⟨H,0⟩ (.ptr g v i o) t=some ⟨H,0⟩:=by
 have ho:o<row.length:=(List.getElem?_eq_some_iff.1 ht).1
 have e1:overlay row o [t]=row:=by
  rw[overlay];have:row[o]?=some t:=ht;refine List.ext_getElem? fun j=>?_;rw[List.getElem?_append,List.length_take,Nat.min_eq_left (by omega)];by_cases hj:j<o
  ·
   rw[if_pos hj,List.getElem?_take_of_lt hj]
  rw[if_neg hj];by_cases hj2:j=o
  ·
   subst hj2;simp[ht]
  obtain⟨k,rfl⟩:∃k,j=o+1+k:=⟨j-o-1,by omega⟩;rw[show o+1+k-o=k+1 by omega];simp
 have e2:ob.rows.set i row=ob.rows:=by
  refine List.ext_getElem? fun j=>?_;rw[List.getElem?_set];by_cases hj:i=j
  ·
   subst hj;rw[if_pos rfl,if_pos (List.getElem?_eq_some_iff.1 hr).1,hr]
  rw[if_neg hj]
 simp only[Bg,rowsOf,h,hv,if_true,hr,hk,hvl,vJ,List.length_cons,List.length_nil,e1,e2,setAt];simp[Nat.succ_le_of_lt ho];rw[show (⟨ob.elem,ob.sz,ob.rows,v,0,ob.grow⟩:Z9)=ob by rw[←hv,←hk]];exact set_id h
theorem ItT.clone{d:Nat}(hd:1≤d){r:List D}(h:ItT r):∃t,r[13]?=some t∧t.Aag=true∧t.cells=[t]∧t.val=true∧Aab t=true∧∀S,Bd LP NN d 74 [t] S=some (t,S,false):=by
 obtain⟨h1,h2,h3 | ⟨l,h3,h4,h5⟩⟩:=h
 ·
  exact⟨.nils,h3,rfl,rfl,rfl,rfl,fun S=>clone74_nil hd S⟩
 exact⟨_,h3,rfl,rfl,rfl,rfl,fun S=>clone74_run hd S l h4 h5 none⟩
theorem clone73_ex{d:Nat}(hd:1≤d)(K:List Z9)(items:List (List D))(hl:items.length≤100)(c:Option Nat):∃e l wr,Bd LP NN d 73 [slB false 15 items c] ⟨K,0⟩=some (e,⟨K++l,0⟩,wr)∧ItF (K++l) e items∧e.Aag=true∧e.cells=[e]∧e.val=true∧lenD false e=some (.int .i64 (items.length:Nat)):=by
 by_cases h:items.length=0
 ·
  rw[List.length_eq_zero_iff.1 h];exact⟨.nils,[],false,by rw[List.append_nil];exact clone73_nil hd K,.inl ⟨rfl,rfl⟩,rfl,rfl,rfl,rfl⟩
 rw[Gm h];exact⟨_,_,_,clone73_run hd K items (by omega) _,.inr ⟨h,K.length,rfl,by simp[itO]⟩,rfl,rfl,rfl,rfl⟩
theorem mapM_some{α β:Type}{f:α→Option β}:∀{l:List α} {l':List β},l.length=l'.length→(∀(j:Nat) (a:α),l[j]?=some a→∃b,l'[j]?=some b∧f a=some b)→l.mapM f=some l'
 | [],[],_,_=>rfl
 | a::l,b::l',h1,h2=>by
  obtain⟨b',hb,hf⟩:=h2 0 a rfl;obtain rfl:b'=b:=by simpa using hb.symm
  have:=mapM_some (l:=l) (l':=l') (by simpa using h1) (fun j a' ha=>h2 (j+1) a' (by simpa using ha));simp[List.mapM_cons,hf,this]
theorem ItF.snap{H:List Z9}{d:D}{items:List (List D)}(h:ItF H d items)(hi:∀r∈items,ItT r)(k:Nat)(c:Option Nat):I5 0 H (k+1) d=some (slB true 15 items c):=by
 rcases h with⟨h,rfl⟩ | ⟨h,g,rfl,h2⟩
 ·
  rw[List.length_eq_zero_iff.1 h];rfl
 rw[Ov,h2,Gm h]
 have e:items.mapM (fun r=>r.mapM (I5 0 H k))=some items:=mapM_some rfl (fun j r hr=>⟨r,hr,mapM_some rfl (fun i x hx=>⟨x,hx,by
  have hfx:x.free=true:=List.all_eq_true.1 (hi r (Lm hr)).2.1 x (Lm hx);rw[Oc]
  ·
   cases x<;>first | rfl | (simp[D.free,D.Aah]at hfx)
  rintro g v lo n cap rfl
  simp[D.free,D.Aah]at hfx⟩)⟩)
 have e2:items.all (fun r=>r.all D.free)=true:=List.all_eq_true.2 fun r hr=>(hi r hr).2.1;simp only[itO,Nat.zero_le,and_self,if_true,List.drop_zero,List.take_length,e,e2]
theorem LnF.snap{H:List Z9}{r:List D}{l:LnM}(h:LnF H r l)(hi:LnOK l)(k:Nat):r.mapM (I5 0 H (k+1))=some (l.row true):=by
 obtain⟨d,rfl,h2⟩:=h;have e:=h2.snap hi.2 k l.cap;simp[List.mapM_cons,e,LnM.row];rfl
theorem LsF.snap{H:List Z9}{d:D}{ls:List LnM}(h:LsF H d ls)(xw:ls.length≠0)(hi:∀l∈ls,LnOK l)(k:Nat)(c:Option Nat):I5 0 H (k+2) d=some (slB true 2 (ls.map (LnM.row true)) c):=by
 obtain⟨g,M,rfl,h2,h3,h4⟩:=h;rw[Ov,h2,Gm (by simpa using xw)]
 have e:M.mapM (fun r=>r.mapM (I5 0 H (k+1)))=some (ls.map (LnM.row true)):=mapM_some (by simp[h3]) (fun j r hr=>by
  have hj:j<ls.length:=by rw[←h3];exact (List.getElem?_eq_some_iff.1 hr).1
  obtain⟨r',h5,h6⟩:=h4 j ls[j] (Lg hj);obtain rfl:r=r':=by simpa using hr.symm.trans h5
  exact⟨ls[j].row true,by simp[hj],h6.snap (hi _ (List.getElem_mem hj)) k⟩)
 have e2:(ls.map (LnM.row true)).all (fun r=>r.all D.free)=true:=List.all_eq_true.2 fun r hr=>by
  obtain⟨l,_,rfl⟩:=List.mem_map.1 hr;simp only[LnM.row,List.all_cons,List.all_nil,Gp,Ls,Bool.and_true]
 simp only[lnO,Nat.zero_le,and_self,if_true,List.drop_zero,←h3,List.take_length,e,e2]
theorem GrF.snap{H:List Z9}{r:List D}{g:GrM}(h:GrF H r g)(hi:Xo g)(k:Nat):r.mapM (I5 0 H (k+2))=some (g.row true):=by
 obtain⟨d,rfl,h2⟩:=h;have e:=h2.snap hi.1 hi.2.2 k g.cap;simp[List.mapM_cons,e,GrM.row];rfl
theorem grps_snap{H:List Z9}{R:List (List D)}{gs:List GrM}{b:Nat}(h:H[b]?=some (grO R))(xw:gs.length≠0)(hR:R.length=gs.length)(hg:∀(j:Nat) (g:GrM),gs[j]?=some g→∃r,R[j]?=some r∧GrF H r g)(hi:∀g∈gs,Xo g)(k:Nat):I5 0 H (k+3) (.msl b 1 0 gs.length none)=some (slB true 4 (gs.map (GrM.row true)) none):=by
 rw[Ov,h,Gm (by simpa using xw)]
 have e:R.mapM (fun r=>r.mapM (I5 0 H (k+2)))=some (gs.map (GrM.row true)):=mapM_some (by simp[hR]) (fun j r hr=>by
  have hj:j<gs.length:=by rw[←hR];exact (List.getElem?_eq_some_iff.1 hr).1
  obtain⟨r',h5,h6⟩:=hg j gs[j] (Lg hj);obtain rfl:r=r':=by simpa using hr.symm.trans h5
  exact⟨gs[j].row true,by simp[hj],h6.snap (hi _ (List.getElem_mem hj)) k⟩)
 have e2:(gs.map (GrM.row true)).all (fun r=>r.all D.free)=true:=List.all_eq_true.2 fun r hr=>by
  obtain⟨g,_,rfl⟩:=List.mem_map.1 hr;simp only[GrM.row,List.all_cons,List.all_nil,Gp,Ls,Pm,Bool.and_true]
 simp only[grO,Nat.zero_le,and_self,if_true,List.drop_zero,←hR,List.take_length,e,e2]
theorem Dq{d:D}(h:d.free=true)(m:Nat)(H:List Z9):snap m H d=some d:=by
 cases d<;>first | rfl | (simp[D.free,D.Aah]at h)
theorem snapD_free{d:D}(h:d.free=true)(m:Nat)(H:List Z9)(k:Nat):I5 m H k d=some d:=by
 cases k with
 | zero=>exact Dq h m H
 | succ k =>
  rw[Oc]
  ·
   exact Dq h m H
  rintro g v lo n cap rfl;simp[D.free,D.Aah]at h
def Cl (d:D):Prop:=d.Aag=true∧d.cells=[d]∧d.val=true∧d.free=true
theorem Cl.pv{d:D}(h:Cl d):Aab d=true:=by
 obtain⟨h1,_,_,h2⟩:=h
 cases d<;>first | rfl | (simp[D.free,D.Aah,D.Aag]at h1 h2;done)
def ZR7:List D:=[.nils,.nils,.int .i64 0,.int .i64 0,.int .i64 0,.nils,.nils]
def GrX (K:List Z9) (r?:Option (List D)) (g:GrM) (b:Bool):Prop:=if b then ∃r,r?=some r∧GrF K r g else r?=some (g.row false)
def LnX (K:List Z9) (r?:Option (List D)) (l:LnM) (b:Bool):Prop:=if b then ∃r,r?=some r∧LnF K r l else r?=some (l.row false)
structure OwK (gs:List GrM) (A C P F L T:D) (K:List Z9) (R:List (List D)) (i:Nat):Prop where
 h0:K[0]?=some ⟨37,7,[[A,C,P,F,L,.msl 2 1 0 gs.length none,T]],0,0,false⟩
 h1:K[1]?=some ⟨37,7,[ZR7],0,0,false⟩
 h2:K[2]?=some (grO R)
 hl:3≤K.length
 hR:R.length=gs.length
 hg:∀(j:Nat) (g:GrM),gs[j]?=some g→GrX K R[j]? g (decide (j<i))
structure OwL (K:List Z9) (ls:List LnM) (K2:List Z9) (M:List (List D)) (k:Nat):Prop where
 ag:∀j,j<K.length→K2[j]?=K[j]?
 hm:K2[K.length]?=some (lnO M)
 hl:K.length<K2.length
 hM:M.length=ls.length
 hg:∀(j:Nat) (l:LnM),ls[j]?=some l→LnX K2 M[j]? l (decide (j<k))
theorem GrX.mono{H H':List Z9}{r:Option (List D)}{g:GrM}{b:Bool}(h:GrX H r g b)(hm:∀(j:Nat) (o:Z9),H[j]?=some o→o.elem=82∨o.elem=74→H'[j]?=some o):GrX H' r g b:=by
 cases b with
 | true =>
  obtain⟨r',h1,h2⟩:=h;exact⟨r',h1,h2.mono hm⟩
 | false=>exact h
theorem LnX.mono{H H':List Z9}{r:Option (List D)}{l:LnM}{b:Bool}(h:LnX H r l b)(hm:∀(j:Nat) (o:Z9),H[j]?=some o→o.elem=82→H'[j]?=some o):LnX H' r l b:=by
 cases b with
 | true =>
  obtain⟨r',h1,h2⟩:=h;exact⟨r',h1,h2.mono hm⟩
 | false=>exact h
theorem OwL.first(K:List Z9)(ls:List LnM):OwL K ls (K++[lnO (ls.map (LnM.row false))]) (ls.map (LnM.row false)) 0 where
 ag j hj:=La_ hj
 hm:=by simp
 hl:=by simp
 hM:=by simp
 hg j l hj:=by simp[LnX,hj]
theorem OwL.step{K:List Z9}{ls:List LnM}{K2:List Z9}{M:List (List D)}{k:Nat}(h:OwL K ls K2 M k){l:LnM}(hk:ls[k]?=some l){d:D}{e:List Z9}(hd:ItF (K2++e) d l.items) :
  OwL K ls ((K2++e).set K.length (lnO (M.set k [.int .i64 (l.plus:Nat),d]))) (M.set k [.int .i64 (l.plus:Nat),d]) (k+1)∧ItF ((K2++e).set K.length (lnO (M.set k [.int .i64 (l.plus:Nat),d]))) d l.items:=by
 have hl:=h.hl
 have e1:∀(j:Nat) (o:Z9),(K2++e)[j]?=some o→o.elem=82→((K2++e).set K.length (lnO (M.set k [.int .i64 (l.plus:Nat),d])))[j]?=some o:=fun j o hj he=>by
  rw[Ln_,hj];rintro rfl;rw[La_ hl,h.hm]at hj;obtain rfl:=Option.some.inj hj;simp[lnO]at he
 have hd2:=hd.mono e1;refine⟨{ ag:=fun j hj=>?_,hm:=?_,hl:=by simp;omega,hM:=by simp[h.hM],hg:=fun j l' hj=>?_ },hd2⟩
 ·
  rw[Ln_ (by omega),La_ (by omega),h.ag j hj]
 ·
  rw[List.getElem?_set_self (by simp;omega)]
 have hkl:k<M.length:=by rw[h.hM];exact (List.getElem?_eq_some_iff.1 hk).1
 by_cases hjk:j=k
 ·
  subst hjk;obtain rfl:l=l':=by simpa using hk.symm.trans hj
  simp only[LnX,Nat.lt_succ_self,decide_true,if_true];exact⟨_,List.getElem?_set_self hkl,d,rfl,hd2⟩
 rw[Ln_ (Ne.symm hjk),show decide (j<k+1)=decide (j<k) from decide_eq_decide.2 (by omega)];exact ((h.hg j l' hj).mono fun j o hj' he=>by rw[La_ ((List.getElem?_eq_some_iff.1 hj').1)];exact hj').mono e1
theorem OwK.step{gs:List GrM}{A C P F L T:D}{K:List Z9}{R:List (List D)}{i:Nat}(h:OwK gs A C P F L T K R i){g:GrM}(hi:gs[i]?=some g){K2:List Z9}{M:List (List D)}(h2:OwL K g.lines K2 M g.lines.length) :
  OwK gs A C P F L T (K2.set 2 (grO (R.set i [.int .u8 (g.kind:Nat),.int .i64 (g.level:Nat),.bool g.np,.msl K.length 1 0 g.lines.length none]))) (R.set i [.int .u8 (g.kind:Nat),.int .i64 (g.level:Nat),.bool g.np,.msl K.length 1 0 g.lines.length none]) (i+1):=by
 have hl:=h.hl;have zF:=h2.hl
 have e1:∀(j:Nat) (o:Z9),K2[j]?=some o→o.elem=82∨o.elem=74→(K2.set 2 (grO (R.set i [.int .u8 (g.kind:Nat),.int .i64 (g.level:Nat),.bool g.np,.msl K.length 1 0 g.lines.length none])))[j]?=some o:=fun j o hj he=>by
  rw[Ln_,hj];rintro rfl;rw[h2.ag 2 (by omega),h.h2]at hj;obtain rfl:=Option.some.inj hj;simp[grO]at he
 have e0:∀(j:Nat) (o:Z9),K[j]?=some o→o.elem=82∨o.elem=74→K2[j]?=some o:=fun j o hj _=>by rw[h2.ag j (List.getElem?_eq_some_iff.1 hj).1];exact hj
 have hiR:i<R.length:=by rw[h.hR];exact (List.getElem?_eq_some_iff.1 hi).1
 exact {
  h0:=by rw[Ln_ (by omega),h2.ag 0 (by omega)];exact h.h0
  h1:=by rw[Ln_ (by omega),h2.ag 1 (by omega)];exact h.h1
  h2:=by rw[List.getElem?_set_self (by omega)]
  hl:=by simp;omega
  hR:=by simp[h.hR]
  hg := fun j g' hj => by
   by_cases hji:j=i
   ·
    subst hji;obtain rfl:g=g':=by simpa using hi.symm.trans hj
    simp only[GrX,Nat.lt_succ_self,decide_true,if_true];refine⟨_,List.getElem?_set_self hiR,_,rfl,K.length,M,rfl,?_,h2.hM,fun k l hk=>?_⟩
    ·
     exact e1 _ _ h2.hm (.inr rfl)
    have:=h2.hg k l hk;simp only[LnX,decide_eq_true (List.getElem?_eq_some_iff.1 hk).1,if_true]at this;obtain⟨r,h5,h6⟩:=this;exact⟨r,h5,h6.mono fun j o hj he=>e1 j o hj (.inl he)⟩
   rw[Ln_ (Ne.symm hji),show decide (j<i+1)=decide (j<i) from decide_eq_decide.2 (by omega)]
   exact ((h.hg j g' hj).mono e0).mono e1 }
theorem own_leave{gs:List GrM}{A C P F L T:D}{K:List Z9}{R:List (List D)}(hO:OwK gs A C P F L T K R gs.length)(ob:Z9)(xw:gs.length≠0)(yN:∀g∈gs,Xo g)(qA:Cl A)(qC:Cl C)(qT:Cl T)(qP:Cl P)(qF:Cl F)(qL:Cl L) :
  leaveD ⟨[],0⟩ ⟨[],0⟩ (.agg [A,C,P,F,L,.msl 2 1 0 gs.length none,T]) ⟨K.set 1 ob,0⟩=some (.agg [A,C,P,F,L,.sl 4 (gs.map (GrM.row true)) none,T],⟨[],0⟩,false):=by
 have e1:∀(j:Nat) (o:Z9),K[j]?=some o→o.elem=82∨o.elem=74→(K.set 1 ob)[j]?=some o:=fun j o hj he=>by
  rw[Ln_,hj];rintro rfl;rw[hO.h1]at hj;obtain rfl:=Option.some.inj hj;simp at he
 have e:=grps_snap (H:=K.set 1 ob) (b:=2) (by rw[Ln_ (by decide)];exact hO.h2) xw hO.hR (fun j g hj=>by
  have:=hO.hg j g hj;simp only[GrX,decide_eq_true (List.getElem?_eq_some_iff.1 hj).1,if_true]at this;obtain⟨r,h5,h6⟩:=this
  exact⟨r,h5,h6.mono e1⟩) yN 3
 rw[Gm (by simpa using xw)]at e;have qs:=fun {d:D} (h:Cl d)=>snapD_free h.2.2.2 0 (K.set 1 ob) 6;simp only[leaveD,List.length_nil,Nat.le_refl,if_true,snapDR,Xx,List.mapM_cons,List.mapM_nil,qs qA,qs qC,qs qT,qs qP,qs qF,qs qL,e,Option.bind_eq_bind,Option.bind_some,Option.pure_def,Option.map_some,D.Aad,D.freeV,List.all_cons,List.all_nil,qA.2.2.2,qC.2.2.2,qT.2.2.2,qP.2.2.2,qF.2.2.2,qL.2.2.2,W9,Bool.and_self]
theorem own_gen{d:Nat}(hd:3≤d)(S:St)(A A' C P F L T:D)(gs:List GrM)(qA:Cl A)(qB:Cl A')(qC:Cl C)(qT:Cl T)(qP:Cl P)(qF:Cl F)(qL:Cl L)(hn:gs.length≠0)(hn2:gs.length≤100)(yN:∀g∈gs,Xo g)
  (hA:∀d S,1≤d→Bd LP NN d 68 [A] S=some (A',S,false)) (hC:∀d S,1≤d→Bd LP NN d 69 [C] S=some (C,S,false)) (hT:∀d S,1≤d→Bd LP NN d 70 [T] S=some (T,S,false)) :
  Bd LP NN d 31 [.agg [A,C,P,F,L,.sl 4 (gs.map (GrM.row false)) none,T]] S=some (.agg [A',C,P,F,L,.sl 4 (gs.map (GrM.row true)) none,T],S,false):=by
 have pvA:=qA.pv;have pvA2:=qB.pv;have pvC:=qC.pv;have pvT:=qT.pv;have ⟨qA0,qA1,qA2,qA3⟩:=qA;have ⟨qB0,qB1,qB2,qB3⟩:=qB;have ⟨qC0,qC1,qC2,qC3⟩:=qC;have ⟨qT0,qT1,qT2,qT3⟩:=qT;have ⟨qP0,qP1,qP2,qP3⟩:=qP;have ⟨qF0,qF1,qF2,qF3⟩:=qF;have ⟨qL0,qL1,qL2,qL3⟩:=qL;refine run_deep (F:=F31) rfl (by simp only[LP,snapVs,Bh,zs,zm,Dq qA3,Dq qC3,Dq qT3,Dq qP3,Dq qF3,Dq qL3]<;>exact rfl) rfl (by simp only[LP,zf,zm,qA3,qC3,qT3,qP3,qF3,qL3];try rfl) (by simp only[F31,zv]<;>exact rfl) (by omega) ?_;rintro d rfl
 have hc71:∀K:List Z9,K.length=2→Bd LP NN d 71 [.sl 4 (gs.map (GrM.row false)) none] ⟨K,0⟩=some (.msl 2 1 0 gs.length none,⟨K++[grO (gs.map (GrM.row false))],0⟩,true):=fun K hK=>by
  have:=clone71_run (d:=d) (by omega) K (gs.map (GrM.row false)) (by simp;omega) none;rw[hK,List.length_map]at this;exact this
 have hO0:OwK gs A' C P F L T [⟨37,7,[[A',C,P,F,L,.msl 2 1 0 gs.length none,T]],0,0,false⟩,⟨37,7,[ZR7],0,0,false⟩,grO (gs.map (GrM.row false))] (gs.map (GrM.row false)) 0 :=
  { h0:=rfl,h1:=rfl,h2:=rfl,hl:=Nat.le_refl _,hR:=by simp,hg:=fun j g hj=>by simp[GrX,hj] }
 refine Ad (Ac (by simp only[zl,zm,zc,qA0,qC0,qT0,qP0,qF0,qL0]<;>exact rfl) ?_);refine Ko (h:=?_);refine Aa (Af ?_);refine Ai (Fb (by simp only[newsVals,zw,Nat.reduceAdd]<;>exact rfl) (by simp only[zw]<;>exact rfl) ?_);refine xo4 (h:=xo7 (h:=Az (by simp only[zo];exact hA _ _ (by omega)) rfl ?_));refine xo4 (h:=xo7 (h:=Az (by simp only[zo];exact hC _ _ (by omega)) rfl ?_));refine xo4 (h:=xo7 (h:=Az (by simp only[zo];exact hT _ _ (by omega)) rfl ?_));refine xo4 (h:=dw_g (by simp only[zl,zm,Bg,overlay,List.take,List.drop,qB1,qB2]<;>exact rfl) (hok:=by simp[show ob 1023 10=[true,true,true,true,true,true,true,true,true,true] from rfl,pvA2,okHere,Je,Ew,Ir,dj,Dv,fpQuiet]) (h:=?_));refine xo4 (h:=dw_g (by simp only[zl,zm,Bg,overlay,List.take,List.drop,qC1,qC2]<;>exact rfl) (hok:=by simp[show ob 4095 12=[true,true,true,true,true,true,true,true,true,true,true,true] from rfl,pvA2,pvC,okHere,Je,Ew,Ir,dj,Dv,fpQuiet]) (h:=?_));refine xo4 (h:=dw_g (by simp only[zl,zm,Bg,overlay,List.take,List.drop,qT1,qT2]<;>exact rfl) (hok:=by simp[show ob 16383 14=[true,true,true,true,true,true,true,true,true,true,true,true,true,true] from rfl,pvA2,pvC,pvT,okHere,Je,Ew,Ir,dj,Dv,fpQuiet]) (h:=?_));refine Ce (Af ?_);refine Ad (xo1 (h:=xo0 (h:=Ac (by simp only[zo];exact hc71 _ rfl) ?_)));refine xo1 (h:=Ac (by simp only[zl,zm,Bg,overlay,zs,zc,zf,List.take,List.drop]<;>exact rfl) ?_);refine Aa (Af ?_);refine Ai (Ad (xo1 (h:=xo0 (h:=Ac (by simp only[zo,lenD_msl]<;>exact rfl) ?_))));refine Aw (Aa (Af ?_));refine Aq (D5 (fun n env S'=>∃(i:Nat) (K:List Z9) (R:List (List D)) (u3 u4 u5 u6 u9 u10 u11 u12 u13 u14 u15:D),i≤gs.length∧n=gs.length-i∧S'=⟨K,0⟩∧OwK gs A' C P F L T K R i∧env=[.agg [A,C,P,F,L,.sl 4 (gs.map (GrM.row false)) none,T],.ptr 0 0 0 0,.ptr 1 0 0 0,u3,u4,u5,u6,.int .i64 (gs.length:Nat),.int .i64 (i:Nat),u9,u10,u11,u12,u13,u14,u15]) (gs.length) (by omega) (⟨0,_,gs.map (GrM.row false),_,_,_,_,_,_,_,_,_,_,_,by omega,by omega,rfl,hO0,rfl⟩) ?_);rintro n env S' ⟨i,K,R,u3,u4,u5,u6,u9,u10,u11,u12,u13,u14,u15,hi,hnk,rfl,hO,rfl⟩;have h0:=hO.h0;have h1:=hO.h1;have h2:=hO.h2;have hKl:=hO.hl;refine Ad (xo2 (h:=?_));refine Aa (Af ?_);apply Ai;refine Bj (by simp only[opd,zv]<;>exact rfl) (fun xZ=>?_) (fun xZ=>?_)
 ·
  have yB:i<gs.length:=by have:=of_decide_eq_true xZ;omega
  obtain⟨g,hg⟩:∃g,gs[i]?=some g:=⟨_,Lg yB⟩;have hG:=yN g (Lm hg);obtain⟨hG1,hG2,hG3⟩:=hG;have hRi:R[i]?=some (g.row false):=by have:=hO.hg i g hg;simpa only [GrX,Nat.lt_irrefl,decide_false,Bool.false_eq_true,if_false] using this
  have hgl:slB false 2 (g.lines.map (LnM.row false)) g.cap=.sl 2 (g.lines.map (LnM.row false)) g.cap:=Gm (by simpa using hG1)
  have hc72:Bd LP NN d 72 [.sl 2 (g.lines.map (LnM.row false)) g.cap] ⟨K,0⟩=some (.msl K.length 1 0 g.lines.length none,⟨K++[lnO (g.lines.map (LnM.row false))],0⟩,true):=by
   have:=clone72_run (d:=d) (by omega) K (g.lines.map (LnM.row false)) (by simp;omega) g.cap;rw[List.length_map]at this;exact this
  have qJ:(((i:Nat):Int)<((gs.length:Nat):Int))=True:=eq_true (by omega);have wK:((0:Int)≤((i:Nat):Int))=True:=eq_true (by omega);have yH:=Dt i (by omega);have xq:=aI hRi (aI hgl (aI qJ (aI wK (yH))));refine Ak (Bi rfl (Ai (Aq (Ad (Ae rfl (Ag rfl (Aa (Af ?_))))))));refine Ad (Xp (h:=Ac (by simp only[zl,zm,zd,Au,List.take,List.drop,h0,xq]<;>exact rfl) ?_));refine Ae rfl (Ac (by simp only[zl,zm,Fa,Int.toNat_natCast,h2,grO,xq]<;>exact rfl) ?_);refine Xp (h:=Ac (by simp only[zl,zm,zd,Au,List.take,List.drop,h2,grO,GrM.row,xq]<;>exact rfl) ?_);apply Ac (by simp only[zo,xq];exact hc72);refine Ag rfl (Aa (Af ?_));refine Ai (Ad (Ae rfl (Ac (by simp only[zo,lenD_msl,xq]<;>exact rfl) ?_)));refine Aw (Aa (Af ?_));refine Aq (D5 (fun n env S'=>∃(k:Nat) (K2:List Z9) (M:List (List D)) (u5 u6 u9 u12 u13 u14 u15:D),k≤g.lines.length∧n=g.lines.length-k∧S'=⟨K2,0⟩∧OwL K g.lines K2 M k∧env=[.agg [A,C,P,F,L,.sl 4 (gs.map (GrM.row false)) none,T],.ptr 0 0 0 0,.ptr 1 0 0 0,.int .i64 (i:Nat),.msl K.length 1 0 g.lines.length none,u5,u6,.int .i64 (gs.length:Nat),.int .i64 (i:Nat),u9,.int .i64 (g.lines.length:Nat),.int .i64 (k:Nat),u12,u13,u14,u15]) (g.lines.length) (by omega) (⟨0,_,g.lines.map (LnM.row false),_,_,_,_,_,_,_,by omega,by omega,rfl,OwL.first K g.lines,rfl⟩) ?_);rintro n env S' ⟨k,K2,M,u5,u6,u9,u12,u13,u14,u15,hk,hnk2,rfl,hL,rfl⟩;have g0:=(hL.ag 0 (by omega)).trans h0;have g1:=(hL.ag 1 (by omega)).trans h1;have g2:=(hL.ag 2 (by omega)).trans h2;have gm:=hL.hm;refine Ad (xo2 (h:=?_));refine Aa (Af ?_);apply Ai;refine Bj (by simp only[opd,zv]<;>exact rfl) (fun zI=>?_) (fun zI=>?_)
  ·
   have hkn:k<g.lines.length:=by have:=of_decide_eq_true zI;omega
   obtain⟨l,hl⟩:∃l,g.lines[k]?=some l:=⟨_,Lg hkn⟩;have hLO:=hG3 l (Lm hl);obtain⟨hli,hit⟩:=hLO;have hMk:M[k]?=some (l.row false):=by have:=hL.hg k l hl;simpa only [LnX,Nat.lt_irrefl,decide_false,Bool.false_eq_true,if_false] using this
   have hkT:(((k:Nat):Int)<((g.lines.length:Nat):Int))=True:=eq_true (by omega);have hk0:((0:Int)≤((k:Nat):Int))=True:=eq_true (by omega);have vN:=Dt k (by omega);have xI:=aI hMk (aI hkT (aI hk0 (vN)));refine Ak (Bi rfl (Ai (Aq (Ad (Ae rfl (Ag rfl (Aa (Af ?_))))))));refine Ig (fun env S'=>∃(K3:List Z9) (M3:List (List D)) (e:D) (u6 u9 u12 u13 u14 u15:D),S'=⟨K3,0⟩∧OwL K g.lines K3 M3 (k+1)∧M3[k]?=some [.int .i64 (l.plus:Nat),e]∧ItF K3 e l.items∧lenD false e=some (.int .i64 (l.items.length:Nat))∧env=[.agg [A,C,P,F,L,.sl 4 (gs.map (GrM.row false)) none,T],.ptr 0 0 0 0,.ptr 1 0 0 0,.int .i64 (i:Nat),.msl K.length 1 0 g.lines.length none,.int .i64 (k:Nat),u6,.int .i64 (gs.length:Nat),.int .i64 (i:Nat),u9,.int .i64 (g.lines.length:Nat),.int .i64 (k:Nat),u12,u13,u14,u15]) ?_ ?_
   ·
    refine Am (Ae rfl (Ae rfl (Ae rfl (Ae rfl (Ac (by simp only[zl,zm,Fa,Int.toNat_natCast,gm,lnO,xI]<;>exact rfl) ?_)))));refine xo43 (h:=Ac (by simp only[zl,zm,zd,Au,List.take,List.drop,gm,lnO,LnM.row,xI]<;>exact rfl) ?_);obtain⟨e,ee,wr,h73,hd,he1,he2,he3,xg⟩:=clone73_ex (d:=d) (by omega) K2 l.items hli l.cap;have gme:(K2++ee)[K.length]?=some (lnO M):=by rw[La_ hL.hl];exact gm
    have gm':=gme;apply Ac (by simp only[zo,xI];exact h73);apply Ac (by simp only[zl,zm,Fa,Int.toNat_natCast,lnO,xI,gme]<;>exact rfl);refine xo43 (h:=Ac (by simp only[zl,zm,Bg,overlay,List.take,List.drop,lnO,LnM.row,xI,gme,he2,he3]<;>exact rfl) ?_);refine Aa (Gy (by simp only[ze]<;>exact rfl) ?_);exact⟨_,_,_,_,_,_,_,_,_,rfl,(hL.step hl hd).1,List.getElem?_set_self (by rw[hL.hM];omega),(hL.step hl hd).2,xg,rfl⟩
   rintro env S' ⟨K3,M3,e,u6,u9,u12,u13,u14,u15,rfl,hL3,hMk3,hd3,xg,rfl⟩;have gm3:=hL3.hm;refine Ad (Ae rfl (Ae rfl (Ac (by simp only[zl,zm,Fa,Int.toNat_natCast,lnO,xI,gm3,lnO]<;>exact rfl) ?_)));refine xo1 (h:=Ac (by simp only[zl,zm,zd,Au,List.take,List.drop,lnO,gm3,hMk3,lnO]<;>exact rfl) ?_);apply Ac (by simp only[zo,xg]<;>exact rfl);refine Aw (Aa (Af ?_));refine Aq (D5 (fun n env S'=>∃(j:Nat) (u6 u9 u12 u15:D),j≤l.items.length∧n=l.items.length-j∧S'=⟨K3,0⟩∧env=[.agg [A,C,P,F,L,.sl 4 (gs.map (GrM.row false)) none,T],.ptr 0 0 0 0,.ptr 1 0 0 0,.int .i64 (i:Nat),.msl K.length 1 0 g.lines.length none,.int .i64 (k:Nat),u6,.int .i64 (gs.length:Nat),.int .i64 (i:Nat),u9,.int .i64 (g.lines.length:Nat),.int .i64 (k:Nat),u12,.int .i64 (l.items.length:Nat),.int .i64 (j:Nat),u15]) (l.items.length) (by omega) (⟨0,_,_,_,_,by omega,by omega,rfl,rfl⟩) ?_);rintro n env S' ⟨j,u6,u9,u12,u15,hj,hnk3,rfl,rfl⟩;refine Ad (xo2 (h:=?_));refine Aa (Af ?_);apply Ai;refine Bj (by simp only[opd,zv]<;>exact rfl) (fun rX=>?_) (fun rX=>?_)
   ·
    have hjn:j<l.items.length:=by have:=of_decide_eq_true rX;omega
    obtain⟨gI,rfl,hgI⟩:∃gI,e=.msl gI 1 0 l.items.length none∧K3[gI]?=some (itO l.items):=by
     rcases hd3 with⟨h,_⟩ | ⟨_,h⟩
     ·
      omega
     exact h
    obtain⟨r,hr⟩:∃r,l.items[j]?=some r:=⟨_,Lg hjn⟩;obtain⟨t,ht,ht1,ht2,ht3,pvt,yE⟩:=(hit r (Lm hr)).clone (d:=d) (by omega);have xP:Bg 1 ⟨K3,0⟩ (.ptr gI 1 j 13) t=some ⟨K3,0⟩:=store_same hgI rfl rfl hr ht ht1 ht2 ht3;have hjT:(((j:Nat):Int)<((l.items.length:Nat):Int))=True:=eq_true (by omega);have hj0:((0:Int)≤((j:Nat):Int))=True:=eq_true (by omega);have hwj:=Dt j (by omega);have y5:=aI hgI (aI hr (aI ht (aI xP (aI hjT (aI hj0 (hwj))))));refine Ak (Bi rfl (Ai (Aq (Ad (Ae rfl (Ag rfl (Aa (Af ?_))))))));refine Eh ?_;refine Bc rfl rfl (Bc rfl rfl (Az (by simp only[zl,zm,Fa,Int.toNat_natCast,lnO,xI,gm3,lnO,y5]<;>exact rfl) rfl ?_));refine xo30 (h:=Az (by simp only[zl,zm,zd,Au,List.take,List.drop,lnO,gm3,hMk3,lnO,y5]<;>exact rfl) rfl ?_);refine Bc rfl rfl (Bc rfl rfl (Bc rfl rfl (Az (by simp only[zl,zm,Fa,Int.toNat_natCast,lnO,xI,gm3,lnO,y5]<;>exact rfl) rfl ?_)));refine xo30 (h:=Az (by simp only[zl,zm,zd,Au,List.take,List.drop,lnO,gm3,hMk3,lnO,y5]<;>exact rfl) rfl ?_);refine Bc rfl rfl (Az (by simp only[zl,zm,Fa,Int.toNat_natCast,itO,y5]<;>exact rfl) rfl ?_);refine xo30 (h:=Az (by simp only[zl,zm,zd,Au,itO,y5]<;>exact rfl) rfl ?_);refine Az (by simp only[zo,y5];exact yE _) rfl ?_;refine Az (by simp only[zl,zm,Fa,Int.toNat_natCast,itO,y5]<;>exact rfl) rfl ?_;refine xo30 (h:=dw_g (by simp only[Ar,aop,LOp.loud,lop,if_true,opd,zv];rw[xP];exact rfl) (hok:=by simp[show ob 262143 18=[true,true,true,true,true,true,true,true,true,true,true,true,true,true,true,true,true,true] from rfl,pvt,okHere,Je,Ew,Ir,dj,Dv,fpQuiet]) (h:=?_));refine Ce (D8 (Af ?_));refine Am (Ac (by simp only[zo,Bf,y5]<;>exact rfl) ?_);refine Ag rfl (Aa (Gh (by simp only[ze]<;>exact rfl) ?_));exact⟨l.items.length-(j+1),by omega,j+1,_,_,_,_,by omega,rfl,rfl,rfl⟩
   refine Dh (Gj (Hu (Gl (D8 (Bi rfl (Am (xo39 (h:=Ag rfl (Aa ?_)))))))));apply Gh (by simp only[ze]<;>exact rfl);exact⟨g.lines.length-(k+1),by omega,k+1,K3,M3,_,_,_,_,_,_,_,by omega,rfl,rfl,hL3,rfl⟩
  have hke:k=g.lines.length:=by have:=of_decide_eq_false zI;omega
  subst hke;refine Dh (Gj (Hu (Gl (Bi rfl (Am (xo1 (h:=Ac (by simp only[zl,zm,zd,Au,List.take,List.drop,g0]<;>exact rfl) ?_)))))));refine Ae rfl (Ae rfl (Ac (by simp only[zl,zm,Fa,Int.toNat_natCast,grO,xq,g2]<;>exact rfl) ?_));refine xo1 (h:=Ac (by simp only[zl,zm,Bg,overlay,zs,zc,zf,List.take,List.drop,grO,GrM.row,xq,g2,gm,lnO]<;>exact rfl) ?_);refine Aa (D8 (Af ?_));refine Am (Xr (h:=Ag rfl (Aa ?_)));apply Gh (by simp only[ze]<;>exact rfl);exact⟨gs.length-(i+1),by omega,i+1,_,_,_,_,_,_,_,_,_,_,_,_,_,by omega,rfl,rfl,hO.step hg hL,rfl⟩
 have yV:i=gs.length:=by have:=of_decide_eq_false xZ;omega
 subst yV;refine Dh (Gj (Hu (Gl (Bi rfl (Ad (Ac (by simp only[zl,zm,zd,Au,List.take,List.drop,h0]<;>exact rfl) ?_))))));apply Ac (by simp only[zl,zm,Bg,overlay,Bh,zs,zc,zf,List.take,List.drop,qB0,qC0,qT0,qP0,qF0,qL0,ZR7,h1,h2,grO]<;>exact rfl);refine Aa (Af ?_);apply A7;have kC:(K.set 1 ⟨37,7,[[A',C,P,F,L,.msl 2 1 0 gs.length none,T]],0,0,false⟩)[1]?=some ⟨37,7,[[A',C,P,F,L,.msl 2 1 0 gs.length none,T]],0,0,false⟩:=List.getElem?_set_self (by have:=hO.hl;omega);refine⟨_,by simp only[F31,resultD,Ba,resD,zg,zd,rowsOf,Au,List.take,List.drop,zm,kC]<;>exact rfl,?_⟩;exact own_leave hO _ hn yN qB qC qT qP qF qL
theorem CM.grOK(x:CM):∀g∈x.grps,Xo g:=by
 have hS:∀n,(shT n).length=11∧(shT n).all D.free=true:=fun n=>⟨rfl,rfl⟩;have hN:∀n,(shN n).length=11∧(shN n).all D.free=true:=fun n=>⟨rfl,rfl⟩
 have hI:∀(c:Nat) (sh:List D) (s:Nat) (t:D) (i:Nat),sh.length=11→sh.all D.free=true→t.free=true→(t=.nils∨∃l:List (List D),t=.sl 1 l none∧l.length≠0∧l.length≤1000)→ItT (itD c sh s t i):=by
  intro c sh s t i h1 h2 h3 h4
  have e:(itD c sh s t i)[13]?=some t:=by
   simp[itD,h1]
  refine⟨by simp[itD,h1],by simp[itD,h2,h3,Ls],?_⟩;rw[e];rcases h4 with h | ⟨l,h,h5⟩
  ·
   exact .inl (by rw[h])
  exact .inr ⟨l,by rw[h],h5⟩
 have iL:∀(c:Nat) (l:List UInt8),l.length≠0→l.length≤1000→ItT (Uu c l):=fun c l h1 h2=>hI _ _ _ _ _ (hS _).1 (hS _).2 rfl (.inr ⟨bR l,rfl,by simpa [bR] using h1,by simpa [bR] using h2⟩);have iK:∀c i,ItT (keyI c i):=fun c i=>hI _ _ _ _ _ (hS _).1 (hS _).2 rfl (.inl rfl);have iN:∀c,ItT (numI c):=fun c=>hI _ _ _ _ _ (hN _).1 (hN _).2 rfl (.inl rfl);have iP:ItT Qu:=hI _ _ _ _ _ (hN _).1 (hN _).2 rfl (.inl rfl);have iT:∀i,ItT (totI i):=fun i=>hI _ _ _ _ _ (hN _).1 (hN _).2 rfl (.inl rfl);have l2:∀(c:Nat) (a b:UInt8),ItT (Uu c [a,b]):=fun c a b=>iL c [a,b] (by simp) (by simp);have l1:∀(c:Nat) (a:UInt8),ItT (Uu c [a]):=fun c a=>iL c [a] (by simp) (by simp)
 have hgl:∀n,∀g∈x.gl n,Xo g:=by
  intro n
  induction n with
  | zero=>intro g hg;simp[CM.gl]at hg
  | succ n ih =>
   intro g hg;simp only[CM.gl,List.mem_append,CM.gh,CM.gf]at hg;rcases hg with hg | hg | hg
   ·
    exact ih g hg
   ·
    split at hg
    ·
     obtain rfl:=List.mem_singleton.1 hg;simp[Xo,gH,LnOK,Qo,l2,iK]
    simp at hg
   split at hg
   ·
    obtain rfl:=List.mem_singleton.1 hg;by_cases hb:x.blk n<;>simp[Xo,gF,LnOK,Qo,l2,iK,iT,hb]
   simp at hg
 intro g hg;simp only[CM.grps,List.mem_append]at hg;rcases hg with ((((hg | hg) | hg) | hg) | hg) | hg
 ·
  rcases List.mem_cons.1 hg with rfl | hg
  ·
   simp[Xo,gD1,LnOK,Qo,iK,iN]
  obtain rfl:=List.mem_singleton.1 hg;simp[Xo,gD2,LnOK,iN]
 ·
  unfold CM.g1 at hg;split at hg
  ·
   obtain rfl:=List.mem_singleton.1 hg;simp[Xo,gRH,LnOK,l2]
  simp at hg
 ·
  unfold CM.g2 at hg;split at hg
  ·
   obtain rfl:=List.mem_singleton.1 hg;simp[Xo,gPH,LnOK,l1,iP]
  simp at hg
 ·
  exact hgl _ g hg
 ·
  unfold CM.g8 at hg;split at hg
  ·
   obtain rfl:=List.mem_singleton.1 hg;simp[Xo,gPF,LnOK,l1,iP]
  simp at hg
 unfold CM.g9 at hg;split at hg
 ·
  obtain rfl:=List.mem_singleton.1 hg;simp[Xo,gRF,LnOK,l2]
 simp at hg
theorem CM.gl_len(x:CM):∀n,(x.gl n).length≤2*n
 | 0=>by simp[CM.gl]
 | n+1=>by
  have:=CM.gl_len x n;simp only[CM.gl,Ll_,CM.gh,CM.gf];split<;>split<;>simp<;>omega
theorem CM.grps_len(x:CM):2≤x.grps.length∧x.grps.length≤12+2*x.ctl:=by
 have:=x.gl_len (x.ctl+1);simp only[CM.grps,Ll_,CM.g1,CM.g2,CM.g8,CM.g9,List.length_cons,List.length_nil];refine⟨by omega,?_⟩;split<;>split<;>split<;>split<;>simp<;>omega
theorem P6(b:Bool)(sz:Nat)(rows:List (List D))(c:Option Nat):Cl (slB b sz rows c):=by
 unfold slB;split<;>exact⟨rfl,rfl,rfl,rfl⟩
theorem own_run{d:Nat}(hd:3≤d)(S:St)(x:CM):Bd LP NN d 31 [.agg (x.rep false)] S=some (.agg (x.rep true),S,false):=by
 have hl:=x.grps_len;have hct:x.ctl<3:=Nat.mod_lt _ (by decide);have hI:∀n:Int,Cl (.int .i64 n):=fun _=>⟨rfl,rfl,rfl,rfl⟩;have xw:x.grps.map (GrM.row false)≠[]:=by intro h;have:=congrArg List.length h;simp at this;simp[this]at hl
 have hne2:x.grps.map (GrM.row true)≠[]:=by intro h;have:=congrArg List.length h;simp at this;simp[this]at hl
 have e1:∀b,slB true 4 (x.grps.map (GrM.row b)) none=.sl 4 (x.grps.map (GrM.row b)) none:=fun b=>Gm (by rw[List.length_map];omega)
 have:=own_gen (d:=d) hd S (Gu false) (Gu true) (slB true 1 (x.ctlR x.ctl) none) (.int .i64 (x.P:Nat)) (.int .i64 (x.F:Nat)) (.int .i64 (x.L:Nat)) (slB true 2 (x.totR (x.ctl+1)) none) x.grps ⟨rfl,rfl,rfl,rfl⟩ ⟨rfl,rfl,rfl,rfl⟩ (P6 ..) (P6 ..) (hI _) (hI _) (hI _) (by omega) (by omega) x.grOK
  (fun d S h=>clone68_run h S [shT 1,shT 1,shN 3] (by decide) (by decide) (some 3))
  (fun d S h=>by
   by_cases hc:x.ctl=0
   ·
    rw[hc];exact clone69_nil h S
   rw[Gm (by simp[CM.ctlR,hc])];exact clone69_run h S _ (by simp[CM.ctlR,hc]) (by simp[CM.ctlR];omega) none)
  (fun d S h=>by
   rw[Gm (by simp[CM.totR])];exact clone70_run h S _ (by simp[CM.totR]) (by simp[CM.totR];omega) none)
 simpa only [CM.rep,e1] using this
def gD1b (b:Bool):GrM:=⟨4,0,b,[⟨1,Qo 1++[numI 4],none⟩],some 1⟩
def gHb (i:Nat) (b:Bool):GrM:=⟨3,i,b,[⟨1,[Uu 1 [72,dgt i]]++Qo 4,none⟩],some 1⟩
def gFb (i:Nat) (b:Bool):GrM:=⟨5,i,false,[⟨1,[Uu 1 [70,dgt i]]++Qo 4++[totI i],none⟩]++(if b then [⟨1,[],none⟩] else []),if b then none else some 1⟩
def Jg (c:Nat) (pg:Bool):List GrM:=[gD1b false,gD2,gRH,gRF]++(if pg then [gD1b true,gPH,gPF] else [])++(List.range (c+1)).flatMap fun i=>[gHb i false,gFb i false,gFb i true]++(if pg then [gHb i true] else [])
theorem CM.gall(x:CM):∀g∈x.grps,g∈Jg x.ctl x.paged:=by
 have hh:∀i,i<x.ctl+1→∀g,g∈x.gh i++x.gf i→g∈Jg x.ctl x.paged:=by
  intro i hi g hg;refine List.mem_append_right _ (List.mem_flatMap.2 ⟨i,List.mem_range.2 hi,?_⟩);rcases List.mem_append.1 hg with hg | hg
  ·
   unfold CM.gh at hg;split at hg
   ·
    obtain rfl:=List.mem_singleton.1 hg;have e:gH x i=gHb i (x.nps (1+i)):=rfl;rw[e]
    cases h:x.nps (1+i) with
    | false=>simp
    | true =>
     have:x.paged=true:=by simp only[CM.nps,Bool.and_eq_true]at h;exact h.1
     simp[this]
   simp at hg
  unfold CM.gf at hg;split at hg
  ·
   obtain rfl:=List.mem_singleton.1 hg;have e:gF x i=gFb i (x.blk i):=rfl;rw[e];cases h:x.blk i<;>simp
  simp at hg
 have hl:∀n,n≤x.ctl+1→∀g∈x.gl n,g∈Jg x.ctl x.paged:=by
  intro n
  induction n with
  | zero=>intro _ g hg;simp[CM.gl]at hg
  | succ n ih =>
   intro hn g hg;rcases List.mem_append.1 hg with hg | hg
   ·
    exact ih (by omega) g hg
   exact hh n (by omega) g hg
 intro g hg;simp only[CM.grps,List.mem_append]at hg;rcases hg with ((((hg | hg) | hg) | hg) | hg) | hg
 ·
  rcases List.mem_cons.1 hg with rfl | hg
  ·
   have e:gD1 x=gD1b (x.nps 0):=rfl;rw[e]
   cases h:x.nps 0 with
   | false=>simp[Jg]
   | true =>
    have:x.paged=true:=by simp only[CM.nps,Bool.and_eq_true]at h;exact h.1
    simp[Jg,this]
  obtain rfl:=List.mem_singleton.1 hg;simp[Jg]
 ·
  unfold CM.g1 at hg;split at hg
  ·
   obtain rfl:=List.mem_singleton.1 hg;simp[Jg]
  simp at hg
 ·
  unfold CM.g2 at hg;split at hg
  ·
   rename_i h;obtain rfl:=List.mem_singleton.1 hg;simp only[Bool.and_eq_true]at h;simp[Jg,h.2]
  simp at hg
 ·
  exact hl _ (Nat.le_refl _) g hg
 ·
  unfold CM.g8 at hg;split at hg
  ·
   rename_i h;obtain rfl:=List.mem_singleton.1 hg;simp only[Bool.and_eq_true]at h;simp[Jg,h.2]
  simp at hg
 unfold CM.g9 at hg;split at hg
 ·
  obtain rfl:=List.mem_singleton.1 hg;simp[Jg]
 simp at hg
def ctlN (n:Nat):List (List D):=(List.range n).map fun i=>[.int .i64 (i:Nat)]
def G7 (n:Nat):List (List D):=(List.range n).map fun i=>[.int .i64 2,.int .i64 (i:Nat)]
def repN (c p:Nat) (F L:Int) (rows:List (List D)):List D:=[Gu false,slB true 1 (ctlN c) none,.int .i64 (p:Nat),.int .i64 F,.int .i64 L,.sl 4 rows none,slB true 2 (G7 (c+1)) none]
section
variable (d:Nat) (S:St) (p:Nat) (F L:Int) (rows:List (List D))
theorem grp_0_false:(Jg 0 false).map (fun g=>E5 LP NN (d+30) 96 [.agg (repN 0 (0) F L rows),.agg (g.row false)] S)=(Jg 0 false).map (fun _=>some (.bool true,S,false)):=by kernel_rfl
theorem grp_0_true:(Jg 0 true).map (fun g=>E5 LP NN (d+30) 96 [.agg (repN 0 (p+8) F L rows),.agg (g.row false)] S)=(Jg 0 true).map (fun _=>some (.bool true,S,false)):=by kernel_rfl
theorem grp_1_false:(Jg 1 false).map (fun g=>E5 LP NN (d+30) 96 [.agg (repN 1 (0) F L rows),.agg (g.row false)] S)=(Jg 1 false).map (fun _=>some (.bool true,S,false)):=by kernel_rfl
theorem grp_1_true:(Jg 1 true).map (fun g=>E5 LP NN (d+30) 96 [.agg (repN 1 (p+8) F L rows),.agg (g.row false)] S)=(Jg 1 true).map (fun _=>some (.bool true,S,false)):=by kernel_rfl
theorem grp_2_false:(Jg 2 false).map (fun g=>E5 LP NN (d+30) 96 [.agg (repN 2 (0) F L rows),.agg (g.row false)] S)=(Jg 2 false).map (fun _=>some (.bool true,S,false)):=by kernel_rfl
theorem grp_2_true:(Jg 2 true).map (fun g=>E5 LP NN (d+30) 96 [.agg (repN 2 (p+8) F L rows),.agg (g.row false)] S)=(Jg 2 true).map (fun _=>some (.bool true,S,false)):=by kernel_rfl
end
def GrM.h (g:GrM):Nat:=(g.lines.map LnM.plus).sum
theorem hgt_false(d:Nat)(S:St):(Jg 2 true).map (fun g=>E5 LP NN (d+2) 82 [.agg (g.row false)] S)=(Jg 2 true).map (fun g=>some (.int .i64 (g.h:Nat),S,false)):=by kernel_rfl
theorem hgt_true(d:Nat)(S:St):(Jg 2 true).map (fun g=>E5 LP NN (d+2) 82 [.agg (g.row true)] S)=(Jg 2 true).map (fun g=>some (.int .i64 (g.h:Nat),S,false)):=by kernel_rfl
theorem Hm(b:Bool)(sz:Nat)(rows:List (List D))(c:Option Nat):(slB b sz rows c).Aag=true:=(P6 ..).1
theorem of_map{α β:Type}{l:List α}{f h:α→β}(e:l.map f=l.map h){a:α}(ha:a∈l):f a=h a:=List.map_inj_left.1 e a ha
theorem CM.rep_eq(x:CM):x.rep false=repN x.ctl (if x.paged then x.p1 % 3+x.p2 % 4+8 else 0) (x.F:Nat) (x.L:Nat) (x.grps.map (GrM.row false)):=by
 have hl:=x.grps_len;have e1:slB true 4 (x.grps.map (GrM.row false)) none=.sl 4 (x.grps.map (GrM.row false)) none:=Gm (by rw[List.length_map];omega)
 have e2:x.P=if x.paged then x.p1 % 3+x.p2 % 4+8 else 0:=by
  unfold CM.P CM.last CM.first
  split<;>omega
 rw[CM.rep,e1,e2];rfl
theorem CM.ctl_lt(x:CM):x.ctl<3:=Nat.mod_lt _ (by decide)
theorem group_run{d:Nat}(hd:30≤d)(S:St)(x:CM)(g:GrM)(hg:g∈x.grps):Bd LP NN d 96 [.agg (x.rep false),.agg (g.row false)] S=some (.bool true,S,false):=by
 obtain⟨d,rfl⟩:∃e,d=e+30:=⟨d-30,by omega⟩;have h1:=x.gall g hg;have hc:=x.ctl_lt;rw[x.rep_eq];apply fast_ok;generalize (x.F:Int)=F;generalize (x.L:Int)=L;generalize x.grps.map (GrM.row false)=rows;generalize x.p1 % 3+x.p2 % 4=p
 revert h1 hc
 generalize x.ctl=c;intro h1 hc
 cases hp:x.paged with
 | false =>
  rw[hp]at h1;rcases (by omega:c=0∨c=1∨c=2) with rfl | rfl | rfl
  ·
   exact of_map (grp_0_false d S F L rows) h1
  ·
   exact of_map (grp_1_false d S F L rows) h1
  exact of_map (grp_2_false d S F L rows) h1
 | true =>
  rw[hp]at h1;rcases (by omega:c=0∨c=1∨c=2) with rfl | rfl | rfl
  ·
   exact of_map (grp_0_true d S p F L rows) h1
  ·
   exact of_map (grp_1_true d S p F L rows) h1
  exact of_map (grp_2_true d S p F L rows) h1
theorem gall_2{c:Nat}{pg:Bool}(hc:c<3){g:GrM}(hg:g∈Jg c pg):g∈Jg 2 true:=by
 rcases List.mem_append.1 hg with hg | hg
 ·
  rcases List.mem_append.1 hg with hg | hg
  ·
   exact List.mem_append_left _ (List.mem_append_left _ hg)
  cases pg with
  | false=>simp at hg
  | true=>exact List.mem_append_left _ (List.mem_append_right _ hg)
 obtain⟨i,hi,h⟩:=List.mem_flatMap.1 hg;refine List.mem_append_right _ (List.mem_flatMap.2 ⟨i,List.mem_range.2 (by have:=List.mem_range.1 hi;omega),?_⟩);rcases List.mem_append.1 h with h | h
 ·
  exact List.mem_append_left _ h
 cases pg with
 | false=>simp at h
 | true=>exact List.mem_append_right _ h
theorem height_run{d:Nat}(hd:2≤d)(S:St)(b:Bool)(g:GrM)(hg:g∈Jg 2 true):Bd LP NN d 82 [.agg (g.row b)] S=some (.int .i64 (g.h:Nat),S,false):=by
 obtain⟨d,rfl⟩:∃e,d=e+2:=⟨d-2,by omega⟩;apply fast_ok
 cases b with
 | false=>exact of_map (hgt_false d S) hg
 | true=>exact of_map (hgt_true d S) hg
def GrM.okB (g:GrM):Bool:=decide (g.h≤2)&&decide (1≤g.kind)&&decide (g.kind≤7)&&decide (1≤g.h)&&decide (g.level≤2)
theorem okB_all:(Jg 2 true).all GrM.okB=true:=by decide +kernel
theorem CM.gmem(x:CM){g:GrM}(hg:g∈x.grps):g∈Jg 2 true:=gall_2 x.ctl_lt (x.gall g hg)
theorem CM.gok(x:CM){g:GrM}(hg:g∈x.grps):g.h≤2∧1≤g.kind∧g.kind≤7∧1≤g.h∧g.level≤2:=by
 have:=List.all_eq_true.1 okB_all g (x.gmem hg);simpa [GrM.okB,and_assoc] using this
def Ut (gs:List GrM):Nat:=(gs.map fun g=>if g.kind=1∨g.kind=2 then g.h else 0).sum
theorem Jq(a b:List GrM):Ut (a++b)=Ut a+Ut b:=by simp[Ut]
theorem CM.top_le(x:CM):Ut x.grps≤2:=by
 have h0:∀n,Ut (x.gl n)=0:=by
  intro n
  induction n with
  | zero=>rfl
  | succ n ih =>
   rw[CM.gl,Jq,Jq,ih,CM.gh,CM.gf];split<;>split<;>rfl
 rw[CM.grps,Jq,Jq,Jq,Jq,Jq,h0,CM.g1,CM.g2,CM.g8,CM.g9];have e:Ut [gD1 x,gD2]=0:=rfl;rw[e];split<;>split<;>split<;>split<;>decide
theorem pages_gen{d:Nat}(hd:3≤d)(S:St)(A C T:D)(P F L:Nat)(gs:List GrM)(qA:Cl A)(qC:Cl C)(qT:Cl T)(hn:gs.length≤1000)(hP:8≤P)(hP2:P≤1000)(hF:3≤F)(hL:F+3≤L)(hPL:L+2=P)(ht:Ut gs≤2)
  (yN:∀g∈gs,g.h≤2∧g.kind≤7∧∀d S,2≤d→Bd LP NN d 82 [.agg (g.row false)] S=some (.int .i64 (g.h:Nat),S,false)) :
  Bd LP NN d 97 [.agg [A,C,.int .i64 (P:Nat),.int .i64 (F:Nat),.int .i64 (L:Nat),.sl 4 (gs.map (GrM.row false)) none,T]] S=some (.bool true,S,false):=by
 have ⟨qA0,qA1,qA2,qA3⟩:=qA;have ⟨qC0,qC1,qC2,qC3⟩:=qC;have ⟨qT0,qT1,qT2,qT3⟩:=qT;have hP0:(((P:Nat):Int)==0)=false:=by simp;omega
 have hF1:(((F:Nat):Int)<1)=False:=eq_false (by omega);have hFL:(((F:Nat):Int)>((L:Nat):Int))=False:=eq_false (by omega);have hLP:(((L:Nat):Int)>((P:Nat):Int))=False:=eq_false (by omega);have hPM:(((P:Nat):Int)>1000)=False:=eq_false (by omega);refine run_pure (F:=F97) rfl (by simp only[LP,snapVs,Bh,zs,zm,Dq qA3,Dq qC3,Dq qT3]<;>exact rfl) rfl (by simp only[LP,zf,zm,qA3,qC3,qT3];try rfl) (by simp only[F97,zv]<;>exact rfl) (by omega) ?_;rintro d rfl;have qc:=aI hP0 (aI hF1 (aI hFL (aI hLP (hPM))));refine Ad (Ac (by simp only[zl,zm,zc,qA0,qC0,qT0]<;>exact rfl) ?_);refine Aw (Aa (Af ?_));refine Ai (Ad (xo1 (h:=xo0 (h:=Ac (by simp only[zo,Bf,qc]<;>exact rfl) ?_))));refine Aa (Af ?_);refine Dw ?_;refine Ak (Bi rfl (Ai (Ad (xo1 (h:=xo0 (h:=xo41 (h:=Ag rfl (En 0 (b:=false) ?_))))))));refine Ap rfl (xo1 (h:=?_));refine Ap rfl (xo0 (h:=?_));refine Ap rfl (xo1 (h:=?_));refine Ap rfl (xo0 (h:=?_));refine Ap rfl (xo41 (h:=xo3 (h:=Ag rfl (En 0 (b:=false) ?_))));refine Ap rfl (xo1 (h:=?_));refine Ap rfl (xo0 (h:=?_));refine Ap rfl (xo1 (h:=?_));refine Ap rfl (xo0 (h:=?_));refine Ap rfl (xo41 (h:=xo3 (h:=Ag rfl (En 0 (b:=false) ?_))));refine Ap rfl (xo1 (h:=?_));refine Ap rfl (xo0 (h:=?_));refine Ap rfl (xo41 (h:=xo3 (h:=?_)));refine Aa (Af ?_);refine Dw ?_;refine Ak (Bi rfl (Ad (Aw (Aa (Af ?_)))));refine Ai (Ad (xo1 (h:=xo0 (h:=xo34 (h:=?_)))));refine Aw (Aa (Af ?_));refine Aq (D5 (fun n env S'=>∃(i:Nat) (K:List Z9) (u2 u4 u5 u6 u7 u11 u12 u13 u14 u15 u16:D),i≤gs.length∧K[0]?=some ⟨37,7,[[A,C,.int .i64 (P:Nat),.int .i64 (F:Nat),.int .i64 (L:Nat),.sl 4 (gs.map (GrM.row false)) none,T]],0,0,false⟩∧n=gs.length-i∧S'=⟨K,0⟩∧env=[.agg [A,C,.int .i64 (P:Nat),.int .i64 (F:Nat),.int .i64 (L:Nat),.sl 4 (gs.map (GrM.row false)) none,T],.ptr 0 0 0 0,u2,.int .i64 (Ut (gs.take i):Nat),u4,u5,u6,u7,.sl 4 (gs.map (GrM.row false)) none,.int .i64 (gs.length:Nat),.int .i64 (i:Nat),u11,u12,u13,u14,u15,u16]) (gs.length) (by omega) (⟨0,_,_,_,_,_,_,_,_,_,_,_,_,by omega,rfl,by omega,rfl,rfl⟩) ?_);rintro n env S' ⟨i,K,u2,u4,u5,u6,u7,u11,u12,u13,u14,u15,u16,hi,hK,hnA,rfl,rfl⟩;have hTi:Ut (gs.take i)≤2:=by have:=Jq (gs.take i) (gs.drop i);rw[List.take_append_drop]at this;omega
 refine Ad (xo2 (h:=?_));refine Aa (Af ?_);apply Ai;refine Bj (by simp only[opd,zv]<;>exact rfl) (fun xZ=>?_) (fun xZ=>?_)
 ·
  have yB:i<gs.length:=by have:=of_decide_eq_true xZ;omega
  obtain⟨g,hg⟩:∃g,gs[i]?=some g:=⟨_,Lg yB⟩;obtain⟨zi,uz,hgr⟩:=yN g (Lm hg);have qJ:(((i:Nat):Int)<((gs.length:Nat):Int))=True:=eq_true (by omega);have wK:((0:Int)≤((i:Nat):Int))=True:=eq_true (by omega);have yH:=Dt i (by omega);have hK1:∀l,(K++l)[0]?=some ⟨37,7,[[A,C,.int .i64 (P:Nat),.int .i64 (F:Nat),.int .i64 (L:Nat),.sl 4 (gs.map (GrM.row false)) none,T]],0,0,false⟩:=fun l=>by rw[La_ (Ha hK)];exact hK
  have hwT:IntKind.i64.wrap (((Ut (gs.take i):Nat):Int)+((g.h:Nat):Int))=((Ut (gs.take i)+g.h:Nat):Int):=by rw[IntKind.wrap_i64]<;>omega
  have hwP:IntKind.i64.wrap (((P:Nat):Int)-((L:Nat):Int))=2:=by rw[IntKind.wrap_i64]<;>omega
  have hwL:IntKind.i64.wrap (((L:Nat):Int)-((F:Nat):Int))=((L-F:Nat):Int):=by rw[IntKind.wrap_i64]<;>omega
  have hwL2:IntKind.i64.wrap (((L-F:Nat):Int)+1)=((L-F+1:Nat):Int):=by rw[IntKind.wrap_i64]<;>omega
  have hg2F:(((g.h:Nat):Int)>2)=False:=eq_false (by omega);have hgLF:(((g.h:Nat):Int)>((L-F+1:Nat):Int))=False:=eq_false (by omega)
  have eT:Ut (gs.take (i+1))=Ut (gs.take i)+if g.kind=1∨g.kind=2 then g.h else 0:=by
   rw[List.take_add_one,hg,Jq];simp[Ut]
  have wR:=aI hg (aI qJ (aI wK (aI yH (aI hK1 (aI hwT (aI hwP (aI hwL (aI hwL2 (aI hg2F (hgLF))))))))));refine Ak (Bi rfl (Ai (Aq (Ad ?_))));apply Ac (by simp only[zl,zm,Df,Int.toNat_natCast,Lp_,GrM.row,wR]<;>exact rfl);refine xo35 (h:=Ac (by simp only[zl,zm,wR]<;>exact rfl) ?_);apply Ac (by simp only[zl,zm,Bg,overlay,Bh,zs,zc,zf,List.take,List.drop,Hm,Gp,wR]<;>exact rfl);refine Aa (Af ?_);refine Ad (xo35 (h:=Ac (by simp only[zo,decide_true,wR];exact hgr _ _ (by omega)) ?_));refine Ag rfl (Aa (Af ?_));refine Ad (xo44 (h:=xo35 (h:=?_)));refine Aa (Af ?_);refine Aq (Ai (Ad (xo31 (h:=Ag rfl (Aa ?_)))));refine Af ?_;refine Bj (by simp only[opd,zv,decide_true,wR]<;>exact rfl) (fun xK=>?_) (fun xK=>?_)
  ·
   refine Ak (Bi rfl (Ez (by simp only[opd,zv,decide_true,wR,xK]<;>rfl) ?_));refine Am (Ae rfl (Ae rfl (Ac (by simp only[zo,Bf,decide_true,wR,xK]<;>exact rfl) ?_)));refine Ag rfl (Aa (D8 (D8 (Af ?_))));refine Am (Ac (by simp only[zo,Bf,decide_true,wR,xK]<;>exact rfl) ?_);refine Ag rfl (Aa (Gh (by simp only[ze]<;>exact rfl) ?_));exact⟨gs.length-(i+1),by omega,i+1,_,_,_,_,_,_,_,_,_,_,_,_,by omega,by rw[La_ (Ha hK)];exact hK,rfl,rfl,by rw[eT,if_pos (.inl (by have:=eq_of_beq xK;omega))]<;>rfl⟩
  refine Am (xo31 (h:=Ag rfl (Aa ?_)));refine Af ?_;refine Bj (by simp only[opd,zv,decide_true,wR]<;>exact rfl) (fun hcATF=>?_) (fun hcATF=>?_)
  ·
   refine Am (Ae rfl (Ae rfl (xo31 (h:=Ag rfl ?_))));refine Aa (D8 (D8 (Af ?_)));refine Am (xo31 (h:=Ag rfl (Aa ?_)));apply Gh (by simp only[ze]<;>exact rfl);exact⟨gs.length-(i+1),by omega,i+1,_,_,_,_,_,_,_,_,_,_,_,_,by omega,by rw[La_ (Ha hK)];exact hK,rfl,rfl,by rw[eT,if_pos (.inr (by have:=eq_of_beq hcATF;omega))]<;>rfl⟩
  refine Ad (xo31 (h:=Ag rfl (Aa ?_)));refine Af ?_;refine Bj (by simp only[opd,zv,decide_true,wR]<;>exact rfl) (fun hcATFF=>?_) (fun hcATFF=>?_)
  ·
   refine Ad (Ae rfl (xo44 (h:=xo35 (h:=xo44 (h:=xo35 (h:=xo31 (h:=xo61 (h:=?_))))))));refine Aa (Af ?_);apply Be (by simp only[opd,zv,decide_true,wR]<;>rfl);refine Ak (D8 (D8 (Bi rfl (Am (xo31 (h:=Ag rfl (Aa ?_)))))));apply Gh (by simp only[ze]<;>exact rfl);exact⟨gs.length-(i+1),by omega,i+1,_,_,_,_,_,_,_,_,_,_,_,_,by omega,by rw[La_ (Ha hK)];exact hK,rfl,rfl,by rw[eT,if_neg (by have h1:=ne_of_beq_false xK;have h2:=ne_of_beq_false hcATF;omega)]<;>rfl⟩
  refine Ad (Ae rfl (xo44 (h:=xo35 (h:=xo44 (h:=xo35 (h:=xo31 (h:=xo31 (h:=xo61 (h:=?_)))))))));refine Aa (Af ?_);apply Be (by simp only[opd,zv,decide_true,wR]<;>rfl);refine Ak (D8 (D8 (Bi rfl (Am (xo31 (h:=Ag rfl (Aa ?_)))))));apply Gh (by simp only[ze]<;>exact rfl);exact⟨gs.length-(i+1),by omega,i+1,_,_,_,_,_,_,_,_,_,_,_,_,by omega,by rw[La_ (Ha hK)];exact hK,rfl,rfl,by rw[eT,if_neg (by have h1:=ne_of_beq_false xK;have h2:=ne_of_beq_false hcATF;omega)]<;>rfl⟩
 have yV:i=gs.length:=by have:=of_decide_eq_false xZ;omega
 subst yV;rw[List.take_length]at *;have htF:(((Ut gs:Nat):Int)<((F:Nat):Int))=True:=eq_true (by omega);refine Dh (Gj (Hu (Gl (Bi rfl (Ad (Ae rfl (xo1 (h:=Ac (by simp only[zl,zm,zd,Au,List.take,List.drop,hK]<;>exact rfl) ?_))))))));apply Ac (by simp only[zo,Bf,decide_true,htF]<;>exact rfl);refine Ag rfl (Aa (Af ?_));apply A7;refine⟨_,by simp only[F97,resultD,Ba,resD,zg]<;>exact rfl,?_⟩;simp only[leaveP,leave,zs,zf,zk]
set_option maxRecDepth 100000
set_option maxHeartbeats 4000000
theorem pages_run{d:Nat}(hd:3≤d)(S:St)(x:CM):Bd LP NN d 97 [.agg (x.rep false)] S=some (.bool true,S,false):=by
 have hl:=x.grps_len;have hc:=x.ctl_lt;have e1:slB true 4 (x.grps.map (GrM.row false)) none=.sl 4 (x.grps.map (GrM.row false)) none:=Gm (by rw[List.length_map];omega)
 cases hp:x.paged with
 | true =>
  have h1:x.p1 % 3<3:=Nat.mod_lt _ (by decide);have h2:x.p2 % 4<4:=Nat.mod_lt _ (by decide)
  have h3:x.P=x.first+3+x.p2 % 4+2:=by simp[CM.P,hp,CM.last]
  have h4:x.F=x.first:=by simp[CM.F,hp]
  have h5:x.L=x.first+3+x.p2 % 4:=by simp[CM.L,hp,CM.last]
  have h6:x.first=3+x.p1 % 3:=rfl
  have:=pages_gen hd S (Gu false) (slB true 1 (x.ctlR x.ctl) none) (slB true 2 (x.totR (x.ctl+1)) none) x.P x.F x.L x.grps ⟨rfl,rfl,rfl,rfl⟩ (P6 ..) (P6 ..) (by omega) (by omega) (by omega) (by omega) (by omega) (by omega) x.top_le
   (fun g hg=>⟨(x.gok hg).1,(x.gok hg).2.2.1,fun d S h=>height_run h S false g (x.gmem hg)⟩)
  rw[CM.rep,e1];exact this
 | false =>
  have h3:x.P=0:=by simp[CM.P,hp]
  have h4:x.F=0:=by simp[CM.F,hp]
  have h5:x.L=0:=by simp[CM.L,hp]
  obtain⟨d,rfl⟩:∃e,d=e+2:=⟨d-2,by omega⟩;apply fast_ok;rw[CM.rep,e1,h3,h4,h5];generalize x.grps.map (GrM.row false)=rows
  have:∀c,c<3→E5 LP NN (d+2) 97 [.agg [Gu false,slB true 1 (ctlN c) none,.int .i64 0,.int .i64 0,.int .i64 0,.sl 4 rows none,slB true 2 (G7 (c+1)) none]] S=some (.bool true,S,false):=by
   intro c hc;rcases (by omega:c=0∨c=1∨c=2) with rfl | rfl | rfl<;>kernel_rfl
  exact this _ hc
theorem contains_run{d:Nat}(hd:4≤d)(S:St){i c:Nat}(hi:i<c)(hc:c<3):Bd LP NN d 95 [.sl 1 ((ctlN c).take i) none,.int .i64 (i:Nat)] S=some (.bool false,S,false):=by
 obtain⟨d,rfl⟩:∃e,d=e+4:=⟨d-4,by omega⟩;apply fast_ok;rcases (by omega:(i=0∧c=1)∨(i=0∧c=2)∨(i=1∧c=2)) with⟨rfl,rfl⟩ | ⟨rfl,rfl⟩ | ⟨rfl,rfl⟩<;>kernel_rfl
def kyD (k:Nat × Nat):D:=.agg [.int .u8 (k.1:Nat),.int .i64 (k.2:Nat)]
def kyR (p:(Nat × Nat) × D):List D:=[kyD p.1,p.2]
theorem eq_ky(a b:Nat × Nat):Dl [0,0] [.int .u8 (a.1:Nat),.int .i64 (a.2:Nat)] [.int .u8 (b.1:Nat),.int .i64 (b.2:Nat)]=some (decide (a=b)):=by
 have e:∀x y:Nat,(((x:Nat):Int)==((y:Nat):Int))=decide (x=y):=fun x y=>by
  rw[Bool.eq_iff_iff,beq_iff_eq,decide_eq_true_eq];omega
 have e2:decide (a=b)=(decide (a.1=b.1)&&(decide (a.2=b.2)&&true)):=by
  rw[Bool.eq_iff_iff];simp[Prod.ext_iff]
 simp only[Dl,isKey,Hf,Bool.and_self,if_true,e,e2]
theorem Yd{k:Nat × Nat}:∀{l:List ((Nat × Nat) × D)} {i:Nat},(∀p∈l,p.1≠k)→I4 [0,0] (kyD k) (l.map kyR) i=some none
 | [],_,_=>rfl
 | p::l,i,h=>by
  have h1:decide (k=p.1)=false:=decide_eq_false (fun e=>h p (by simp) e.symm);have ih:=Yd (l:=l) (i:=i+1) (fun q hq=>h q (by simp[hq]));simp only[List.map_cons,kyR,I4];simp only[kyD]at ih ⊢;rw[eq_ky,h1];exact ih
theorem Yc{k:Nat × Nat}{v:D}:∀{l:List ((Nat × Nat) × D)} {i j:Nat},l[j]?=some (k,v)→(∀j' p,j'<j→l[j']?=some p→p.1≠k)→I4 [0,0] (kyD k) (l.map kyR) i=some (some (i+j,v))
 | [],_,j,h,_=>by simp at h
 | p::l,i,0,h,_=>by
  obtain rfl:p=(k,v):=by simpa using h
  simp only[List.map_cons,kyR,I4];simp only[kyD];rw[eq_ky,decide_eq_true rfl];rfl
 | p::l,i,j+1,h,h2=>by
  have h1:decide (k=p.1)=false:=decide_eq_false (fun e=>h2 0 p (by omega) rfl e.symm);have ih:=Yc (l:=l) (i:=i+1) (j:=j) (by simpa using h) (fun j' q hj hq=>h2 (j'+1) q (by omega) (by simpa using hq));simp only[List.map_cons,kyR,I4];simp only[kyD]at ih ⊢;rw[eq_ky,h1,show i+(j+1)=i+1+j by omega];exact ih
def mpO (l:List ((Nat × Nat) × D)):Z9:=⟨0,2,l.map kyR,0,3,false⟩
theorem Uk(k:Nat × Nat):Rx [0,0] (kyD k)=true:=rfl
def Oh (l:List ((Nat × Nat) × D)) (k:Nat × Nat):Option D:=(l.find? (fun p=>decide (p.1=k))).map (·.2)
theorem find_look{k:Nat × Nat}:∀{l:List ((Nat × Nat) × D)} {i:Nat},∃j,I4 [0,0] (kyD k) (l.map kyR) i=some ((Oh l k).map fun v=>(j,v))
 | [],_=>⟨0,rfl⟩
 | p :: l, i => by
  by_cases h:p.1=k
  ·
   refine⟨i,?_⟩;obtain⟨k',v⟩:=p;subst h;rw[Yc (l:=(k',v)::l) (i:=i) (j:=0) rfl (by intro j' p h;omega)];simp[Oh]
  have h1:decide (k=p.1)=false:=decide_eq_false (fun e=>h e.symm);obtain⟨j,ih⟩:=find_look (l:=l) (i:=i+1) (k:=k);refine⟨j,?_⟩;simp only[List.map_cons,kyR,I4];simp only[kyD]at ih ⊢;rw[eq_ky,h1];simp only[ih,Oh,List.find?_cons,decide_eq_false h]
theorem map_get{H:List Z9}{g:Nat}{l:List ((Nat × Nat) × D)}(h:H[g]?=some (mpO l))(k:Nat × Nat)(z:D):Lp ⟨H,0⟩ [0,0] z false (.mref g 0) (kyD k)=some ((Oh l k).getD z):=by
 obtain⟨j,e⟩:=find_look (l:=l) (k:=k) (i:=0);simp only[Lp,Uh,rowsOf,h,mpO,if_true,and_self,Uk,e];cases Oh l k<;>rfl
theorem map_add{H:List Z9}{g:Nat}{l:List ((Nat × Nat) × D)}(h:H[g]?=some (mpO l)){k:Nat × Nat}(hk:∀p∈l,p.1≠k){v v':D}(hv:Aac H.length H v=some v')(wQ:(v'.freeV&&v'.val)=true):Ht ⟨H,0⟩ [0,0] (.mref g 0) (kyD k) v=some ⟨H.set g (mpO (l++[(k,v')])),0⟩:=by
 have e:=Yd (l:=l) (k:=k) (i:=0) hk;simp only[Ht,rowsOf,h,mpO,if_true,true_and,Uk,hv,wQ,e,setAt,Nat.zero_min,List.map_append,List.map_cons,List.map_nil,kyR]
theorem map_same{H:List Z9}{g:Nat}{l:List ((Nat × Nat) × D)}(h:H[g]?=some (mpO l)){k:Nat × Nat}{v:D}{j:Nat}(hj:l[j]?=some (k,v))(hk:∀j' p,j'<j→l[j']?=some p→p.1≠k)(hv:Aac H.length H v=some v)(wQ:(v.freeV&&v.val)=true):Ht ⟨H,0⟩ [0,0] (.mref g 0) (kyD k) v=some ⟨H,0⟩:=by
 have e:=Yc (l:=l) (k:=k) (i:=0) (v:=v) hj hk
 have e2:(l.map kyR).set j [kyD k,v]=l.map kyR:=by
  refine List.ext_getElem? fun i=>?_;by_cases hi:j=i
  ·
   subst hi;rw[List.getElem?_set_self (by rw[List.length_map];exact (List.getElem?_eq_some_iff.1 hj).1),Lp_,hj];rfl
  rw[Ln_ hi]
 have e3:H.set g (mpO l)=H:=set_id h;have e4:(⟨0,2,l.map kyR,0,3,false⟩:Z9)=mpO l:=rfl;simp only[Ht,rowsOf,h,mpO,if_true,true_and,Uk,hv,wQ,e,setAt,Nat.zero_min,Nat.zero_add,e2];rw[e4,e3]
def Nv (ks:List (Nat × Nat)):List ((Nat × Nat) × D):=ks.map fun k=>(k,.bool true)
open Classical in
noncomputable def V9 (H:List Z9) (g:Nat) (ks:List (Nat × Nat)) (k:Nat × Nat):List Z9:=if k∈ks then H else H.set g (mpO (Nv (ks++[k])))
theorem U3{H:List Z9}{g:Nat}{ks:List (Nat × Nat)}(h:H[g]?=some (mpO (Nv ks)))(k:Nat × Nat):∃ks',Ht ⟨H,0⟩ [0,0] (.mref g 0) (kyD k) (.bool true)=some ⟨V9 H g ks k,0⟩∧(V9 H g ks k)[g]?=some (mpO (Nv ks'))∧(∀i,i≠g→(V9 H g ks k)[i]?=H[i]?)∧∀a∈ks',a∈ks∨a=k:=by
 unfold V9;by_cases hk:k∈ks
 ·
  rw[if_pos hk]
  obtain⟨j,hj,hj2⟩:∃j,(Nv ks)[j]?=some (k,D.bool true)∧∀(j':Nat) (p:(Nat × Nat) × D),j'<j→(Nv ks)[j']?=some p→p.1≠k:=by
   refine⟨ks.findIdx (fun a=>decide (a=k)),?_,?_⟩
   ·
    have h1:ks.findIdx (fun a=>decide (a=k))<ks.length:=List.findIdx_lt_length_of_exists ⟨k,hk,decide_eq_true rfl⟩;have h2:=List.findIdx_getElem (w:=h1);rw[Nv,Lp_,Lg h1];simp only[decide_eq_true_eq]at h2;simp[h2]
   intro j' p hj hp e;rw[Nv,Lp_]at hp;obtain⟨a,ha,rfl⟩:=Option.map_eq_some_iff.1 hp;have h3:=List.not_of_lt_findIdx hj;have xO:=(List.getElem?_eq_some_iff.1 ha);simp only[decide_eq_false_iff_not]at h3;obtain⟨h4,h5⟩:=xO;rw[h5]at h3;exact h3 e
  exact⟨ks,map_same h hj hj2 rfl rfl,h,fun _ _=>rfl,fun a ha=>.inl ha⟩
 rw[if_neg hk];refine⟨ks++[k],?_,?_,fun i hi=>Ln_ (Ne.symm hi),fun a ha=>by simpa using ha⟩
 ·
  rw[map_add h (fun p hp e=>?_) rfl rfl]
  ·
   simp[Nv]
  obtain⟨a,ha,rfl⟩:=List.mem_map.1 hp;exact hk (e▸ha)
 rw[List.getElem?_set_self (Ha h)]
theorem seen_no{ks:List (Nat × Nat)}{k:Nat × Nat}(h:k∉ks):Oh (Nv ks) k=none:=by
 unfold Oh Nv;rw[List.find?_eq_none.2];rfl;intro p hp;obtain⟨a,ha,rfl⟩:=List.mem_map.1 hp;simp only[decide_eq_true_eq];intro e;exact h (e▸ha)
theorem seen_bool(ks:List (Nat × Nat))(k:Nat × Nat):∃b,(Oh (Nv ks) k).getD (.bool false)=.bool b:=by
 unfold Oh Nv
 cases h:(ks.map fun k=>((k,.bool true):(Nat × Nat) × D)).find? (fun p=>decide (p.1=k)) with
 | none=>exact⟨false,rfl⟩
 | some p =>
  obtain⟨a,_,rfl⟩:=List.mem_map.1 (List.mem_of_find?_eq_some h);exact⟨true,rfl⟩
theorem slice_ctl(S:St)(rows:List (List D))(i:Nat)(h:i≤rows.length):Kt S 1 (.sl 1 rows none) none (some (.int .i64 (i:Nat))) none=some (.sl 1 (rows.take i) none):=by
 simp[Kt,Fe,Jv,H5,h]
def GrM.ky (g:GrM):Nat × Nat:=(g.kind,g.level)
def KeysOK (gs:List GrM):Prop:=∀(i j:Nat) (g g':GrM),gs[i]?=some g→gs[j]?=some g'→i<j→g.ky=g'.ky→g'.kind=4
theorem valid_gen{d:Nat}(hd:32≤d)(S:St)(c:Nat)(C P F L:D)(gs:List GrM)(qC:Cl C)(qP:Cl P)(qF:Cl F)(qL:Cl L)(hn:gs.length≤1000)(hc:c<3)(xg:lenD false C=some (.int .i64 (c:Nat)))(hC:c≠0→C=.sl 1 (ctlN c) none)(hKy:KeysOK gs)
  (hG:∀g∈gs,∀d S,30≤d→Bd LP NN d 96 [.agg [Gu false,C,P,F,L,.sl 4 (gs.map (GrM.row false)) none,.sl 2 (G7 (c+1)) none],.agg (g.row false)] S=some (.bool true,S,false)) (hPg:∀d S,30≤d→Bd LP NN d 97 [.agg [Gu false,C,P,F,L,.sl 4 (gs.map (GrM.row false)) none,.sl 2 (G7 (c+1)) none]] S=some (.bool true,S,false)) :
  Bd LP NN d 67 [.agg [Gu false,C,P,F,L,.sl 4 (gs.map (GrM.row false)) none,.sl 2 (G7 (c+1)) none]] S=some (.bool true,S,false):=by
 have ⟨qC0,qC1,qC2,qC3⟩:=qC;have ⟨qP0,qP1,qP2,qP3⟩:=qP;have ⟨qF0,qF1,qF2,qF3⟩:=qF;have ⟨qL0,qL1,qL2,qL3⟩:=qL;have qA:Cl (Gu false):=⟨rfl,rfl,rfl,rfl⟩;have ⟨qA0,qA1,qA2,qA3⟩:=qA;have hFl:lenD false (Gu false)=some (.int .i64 3):=rfl;have hFi:∀S,Jf S 11 (Gu false) (.int .i64 2)=some (.cptr (shN 3) 0):=fun _=>rfl;have hTl:(G7 (c+1)).length=c+1:=by simp[G7]
 refine run_pure (F:=F67) rfl (by simp only[LP,snapVs,Bh,zs,zm,Dq qC3,Dq qP3,Dq qF3,Dq qL3]<;>exact rfl) rfl (by simp only[LP,zf,zm,qC3,qP3,qF3,qL3];try rfl) (by simp only[F67,zv]<;>exact rfl) (by omega) ?_;rintro d rfl;have qc:=aI @Bool.not_true (aI xg (aI hTl (aI hFl (hFi))));refine Ad (Ac (by simp only[zl,zm,zc,qA0,qC0,qP0,qF0,qL0]<;>exact rfl) ?_);refine Aw (Aa (Af ?_));refine Ai (Ad (xo1 (h:=xo0 (h:=Ac (by simp only[zo,qc]<;>exact rfl) ?_))));refine Aw (Aa (Af ?_));refine Aq (D5 (fun n env S'=>∃(i:Nat) (u2 u3 u4 u5 u6 u7 u8 u12 u13 u14 u15 u16 u17 u18 u19 u20 u21 u22 u23:D),i≤c∧n=c-i∧S'=⟨[⟨37,7,[[Gu false,C,P,F,L,.sl 4 (gs.map (GrM.row false)) none,.sl 2 (G7 (c+1)) none]],0,0,false⟩],0⟩∧env=[.agg [Gu false,C,P,F,L,.sl 4 (gs.map (GrM.row false)) none,.sl 2 (G7 (c+1)) none],.ptr 0 0 0 0,u2,u3,u4,u5,u6,u7,u8,C,.int .i64 (c:Nat),.int .i64 (i:Nat),u12,u13,u14,u15,u16,u17,u18,u19,u20,u21,u22,u23]) (c) (by omega) (⟨0,_,_,_,_,_,_,_,_,_,_,_,_,_,_,_,_,_,_,_,by omega,by omega,rfl,rfl⟩) ?_);rintro n env S' ⟨i,u2,u3,u4,u5,u6,u7,u8,u12,u13,u14,u15,u16,u17,u18,u19,u20,u21,u22,u23,hi,hnA,rfl,rfl⟩;refine Ad (xo2 (h:=?_));refine Aa (Af ?_);apply Ai;refine Bj (by simp only[opd,zv]<;>exact rfl) (fun xZ=>?_) (fun xZ=>?_)
 ·
  have vV:i<c:=by have:=of_decide_eq_true xZ;omega
  obtain rfl:=hC (by omega);have hiT:(((i:Nat):Int)<((c:Nat):Int))=True:=eq_true (by omega);have wK:((0:Int)≤((i:Nat):Int))=True:=eq_true (by omega);have yH:=Dt i (by omega);have hci:(ctlN c)[i]?=some [.int .i64 (i:Nat)]:=by simp[ctlN,vV]
  have qI:(((i:Nat):Int)<0)=False:=eq_false (by omega);have hge3:(((i:Nat):Int)≥3)=False:=eq_false (by omega);have vS:=fun S=>slice_ctl S (ctlN c) i (by simp[ctlN];omega);have wR:=aI hci (aI hiT (aI wK (aI yH (aI qI (aI hge3 (vS))))));refine Ak (Bi rfl (Ai (Aq (Ad (Ae rfl (Ac (by simp only[zl,zm,Df,Int.toNat_natCast,wR]<;>exact rfl) ?_))))));refine xo35 (h:=Ag rfl (Ag rfl ?_));refine Aa (Af ?_);refine Ad (Ae rfl (xo61 (h:=Ag rfl (En 0 (b:=false) ?_))));refine Ap rfl (Ae rfl (Ap rfl (xo44 (h:=?_))));refine Ap rfl (xo35 (h:=?_));refine Ap rfl (Ac (by simp only[zo,decide_true,qc,wR]<;>exact rfl) ?_);refine Ap rfl (xo61 (h:=Ac (by simp only[zo,decide_true,wR]<;>exact rfl) ?_));refine Ag rfl (En 0 (b:=false) ?_);refine Ap rfl (xo44 (h:=?_));refine Ap rfl (xo35 (h:=?_));refine Ap rfl (Ae rfl (Ap rfl (Ac (by simp only[opd,zv,Ar,aop,LOp.loud,lop,if_true,Ee,vS];exact rfl) ?_)));refine Ap rfl (Ae rfl (Ap rfl (Ac (by simp only[zo,decide_true,wR];exact contains_run (by omega) _ vV hc) ?_)));apply Ac (by simp only[zo,decide_true,wR]<;>exact rfl);refine Aa (Af ?_);apply Be (by simp only[opd,zv,decide_true,wR]<;>rfl);refine Ak (D8 (Bi rfl (Am (xo31 (h:=Ag rfl (Aa ?_))))));apply Gh (by simp only[ze]<;>exact rfl);exact⟨c-(i+1),by omega,i+1,_,_,_,_,_,_,_,_,_,_,_,_,_,_,_,_,_,_,_,by omega,rfl,rfl,rfl⟩
 refine Dh (Gj (Hu (Gl (Bi rfl (Ai (Ad (xo1 (h:=xo0 (h:=Ac (by simp only[zo,Fq,qc]<;>exact rfl) ?_)))))))));refine Aw (Aa (Af ?_));refine Aq (D5 (fun n env S'=>∃(i:Nat) (K:List Z9) (u2 u3 u4 u5 u6 u7 u8 u9 u10 u11 u12 u13 u17 u18 u19 u20 u21 u22 u23:D),i≤c+1∧K[0]?=some ⟨37,7,[[Gu false,C,P,F,L,.sl 4 (gs.map (GrM.row false)) none,.sl 2 (G7 (c+1)) none]],0,0,false⟩∧n=c+1-i∧S'=⟨K,0⟩∧env=[.agg [Gu false,C,P,F,L,.sl 4 (gs.map (GrM.row false)) none,.sl 2 (G7 (c+1)) none],.ptr 0 0 0 0,u2,u3,u4,u5,u6,u7,u8,u9,u10,u11,u12,u13,.sl 2 (G7 (c+1)) none,.int .i64 (c+1:Nat),.int .i64 (i:Nat),u17,u18,u19,u20,u21,u22,u23]) (c+1) (by omega) (⟨0,_,_,_,_,_,_,_,_,_,_,_,_,_,_,_,_,_,_,_,_,by omega,rfl,by omega,rfl,rfl⟩) ?_);rintro n env S' ⟨i,K,u2,u3,u4,u5,u6,u7,u8,u9,u10,u11,u12,u13,u17,u18,u19,u20,u21,u22,u23,hi,hK,hnB,rfl,rfl⟩;have hK1:∀l,(K++l)[0]?=some ⟨37,7,[[Gu false,C,P,F,L,.sl 4 (gs.map (GrM.row false)) none,.sl 2 (G7 (c+1)) none]],0,0,false⟩:=fun l=>by rw[La_ (Ha hK)];exact hK
 refine Ad (xo2 (h:=?_));refine Aa (Af ?_);apply Ai;refine Bj (by simp only[opd,zv]<;>exact rfl) (fun vY=>?_) (fun vY=>?_)
 ·
  have vV:i<c+1:=by have:=of_decide_eq_true vY;omega
  have hiT:(((i:Nat):Int)<((c+1:Nat):Int))=True:=eq_true (by omega);have wK:((0:Int)≤((i:Nat):Int))=True:=eq_true (by omega);have yH:=Dt i (by omega);have hci:(G7 (c+1))[i]?=some [.int .i64 2,.int .i64 (i:Nat)]:=by simp[G7,vV]
  have qI:(((i:Nat):Int)<0)=False:=eq_false (by omega);have zZ:(((i:Nat):Int)>((c:Nat):Int))=False:=eq_false (by omega);have xq:=aI hci (aI hiT (aI wK (aI yH (aI qI (zZ)))));refine Ak (Bi rfl (Ai (Aq (Ad (xo62 (h:=Qw (h:=Ac (by simp only[zl,zm,xq]<;>exact rfl) ?_)))))));apply Ac (by simp only[zl,zm,Bg,overlay,Bh,zs,zc,zf,List.take,List.drop,xq]<;>exact rfl);refine Aa (Af ?_);refine Ad (Xp (h:=Qw (h:=Ac (by simp only[zo,Bf,Int.reduceLT,decide_true,decide_false,xq]<;>exact rfl) ?_)));refine Ag rfl (En 0 (b:=false) ?_);refine Ap rfl (Xp (h:=?_));refine Ap rfl (Qw (h:=?_));refine Ap rfl (Xp (h:=?_));refine Ap rfl (Ac (by simp only[zl,zm,zd,Au,List.take,List.drop,hK1,xq]<;>exact rfl) ?_);refine Ap rfl (Ac (by simp only[zo,decide_true,qc,xq]<;>exact rfl) ?_);refine Ap rfl (Ac (by simp only[zo,Bf,decide_true,xq]<;>exact rfl) ?_);apply Ac (by simp only[zo,decide_true,xq]<;>exact rfl);refine Ag rfl (En 0 (b:=false) ?_);refine Ap rfl (Xp (h:=?_));refine Ap rfl (Ac (by simp only[zl,zm,zd,Au,List.take,List.drop,hK1,xq]<;>exact rfl) ?_);refine Ap rfl (Xp (h:=?_));refine Ap rfl (Qw (h:=?_));refine Ap rfl (Ac (by simp only[zl,zm,shN,qc,xq]<;>exact rfl) ?_);refine Ap rfl (Ac (by simp only[zo,Ei,zm,xq]<;>exact rfl) ?_);refine Ap rfl (Qw (h:=?_));refine Ap rfl (Ac (by simp only[zo,Bf,decide_true,xq]<;>exact rfl) ?_);apply Ac (by simp only[zo,decide_true,xq]<;>exact rfl);refine Ag rfl (En 0 (b:=false) ?_);refine Ap rfl (Xp (h:=?_));refine Ap rfl (Qw (h:=?_));refine Ap rfl (Ac (by simp only[zo,Bf,decide_true,decide_false,xq]<;>exact rfl) ?_);apply Ac (by simp only[zo,decide_true,xq]<;>exact rfl);refine Ag rfl (En 0 (b:=false) ?_);refine Ap rfl (Xp (h:=?_));refine Ap rfl (Qw (h:=?_));refine Ap rfl (Xp (h:=?_));refine Ap rfl (Ac (by simp only[zl,zm,zd,Au,List.take,List.drop,hK1,xq]<;>exact rfl) ?_);refine Ap rfl (Ac (by simp only[zo,decide_true,qc,xq]<;>exact rfl) ?_);refine Ap rfl (Ac (by simp only[zo,Bf,decide_true,decide_false,xq]<;>exact rfl) ?_);apply Ac (by simp only[zo,decide_true,xq]<;>exact rfl);refine Aa (Af ?_);apply Be (by simp only[opd,zv,decide_true,xq]<;>rfl);refine Ak (D8 (Bi rfl (Am (Ac (by simp only[zo,Bf,decide_true,xq]<;>exact rfl) ?_))));refine Ag rfl (Aa (Gh (by simp only[ze]<;>exact rfl) ?_));exact⟨c+1-(i+1),by omega,i+1,_,_,_,_,_,_,_,_,_,_,_,_,_,_,_,_,_,_,_,_,by omega,hK1 _,rfl,rfl,rfl⟩
 refine Dh (Gj (Hu (Gl (Bi rfl (Ad (Ac (by simp only[zl]<;>exact rfl) ?_))))));refine Ag rfl (Aa (Af ?_));refine Ai (Ad (xo1 (h:=Ac (by simp only[zl,zm,zd,Au,List.take,List.drop,hK1]<;>exact rfl) ?_)));refine xo34 (h:=?_);refine Aw (Aa (Af ?_));refine Aq (D5 (fun n env S'=>∃(i m:Nat) (K:List Z9) (ks:List (Nat × Nat)) (u2 u3 u4 u5 u7 u8 u9 u10 u11 u12 u13 u14 u15 u16 u17 u18 u22 u23:D),i≤gs.length∧K[0]?=some ⟨37,7,[[Gu false,C,P,F,L,.sl 4 (gs.map (GrM.row false)) none,.sl 2 (G7 (c+1)) none]],0,0,false⟩∧m≠0∧K[m]?=some (mpO (Nv ks))∧(∀a∈ks,∃(j:Nat) (g:GrM),j<i∧gs[j]?=some g∧g.ky=a)∧n=gs.length-i∧S'=⟨K,0⟩∧env=[.agg [Gu false,C,P,F,L,.sl 4 (gs.map (GrM.row false)) none,.sl 2 (G7 (c+1)) none],.ptr 0 0 0 0,u2,u3,u4,u5,.mref m 0,u7,u8,u9,u10,u11,u12,u13,u14,u15,u16,u17,u18,.sl 4 (gs.map (GrM.row false)) none,.int .i64 (gs.length:Nat),.int .i64 (i:Nat),u22,u23]) (gs.length) (by omega) (⟨0,K.length,_,[],_,_,_,_,_,_,_,_,_,_,_,_,_,_,_,_,_,_,by omega,hK1 _,by have:=Ha hK;omega,by simp[mpO,Nv],fun a h=>by simp at h,by omega,rfl,rfl⟩) ?_);rintro n env S' ⟨i,m,K,ks,u2,u3,u4,u5,u7,u8,u9,u10,u11,u12,u13,u14,u15,u16,u17,u18,u22,u23,hi,hK,hm0,kE,hks,hnC,rfl,rfl⟩;have hK1:∀l,(K++l)[0]?=some ⟨37,7,[[Gu false,C,P,F,L,.sl 4 (gs.map (GrM.row false)) none,.sl 2 (G7 (c+1)) none]],0,0,false⟩:=fun l=>by rw[La_ (Ha hK)];exact hK
 have hKm1:∀l,(K++l)[m]?=some (mpO (Nv ks)):=fun l=>by rw[La_ (Ha kE)];exact kE
 refine Ad (xo2 (h:=?_));refine Aa (Af ?_);apply Ai;refine Bj (by simp only[opd,zv]<;>exact rfl) (fun hcAFBFC=>?_) (fun hcAFBFC=>?_)
 ·
  have yB:i<gs.length:=by have:=of_decide_eq_true hcAFBFC;omega
  obtain⟨g,hg⟩:∃g,gs[i]?=some g:=⟨_,Lg yB⟩;have hgr:=hG g (Lm hg);have qJ:(((i:Nat):Int)<((gs.length:Nat):Int))=True:=eq_true (by omega);have wK:((0:Int)≤((i:Nat):Int))=True:=eq_true (by omega);have yH:=Dt i (by omega);obtain⟨b,hb⟩:=seen_bool ks g.ky;have hmg:∀l,Lp ⟨K++l,0⟩ [0,0] (.bool false) false (.mref m 0) (.agg [.int .u8 (g.kind:Nat),.int .i64 (g.level:Nat)])=some (.bool b):=fun l=>by rw[←hb];exact map_get (hKm1 l) g.ky _
  have hms:∀l,Ht ⟨K++l,0⟩ [0,0] (.mref m 0) (.agg [.int .u8 (g.kind:Nat),.int .i64 (g.level:Nat)]) (.bool true)=some ⟨V9 (K++l) m ks g.ky,0⟩:=fun l=>by obtain⟨_,h,_⟩:=U3 (hKm1 l) g.ky;exact h
  have hbk:b=true→g.kind=4:=fun h=>Classical.byContradiction fun xw=>by
   rw[h,seen_no]at hb
   ·
    simp at hb
   intro hm;obtain⟨j,g',h1,h2,h3⟩:=hks _ hm;exact xw (hKy j i g' g h2 hg h1 h3)
  have xI:=aI hg (aI qJ (aI wK (aI yH (aI hmg (hms)))));refine Ak (Bi rfl (Ai (Aq (Ad ?_))));apply Ac (by simp only[zl,zm,Df,Int.toNat_natCast,Lp_,GrM.row,xI]<;>exact rfl);refine Vy (h:=Ac (by simp only[zl,zm,xI]<;>exact rfl) ?_);apply Ac (by simp only[zl,zm,Bg,overlay,Bh,zs,zc,zf,List.take,List.drop,Hm,Gp,xI]<;>exact rfl);refine Aa (Af ?_);refine Ad (xo43 (h:=Vy (h:=xo43 (h:=Vy (h:=Ac (by simp only[zo,Ie,overlay,zc,List.take,List.drop,Nat.reduceAdd,Nat.reduceLeDiff,zm,xI]<;>exact rfl) ?_)))));apply Ac (by simp only[zl,zm,xI]<;>exact rfl);apply Ac (by simp only[zl,zm,Bg,overlay,Bh,zs,zc,zf,List.take,List.drop,xI]<;>exact rfl);refine Aa (Af ?_);refine Ai (Ad (Ac (by simp only[zl,zm,zd,Au,List.take,List.drop,hK1,xI]<;>exact rfl) ?_));refine Vy (h:=Ac (by simp only[zo,decide_true,xI];exact hgr _ _ (by omega)) ?_);apply Ac (by simp only[zo,unD,decide_true,qc,xI]<;>exact rfl);refine Ag rfl (En 0 (b:=false) ?_);refine Ap rfl (Ae rfl (Ap rfl (Vy (h:=?_))));refine Ap rfl (Ac (by simp only[zl,zm,xI]<;>exact rfl) ?_);refine Ap rfl (Ag rfl ?_);refine G9 0 (by simp only[zv]<;>exact rfl) (by simp only[zn]<;>exact rfl) (by simp only[zn]<;>exact rfl) (fun rV=>?_) (fun rV=>?_)
  ·
   have hk4:(((g.kind:Nat):Int) != 4)=false:=by rw[hbk rV];rfl
   refine Ap rfl (xo43 (h:=?_));refine Ap rfl (Vy (h:=?_));refine Ap rfl (Ac (by simp only[zo,Bf,decide_true,xI,hk4]<;>exact rfl) ?_);refine Ap rfl (Ac (by simp only[zo,decide_true,xI]<;>exact rfl) ?_);apply Ac (by simp only[zo,decide_true,xI]<;>exact rfl);refine Aa (Af ?_);apply Be (by simp only[opd,zv,decide_true,xI]<;>rfl);refine Ak (Bi rfl (Am (Ae rfl (Vy (h:=Ac (by simp only[zl,zm,xI]<;>exact rfl) ?_)))));refine Aa (D8 (Af ?_));refine Am (Ac (by simp only[zo,Bf,decide_true,xI]<;>exact rfl) ?_);refine Ag rfl (Aa (Gh (by simp only[ze]<;>exact rfl) ?_));obtain⟨ks',_,kC,hs2,hs3'⟩:=U3 (hKm1 [⟨71,1+1+1+1,[g.row false],0,0,false⟩,⟨93,1+1,[[.int .u8 (g.kind:Nat),.int .i64 (g.level:Nat)]],0,0,false⟩]) g.ky
   have hs3:∀a∈ks',∃(j:Nat) (g:GrM),j<i+1∧gs[j]?=some g∧g.ky=a:=fun a ha=>by
    rcases hs3' a ha with h | h
    ·
     obtain⟨j,g',h1,h2,h3⟩:=hks a h;exact⟨j,g',by omega,h2,h3⟩
    exact⟨i,g,by omega,hg,h.symm⟩
   exact⟨gs.length-(i+1),by omega,i+1,m,_,ks',_,_,_,_,_,_,_,_,_,_,_,_,_,_,_,_,_,_,by omega,(hs2 0 (Ne.symm hm0)).trans (hK1 _),hm0,kC,hs3,rfl,rfl,rfl⟩
  refine Cm rfl rfl (Cm rfl rfl (Cm rfl rfl (Ap rfl (Ac (by simp only[zo,decide_true,xI]<;>exact rfl) ?_))));apply Ac (by simp only[zo,decide_true,xI]<;>exact rfl);refine Aa (Af ?_);apply Be (by simp only[opd,zv,decide_true,xI]);refine Ak (Bi rfl (Am (Ae rfl (Vy (h:=Ac (by simp only[zl,zm,xI]<;>exact rfl) ?_)))));refine Aa (D8 (Af ?_));refine Am (Ac (by simp only[zo,Bf,decide_true,xI]<;>exact rfl) ?_);refine Ag rfl (Aa (Gh (by simp only[ze]<;>exact rfl) ?_));obtain⟨ks',_,kC,hs2,hs3'⟩:=U3 (hKm1 [⟨71,1+1+1+1,[g.row false],0,0,false⟩,⟨93,1+1,[[.int .u8 (g.kind:Nat),.int .i64 (g.level:Nat)]],0,0,false⟩]) g.ky
  have hs3:∀a∈ks',∃(j:Nat) (g:GrM),j<i+1∧gs[j]?=some g∧g.ky=a:=fun a ha=>by
   rcases hs3' a ha with h | h
   ·
    obtain⟨j,g',h1,h2,h3⟩:=hks a h;exact⟨j,g',by omega,h2,h3⟩
   exact⟨i,g,by omega,hg,h.symm⟩
  exact⟨gs.length-(i+1),by omega,i+1,m,_,ks',_,_,_,_,_,_,_,_,_,_,_,_,_,_,_,_,_,_,by omega,(hs2 0 (Ne.symm hm0)).trans (hK1 _),hm0,kC,hs3,rfl,rfl,rfl⟩
 refine Dh (Gj (Hu (Gl (Bi rfl (Ad (Ac (by simp only[zl,zm,zd,Au,List.take,List.drop,hK]<;>exact rfl) ?_))))));apply Ac (by simp only[zo];exact hPg _ _ (by omega));refine Ag rfl (Aa (Af ?_));apply A7;refine⟨_,by simp only[F67,resultD,Ba,resD,zg]<;>exact rfl,?_⟩;simp only[leaveP,leave,zs,zf,zk]
def GrM.rk (g:GrM):Nat:=if g.kind=4 then 0 else if g.kind=3 then 3+2*g.level else if g.kind=5 then 4+2*g.level else if g.kind<3 then g.kind else 30+g.kind
def RkLt (g g':GrM):Prop:=g.rk<g'.rk∨g'.kind=4
theorem CM.gl_rk(x:CM):∀n,n≤3→(x.gl n).Pairwise RkLt∧∀g∈x.gl n,3≤g.rk∧g.rk<3+2*n
 | 0,_=>by simp[CM.gl]
 | n + 1, h => by
  obtain⟨h1,h2⟩:=CM.gl_rk x n (by omega)
  have e1:∀g∈x.gh n,g.rk=3+2*n:=fun g hg=>by
   unfold CM.gh at hg;split at hg
   ·
    obtain rfl:=List.mem_singleton.1 hg;rfl
   simp at hg
  have e2:∀g∈x.gf n,g.rk=4+2*n:=fun g hg=>by
   unfold CM.gf at hg;split at hg
   ·
    obtain rfl:=List.mem_singleton.1 hg;rfl
   simp at hg
  have p1:(x.gh n).Pairwise RkLt:=by unfold CM.gh;split<;>simp
  have p2:(x.gf n).Pairwise RkLt:=by unfold CM.gf;split<;>simp
  refine⟨List.pairwise_append.2 ⟨h1,List.pairwise_append.2 ⟨p1,p2,fun a ha b hb=>.inl (by rw[e1 a ha,e2 b hb];omega)⟩,fun a ha b hb=>.inl ?_⟩,fun g hg=>?_⟩
  ·
   have:=h2 a ha;rcases List.mem_append.1 hb with hb | hb
   ·
    rw[e1 b hb];omega
   rw[e2 b hb];omega
  rcases List.mem_append.1 hg with hg | hg
  ·
   have:=h2 g hg;omega
  rcases List.mem_append.1 hg with hg | hg
  ·
   rw[e1 g hg];omega
  rw[e2 g hg];omega
theorem CM.keysOK(x:CM):KeysOK x.grps:=by
 have hc:=x.ctl_lt;obtain⟨p0,r0⟩:=x.gl_rk (x.ctl+1) (by omega)
 have r1:∀g∈x.g1,g.rk=1:=fun g hg=>by
  unfold CM.g1 at hg;split at hg
  ·
   obtain rfl:=List.mem_singleton.1 hg;rfl
  simp at hg
 have r2:∀g∈x.g2,g.rk=2:=fun g hg=>by
  unfold CM.g2 at hg;split at hg
  ·
   obtain rfl:=List.mem_singleton.1 hg;rfl
  simp at hg
 have r8:∀g∈x.g8,g.rk=36:=fun g hg=>by
  unfold CM.g8 at hg;split at hg
  ·
   obtain rfl:=List.mem_singleton.1 hg;rfl
  simp at hg
 have r9:∀g∈x.g9,g.rk=37:=fun g hg=>by
  unfold CM.g9 at hg;split at hg
  ·
   obtain rfl:=List.mem_singleton.1 hg;rfl
  simp at hg
 have rd:∀g∈[gD1 x,gD2],g.rk=0:=fun g hg=>by
  rcases List.mem_cons.1 hg with rfl | hg
  ·
   rfl
  obtain rfl:=List.mem_singleton.1 hg;rfl
 have pd:[gD1 x,gD2].Pairwise RkLt:=by simp[RkLt,gD2]
 have p1:x.g1.Pairwise RkLt:=by unfold CM.g1;split<;>simp
 have p2:x.g2.Pairwise RkLt:=by unfold CM.g2;split<;>simp
 have p8:x.g8.Pairwise RkLt:=by unfold CM.g8;split<;>simp
 have p9:x.g9.Pairwise RkLt:=by unfold CM.g9;split<;>simp
 have hp:x.grps.Pairwise RkLt:=by
  unfold CM.grps
  refine List.pairwise_append.2 ⟨List.pairwise_append.2 ⟨List.pairwise_append.2 ⟨List.pairwise_append.2 ⟨List.pairwise_append.2 ⟨pd,p1,?_⟩,p2,?_⟩,p0,?_⟩,p8,?_⟩,p9,?_⟩ <;>
   intro a ha b hb<;>refine .inl ?_<;>try simp only[List.mem_append]at ha
  ·
   rw[rd a ha,r1 b hb];omega
  ·
   rw[r2 b hb];rcases ha with ha | ha
   ·
    rw[rd a ha];omega
   rw[r1 a ha];omega
  ·
   have:=r0 b hb;rcases ha with (ha | ha) | ha
   ·
    rw[rd a ha];omega
   ·
    rw[r1 a ha];omega
   rw[r2 a ha];omega
  ·
   rw[r8 b hb];rcases ha with ((ha | ha) | ha) | ha
   ·
    rw[rd a ha];omega
   ·
    rw[r1 a ha];omega
   ·
    rw[r2 a ha];omega
   have:=r0 a ha;omega
  rw[r9 b hb];rcases ha with (((ha | ha) | ha) | ha) | ha
  ·
   rw[rd a ha];omega
  ·
   rw[r1 a ha];omega
  ·
   rw[r2 a ha];omega
  ·
   have:=r0 a ha;omega
  rw[r8 a ha];omega
 intro i j g g' hi hj hij he;obtain⟨wG,rfl⟩:=List.getElem?_eq_some_iff.1 hi;obtain⟨hj1,rfl⟩:=List.getElem?_eq_some_iff.1 hj;rcases (List.pairwise_iff_getElem.1 hp) i j wG hj1 hij with h | h
 ·
  have e1:x.grps[i].kind=x.grps[j].kind:=congrArg Prod.fst he;have e2:x.grps[i].level=x.grps[j].level:=congrArg Prod.snd he;simp only[GrM.rk,e1,e2]at h;omega
 exact h
theorem La(b:Bool)(sz:Nat)(rows:List (List D))(c:Option Nat):lenD false (slB b sz rows c)=some (.int .i64 (rows.length:Nat)):=by
 cases rows<;>rfl
theorem valid_run{d:Nat}(hd:32≤d)(S:St)(x:CM):Bd LP NN d 67 [.agg (x.rep false)] S=some (.bool true,S,false):=by
 have hl:=x.grps_len;have hc:=x.ctl_lt;have e1:slB true 4 (x.grps.map (GrM.row false)) none=.sl 4 (x.grps.map (GrM.row false)) none:=Gm (by rw[List.length_map];omega);have e2:slB true 2 (x.totR (x.ctl+1)) none=.sl 2 (G7 (x.ctl+1)) none:=Gm (by simp[CM.totR]);have e3:x.rep false=[Gu false,slB true 1 (x.ctlR x.ctl) none,.int .i64 (x.P:Nat),.int .i64 (x.F:Nat),.int .i64 (x.L:Nat),.sl 4 (x.grps.map (GrM.row false)) none,.sl 2 (G7 (x.ctl+1)) none]:=by rw[CM.rep,e1,e2]
 have hI:∀n:Int,Cl (.int .i64 n):=fun _=>⟨rfl,rfl,rfl,rfl⟩
 have:=valid_gen (d:=d) hd S x.ctl (slB true 1 (x.ctlR x.ctl) none) (.int .i64 (x.P:Nat)) (.int .i64 (x.F:Nat)) (.int .i64 (x.L:Nat)) x.grps (P6 ..) (hI _) (hI _) (hI _) (by omega) hc (by rw[La];simp[CM.ctlR])
  (fun h=>Gm (by simp[CM.ctlR,h])) x.keysOK (fun g hg d S h=>by rw[←e3];exact group_run h S x g hg) (fun d S h=>by rw[←e3];exact pages_run (by omega) S x)
 rw[e3];exact this
theorem check_gen{d:Nat}(hd:33≤d)(S:St)(c:Nat)(C P F L T:D)(gs:List GrM)(qC:Cl C)(qP:Cl P)(qF:Cl F)(qL:Cl L)(qT:Cl T)(hn:gs.length≤64)(hc:c<3)(xg:lenD false C=some (.int .i64 (c:Nat)))(hTl:lenD false T=some (.int .i64 (c+1:Nat)))
  (hv:∀d S,32≤d→Bd LP NN d 67 [.agg [Gu false,C,P,F,L,.sl 4 (gs.map (GrM.row false)) none,T]] S=some (.bool true,S,false)) :
  Bd LP NN d 30 [.agg [Gu false,C,P,F,L,.sl 4 (gs.map (GrM.row false)) none,T]] S=some (.int .i64 0,S,false):=by
 have qA:Cl (Gu false):=⟨rfl,rfl,rfl,rfl⟩;have ⟨qA0,qA1,qA2,qA3⟩:=qA;have ⟨qC0,qC1,qC2,qC3⟩:=qC;have ⟨qP0,qP1,qP2,qP3⟩:=qP;have ⟨qF0,qF1,qF2,qF3⟩:=qF;have ⟨qL0,qL1,qL2,qL3⟩:=qL;have ⟨qT0,qT1,qT2,qT3⟩:=qT;have hFl:lenD false (Gu false)=some (.int .i64 3):=rfl;have h1:((3:Int)>64)=False:=eq_false (by omega);have h2:(((c:Nat):Int)>8)=False:=eq_false (by omega);have h3:(((gs.length:Nat):Int)>64)=False:=eq_false (by omega);have h4:(((c+1:Nat):Int)>64)=False:=eq_false (by omega);refine run_pure (F:=F30) rfl (by simp only[LP,snapVs,Bh,zs,zm,Dq qA3,Dq qC3,Dq qP3,Dq qF3,Dq qL3,Dq qT3]<;>exact rfl) rfl (by simp only[LP,zf,zm,qA3,qC3,qP3,qF3,qL3,qT3];try rfl) (by simp only[F30,zv]<;>exact rfl) (by omega) ?_;rintro d rfl;have qc:=aI @Bool.not_true (aI xg (aI hTl (aI hFl (aI h1 (aI h2 (aI h3 (h4)))))));refine Ad (Ac (by simp only[zl,zm,zc,qA0,qC0,qP0,qF0,qL0,qT0]<;>exact rfl) ?_);refine Aw (Aa (Af ?_));refine Ai (Aq (Ad (xo1 (h:=xo0 (h:=Ac (by simp only[zo,qc]<;>exact rfl) ?_)))));refine xo41 (h:=Ag rfl (En 0 (b:=false) ?_));refine Ap rfl (xo1 (h:=?_));refine Ap rfl (xo0 (h:=?_));refine Ap rfl (Ac (by simp only[zo,qc]<;>exact rfl) ?_);refine Ap rfl (xo41 (h:=xo3 (h:=Ag rfl (En 0 (b:=false) ?_))));refine Ap rfl (xo1 (h:=?_));refine Ap rfl (xo0 (h:=?_));refine Ap rfl (xo34 (h:=?_));refine Ap rfl (xo41 (h:=xo3 (h:=Ag rfl (En 0 (b:=false) ?_))));refine Ap rfl (xo1 (h:=?_));refine Ap rfl (xo0 (h:=?_));refine Ap rfl (Ac (by simp only[zo,qc]<;>exact rfl) ?_);refine Ap rfl (xo41 (h:=xo3 (h:=Ag rfl (Aa ?_))));refine Af ?_;refine Dw ?_;refine Ad (xo0 (h:=Ac (by simp only[zo];exact hv _ _ (by omega)) ?_));apply Ac (by simp only[zo,unD,qc]<;>exact rfl);refine Ag rfl (Aa (Af ?_));refine Dw ?_;refine Ak (D8 (Bi rfl (Ad (Aw (Aa (Af ?_))))));apply A7;refine⟨_,by simp only[F30,resultD,Ba,resD,zg]<;>exact rfl,?_⟩;simp only[leaveP,leave,zs,zf,zk]
theorem check_run{d:Nat}(hd:33≤d)(S:St)(x:CM):Bd LP NN d 30 [.agg (x.rep false)] S=some (.int .i64 0,S,false):=by
 have hl:=x.grps_len;have hc:=x.ctl_lt;have e1:slB true 4 (x.grps.map (GrM.row false)) none=.sl 4 (x.grps.map (GrM.row false)) none:=Gm (by rw[List.length_map];omega);have e3:x.rep false=[Gu false,slB true 1 (x.ctlR x.ctl) none,.int .i64 (x.P:Nat),.int .i64 (x.F:Nat),.int .i64 (x.L:Nat),.sl 4 (x.grps.map (GrM.row false)) none,slB true 2 (x.totR (x.ctl+1)) none]:=by rw[CM.rep,e1]
 have hI:∀n:Int,Cl (.int .i64 n):=fun _=>⟨rfl,rfl,rfl,rfl⟩
 have:=check_gen (d:=d) hd S x.ctl (slB true 1 (x.ctlR x.ctl) none) (.int .i64 (x.P:Nat)) (.int .i64 (x.F:Nat)) (.int .i64 (x.L:Nat)) (slB true 2 (x.totR (x.ctl+1)) none) x.grps (P6 ..) (hI _) (hI _) (hI _) (P6 ..) (by omega) hc (by rw[La];simp[CM.ctlR]) (by rw[La];simp[CM.totR])
  (fun d S h=>by rw[←e3];exact valid_run h S x)
 rw[e3];exact this
structure WM where
 page:Nat
 line:Nat
 body:Bool
 row:Option RM
 tot:List Nat
 lines:List (Nat × Nat × List UInt8)
 ended:Bool
def Jd:Option RM→D
 | none=>.nils
 | some y=>.sl 12 y.fld (some 3)
def dcR (n:Nat):List D:=[.bool false,.str (mkS (dgs n)),.int .i64 0]
def lnR (p:Nat × Nat × List UInt8):List D:=[.int .i64 (p.1:Nat),.int .i64 (p.2.1:Nat),.str (mkS p.2.2)]
def wRow (x:CM) (gm:Nat) (pg ln:D) (bo:Bool) (row td lin:D) (en:Bool):List D:=[Gu true,slB true 1 (x.ctlR x.ctl) none,.int .i64 (x.P:Nat),.int .i64 (x.F:Nat),.int .i64 (x.L:Nat),.sl 4 (x.grps.map (GrM.row true)) none,.sl 2 (G7 (x.ctl+1)) none,pg,ln,.bool bo,row,td,lin,.bool false,.mref gm 0,.bool en]
def wO (x:CM) (gm:Nat) (pg ln:D) (bo:Bool) (row td lin:D) (en:Bool):Z9:=⟨91,16,[wRow x gm pg ln bo row td lin en],0,0,false⟩
def LinAt (H:List Z9) (d:D) (rows:List (List D)):Prop:=(rows=[]∧d=.nils)∨(rows≠[]∧(d=.sl 3 rows (some rows.length)∨∃g v,d=.msl g v 0 rows.length none∧H[g]?=some ⟨52,3,rows,v,1,true⟩))
def TotB (b:Nat) (H:List Z9) (d:D) (n:Nat):Prop:=(n=0∧d=.nils)∨(n≠0∧∃g,b≤g∧d=.msl g (n-1) 0 n none∧H[g]?=some ⟨57,3,List.replicate n (dcR 0),n-1,2,true⟩)
def Xi (gs:List GrM):List ((Nat × Nat) × D):=(gs.filter (fun g=>decide (g.kind≠4))).map fun g=>(g.ky,.agg (g.row true))
structure WS (H:List Z9) (g gm gt:Nat) (x:CM) (w:WM):Prop where
 hw:∃lin,H[g]?=some (wO x gm (.int .i64 (w.page:Nat)) (.int .i64 (w.line:Nat)) w.body (Jd w.row) (.msl gt x.ctl 0 (x.ctl+1) none) lin w.ended)∧LinAt H lin (w.lines.map lnR)
 hm:H[gm]?=some (mpO (Xi x.grps))
 ht:H[gt]?=some ⟨57,3,w.tot.map dcR,x.ctl,2,true⟩
 hn:w.tot.length=x.ctl+1
def Keep (H H':List Z9):Prop:=H.length≤H'.length∧∀(j:Nat) (o:Z9),H[j]?=some o→(o.kind=0∧o.elem≠91)∨o.elem=0→H'[j]?=some o
theorem Keep.refl(H:List Z9):Keep H H:=⟨Nat.le_refl _,fun _ _ h _=>h⟩
theorem Keep.trans{H H' H'':List Z9}(h:Keep H H')(h':Keep H' H''):Keep H H'':=⟨Nat.le_trans h.1 h'.1,fun j o h1 h2=>h'.2 j o (h.2 j o h1 h2) h2⟩
theorem Keep.app(H l:List Z9):Keep H (H++l):=⟨by simp,fun j o h _=>Di h l⟩
theorem LinAt.keep{H H':List Z9}{d:D}{rows:List (List D)}(h:LinAt H d rows)(hk:∀(g:Nat) (o:Z9),H[g]?=some o→o.elem=52→H'[g]?=some o):LinAt H' d rows:=by
 rcases h with h | ⟨h1,h | ⟨g,v,h2,h3⟩⟩
 ·
  exact .inl h
 ·
  exact .inr ⟨h1,.inl h⟩
 exact .inr ⟨h1,.inr ⟨g,v,h2,hk g _ h3 rfl⟩⟩
theorem LinAt.Aag{H:List Z9}{d:D}{rows:List (List D)}(h:LinAt H d rows):d.Aag=true:=by
 rcases h with⟨_,rfl⟩ | ⟨h1,rfl | ⟨g,v,rfl,h3⟩⟩<;>rfl
theorem LinAt.cells{H:List Z9}{d:D}{rows:List (List D)}(h:LinAt H d rows):d.cells=[d]:=by
 rcases h with⟨_,rfl⟩ | ⟨h1,rfl | ⟨g,v,rfl,h3⟩⟩<;>rfl
theorem LinAt.val{H:List Z9}{d:D}{rows:List (List D)}(h:LinAt H d rows):d.val=true:=by
 rcases h with⟨_,rfl⟩ | ⟨h1,rfl | ⟨g,v,rfl,h3⟩⟩<;>rfl
theorem LinAt.len{H:List Z9}{d:D}{rows:List (List D)}(h:LinAt H d rows):lenD false d=some (.int .i64 (rows.length:Nat)):=by
 rcases h with⟨rfl,rfl⟩ | ⟨h1,rfl | ⟨g,v,rfl,h3⟩⟩<;>rfl
theorem TotB.Aag{b:Nat}{H:List Z9}{d:D}{n:Nat}(h:TotB b H d n):d.Aag=true:=by
 rcases h with⟨_,rfl⟩ | ⟨h1,g,_,rfl,h3⟩<;>rfl
theorem TotB.cells{b:Nat}{H:List Z9}{d:D}{n:Nat}(h:TotB b H d n):d.cells=[d]:=by
 rcases h with⟨_,rfl⟩ | ⟨h1,g,_,rfl,h3⟩<;>rfl
theorem TotB.val{b:Nat}{H:List Z9}{d:D}{n:Nat}(h:TotB b H d n):d.val=true:=by
 rcases h with⟨_,rfl⟩ | ⟨h1,g,_,rfl,h3⟩<;>rfl
theorem tot_app{H:List Z9}{g v lo n:Nat}{rows:List (List D)}(h:H[g]?=some ⟨57,3,rows,v,2,true⟩)(hn:n=rows.length)(hl:n≤1000)(row:List D)(c:Option Nat):Dj 57 3 32 2 (.msl g v 0 n none) (.sl 3 [row] c) ⟨H,lo⟩=some (.msl g (v+1) 0 (n+1) none,⟨H.set g ⟨57,3,rows++[row],v+1,2,true⟩,min lo g⟩,true):=by
 have e2:(rows.length+1)*32≤140737488355328:=by omega
 subst hn;simp[Dj,rowsOf,h,Dn,setAt,Bo,e2]
theorem tot_new{H:List Z9}{lo:Nat}(row:List D)(c:Option Nat):Dj 57 3 32 2 .nils (.sl 3 [row] c) ⟨H,lo⟩=some (.msl H.length 0 0 1 none,⟨H++[⟨57,3,[row],0,2,true⟩],lo⟩,true):=by
 simp[Dj,Dn,newAt,Bo]
theorem Vj(b:Bool):(Gu b).Aag=true:=rfl
theorem fld_free(b:Bool):(Gu b).free=true:=rfl
theorem ents_step{gs:List GrM}{i:Nat}{g:GrM}(h:gs[i]?=some g):Xi (gs.take (i+1))=Xi (gs.take i)++if g.kind=4 then [] else [(g.ky,.agg (g.row true))]:=by
 rw[List.take_add_one,h,Xi,List.filter_append,List.map_append];by_cases hk:g.kind=4<;>simp[hk,Xi]
theorem ents_new{gs:List GrM}(hK:KeysOK gs){i:Nat}{g:GrM}(h:gs[i]?=some g)(hk:g.kind≠4):∀p∈Xi (gs.take i),p.1≠g.ky:=by
 intro p hp e;obtain⟨g',hg',rfl⟩:=List.mem_map.1 hp;obtain⟨j,hj⟩:=List.mem_iff_getElem?.1 (List.mem_filter.1 hg').1;have xO:=(List.getElem?_eq_some_iff.1 hj).1;have hji:j<i:=by simp at xO;omega
 rw[List.getElem?_take_of_lt hji]at hj;exact hk (hK j i g' g hj h hji e)
theorem grow_free(g:GrM)(b:Bool):(g.row b).all D.free=true:=by
 simp only[GrM.row,List.all_cons,List.all_nil,Gp,Ls,Pm,Bool.and_true]
theorem snapV_grow(g:GrM)(b:Bool)(m:Nat)(H:List Z9):Aac m H (.agg (g.row b))=some (.agg (g.row b)):=by
 have:∀d∈g.row b,snap m H d=some d:=fun d hd=>Dq (List.all_eq_true.1 (grow_free g b) d hd) m H;rw[Ua];simp only[GrM.row,List.mem_cons,List.not_mem_nil,or_false,forall_eq_or_imp,forall_eq]at this;simp only[GrM.row,Bh,this.1,this.2.1,this.2.2.1,this.2.2.2]
 try rfl
theorem freeV_grow(g:GrM)(b:Bool):((D.agg (g.row b)).freeV&&(D.agg (g.row b)).val)=true:=by
 rw[Ya,grow_free,Zr];simp[GrM.row,Hm,Vd,Ry]
theorem map_addL{H:List Z9}{g lo:Nat}{l:List ((Nat × Nat) × D)}(h:H[g]?=some (mpO l)){k:Nat × Nat}(hk:∀p∈l,p.1≠k){v v':D}(hv:Aac H.length H v=some v')(wQ:(v'.freeV&&v'.val)=true):Ht ⟨H,lo⟩ [0,0] (.mref g 0) (kyD k) v=some ⟨H.set g (mpO (l++[(k,v')])),min lo g⟩:=by
 have e:=Yd (l:=l) (k:=k) (i:=0) hk;simp only[Ht,rowsOf,h,mpO,if_true,true_and,Uk,hv,wQ,e,setAt,List.map_append,List.map_cons,List.map_nil,kyR]
theorem CM.rep_b(x:CM)(b:Bool):x.rep b=[Gu b,slB true 1 (x.ctlR x.ctl) none,.int .i64 (x.P:Nat),.int .i64 (x.F:Nat),.int .i64 (x.L:Nat),.sl 4 (x.grps.map (GrM.row b)) none,.sl 2 (G7 (x.ctl+1)) none]:=by
 have hl:=x.grps_len;have e1:slB true 4 (x.grps.map (GrM.row b)) none=.sl 4 (x.grps.map (GrM.row b)) none:=Gm (by rw[List.length_map];omega);have e2:slB true 2 (x.totR (x.ctl+1)) none=.sl 2 (G7 (x.ctl+1)) none:=Gm (by simp[CM.totR]);rw[CM.rep,e1,e2]
theorem get_lt{H:List Z9}{j:Nat}(h:j<H.length)(l:List Z9):(H++l)[j]?=H[j]?:=La_ h
theorem leave_grow(S S':St)(r:D)(hl:S.heap.length<S'.heap.length)(hf:r.Aad=false)(hs:∀m H,Aae m H r=some r):leave false S r S'=some (r,⟨S'.heap,min S.low S'.low⟩,true):=by
 have h1:¬(S.heap.length≤S'.low∧S'.heap.length=S.heap.length):=by omega
 simp only[leave,hs,hf,Bool.false_eq_true,if_false,h1,ite_self]
theorem new_run{d:Nat}(hd:34≤d)(H:List Z9)(low:Nat)(x:CM):∃r,(∃S' g gm gt,r=(.tup [.ptr g 0 0 0,.int .i64 0],S',true)∧WS S'.heap g gm gt x ⟨0,0,false,none,List.replicate (x.ctl+1) 0,[],false⟩∧Keep H S'.heap∧H.length≤g)∧Bd LP NN d 9 [.agg [Gu false,slB true 1 (x.ctlR x.ctl) none,.int .i64 (x.P:Nat),.int .i64 (x.F:Nat),.int .i64 (x.L:Nat),.sl 4 (x.grps.map (GrM.row false)) none,.sl 2 (G7 (x.ctl+1)) none]] ⟨H,low⟩=some r:=by
 have hl:=x.grps_len;have hc:=x.ctl_lt;have hTl:(G7 (x.ctl+1)).length=x.ctl+1:=by simp[G7]
 have hck:∀d S,33≤d→Bd LP NN d 30 [.agg [Gu false,slB true 1 (x.ctlR x.ctl) none,.int .i64 (x.P:Nat),.int .i64 (x.F:Nat),.int .i64 (x.L:Nat),.sl 4 (x.grps.map (GrM.row false)) none,.sl 2 (G7 (x.ctl+1)) none]] S=some (.int .i64 0,S,false):=fun d S h=>by rw[←x.rep_b false];exact check_run h S x
 have how:∀d S,3≤d→Bd LP NN d 31 [.agg [Gu false,slB true 1 (x.ctlR x.ctl) none,.int .i64 (x.P:Nat),.int .i64 (x.F:Nat),.int .i64 (x.L:Nat),.sl 4 (x.grps.map (GrM.row false)) none,.sl 2 (G7 (x.ctl+1)) none]] S=some (.agg [Gu true,slB true 1 (x.ctlR x.ctl) none,.int .i64 (x.P:Nat),.int .i64 (x.F:Nat),.int .i64 (x.L:Nat),.sl 4 (x.grps.map (GrM.row true)) none,.sl 2 (G7 (x.ctl+1)) none],S,false):=fun d S h=>by rw[←x.rep_b false,←x.rep_b true];exact own_run h S x
 refine Eu (F:=F9) rfl (by simp only[LP,snapVs,Bh,zs,zm,Gp,Dq,Gp]<;>exact rfl) rfl (by simp only[LP,zf,zm,Gp,fld_free,fld_free,Gp];try rfl) (by simp only[F9,zv]<;>exact rfl) (by omega) ?_;rintro d rfl;refine Ad (Ac (by simp only[zl,zm,zc,Hm,Vj]<;>exact rfl) ?_);refine Aw (Aw (Aa (Af ?_)));refine Ai (Ad (xo0 (h:=Ac (by simp only[zo];exact hck _ _ (by omega)) ?_)));refine Ag rfl (Aa (Af ?_));refine Ad (Ae rfl (xo2 (h:=?_)));refine Aa (Af ?_);refine Dw ?_;refine Ak (Bi rfl (Ad (xo0 (h:=Ac (by simp only[zo];exact how _ _ (by omega)) ?_))));refine Ko (h:=Ac (by simp only[zo,Ie,overlay,zc,List.take,List.drop,Nat.reduceAdd,Nat.reduceLeDiff,zm,Hm,Vj]<;>exact rfl) ?_);apply Ac (by simp only[zl,zm,zc,Hm,Vj]<;>exact rfl);refine Ag rfl (Aa (Af ?_));refine Ai (Ad (Ae rfl (xo3 (h:=xo1 (h:=xo1 (h:=xo0 (h:=xo34 (h:=?_))))))));refine Aw (Aa (Af ?_));refine Aq (D5 (fun n env S'=>∃(i:Nat) (K:List Z9) (lo:Nat) (u2 u3 u4 u6 u7 u11 u12 u13 u14 u15:D),i≤x.grps.length∧K[H.length+1]?=some (mpO (Xi (x.grps.take i)))∧K[H.length+2]?=some (wO x (H.length+1) (.int .i64 0) (.int .i64 0) false .nils .nils .nils false)∧(∀j,j<H.length→K[j]?=H[j]?)∧n=x.grps.length-i∧S'=⟨K,lo⟩∧env=[.agg [Gu false,slB true 1 (x.ctlR x.ctl) none,.int .i64 (x.P:Nat),.int .i64 (x.F:Nat),.int .i64 (x.L:Nat),.sl 4 (x.grps.map (GrM.row false)) none,.sl 2 (G7 (x.ctl+1)) none],.ptr H.length 0 0 0,u2,u3,u4,.ptr (H.length+2) 0 0 0,u6,u7,.sl 4 (x.grps.map (GrM.row true)) none,.int .i64 (x.grps.length:Nat),.int .i64 (i:Nat),u11,u12,u13,u14,u15]) (x.grps.length) (by omega) (⟨0,_,_,_,_,_,_,_,_,_,_,_,_,by omega,by simp[Xi,mpO],by simp[wO,wRow],fun j hj=>get_lt hj _,by omega,rfl,rfl⟩) ?_);rintro n env S' ⟨i,K,lo,u2,u3,u4,u6,u7,u11,u12,u13,u14,u15,hi,kE,qQ,vU,hnA,rfl,rfl⟩;have hlm:=Ha kE;have hlw:=Ha qQ;have hKm1:∀l,(K++l)[H.length+1]?=some (mpO (Xi (x.grps.take i))):=fun l=>Di kE l;have hKw1:∀l,(K++l)[H.length+2]?=some (wO x (H.length+1) (.int .i64 0) (.int .i64 0) false .nils .nils .nils false):=fun l=>Di qQ l;have hKs1:∀o l,(K++l).set (H.length+1) o=K.set (H.length+1) o++l:=fun o l=>List.set_append_left _ _ hlm;have xq:=aI kE (aI qQ (aI hKm1 (aI hKw1 (hKs1))));refine Ad (xo2 (h:=?_));refine Aa (Af ?_);apply Ai;refine Bj (by simp only[opd,zv]<;>exact rfl) (fun xZ=>?_) (fun xZ=>?_)
 ·
  have yB:i<x.grps.length:=by have:=of_decide_eq_true xZ;omega
  obtain⟨g,hg⟩:∃g,x.grps[i]?=some g:=⟨_,Lg yB⟩;have qJ:(((i:Nat):Int)<((x.grps.length:Nat):Int))=True:=eq_true (by omega);have wK:((0:Int)≤((i:Nat):Int))=True:=eq_true (by omega);have yH:=Dt i (by omega);have uD:=ents_step hg;have xI:=aI hg (aI qJ (aI wK (yH)));refine Ak (Bi rfl (Ai (Aq (Ad ?_))));apply Ac (by simp only[zl,zm,Df,Int.toNat_natCast,Lp_,GrM.row,xI]<;>exact rfl);refine Vy (h:=Ac (by simp only[zl,zm,xI]<;>exact rfl) ?_);apply Ac (by simp only[zl,zm,Bg,overlay,Bh,zs,zc,zf,List.take,List.drop,Hm,Gp,xI]<;>exact rfl);refine Aa (Af ?_);refine Ad (xo43 (h:=Vy (h:=xo39 (h:=?_))));refine Aa (Af ?_);refine Bj (by simp only[opd,zv,xI]<;>exact rfl) (fun xK=>?_) (fun xK=>?_)
  ·
   have hk4:g.kind≠4:=by intro h;rw[h]at xK;simp at xK
   have hms:=fun l lo=>map_addL (lo:=lo) (hKm1 l) (ents_new x.keysOK hg hk4) (snapV_grow g true _ _) (freeV_grow g true);simp only[kyD,GrM.ky,GrM.row]at hms;apply Fb (by simp only[newsVals,zw,Nat.reduceAdd]<;>exact rfl) (by simp only[zw]<;>exact rfl);refine Bc rfl rfl (Aj (by simp only[zo,xI]<;>exact rfl) rfl rfl ?_);apply Aj (by simp only[zo,Cj,zm,xI]<;>exact rfl) rfl rfl;refine Az (by simp only[zl,zm,zd,Au,List.take,List.drop,wO,wRow,xq,xI]<;>exact rfl) rfl ?_;apply Aj (by simp only[zo,Cj,zm,xI]<;>exact rfl) rfl rfl;refine xo53 (h:=Aj (by simp only[zo,Cj,zm,xI]<;>exact rfl) rfl rfl ?_);refine xo53 (h:=Aj (by simp only[zo,Ie,overlay,zc,List.take,List.drop,Nat.reduceAdd,Nat.reduceLeDiff,zm,xI]<;>exact rfl) rfl rfl ?_);refine xo53 (h:=Dc (by simp only[zl,zm,xq,xI,hms]<;>exact rfl) (by simp only[fpHere,zo]<;>exact rfl) rfl ?_);refine Ce (D8 (Af ?_));refine Am (xo39 (h:=Ag rfl (Aa ?_)));apply Gh (by simp only[ze]<;>exact rfl);exact⟨x.grps.length-(i+1),by omega,i+1,_,_,_,_,_,_,_,_,_,_,_,_,by omega,by rw[uD,if_neg hk4];exact Di (A8 kE _) _,Di (Bv qQ (by omega) _) _,fun j hj=>by rw[La_ (by simp;omega),Ln_ (by omega)];exact vU j hj,rfl,rfl,rfl⟩
  have hk4:g.kind=4:=by
   have h4:((g.kind:Nat):Int)=4:=by simpa using xK
   omega
  refine Ak (D8 (Bi rfl (Am (xo39 (h:=Ag rfl (Aa ?_))))));apply Gh (by simp only[ze]<;>exact rfl);exact⟨x.grps.length-(i+1),by omega,i+1,_,_,_,_,_,_,_,_,_,_,_,_,by omega,by rw[uD,if_pos hk4,List.append_nil];exact Di kE _,Di qQ _,fun j hj=>by rw[La_ (by omega)];exact vU j hj,rfl,rfl,rfl⟩
 have yV:i=x.grps.length:=by have:=of_decide_eq_false xZ;omega
 subst yV;rw[List.take_length]at kE;refine Dh (Gj (Hu (Gl (Bi rfl (Ai (Ad (Ae rfl (xo3 (h:=xo1 (h:=xo1 (h:=xo52 (h:=Ac (by simp only[zo,Fq,hTl]<;>exact rfl) ?_))))))))))));refine Aw (Aa (Af ?_));refine Aq (D5 (fun n env S'=>∃(i:Nat) (K:List Z9) (lo:Nat) (td:D) (u2 u3 u4 u6 u7 u8 u9 u10 u11 u12 u15:D),i≤x.ctl+1∧K[H.length+1]?=some (mpO (Xi x.grps))∧K[H.length+2]?=some (wO x (H.length+1) (.int .i64 0) (.int .i64 0) false .nils td .nils false)∧TotB (H.length+3) K td i∧(∀j,j<H.length→K[j]?=H[j]?)∧n=x.ctl+1-i∧S'=⟨K,lo⟩∧env=[.agg [Gu false,slB true 1 (x.ctlR x.ctl) none,.int .i64 (x.P:Nat),.int .i64 (x.F:Nat),.int .i64 (x.L:Nat),.sl 4 (x.grps.map (GrM.row false)) none,.sl 2 (G7 (x.ctl+1)) none],.ptr H.length 0 0 0,u2,u3,u4,.ptr (H.length+2) 0 0 0,u6,u7,u8,u9,u10,u11,u12,.int .i64 (x.ctl+1:Nat),.int .i64 (i:Nat),u15]) (x.ctl+1) (by omega) (⟨0,_,_,.nils,_,_,_,_,_,_,_,_,_,_,_,by omega,kE,qQ,.inl ⟨rfl,rfl⟩,vU,by omega,rfl,rfl⟩) ?_);rintro n env S' ⟨i,K,lo,td,u2,u3,u4,u6,u7,u8,u9,u10,u11,u12,u15,hi,kE,qQ,hT,vU,hnB,rfl,rfl⟩;have hlm:=Ha kE;have hlw:=Ha qQ;have hKw1:∀l,(K++l)[H.length+2]?=some (wO x (H.length+1) (.int .i64 0) (.int .i64 0) false .nils td .nils false):=fun l=>Di qQ l;have hKw2:∀g o,H.length+3≤g→(K.set g o)[H.length+2]?=some (wO x (H.length+1) (.int .i64 0) (.int .i64 0) false .nils td .nils false):=fun g o hg=>Bv qQ (by omega) _;have hKw3:True:=trivial;have hKw4:True:=trivial;have y5:=aI kE (aI qQ (aI hKw1 (aI hKw2 (aI hKw3 (hKw4)))));refine Ad (xo2 (h:=?_));refine Aa (Af ?_);apply Ai;refine Bj (by simp only[opd,zv]<;>exact rfl) (fun vY=>?_) (fun vY=>?_)
 ·
  have vV:i<x.ctl+1:=by have:=of_decide_eq_true vY;omega
  have yH:=Dt i (by omega);rcases hT with⟨h0,rfl⟩ | ⟨h0,g,hg0,rfl,zZ⟩
  ·
   refine Ak (Bi rfl (Ai (Aq (Eh ?_))));refine Bc rfl rfl (Bc rfl rfl (xo6 (h:=xo4 (h:=xo4 (h:=xo63 (h:=Az (by simp only[zo];exact Zx (by omega) _ 0 (by omega)) rfl ?_))))));refine Az (by simp only[zl,zm,C9,List.replicate,snapVs,Bh,zs,zc,zf,dcD]<;>exact rfl) rfl ?_;refine Az (by simp only[opd,zv,Ar,aop,LOp.loud,lop,if_true];exact tot_new _ _) rfl ?_;apply Aj (by simp only[zo,dcD]<;>exact rfl) rfl rfl;apply Aj (by simp only[zo,Cj,zm,dcD]<;>exact rfl) rfl rfl;apply Aj (by simp only[zo,Cj,zm,dcD]<;>exact rfl) rfl rfl;refine Az (by simp only[zl,zm,Bg,overlay,zs,zc,zf,List.take,List.drop,wO,wRow,dcD,y5]<;>exact rfl) rfl ?_;refine Ce (D8 (Af ?_));refine Am (Ac (by simp only[zo,Bf,yH]<;>exact rfl) ?_);refine Ag rfl (Aa (Gh (by simp only[ze]<;>exact rfl) ?_));exact⟨x.ctl+1-(i+1),by omega,i+1,_,_,_,_,_,_,_,_,_,_,_,_,_,_,by omega,Bv (Di kE _) (by omega) _,A8 (Di qQ _) _,.inr ⟨by omega,K.length,by omega,by rw[h0],by rw[h0,Ln_ (by omega)];simp[dcR,List.replicate]⟩,fun j hj=>by rw[Ln_ (by omega),La_ (by omega)];exact vU j hj,rfl,rfl,rfl⟩
  have wG:i-1+1=i:=by omega
  have hta:=fun row c lo=>tot_app (n:=i) (lo:=lo) zZ (by simp) (by omega) row c;have hKg2:=fun o=>hKw2 g o hg0;refine Ak (Bi rfl (Ai (Aq (Eh ?_))));refine Bc rfl rfl (Bc rfl rfl (xo6 (h:=xo4 (h:=xo4 (h:=xo63 (h:=Az (by simp only[zo];exact Zx (by omega) _ 0 (by omega)) rfl ?_))))));refine Az (by simp only[zl,zm,C9,List.replicate,snapVs,Bh,zs,zc,zf,dcD]<;>exact rfl) rfl ?_;apply Dc (by simp only[opd,zv,Ar,aop,LOp.loud,lop,if_true];exact hta _ _ _) (by simp only[fpHere,zo,zq,Sj,Ij]<;>exact rfl) rfl;apply Aj (by simp only[zo,dcD,dcR]<;>exact rfl) rfl rfl;apply Aj (by simp only[zo,Cj,zm,dcD]<;>exact rfl) rfl rfl;apply Aj (by simp only[zo,Cj,zm,dcD]<;>exact rfl) rfl rfl;refine Az (by simp only[zl,zm,Bg,overlay,zs,zc,zf,List.take,List.drop,wO,wRow,dcD,hKg2]<;>exact rfl) rfl ?_;refine Ce (D8 (Af ?_));refine Am (Ac (by simp only[zo,Bf,yH]<;>exact rfl) ?_);refine Ag rfl (Aa (Gh (by simp only[ze]<;>exact rfl) ?_));exact⟨x.ctl+1-(i+1),by omega,i+1,_,_,_,_,_,_,_,_,_,_,_,_,_,_,by omega,Bv (Bv kE (by omega) _) (by omega) _,A8 (Bv qQ (by omega) _) _,.inr ⟨by omega,g,hg0,by rw[wG];rfl,by rw[Ln_ (by omega),A8 zZ _,wG];simp[dcR,List.replicate_succ']⟩,fun j hj=>by rw[Ln_ (by omega),Ln_ (by omega)];exact vU j hj,rfl,rfl,rfl⟩
 have yV:i=x.ctl+1:=by have:=of_decide_eq_false vY;omega
 subst yV;refine Dh (Gj (Hu (Gl (Bi rfl (Ad (Ae rfl (Ag rfl (Aw (Aa (Af ?_))))))))));apply A7;obtain⟨hz,_⟩ | ⟨_,g,hg0,rfl,zZ⟩:=hT
 ·
  omega
 rw[Nat.add_sub_cancel]at zZ qQ;refine⟨(.tup [.ptr (H.length+2) 0 0 0,.int .i64 0],⟨K,min low lo⟩,true),⟨_,H.length+2,H.length+1,g,rfl,⟨⟨.nils,qQ,.inl ⟨rfl,rfl⟩⟩,kE,by rw[List.map_replicate];exact zZ,by simp⟩,⟨by show H.length≤K.length;omega,fun j o hj _=>(vU j (Ha hj)).trans hj⟩,by omega⟩,?_⟩;refine⟨_,by simp only[F9,resultD,Ba,resD,zg]<;>exact rfl,?_⟩;exact leave_grow ⟨H,low⟩ ⟨K,lo⟩ _ (by show H.length<K.length;omega) rfl (fun _ _=>rfl)
theorem brep_tab(d:Nat)(S:St):(List.range 10).map (fun n=>E5 LP NN (d+6) 77 [.sl 1 [[.int .u8 32]] (some 1),.int .i64 ((n:Nat):Int)] S)=(List.range 10).map (fun n=>some (.sl 1 (bR (List.replicate n 32)) (some n),S,false)):=by kernel_rfl
theorem brep_run{d:Nat}(hd:6≤d)(S:St)(n:Nat)(hn:n<10):Bd LP NN d 77 [.sl 1 [[.int .u8 32]] (some 1),.int .i64 ((n:Nat):Int)] S=some (.sl 1 (bR (List.replicate n 32)) (some n),S,false):=by
 obtain⟨d,rfl⟩:∃e,d=e+6:=⟨d-6,by omega⟩;exact fast_ok (of_map (brep_tab d S) (List.mem_range.2 hn))
inductive It where
 | lit (c:Nat) (l:List UInt8)
 | key (c i:Nat)
 | num (c:Nat)
 | pag
 | tot (i:Nat)
def It.row:It→List D
 | .lit c l=>Uu c l
 | .key c i=>keyI c i
 | .num c=>numI c
 | .pag=>Qu
 | .tot i=>totI i
def It.col:It→Nat
 | .lit c _=>c
 | .key c _=>c
 | .num c=>c
 | .pag=>3
 | .tot _=>7
def It.txt (w:WM):It→List UInt8
 | .lit _ l=>l
 | .key _ i=>match w.row with
  | some y=>[if i=0 then y.A else y.B]
  | none=>[]
 | .num _=>match w.row with
  | some y=>Bl y.N 3
  | none=>[]
 | .pag=>Bl w.page 2
 | .tot i=>Bl (w.tot.getD i 0) 6
def It.ok (w:WM):It→Prop
 | .lit _ l=>l.length≠0∧l.length≤100
 | .key _ i=>w.row≠none∧i<2
 | .num _=>w.row≠none
 | .pag=>w.page<100000
 | .tot i=>i<w.tot.length∧w.tot.getD i 0<10 ^ 15
theorem Fv(H:List Z9)(low:Nat)(S':St)(r:D)(hl:H.length≤S'.low)(hf:r.Aad=true)(hs:∀m H,Aae m H r=some r):leave false ⟨H,low⟩ r S'=some (r,⟨H,low⟩,false):=by
 simp only[leave,hs,hf,hl,Bool.false_eq_true,if_false,if_true]
theorem value_lit{d:Nat}(hd:23≤d){H:List Z9}(low:Nat){g gm gt:Nat}{x:CM}{w:WM}(hW:WS H g gm gt x w)(c:Nat)(l:List UInt8)(h1:l.length≠0)(h2:l.length≤100):Bd LP NN d 78 [.ptr g 0 0 0,.agg (Uu c l)] ⟨H,low⟩=some (.sl 1 (bR (l)) (some (l.length)),⟨H,low⟩,false):=by
 obtain⟨lin,hw,xY⟩:=hW.hw;have kG:∀l,(H++l)[g]?=_:=fun l=>Di hw l;have hfx:∀d S,3≤d→Bd LP NN d 101 [.sl 1 (bR l) none,.int .i64 (l.length:Nat),.bool false] S=some (.tup [.sl 1 (bR l) (some l.length),.int .i64 0],S,false):=fun d S h=>by have:=fitX_run h S l h2 (n:=l.length) (by omega) h2 none;rwa [show fitB l l.length=l by simp[fitB]]at this
 have yO:=trivial;refine G8 (F:=F78) rfl (by simp only[LP,snapVs,Bh,zs,zm,Uu,itD,shT]<;>exact rfl) rfl (by simp only[LP,zf,zm];try rfl) (by simp only[F78,zv]<;>exact rfl) (by omega) ?_;rintro d rfl;refine Ad (Zn (h:=?_));refine Aw (Aa (Af ?_));refine Ad (Aw (Aa (Af ?_)));refine Ai (Ad (xo1 (h:=xo0 (h:=?_))));refine Aa (Af ?_);refine Aq (Ad (xo2 (h:=Ag rfl (Aa ?_))));refine Af ?_;refine Ja ?_;refine Am (xo1 (h:=xo0 (h:=xo1 (h:=xo1 (h:=xo0 (h:=Ac (by simp only[zo];exact hfx _ _ (by omega)) ?_))))));refine Ag rfl (Lh (h:=Jo (h:=Ag rfl ?_)));refine Aa (D8 (Af ?_));refine Ad (Ae rfl (Ag rfl (Aa (Af ?_))));apply A7;refine⟨_,by simp only[F78,resultD,Ba,resD,zg]<;>exact rfl,?_⟩;exact Fv _ _ _ _ (Nat.le_refl _) rfl (fun _ _=>rfl)
theorem value_keyA{d:Nat}(hd:23≤d){H:List Z9}(low:Nat){g gm gt:Nat}{x:CM}{w:WM}(hW:WS H g gm gt x w)(c:Nat){y:RM}(hy:w.row=some y):Bd LP NN d 78 [.ptr g 0 0 0,.agg (keyI c 0)] ⟨H,low⟩=some (.sl 1 (bR ([y.A])) (some (1)),⟨H,low⟩,false):=by
 obtain⟨lin,hw,xY⟩:=hW.hw;have kG:∀l,(H++l)[g]?=_:=fun l=>Di hw l
 refine G8 (F:=F78) rfl (by simp only[LP,snapVs,Bh,zs,zm,keyI,itD,shT]<;>exact rfl) rfl (by simp only[LP,zf,zm];try rfl) (by simp only[F78,zv]<;>exact rfl) (by omega) ?_;rintro d rfl;refine Ad (Zn (h:=?_));refine Aw (Aa (Af ?_));refine Ad (Aw (Aa (Af ?_)));refine Ai (Ad (xo1 (h:=xo0 (h:=?_))));refine Aa (Af ?_);refine Aq (Ad (xo2 (h:=Ag rfl (Aa ?_))));refine Af ?_;refine Dw ?_;refine Ad (xo2 (h:=Ag rfl (Aa ?_)));refine Af ?_;refine Ja ?_;refine Ai (Eh ?_);refine xo4 (h:=xo7 (h:=Bc rfl rfl ?_));refine xo6 (h:=xo4 (h:=xo4 (h:=Az (by simp only[zl,zm,zd,Au,List.take,List.drop,kG,wO,wRow,shT,shN,hy,Jd,RM.fld]<;>exact rfl) rfl ?_)));apply Aj (by simp only[zo,Fq]<;>exact rfl) rfl rfl;refine xo28 (h:=?_);refine Ce (Af ?_);refine Ja ?_;refine Eh ?_;refine Bc rfl rfl (xo6 (h:=xo4 (h:=xo4 (h:=Az (by simp only[zl,zm,zd,Au,List.take,List.drop,kG,wO,wRow,shT,shN,hy,Jd,RM.fld]<;>exact rfl) rfl ?_))));refine xo4 (h:=xo7 (h:=Az (by simp only[zl,zm,Df,Int.toNat_natCast]<;>exact rfl) rfl ?_));refine xo7 (h:=xo4 (h:=xo7 (h:=Az (by simp only[zo];exact moveT_run (by omega) _ y.A none) rfl ?_)));refine D9 rfl rfl (xo42 (h:=xo37 (h:=D9 rfl rfl ?_)));refine Ce (D8 (Af ?_));refine Ad (Ae rfl (Ag rfl (Aa (Af ?_))));apply A7;refine⟨_,by simp only[F78,resultD,Ba,resD,zg,zm]<;>exact rfl,?_⟩;exact Fv _ _ _ _ (Nat.le_refl _) rfl (fun _ _=>rfl)
theorem value_keyB{d:Nat}(hd:23≤d){H:List Z9}(low:Nat){g gm gt:Nat}{x:CM}{w:WM}(hW:WS H g gm gt x w)(c:Nat){y:RM}(hy:w.row=some y):Bd LP NN d 78 [.ptr g 0 0 0,.agg (keyI c 1)] ⟨H,low⟩=some (.sl 1 (bR ([y.B])) (some (1)),⟨H,low⟩,false):=by
 obtain⟨lin,hw,xY⟩:=hW.hw;have kG:∀l,(H++l)[g]?=_:=fun l=>Di hw l
 refine G8 (F:=F78) rfl (by simp only[LP,snapVs,Bh,zs,zm,keyI,itD,shT]<;>exact rfl) rfl (by simp only[LP,zf,zm];try rfl) (by simp only[F78,zv]<;>exact rfl) (by omega) ?_;rintro d rfl;refine Ad (Zn (h:=?_));refine Aw (Aa (Af ?_));refine Ad (Aw (Aa (Af ?_)));refine Ai (Ad (xo1 (h:=xo0 (h:=?_))));refine Aa (Af ?_);refine Aq (Ad (xo2 (h:=Ag rfl (Aa ?_))));refine Af ?_;refine Dw ?_;refine Ad (xo2 (h:=Ag rfl (Aa ?_)));refine Af ?_;refine Ja ?_;refine Ai (Eh ?_);refine xo4 (h:=xo7 (h:=Bc rfl rfl ?_));refine xo6 (h:=xo4 (h:=xo4 (h:=Az (by simp only[zl,zm,zd,Au,List.take,List.drop,kG,wO,wRow,shT,shN,hy,Jd,RM.fld]<;>exact rfl) rfl ?_)));apply Aj (by simp only[zo,Fq]<;>exact rfl) rfl rfl;refine xo28 (h:=?_);refine Ce (Af ?_);refine Ja ?_;refine Eh ?_;refine Bc rfl rfl (xo6 (h:=xo4 (h:=xo4 (h:=Az (by simp only[zl,zm,zd,Au,List.take,List.drop,kG,wO,wRow,shT,shN,hy,Jd,RM.fld]<;>exact rfl) rfl ?_))));refine xo4 (h:=xo7 (h:=Az (by simp only[zl,zm,Df,Int.toNat_natCast]<;>exact rfl) rfl ?_));refine xo7 (h:=xo4 (h:=xo7 (h:=Az (by simp only[zo];exact moveT_run (by omega) _ y.B none) rfl ?_)));refine D9 rfl rfl (xo42 (h:=xo37 (h:=D9 rfl rfl ?_)));refine Ce (D8 (Af ?_));refine Ad (Ae rfl (Ag rfl (Aa (Af ?_))));apply A7;refine⟨_,by simp only[F78,resultD,Ba,resD,zg,zm]<;>exact rfl,?_⟩;exact Fv _ _ _ _ (Nat.le_refl _) rfl (fun _ _=>rfl)
theorem value_num{d:Nat}(hd:23≤d){H:List Z9}(low:Nat){g gm gt:Nat}{x:CM}{w:WM}(hW:WS H g gm gt x w)(c:Nat){y:RM}(hy:w.row=some y):Bd LP NN d 78 [.ptr g 0 0 0,.agg (numI c)] ⟨H,low⟩=some (.sl 1 (bR (Bl y.N 3)) (some (3)),⟨H,low⟩,false):=by
 obtain⟨lin,hw,xY⟩:=hW.hw;have kG:∀l,(H++l)[g]?=_:=fun l=>Di hw l
 refine G8 (F:=F78) rfl (by simp only[LP,snapVs,Bh,zs,zm,numI,itD,shN]<;>exact rfl) rfl (by simp only[LP,zf,zm];try rfl) (by simp only[F78,zv]<;>exact rfl) (by omega) ?_;rintro d rfl;refine Ad (Zn (h:=?_));refine Aw (Aa (Af ?_));refine Ad (Aw (Aa (Af ?_)));refine Ai (Ad (xo1 (h:=xo0 (h:=?_))));refine Aa (Af ?_);refine Aq (Ad (xo2 (h:=Ag rfl (Aa ?_))));refine Af ?_;refine Dw ?_;refine Ad (xo2 (h:=Ag rfl (Aa ?_)));refine Af ?_;refine Ja ?_;refine Ai (Eh ?_);refine xo4 (h:=xo7 (h:=Bc rfl rfl ?_));refine xo6 (h:=xo4 (h:=xo4 (h:=Az (by simp only[zl,zm,zd,Au,List.take,List.drop,kG,wO,wRow,shT,shN,hy,Jd,RM.fld]<;>exact rfl) rfl ?_)));apply Aj (by simp only[zo,Fq]<;>exact rfl) rfl rfl;refine xo28 (h:=?_);refine Ce (Af ?_);refine Ja ?_;refine Eh ?_;refine Bc rfl rfl (xo6 (h:=xo4 (h:=xo4 (h:=Az (by simp only[zl,zm,zd,Au,List.take,List.drop,kG,wO,wRow,shT,shN,hy,Jd,RM.fld]<;>exact rfl) rfl ?_))));refine xo4 (h:=xo7 (h:=Az (by simp only[zl,zm,Df,Int.toNat_natCast]<;>exact rfl) rfl ?_));refine xo7 (h:=xo4 (h:=xo7 (h:=Az (by simp only[zo];exact moveN_run (by omega) _ (Nat.mod_lt _ (by decide)) none) rfl ?_)));refine D9 rfl rfl (xo42 (h:=xo37 (h:=D9 rfl rfl ?_)));refine Ce (D8 (Af ?_));refine Ad (Ae rfl (Ag rfl (Aa (Af ?_))));apply A7;refine⟨_,by simp only[F78,resultD,Ba,resD,zg,zm]<;>exact rfl,?_⟩;exact Fv _ _ _ _ (Nat.le_refl _) rfl (fun _ _=>rfl)
theorem value_pag{d:Nat}(hd:23≤d){H:List Z9}(low:Nat){g gm gt:Nat}{x:CM}{w:WM}(hW:WS H g gm gt x w)(hp:w.page<100000):Bd LP NN d 78 [.ptr g 0 0 0,.agg (Qu)] ⟨H,low⟩=some (.sl 1 (bR (Bl w.page 2)) (some (2)),⟨H,low⟩,false):=by
 obtain⟨lin,hw,xY⟩:=hW.hw;have kG:∀l,(H++l)[g]?=_:=fun l=>Di hw l
 refine G8 (F:=F78) rfl (by simp only[LP,snapVs,Bh,zs,zm,Qu,itD,shN]<;>exact rfl) rfl (by simp only[LP,zf,zm];try rfl) (by simp only[F78,zv]<;>exact rfl) (by omega) ?_;rintro d rfl;refine Ad (Zn (h:=?_));refine Aw (Aa (Af ?_));refine Ad (Aw (Aa (Af ?_)));refine Ai (Ad (xo1 (h:=xo0 (h:=?_))));refine Aa (Af ?_);refine Aq (Ad (xo2 (h:=Ag rfl (Aa ?_))));refine Af ?_;refine Dw ?_;refine Ad (xo2 (h:=Ag rfl (Aa ?_)));refine Af ?_;refine Dw ?_;refine Ad (xo2 (h:=Ag rfl (Aa ?_)));refine Af ?_;refine Dw ?_;refine Ad (xo2 (h:=Ag rfl (Aa ?_)));refine Af ?_;refine Ja ?_;refine Eh ?_;refine Bc rfl rfl (xo6 (h:=xo4 (h:=xo4 (h:=Az (by simp only[zl,zm,zd,Au,List.take,List.drop,kG,wO,wRow]<;>exact rfl) rfl ?_))));refine Az (by simp only[zo];exact Zx (by omega) _ w.page (by omega)) rfl ?_;refine xo4 (h:=xo7 (h:=Az (by simp only[zo];exact store_run (by omega) _ (by omega) (by omega) (by omega)) rfl ?_));refine D9 rfl rfl (xo42 (h:=xo37 (h:=xo37 (h:=D9 rfl rfl ?_))));refine Ce (D8 (Af ?_));refine Ad (Ae rfl (Ag rfl (Aa (Af ?_))));apply A7;refine⟨_,by simp only[F78,resultD,Ba,resD,zg]<;>exact rfl,?_⟩;exact Fv _ _ _ _ (Nat.le_refl _) rfl (fun _ _=>rfl)
theorem value_tot{d:Nat}(hd:23≤d){H:List Z9}(low:Nat){g gm gt:Nat}{x:CM}{w:WM}(hW:WS H g gm gt x w)(i:Nat)(n:Nat)(hi:w.tot[i]?=some n)(hn:n<10 ^ 15):Bd LP NN d 78 [.ptr g 0 0 0,.agg (totI i)] ⟨H,low⟩=some (.sl 1 (bR (Bl n 6)) (some (6)),⟨H,low⟩,false):=by
 obtain⟨lin,hw,xY⟩:=hW.hw;have kG:∀l,(H++l)[g]?=_:=fun l=>Di hw l;have yP:i<x.ctl+1:=by rw[←hW.hn];exact (List.getElem?_eq_some_iff.1 hi).1
 have ht0:∀l,(H++l)[gt]?=_:=fun l=>Di hW.ht l;have xX:(w.tot.map dcR)[i]?=some (dcR n):=by rw[Lp_,hi];rfl
 have xO:(((i:Nat):Int)<((x.ctl+1:Nat):Int))=True:=eq_true (by omega);have ug:((0:Int)≤((i:Nat):Int))=True:=eq_true (by omega);refine G8 (F:=F78) rfl (by simp only[LP,snapVs,Bh,zs,zm,totI,itD,shN]<;>exact rfl) rfl (by simp only[LP,zf,zm];try rfl) (by simp only[F78,zv]<;>exact rfl) (by omega) ?_;rintro d rfl;have xq:=aI kG (aI xX (aI ht0 (aI xO (ug))));refine Ad (Zn (h:=?_));refine Aw (Aa (Af ?_));refine Ad (Aw (Aa (Af ?_)));refine Ai (Ad (xo1 (h:=xo0 (h:=?_))));refine Aa (Af ?_);refine Aq (Ad (xo2 (h:=Ag rfl (Aa ?_))));refine Af ?_;refine Dw ?_;refine Ad (xo2 (h:=Ag rfl (Aa ?_)));refine Af ?_;refine Dw ?_;refine Ad (xo2 (h:=Ag rfl (Aa ?_)));refine Af ?_;refine Ja ?_;refine Eh ?_;refine Bc rfl rfl (xo6 (h:=xo4 (h:=xo4 (h:=xo64 (h:=xo4 (h:=xo7 (h:=Az (by simp only[zl,zm,Fa,Int.toNat_natCast,xq]<;>exact rfl) rfl ?_)))))));refine Az (by simp only[zl,zm,zd,Au,List.drop,xq]<;>exact rfl) rfl ?_;refine xo4 (h:=xo7 (h:=Az (by simp only[zo];exact store_run (by omega) _ hn (by omega) (by omega)) rfl ?_));refine D9 rfl rfl (xo42 (h:=xo37 (h:=xo37 (h:=D9 rfl rfl ?_))));refine Ce (D8 (Af ?_));refine Ad (Ae rfl (Ag rfl (Aa (Af ?_))));apply A7;refine⟨_,by simp only[F78,resultD,Ba,resD,zg]<;>exact rfl,?_⟩;exact Fv _ _ _ _ (Nat.le_refl _) rfl (fun _ _=>rfl)
theorem value_run{d:Nat}(hd:23≤d){H:List Z9}(low:Nat){g gm gt:Nat}{x:CM}{w:WM}(hW:WS H g gm gt x w)(it:It)(h:it.ok w):∃n,Bd LP NN d 78 [.ptr g 0 0 0,.agg it.row] ⟨H,low⟩=some (.sl 1 (bR (it.txt w)) (some n),⟨H,low⟩,false):=by
 cases it with
 | lit c l=>exact⟨_,value_lit hd low hW c l h.1 h.2⟩
 | key c i =>
  obtain⟨h1,h2⟩:=h;obtain⟨y,hy⟩:=Option.ne_none_iff_exists'.1 h1;rcases (by omega:i=0∨i=1) with rfl | rfl
  ·
   exact⟨_,by simpa only [It.row,It.txt,hy,if_true] using value_keyA hd low hW c hy⟩
  exact⟨_,by simpa only [It.row,It.txt,hy,Nat.one_ne_zero,if_false] using value_keyB hd low hW c hy⟩
 | num c =>
  obtain⟨y,hy⟩:=Option.ne_none_iff_exists'.1 h;exact⟨_,by simpa only [It.row,It.txt,hy] using value_num hd low hW c hy⟩
 | pag=>exact⟨_,value_pag hd low hW h⟩
 | tot i =>
  obtain⟨h1,h2⟩:=h;have h3:w.tot.getD i 0=w.tot[i]:=by simp[h1]
  refine⟨6,?_⟩;have:=value_tot hd low hW i w.tot[i] (Lg h1) (h3▸h2);simpa only [It.row,It.txt,h3] using this
theorem app_b{H:List Z9}{bd:D}{b:List UInt8}(h:AppAt 5 1 (bR b) H bd)(new:List UInt8)(hl:b.length+new.length≤100000)(c:Option Nat)(lo:Nat):∃bd' H' lo' wr,Dj 5 1 1 1 bd (.sl 1 (bR new) c) ⟨H,lo⟩=some (bd',⟨H',lo'⟩,wr)∧AppAt 5 1 (bR (b++new)) H' bd'∧H.length≤H'.length∧lo'≤lo∧∀(j:Nat) (o:Z9),H[j]?=some o→(o.kind=0∨o.elem≠5)→H'[j]?=some o:=by
 by_cases hn:new=[]
 ·
  subst hn;rw[List.append_nil];rcases h with⟨h1,rfl⟩ | ⟨h1,g,v,rfl,h2⟩
  ·
   exact⟨.nils,H,lo,false,by simp[Dj,Dn,Bo,bR],.inl ⟨h1,rfl⟩,Nat.le_refl _,Nat.le_refl _,fun _ _ h _=>h⟩
  have hb:(bR b).length≤140737488355328:=by simp[bR];simp at hl;omega
  refine⟨.msl g (v+1) 0 (bR b).length none,H.set g ⟨5,1,bR b,v+1,1,true⟩,min lo g,true,?_,.inr ⟨h1,g,v+1,rfl,A8 h2 _⟩,by simp,Nat.min_le_left _ _,fun j o hj hk=>?_⟩
  ·
   simp[Dj,Bo,Dn,rowsOf,h2,hb,setAt,show bR []=[] from rfl]
  refine Bv hj (fun e=>?_) _;subst e;rw[h2]at hj;obtain rfl:=Option.some.inj hj;simp at hk
 have hn2:(bR new).isEmpty=false:=by cases new<;>simp[bR]at hn ⊢
 have xw:bR (b++new)≠[]:=by intro e;apply hn;have:=congrArg List.length e;simp[bR]at this;exact this.2
 have hb:((bR b).length+(bR new).length)*1≤140737488355328:=by simp[bR];omega
 have eb:bR (b++new)=bR b++bR new:=by simp[bR]
 rcases h with⟨h1,rfl⟩ | ⟨h1,g,v,rfl,h2⟩
 ·
  have hb0:b=[]:=by cases b with
   | nil=>rfl
   | cons a l=>simp[bR]at h1
  subst hb0;refine⟨.msl H.length 0 0 (bR new).length none,H++[⟨5,1,bR new,0,1,true⟩],lo,true,?_,.inr ⟨xw,H.length,0,by simp,by simp⟩,by simp,Nat.le_refl _,fun j o hj _=>Di hj _⟩;have hb2:(bR new).length≤140737488355328:=by simp[bR]at hb ⊢;omega
  simp[Dj,Bo,Dn,hn2,newAt,hb2]
 refine⟨.msl g (v+1) 0 ((bR b).length+(bR new).length) none,H.set g ⟨5,1,bR b++bR new,v+1,1,true⟩,min lo g,true,?_,.inr ⟨xw,g,v+1,by rw[eb,Ll_],by rw[eb];exact A8 h2 _⟩,by simp,Nat.min_le_left _ _,fun j o hj hk=>?_⟩
 ·
  have hb2:(bR b).length+(bR new).length≤140737488355328:=by omega
  simp[Dj,Bo,Dn,rowsOf,h2,setAt,hb2]
 refine Bv hj (fun e=>?_) _;subst e;rw[h2]at hj;obtain rfl:=Option.some.inj hj;simp at hk
theorem lin_app{H:List Z9}{ld:D}{rows:List (List D)}(h:LinAt H ld rows)(hl:rows.length≤70000)(row:List D)(c:Option Nat)(lo:Nat):∃g' v' H' lo',Dj 52 3 32 1 ld (.sl 3 [row] c) ⟨H,lo⟩=some (.msl g' v' 0 (rows.length+1) none,⟨H',lo'⟩,true)∧H'[g']?=some ⟨52,3,rows++[row],v',1,true⟩∧H.length≤H'.length∧lo'≤lo∧∀(j:Nat) (o:Z9),H[j]?=some o→(o.kind=0∨o.elem≠52)→H'[j]?=some o:=by
 have hb:(rows.length+1)*32≤140737488355328:=by omega
 rcases h with⟨rfl,rfl⟩ | ⟨h1,rfl | ⟨g,v,rfl,h2⟩⟩
 ·
  refine⟨H.length,0,H++[⟨52,3,[row],0,1,true⟩],lo,?_,by simp,by simp,Nat.le_refl _,fun j o hj _=>Di hj _⟩;simp[Dj,Dn,Bo,newAt]
 ·
  refine⟨H.length,0,H++[⟨52,3,rows++[row],0,1,true⟩],lo,?_,by simp,by simp,Nat.le_refl _,fun j o hj _=>Di hj _⟩;simp[Dj,Dn,Bo,newAt,hb]
 refine⟨g,v+1,H.set g ⟨52,3,rows++[row],v+1,1,true⟩,min lo g,?_,A8 h2 _,by simp,Nat.min_le_left _ _,fun j o hj hk=>?_⟩
 ·
  simp[Dj,Bo,Dn,rowsOf,h2,setAt,hb]
 refine Bv hj (fun e=>?_) _;subst e;rw[h2]at hj;obtain rfl:=Option.some.inj hj;simp at hk
structure Ef (S T:St) (g gm gt:Nat) (x:CM) (w w':WM):Prop where
 ws:WS T.heap g gm gt x w'
 kp:Keep S.heap T.heap
 lo:T.low≤max g gt∨w'=w
 lm:T.low≤S.low
theorem WS.lt{H:List Z9}{g gm gt:Nat}{x:CM}{w:WM}(h:WS H g gm gt x w):g<H.length:=by
 obtain⟨lin,hw,_⟩:=h.hw;exact Ha hw
theorem Jz{S S':St}{g gm gt:Nat}{x:CM}{w w':WM}(hW:WS S.heap g gm gt x w)(hW':WS S'.heap g gm gt x w')(hk:Keep S.heap S'.heap)(xU:S'.low≤max g gt∨w'=w):∃r,(∃T wr,r=(.tup [],T,wr)∧Ef S T g gm gt x w w')∧leave false S (.tup []) S'=some r:=by
 have hg0:=hW.lt;have zZ:gt<S.heap.length:=Ha hW.ht;have hg:max g gt<S.heap.length:=by omega
 by_cases h:S.heap.length≤S'.low
 ·
  obtain rfl:w'=w:=by
   rcases xU with h1 | h1
   ·
    omega
   exact h1
  exact⟨(.tup [],S,false),⟨S,false,rfl,hW,Keep.refl _,.inr rfl,Nat.le_refl _⟩,by simp[leave,h,Np,D.Aad,snapVs]⟩
 refine⟨(.tup [],⟨S'.heap,min S.low S'.low⟩,true),⟨_,_,rfl,hW',hk,?_,Nat.min_le_left _ _⟩,by simp[leave,h,Np,snapVs]⟩;rcases xU with h1 | h1
 ·
  exact .inl (Nat.le_trans (Nat.min_le_right _ _) h1)
 exact .inr h1
theorem WS.keep{H H':List Z9}{g gm gt:Nat}{x:CM}{w:WM}(h:WS H g gm gt x w)(hk:∀(j:Nat) (o:Z9),H[j]?=some o→(o.elem=91∨o.elem=0∨o.elem=57∨o.elem=52)→H'[j]?=some o):WS H' g gm gt x w:=by
 obtain⟨lin,hw,hl⟩:=h.hw;exact⟨⟨lin,hk _ _ hw (.inl rfl),hl.keep fun j o hj he=>hk j o hj (.inr (.inr (.inr he)))⟩,hk _ _ h.hm (.inr (.inl rfl)),hk _ _ h.ht (.inr (.inr (.inl rfl))),h.hn⟩
theorem WS.app{H:List Z9}{g gm gt:Nat}{x:CM}{w:WM}(h:WS H g gm gt x w)(l:List Z9):WS (H++l) g gm gt x w:=h.keep fun _ _ hj _=>Di hj l
theorem WS.ne{H:List Z9}{g gm gt:Nat}{x:CM}{w:WM}(h:WS H g gm gt x w):g≠gm∧g≠gt:=by
 obtain⟨lin,hw,hl⟩:=h.hw;refine⟨fun e=>?_,fun e=>?_⟩
 ·
  subst e;have:=hw.symm.trans h.hm;simp[wO,mpO]at this
 subst e;have:=hw.symm.trans h.ht;simp[wO]at this
theorem WS.set{H:List Z9}{g gm gt:Nat}{x:CM}{w:WM}(h:WS H g gm gt x w)(pg ln:Nat)(bo:Bool)(row:Option RM)(lin:D)(lines:List (Nat × Nat × List UInt8))(en:Bool)(hl:LinAt H lin (lines.map lnR)):WS (H.set g (wO x gm (.int .i64 (pg:Nat)) (.int .i64 (ln:Nat)) bo (Jd row) (.msl gt x.ctl 0 (x.ctl+1) none) lin en)) g gm gt x ⟨pg,ln,bo,row,w.tot,lines,en⟩:=by
 obtain⟨h1,h2⟩:=h.ne;obtain⟨lin0,hw,_⟩:=h.hw;refine⟨⟨lin,A8 hw _,hl.keep fun j o hj he=>Bv hj (fun e=>?_) _⟩,Bv h.hm h1 _,Bv h.ht h2 _,h.hn⟩;subst e;rw[hw]at hj;obtain rfl:=Option.some.inj hj;simp[wO]at he
theorem Keep.set{H:List Z9}{g gm gt:Nat}{x:CM}{w:WM}(h:WS H g gm gt x w)(o':Z9):Keep H (H.set g o'):=by
 obtain⟨lin0,hw,_⟩:=h.hw;refine⟨by simp,fun j o hj hk=>Bv hj (fun e=>?_) _⟩;subst e;rw[hw]at hj;obtain rfl:=Option.some.inj hj;simp[wO]at hk
theorem fpApp_eta(s x r:D)(wr:Bool):Ey s x r wr=⟨true,(Ey s x r wr).reads,(Ey s x r wr).writes,(Ey s x r wr).creates,none⟩:=by
 unfold Ey;split
 ·
  split
  ·
   split<;>rfl
  unfold Es;split<;>rfl
 rfl
def O4 (b:List UInt8) (c:Nat):List UInt8:=b++List.replicate (c-1-b.length) 32
def Eg (w:WM) (its:List It):List UInt8:=its.foldl (fun b it=>O4 b it.col++it.txt w) []
def LsOK (w:WM) (its:List It):Prop:=∀(k:Nat) (it:It),its[k]?=some it→it.ok w∧(Eg w (its.take k)).length+1≤it.col∧it.col≤(Eg w (its.take k)).length+10∧(it.txt w).length≤100∧it.col≤100
def WM.put (w:WM) (p:Nat) (s:List UInt8):WM:={ w with line:=w.line+p,lines:=w.lines++[(w.page,w.line+p,s)] }
def WM.write (w:WM) (tl:List (Nat × List It)):WM:=tl.foldl (fun w q=>w.put q.1 (Eg w q.2)) w
theorem txt_put(w:WM)(p:Nat)(s:List UInt8)(it:It):it.txt (w.put p s)=it.txt w:=by cases it<;>rfl
theorem ok_put(w:WM)(p:Nat)(s:List UInt8)(it:It):it.ok (w.put p s)=it.ok w:=by cases it<;>rfl
theorem rend_put(w:WM)(p:Nat)(s:List UInt8)(its:List It):Eg (w.put p s) its=Eg w its:=by
 unfold Eg;congr 1
theorem write_app(w:WM)(tl:List (Nat × List It))(q:Nat × List It):w.write (tl++[q])=(w.write tl).put q.1 (Eg (w.write tl) q.2):=by
 simp[WM.write,List.foldl_append]
theorem write_f(w:WM)(tl:List (Nat × List It)):(∀it:It,it.txt (w.write tl)=it.txt w)∧(∀it:It,it.ok (w.write tl)=it.ok w)∧(∀its,Eg (w.write tl) its=Eg w its)∧(w.write tl).lines.length=w.lines.length+tl.length:=by
 induction tl generalizing w with
 | nil=>exact⟨fun _=>rfl,fun _=>rfl,fun _=>rfl,rfl⟩
 | cons q l ih =>
  have e:w.write (q::l)=(w.put q.1 (Eg w q.2)).write l:=rfl;obtain⟨h1,h2,h3,h4⟩:=ih (w.put q.1 (Eg w q.2));refine⟨fun it=>?_,fun it=>?_,fun its=>?_,?_⟩
  ·
   rw[e,h1,txt_put]
  ·
   rw[e,h2,ok_put]
  ·
   rw[e,h3,rend_put]
  rw[e,h4];simp[WM.put];omega
theorem write_line(w:WM)(tl:List (Nat × List It))(n:Nat)(h:∀q∈tl,q.1≤n):(w.write tl).line≤w.line+n*tl.length:=by
 induction tl generalizing w with
 | nil=>simp[WM.write]
 | cons q l ih =>
  have e:w.write (q::l)=(w.put q.1 (Eg w q.2)).write l:=rfl;have:=ih (w.put q.1 (Eg w q.2)) (fun q' hq=>h q' (by simp[hq]));have h1:=h q (by simp);rw[e];simp only[WM.put,List.length_cons,Nat.mul_succ]at this ⊢;omega
def Jr (q:Nat × List It):List D:=[.int .i64 (q.1:Nat),slB true 15 (q.2.map It.row) none]
theorem rend_step(w:WM){its:List It}{j:Nat}{it:It}(h:its[j]?=some it):Eg w (its.take (j+1))=O4 (Eg w (its.take j)) it.col++it.txt w:=by
 rw[List.take_add_one,h];simp[Eg,List.foldl_append]
theorem It.len(it:It):it.row.length=15:=by cases it<;>rfl
theorem It.cell(it:It):it.row.all D.Aag=true:=by cases it<;>rfl
theorem It.col0(it:It):it.row[0]?=some (.int .i64 (it.col:Nat)):=by cases it<;>rfl
theorem part15{r:List D}(h:r.length=15):Au r 0 15 true=some (.agg r):=by
 simp only[Au,if_true,h,Nat.zero_add,Nat.le_refl,List.drop_zero];rw[←h,List.take_length]
theorem store15(K:List Z9)(lo e sz:Nat){z r:List D}(hz:z.length=15)(h:r.length=15)(hc:r.all D.Aag=true):Bg 15 ⟨K++[⟨e,sz,[z],0,0,false⟩],lo⟩ (.ptr K.length 0 0 0) (.agg r)=some ⟨K++[⟨e,sz,[r],0,0,false⟩],min lo K.length⟩:=by
 have e1:overlay z 0 r=r:=by simp[overlay,hz,h]
 have e2:(D.agg r).val=true:=by rw[Zr];exact hc
 have e3:(D.agg r).cells=r:=rfl;simp only[Bg,rowsOf,G6,Lz,if_true,e2,e3,h,e1,setAt,set_app0,List.set_cons_zero];simp[hz]
theorem WS.put{K H':List Z9}{g gm gt:Nat}{x:CM}{w:WM}(h:WS K g gm gt x w){o:Z9}(ho:o.kind=0∧o.elem=91)(xO:(K.set g o).length≤H'.length)(hf:∀(j:Nat) (o':Z9),(K.set g o)[j]?=some o'→(o'.kind=0∨o'.elem≠52)→H'[j]?=some o'){g' v':Nat}(p:Nat)(s:List UInt8)(hg':H'[g']?=some ⟨52,3,w.lines.map lnR++[lnR (w.page,w.line+p,s)],v',1,true⟩) :
  WS (H'.set g (wO x gm (.int .i64 (w.page:Nat)) (.int .i64 (w.line+p:Nat)) w.body (Jd w.row) (.msl gt x.ctl 0 (x.ctl+1) none) (.msl g' v' 0 (w.lines.length+1) none) w.ended)) g gm gt x (w.put p s)∧Keep K (H'.set g (wO x gm (.int .i64 (w.page:Nat)) (.int .i64 (w.line+p:Nat)) w.body (Jd w.row) (.msl gt x.ctl 0 (x.ctl+1) none) (.msl g' v' 0 (w.lines.length+1) none) w.ended)):=by
 obtain⟨h1,h2⟩:=h.ne;obtain⟨lin0,hw,_⟩:=h.hw;have hg:H'[g]?=some o:=hf g o (A8 hw _) (.inl ho.1)
 have kD:g≠g':=fun e=>by
  subst e;have:=hg.symm.trans hg';obtain rfl:=Option.some.inj this;simp at ho
 refine⟨⟨⟨_,A8 hg _,.inr ⟨by simp[WM.put],.inr ⟨g',v',by simp[WM.put],?_⟩⟩⟩,?_,?_,h.hn⟩,?_,fun j o' hj hk=>?_⟩
 ·
  rw[Ln_ kD,hg'];simp[WM.put]
 ·
  rw[Ln_ h1];exact hf gm _ (by rw[Ln_ h1];exact h.hm) (.inr (by simp[mpO]))
 ·
  rw[Ln_ h2];exact hf gt _ (by rw[Ln_ h2];exact h.ht) (.inr (by simp))
 ·
  simpa using xO
 have hj2:j≠g:=fun e=>by
  subst e;rw[hw]at hj;obtain rfl:=Option.some.inj hj;simp[wO]at hk
 rw[Ln_ (Ne.symm hj2)];apply hf j o' (by rw[Ln_ (Ne.symm hj2)];exact hj);rcases hk with hk | hk
 ·
  exact .inl hk.1
 exact .inr (by rw[hk];decide)
theorem okHere_nil{n:Nat}{o:LOper}{fps:List FP}{fp:FP}{S:St}(h:Je o.ord fps fp=true):okHere n [] o fps fp S=true:=by simp[okHere,h,Lj]
theorem bstr_at{H:List Z9}{bd:D}{b:List UInt8}(h:AppAt 5 1 (bR b) H bd)(lo:Nat):Dn ⟨H,lo⟩ 1 bd=some (bR b):=by
 rcases h with⟨h1,rfl⟩ | ⟨h1,g,v,rfl,h2⟩
 ·
  rw[h1];rfl
 simp[Dn,rowsOf,h2]
theorem write_gen{d:Nat}(hd:25≤d)(H:List Z9)(low:Nat){g gm gt:Nat}{x:CM}{w:WM}(hW:WS H g gm gt x w)(k lv:Nat)(np:Bool)(tl:List (Nat × List It))(ls:D)(qL:Cl ls)(xg:lenD false ls=some (.int .i64 (tl.length:Nat)))(qW:tl.length≠0→ls=.sl 2 (tl.map Jr) none)(hn:w.lines.length+tl.length≤65536)(ht:tl.length≤1000)(hl:w.line≤100000000)(hok:∀q∈tl,q.2.length≤1000∧LsOK w q.2∧q.1≤1000):∃r,(∃T wr,r=(.tup [],T,wr)∧Ef ⟨H,low⟩ T g gm gt x w (w.write tl))∧Bd LP NN d 43 [.ptr g 0 0 0,.agg [.int .u8 (k:Nat),.int .i64 (lv:Nat),.bool np,ls]] ⟨H,low⟩=some r:=by
 have ⟨qL0,qL1,qL2,qL3⟩:=qL;refine Eu (F:=F43) rfl (by simp only[LP,snapVs,Bh,zs,zm,Dq qL3]<;>exact rfl) rfl (by simp only[LP,zf,zm,qL3];try rfl) (by simp only[F43,zv]<;>exact rfl) (by omega) ?_;rintro d rfl;refine Ad (Ac (by simp only[zl,zm,zc,qL0]<;>exact rfl) ?_);refine Aa (Af ?_);refine Ad (xo1 (h:=xo0 (h:=Ac (by simp only[zo,xg]<;>exact rfl) ?_)));refine Aw (Aa (Af ?_));refine Aq (D5 (fun n env S'=>∃(i:Nat) (K:List Z9) (lo:Nat) (u3 u4 u5 u9 u10 u11 u12 u13 u14:D),i≤tl.length∧WS K g gm gt x (w.write (tl.take i))∧Keep H K∧(lo≤g∨i=0)∧n=tl.length-i∧S'=⟨K,lo⟩∧env=[.ptr g 0 0 0,.agg [.int .u8 (k:Nat),.int .i64 (lv:Nat),.bool np,ls],.ptr H.length 0 0 0,u3,u4,u5,ls,.int .i64 (tl.length:Nat),.int .i64 (i:Nat),u9,u10,u11,u12,u13,u14]) (tl.length) (by omega) (⟨0,_,_,_,_,_,_,_,_,_,_,_,by omega,hW.app _,Keep.app _ _,.inr rfl,by omega,rfl,rfl⟩) ?_);rintro n env S' ⟨i,K,lo,u3,u4,u5,u9,u10,u11,u12,u13,u14,hi,yg,zC,xU,hnA,rfl,rfl⟩;refine Ad (xo2 (h:=?_));refine Aa (Af ?_);apply Ai;refine Bj (by simp only[opd,zv]<;>exact rfl) (fun xZ=>?_) (fun xZ=>?_)
 ·
  have yB:i<tl.length:=by have:=of_decide_eq_true xZ;omega
  obtain⟨q,hq⟩:∃q,tl[i]?=some q:=⟨_,Lg yB⟩;obtain⟨hq1,hq2,hq3⟩:=hok q (Lm hq);have hlsE:=qW (by omega);have qJ:(((i:Nat):Int)<((tl.length:Nat):Int))=True:=eq_true (by omega);have wK:((0:Int)≤((i:Nat):Int))=True:=eq_true (by omega);have yH:=Dt i (by omega);have hqr:(tl.map Jr)[i]?=some [.int .i64 (q.1:Nat),slB true 15 (q.2.map It.row) none]:=by rw[Lp_,hq];rfl
  have hql:lenD false (slB true 15 (q.2.map It.row) none)=some (.int .i64 (q.2.length:Nat)):=by rw[La,List.length_map]
  obtain⟨hf1,hf2,hf3,hf4⟩:=write_f w (tl.take i);have xq:=aI hlsE (aI qJ (aI wK (aI yH (aI hqr (hql)))));refine Ak (Bi rfl (Ai (Aq (Ad (xo62 (h:=Qw (h:=Ac (by simp only[zl,zm,xq]<;>exact rfl) ?_)))))));apply Ac (by simp only[zl,zm,Bg,overlay,Bh,zs,zc,zf,List.take,List.drop,Hm,Gp,xq]<;>exact rfl);refine Aa (Af ?_);refine Ad (Aw (Aa (Af ?_)));refine Ai (Ad (Xp (h:=Qw (h:=Ac (by simp only[zo,xq]<;>exact rfl) ?_))));refine Aw (Aa (Af ?_));refine Aq (D5 (fun n env S'=>∃(j:Nat) (K2:List Z9) (lo2:Nat) (bd:D) (u5 u9 u13 u14:D),j≤q.2.length∧WS K2 g gm gt x (w.write (tl.take i))∧Keep K K2∧K2[K.length]?=some ⟨74,2,[Jr q],0,0,false⟩∧AppAt 5 1 (bR (Eg w (q.2.take j))) K2 bd∧n=q.2.length-j∧S'=⟨K2,lo2⟩∧env=[.ptr g 0 0 0,.agg [.int .u8 (k:Nat),.int .i64 (lv:Nat),.bool np,ls],.ptr H.length 0 0 0,.ptr K.length 0 0 0,bd,u5,ls,.int .i64 (tl.length:Nat),.int .i64 (i:Nat),u9,slB true 15 (q.2.map It.row) none,.int .i64 (q.2.length:Nat),.int .i64 (j:Nat),u13,u14]) (q.2.length) (by omega) (⟨0,_,_,.nils,_,_,_,_,by omega,yg.app _,Keep.app _ _,by rw[G6];rfl,.nil _ _ _,by omega,rfl,rfl⟩) ?_);rintro n env S' ⟨j,K2,lo2,bd,u5,u9,u13,u14,hj,hW2,hK2,hL2,hA,hnB,rfl,rfl⟩;have hbl:=hA.len;rw[Mc]at hbl;have hisl:=La true 15 (q.2.map It.row) none;refine Ad (Xr (h:=?_));refine Aa (Af ?_);apply Ai;refine Bj (by simp only[opd,zv,xq]<;>exact rfl) (fun zI=>?_) (fun zI=>?_)
  ·
   have hjn:j<q.2.length:=by have:=of_decide_eq_true zI;omega
   obtain⟨it,hit⟩:∃it,q.2[j]?=some it:=⟨_,Lg hjn⟩;obtain⟨xH,ho2,ho3,ho4,ho5⟩:=hq2 j it hit;have hjT:(((j:Nat):Int)<((q.2.length:Nat):Int))=True:=eq_true (by omega);have hj0:((0:Int)≤((j:Nat):Int))=True:=eq_true (by omega);have hwj:=Dt j (by omega);have hsE:slB true 15 (q.2.map It.row) none=.sl 15 (q.2.map It.row) none:=Gm (by rw[List.length_map];omega);have hir:(q.2.map It.row)[j]?=some it.row:=by rw[Lp_,hit];rfl
   have vV:=it.col0;have hp15:=part15 it.len;have xP:=fun lo sz z hz=>store15 K2 lo 82 sz (z:=z) hz it.len it.cell;have zT:IntKind.i64.wrap (((it.col:Nat):Int)-1)=((it.col-1:Nat):Int):=by rw[IntKind.wrap_i64]<;>omega
   have uG:IntKind.i64.wrap (((it.col-1:Nat):Int)-(((Eg w (q.2.take j)).length:Nat):Int))=((it.col-1-(Eg w (q.2.take j)).length:Nat):Int):=by rw[IntKind.wrap_i64]<;>omega
   have hlw:=hW2.lt;obtain⟨bd1,H1,lo1,wr1,ha1,hA1,hl1,hlo1,zi⟩:=app_b (hA.push [⟨82,15,[it.row],0,0,false⟩]) (List.replicate (it.col-1-(Eg w (q.2.take j)).length) 32) (by rw[List.length_replicate];omega) (some (it.col-1-(Eg w (q.2.take j)).length)) (min lo2 K2.length);have wG:H1[K2.length]?=some ⟨82,15,[it.row],0,0,false⟩:=zi _ _ (by rw[G6];rfl) (.inl rfl);have zB:WS H1 g gm gt x (w.write (tl.take i)):=(hW2.app _).keep fun j o h1 h2=>zi j o h1 (.inr (by rcases h2 with h | h | h | h<;>rw[h]<;>decide));obtain⟨nv,hv⟩:=value_run (d:=d) (by omega) lo1 zB it (by rw[hf2];exact xH);rw[hf1]at hv;obtain⟨bd2,H2,lo2',wr2,ha2,hA2,zF,hlo2,uz⟩:=app_b hA1 (it.txt w) (by rw[Ll_,List.length_replicate];omega) (some nv) lo1;have hWB:WS H2 g gm gt x (w.write (tl.take i)):=zB.keep fun j o h1 h2=>uz j o h1 (.inr (by rcases h2 with h | h | h | h<;>rw[h]<;>decide));have hKB:Keep K2 H2:=⟨by simp at hl1;omega,fun j o h1 h2=>uz j o (zi j o (Di h1 _) (h2.imp And.left fun h=>by rw[h];decide)) (h2.imp And.left fun h=>by rw[h];decide)⟩;have hLB:=hKB.2 _ _ hL2 (.inl ⟨rfl,by simp⟩);have hAB:AppAt 5 1 (bR (Eg w (q.2.take (j+1)))) H2 bd2:=by rw[rend_step w hit];exact hA2
   have xI:=aI hsE (aI hjT (aI hj0 (aI hwj (aI hir (aI vV (aI hp15 (aI zT (aI uG (wG)))))))));refine Ak (Bi rfl (Ai (Aq (Ad (Ac (by simp only[zl,zm,Df,Int.toNat_natCast,xq,xI]<;>exact rfl) ?_)))));apply Ac (by simp only[zl,zm,zd,xq,xI]<;>exact rfl);apply Ac (by simp only[zl,zm,xq,xI]<;>exact rfl);apply Ac (by simp only[opd,zv,Ar,aop,LOp.loud,lop,if_true];rw[xP _ _ _ (by rfl)];exact rfl);refine Aa (Af ?_);refine Ad (Ae rfl (Ac (by simp only[zl,zm,C9,List.replicate,snapVs,zs,zc,zf,xq,xI]<;>exact rfl) ?_));apply Ac (by simp only[zo,Cj,zm,xq,xI]<;>exact rfl);apply Ac (by simp only[zl,zm,zd,Au,List.drop,xq,xI]<;>exact rfl);apply Ac (by simp only[zo,Bf,xq,xI]<;>exact rfl);refine Ae rfl (Ac (by simp only[zo,xq,hbl,xI]<;>exact rfl) ?_);apply Ac (by simp only[zo,Bf,xq,xI]<;>exact rfl);apply Ac (by simp only[zo,xq,xI];exact brep_run (by omega) _ _ (by omega));apply Ac (by simp only[opd,zv,Ar,aop,LOp.loud,lop,if_true];exact ha1);refine Ag rfl (Aa (Af ?_));refine Am (Ae rfl (Ae rfl (Ac (by simp only[zl,zm,zd,xq,xI]<;>exact rfl) ?_)));apply Ac (by simp only[zo,xq,xI];exact hv);apply Ac (by simp only[opd,zv,Ar,aop,LOp.loud,lop,if_true];exact ha2);refine Ag rfl (Aa (D8 (Af ?_)));refine Am (Ac (by simp only[zo,Bf,xq,xI]<;>exact rfl) ?_);refine Ag rfl (Aa (Gh (by simp only[ze]<;>exact rfl) ?_));exact⟨q.2.length-(j+1),by omega,j+1,_,_,_,_,_,_,_,by omega,hWB,hK2.trans hKB,hLB,hAB,rfl,rfl,rfl⟩
  have hje:j=q.2.length:=by have:=of_decide_eq_false zI;omega
  subst hje;rw[List.take_length]at hA;obtain⟨lin,uG,xY⟩:=hW2.hw;have hlw:=Ha uG;have uq:∀o,(K2.set g o)[g]?=some o:=fun o=>A8 uG o;have hln:=write_line w (tl.take i) 1000 (fun q hq=>(hok q (List.mem_of_mem_take hq)).2.2);rw[List.length_take]at hln hf4;have hwp:IntKind.i64.wrap ((((w.write (tl.take i)).line:Nat):Int)+((q.1:Nat):Int))=(((w.write (tl.take i)).line+q.1:Nat):Int):=by rw[IntKind.wrap_i64]<;>omega
  have hll:=xY.len;rw[List.length_map]at hll;have hfull:((((w.write (tl.take i)).lines.length:Nat):Int)≥65536)=False:=eq_false (by omega);have hq0:(K2[K.length]?)=some ⟨74,2,[[.int .i64 (q.1:Nat),slB true 15 (q.2.map It.row) none]],0,0,false⟩:=hL2;obtain⟨g',v',H',lo',hap,hg',hl',yU,hf'⟩:=lin_app (H:=K2.set g (wO x gm (.int .i64 ((w.write (tl.take i)).page:Nat)) (.int .i64 ((w.write (tl.take i)).line+q.1:Nat)) (w.write (tl.take i)).body (Jd (w.write (tl.take i)).row) (.msl gt x.ctl 0 (x.ctl+1) none) lin (w.write (tl.take i)).ended)) (xY.keep fun j o h1 h2=>Bv h1 (fun e=>by subst e;rw[uG]at h1;obtain rfl:=Option.some.inj h1;simp[wO]at h2) _) (by rw[List.length_map];omega) [.int .i64 ((w.write (tl.take i)).page:Nat),.int .i64 ((w.write (tl.take i)).line+q.1:Nat),.str (mkS (Eg w q.2))] (some 1) (min lo2 g);rw[List.length_map]at hap;have hHg:=hf' g _ (uq _) (.inl rfl);obtain⟨hWN,hKN'⟩:=hW2.put (o:=_) ⟨rfl,rfl⟩ hl' hf' q.1 (Eg w q.2) hg';have hKN:=hK2.trans hKN';have hbs:=fun o lo=>bstr_at (hA.put uG (.inl rfl) o) lo;have y5:=aI hq0 (aI uG (aI uq (aI hwp (aI hll (aI hfull (hHg))))));refine Dh (Gj (Hu (Gl (Bi rfl (Ai (Eh ?_))))));refine Bc rfl rfl (Aj (by simp only[zo,xq]<;>exact rfl) rfl rfl ?_);refine U2 (h:=U2 (h:=Az (by simp only[zl,zm,zd,Au,List.take,List.drop,wO,wRow,xq,y5]<;>exact rfl) rfl ?_));refine U2 (h:=xo65 (h:=Aj (by simp only[zo,Bf,xq,y5]<;>exact rfl) rfl rfl ?_));apply Aj (by simp only[zo,xq]<;>exact rfl) rfl rfl;refine U2 (h:=U2 (h:=Az (by simp only[zl,zm,Bg,overlay,zs,zc,zf,List.take,List.drop,wO,wRow,xq,y5]<;>exact rfl) rfl ?_));refine Ce (Af ?_);refine Ai (Ad (Ae rfl (Ac (by simp only[zo,xq]<;>exact rfl) ?_)));refine Xp (h:=Xp (h:=Ac (by simp only[zl,zm,zd,Au,List.take,List.drop,xq,y5]<;>exact rfl) ?_));apply Ac (by simp only[zo,xq,y5]<;>exact rfl);apply Ac (by simp only[zo,Bf,xq,y5]<;>exact rfl);refine Aa (Af ?_);apply Be (by simp only[opd,zv,xq]<;>rfl);refine Ak (Bi rfl (Eh ?_));refine Bc rfl rfl (Bc rfl rfl (Aj (by simp only[zo,xq]<;>exact rfl) rfl rfl ?_));refine U2 (h:=U2 (h:=xo65 (h:=Bc rfl rfl (Aj (by simp only[zo,xq]<;>exact rfl) rfl rfl ?_))));refine U2 (h:=U2 (h:=xo65 (h:=Bc rfl rfl (Aj (by simp only[zo,xq]<;>exact rfl) rfl rfl ?_))));refine U2 (h:=U2 (h:=xo65 (h:=Bc rfl rfl (Az (by simp only[opd,zv,Ar,aop,LOp.loud,lop,if_true];rw[hbs];simp only[Hr,Option.map_some];exact rfl) rfl ?_))));apply Aj (by simp only[zo,Ie,overlay,zc,List.take,List.drop,Nat.reduceAdd,Nat.reduceLeDiff,zm,xq]<;>exact rfl) rfl rfl;refine Az (by simp only[zl,zm,C9,List.replicate,snapVs,Bh,zs,zc,zf,xq]<;>exact rfl) rfl ?_;apply Dc (by simp only[opd,zv,Ar,aop,LOp.loud,lop,if_true];exact hap) (by simp only[fpHere,zo,zq];exact fpApp_eta _ _ _ _) (okHere_nil rfl);apply Aj (by simp only[zo,xq]<;>exact rfl) rfl rfl;refine U2 (h:=U2 (h:=Az (by simp only[zl,zm,Bg,overlay,zs,zc,zf,List.take,List.drop,wO,wRow,xq,y5]<;>exact rfl) rfl ?_));refine Ce (D8 (Af ?_));refine Am (Xr (h:=Ag rfl (Aa ?_)));apply Gh (by simp only[ze]<;>exact rfl);rw[show (w.write (tl.take i)).put q.1 (Eg w q.2)=w.write (tl.take (i+1)) by rw[List.take_add_one,hq];show _=w.write (tl.take i++[q]);rw[write_app,hf3]]at hWN;exact⟨tl.length-(i+1),by omega,i+1,_,_,_,_,_,_,_,_,_,_,_,by omega,hWN,zC.trans hKN,.inl (Nat.min_le_right _ _),rfl,rfl,rfl⟩
 have yV:i=tl.length:=by have:=of_decide_eq_false xZ;omega
 subst yV;rw[List.take_length]at yg;refine Dh (Gj (Hu (Gl ?_)));obtain⟨r,yG,xR⟩:=Jz (S:=⟨H,low⟩) (S':=⟨K,lo⟩) hW yg zC (xU.imp (fun h=>Nat.le_trans h (Nat.le_max_left _ _)) fun h=>by rw[List.length_eq_zero_iff.1 h];rfl);refine⟨r,yG,?_⟩;refine⟨_,by simp only[F43,resultD,Ba]<;>exact rfl,?_⟩;exact xR
theorem CM.mem_gl(x:CM)(g:GrM):∀n,g∈x.gl n↔(∃i,i<n∧x.has (2+i)=true∧g=gH x i)∨(∃i,i<n∧x.has (5+i)=true∧g=gF x i)
 | 0=>by simp[CM.gl]
 | n + 1 => by
  have e1:g∈x.gh n↔x.has (2+n)=true∧g=gH x n:=by unfold CM.gh;split<;>simp_all
  have e2:g∈x.gf n↔x.has (5+n)=true∧g=gF x n:=by unfold CM.gf;split<;>simp_all
  rw[CM.gl,List.mem_append,List.mem_append,CM.mem_gl x g n,e1,e2];constructor
  ·
   rintro ((⟨i,h1,h2⟩ | ⟨i,h1,h2⟩) | h | h)
   ·
    exact .inl ⟨i,by omega,h2⟩
   ·
    exact .inr ⟨i,by omega,h2⟩
   ·
    exact .inl ⟨n,by omega,h⟩
   exact .inr ⟨n,by omega,h⟩
  rintro (⟨i,h1,h2⟩ | ⟨i,h1,h2⟩)
  ·
   by_cases hi:i=n
   ·
    subst hi;exact .inr (.inl h2)
   exact .inl (.inl ⟨i,by omega,h2⟩)
  by_cases hi:i=n
  ·
   subst hi;exact .inr (.inr h2)
  exact .inl (.inr ⟨i,by omega,h2⟩)
theorem CM.mem(x:CM)(g:GrM):g∈x.grps↔g=gD1 x∨g=gD2∨(x.has 0=true∧g=gRH)∨((x.has 1&&x.paged)=true∧g=gPH)∨(∃i,i<x.ctl+1∧x.has (2+i)=true∧g=gH x i)∨(∃i,i<x.ctl+1∧x.has (5+i)=true∧g=gF x i)∨((x.has 8&&x.paged)=true∧g=gPF)∨(x.has 9=true∧g=gRF):=by
 have e1:g∈x.g1↔x.has 0=true∧g=gRH:=by unfold CM.g1;split<;>simp_all
 have e2:g∈x.g2↔(x.has 1&&x.paged)=true∧g=gPH:=by unfold CM.g2;split<;>simp_all
 have e8:g∈x.g8↔(x.has 8&&x.paged)=true∧g=gPF:=by unfold CM.g8;split<;>simp_all
 have e9:g∈x.g9↔x.has 9=true∧g=gRF:=by unfold CM.g9;split<;>simp_all
 simp only[CM.grps,List.mem_append,e1,e2,e8,e9,CM.mem_gl,List.mem_cons,List.not_mem_nil,or_false,or_assoc]
theorem look_mem{gs:List GrM}(hK:KeysOK gs){g:GrM}(hg:g∈gs)(hk:g.kind≠4):Oh (Xi gs) g.ky=some (.agg (g.row true)):=by
 unfold Oh
 cases hf:(Xi gs).find? (fun p=>decide (p.1=g.ky)) with
 | none =>
  have:=List.find?_eq_none.1 hf (g.ky,.agg (g.row true)) (List.mem_map.2 ⟨g,List.mem_filter.2 ⟨hg,by simp[hk]⟩,rfl⟩);simp at this
 | some p =>
  have h1:=List.find?_some hf;obtain⟨g',hg',rfl⟩:=List.mem_map.1 (List.mem_of_find?_eq_some hf);obtain⟨h2,h3⟩:=List.mem_filter.1 hg';simp only[decide_eq_true_eq]at h1 h3;obtain⟨i,hi⟩:=List.mem_iff_getElem?.1 hg;obtain⟨j,hj⟩:=List.mem_iff_getElem?.1 h2;rcases Nat.lt_trichotomy i j with h | h | h
  ·
   exact absurd (hK i j g g' hi hj h h1.symm) h3
  ·
   subst h;obtain rfl:g=g':=by simpa using hi.symm.trans hj
   rfl
  exact absurd (hK j i g' g hj hi h h1) hk
theorem Nq{gs:List GrM}{k:Nat × Nat}(h:∀g∈gs,g.kind≠4→g.ky≠k):Oh (Xi gs) k=none:=by
 unfold Oh;rw[List.find?_eq_none.2];rfl;intro p hp;obtain⟨g',hg',rfl⟩:=List.mem_map.1 hp;obtain⟨h2,h3⟩:=List.mem_filter.1 hg';simp only[decide_eq_true_eq]at h3 ⊢;exact h g' h2 h3
structure TG where
 kind:Nat
 level:Nat
 np:Bool
 tl:List (Nat × List It)
def TG.arg (t:TG):D:=.agg [.int .u8 (t.kind:Nat),.int .i64 (t.level:Nat),.bool t.np,slB true 2 (t.tl.map Jr) none]
def TG.h (t:TG):Nat:=(t.tl.map (·.1)).sum
def tD1 (b:Bool):TG:=⟨4,0,b,[(1,[.key 1 0,.key 2 1,.num 4])]⟩
def tD2:TG:=⟨4,0,false,[(2,[.num 10])]⟩
def tRH:TG:=⟨1,0,false,[(1,[.lit 1 [82,72]])]⟩
def tPH:TG:=⟨2,0,false,[(1,[.lit 1 [80],.pag])]⟩
def tH (i:Nat) (b:Bool):TG:=⟨3,i,b,[(1,[.lit 1 [72,dgt i],.key 4 0,.key 5 1])]⟩
def tF (i:Nat) (b:Bool):TG:=⟨5,i,false,(1,[.lit 1 [70,dgt i],.key 4 0,.key 5 1,.tot i])::(if b then [(1,[])] else [])⟩
def tPF:TG:=⟨6,0,false,[(2,[.lit 1 [66],.pag])]⟩
def tRF:TG:=⟨7,0,false,[(1,[.lit 1 [82,70]])]⟩
def tZ:TG:=⟨0,0,false,[]⟩
def allT:List TG:=[tD1 false,tD1 true,tD2,tRH,tPH,tPF,tRF,tZ]++(List.range 3).flatMap fun i=>[tH i false,tH i true,tF i false,tF i true]
theorem hgt_T(d:Nat)(S:St):allT.map (fun t=>E5 LP NN (d+2) 82 [t.arg] S)=allT.map (fun t=>some (.int .i64 (t.h:Nat),S,false)):=by kernel_rfl
theorem heightT{d:Nat}(hd:2≤d)(S:St)(t:TG)(ht:t∈allT):Bd LP NN d 82 [t.arg] S=some (.int .i64 (t.h:Nat),S,false):=by
 obtain⟨d,rfl⟩:∃e,d=e+2:=⟨d-2,by omega⟩;exact fast_ok (of_map (hgt_T d S) ht)
def CM.tg (x:CM) (k lv:Nat):TG :=
 if k=1 then (if x.has 0 then tRH else tZ)
 else if k=2 then (if x.has 1&&x.paged then tPH else tZ)
 else if k=3 then (if x.has (2+lv) then tH lv (x.nps (1+lv)) else tZ)
 else if k=5 then (if x.has (5+lv) then tF lv (x.blk lv) else tZ)
 else if k=6 then (if x.has 8&&x.paged then tPF else tZ)
 else if x.has 9 then tRF else tZ
theorem tF_arg(x:CM)(i:Nat):D.agg ((gF x i).row true)=(tF i (x.blk i)).arg:=by
 cases h:x.blk i<;>simp[gF,tF,h,GrM.row,TG.arg,slB,LnM.row,Jr,Qo,It.row]
theorem look_tg(x:CM){k lv:Nat}(hk:(lv=0∧(k=1∨k=2∨k=6∨k=7))∨(lv<x.ctl+1∧(k=3∨k=5))):(Oh (Xi x.grps) (k,lv)).getD tZ.arg=(x.tg k lv).arg:=by
 have hm:=fun g h1 h2=>look_mem x.keysOK ((x.mem g).2 h1) h2;rcases hk with⟨rfl,rfl | rfl | rfl | rfl⟩ | ⟨hl,rfl | rfl⟩
 ·
  by_cases h:x.has 0=true
  ·
   have e:=hm gRH (.inr (.inr (.inl ⟨h,rfl⟩))) (by decide);rw[show gRH.ky=(1,0) from rfl]at e;rw[e];simp only[CM.tg,h,if_true];rfl
  rw[Nq]
  ·
   simp[CM.tg,h]
  intro g hg h4 e;rcases (x.mem g).1 hg with rfl | rfl | ⟨h1,rfl⟩ | ⟨h1,rfl⟩ | ⟨i,h1,h2,rfl⟩ | ⟨i,h1,h2,rfl⟩ | ⟨h1,rfl⟩ | ⟨h1,rfl⟩<;>simp_all [GrM.ky,gD1,gD2,gRH,gPH,gH,gF,gPF,gRF]
 ·
  by_cases h:(x.has 1&&x.paged)=true
  ·
   have e:=hm gPH (.inr (.inr (.inr (.inl ⟨h,rfl⟩)))) (by decide);rw[show gPH.ky=(2,0) from rfl]at e;rw[e];simp only[CM.tg,h,if_true];rfl
  rw[Nq]
  ·
   simp[CM.tg,h]
  intro g hg h4 e;rcases (x.mem g).1 hg with rfl | rfl | ⟨h1,rfl⟩ | ⟨h1,rfl⟩ | ⟨i,h1,h2,rfl⟩ | ⟨i,h1,h2,rfl⟩ | ⟨h1,rfl⟩ | ⟨h1,rfl⟩<;>simp_all [GrM.ky,gD1,gD2,gRH,gPH,gH,gF,gPF,gRF]
 ·
  by_cases h:(x.has 8&&x.paged)=true
  ·
   have e:=hm gPF (.inr (.inr (.inr (.inr (.inr (.inr (.inl ⟨h,rfl⟩))))))) (by decide);rw[show gPF.ky=(6,0) from rfl]at e;rw[e];simp only[CM.tg,h,if_true];rfl
  rw[Nq]
  ·
   simp[CM.tg,h]
  intro g hg h4 e;rcases (x.mem g).1 hg with rfl | rfl | ⟨h1,rfl⟩ | ⟨h1,rfl⟩ | ⟨i,h1,h2,rfl⟩ | ⟨i,h1,h2,rfl⟩ | ⟨h1,rfl⟩ | ⟨h1,rfl⟩<;>simp_all [GrM.ky,gD1,gD2,gRH,gPH,gH,gF,gPF,gRF]
 ·
  by_cases h:x.has 9=true
  ·
   have e:=hm gRF (.inr (.inr (.inr (.inr (.inr (.inr (.inr ⟨h,rfl⟩))))))) (by decide);rw[show gRF.ky=(7,0) from rfl]at e;rw[e];simp only[CM.tg,h,if_true];rfl
  rw[Nq]
  ·
   simp[CM.tg,h]
  intro g hg h4 e;rcases (x.mem g).1 hg with rfl | rfl | ⟨h1,rfl⟩ | ⟨h1,rfl⟩ | ⟨i,h1,h2,rfl⟩ | ⟨i,h1,h2,rfl⟩ | ⟨h1,rfl⟩ | ⟨h1,rfl⟩<;>simp_all [GrM.ky,gD1,gD2,gRH,gPH,gH,gF,gPF,gRF]
 ·
  by_cases h:x.has (2+lv)=true
  ·
   have e:=hm (gH x lv) (.inr (.inr (.inr (.inr (.inl ⟨lv,hl,h,rfl⟩))))) (by simp[gH]);rw[show (gH x lv).ky=(3,lv) from rfl]at e;rw[e];simp only[CM.tg,h,if_true];rfl
  rw[Nq]
  ·
   simp[CM.tg,h]
  intro g hg h4 e;rcases (x.mem g).1 hg with rfl | rfl | ⟨h1,rfl⟩ | ⟨h1,rfl⟩ | ⟨i,h1,h2,rfl⟩ | ⟨i,h1,h2,rfl⟩ | ⟨h1,rfl⟩ | ⟨h1,rfl⟩<;>simp_all [GrM.ky,gD1,gD2,gRH,gPH,gH,gF,gPF,gRF]
 by_cases h:x.has (5+lv)=true
 ·
  have e:=hm (gF x lv) (.inr (.inr (.inr (.inr (.inr (.inl ⟨lv,hl,h,rfl⟩)))))) (by simp[gF]);rw[show (gF x lv).ky=(5,lv) from rfl]at e;rw[e];simp only[CM.tg,h,if_true];exact tF_arg x lv
 rw[Nq]
 ·
  simp[CM.tg,h]
 intro g hg h4 e;rcases (x.mem g).1 hg with rfl | rfl | ⟨h1,rfl⟩ | ⟨h1,rfl⟩ | ⟨i,h1,h2,rfl⟩ | ⟨i,h1,h2,rfl⟩ | ⟨h1,rfl⟩ | ⟨h1,rfl⟩<;>simp_all [GrM.ky,gD1,gD2,gRH,gPH,gH,gF,gPF,gRF]
theorem CM.tg_all(x:CM){k lv:Nat}(hl:lv<3):x.tg k lv∈allT:=by
 have h1:∀b,tH lv b∈allT:=fun b=>List.mem_append_right _ (List.mem_flatMap.2 ⟨lv,List.mem_range.2 hl,by cases b<;>simp⟩);have h2:∀b,tF lv b∈allT:=fun b=>List.mem_append_right _ (List.mem_flatMap.2 ⟨lv,List.mem_range.2 hl,by cases b<;>simp⟩);have h0:∀t∈[tD1 false,tD1 true,tD2,tRH,tPH,tPF,tRF,tZ],t∈allT:=fun t h=>List.mem_append_left _ h;unfold CM.tg
 repeat' split
 all_goals first | exact h1 _ | exact h2 _ | exact h0 _ (by simp)
theorem Rq{H:List Z9}{g gm gt:Nat}{x:CM}{w:WM}(hW:WS H g gm gt x w)(lo:Nat){k lv:Nat}(hk:(lv=0∧(k=1∨k=2∨k=6∨k=7))∨(lv<x.ctl+1∧(k=3∨k=5))):Lp ⟨H,lo⟩ [0,0] (.agg [.int .u8 0,.int .i64 0,.bool false,.nils]) false (.mref gm 0) (.agg [.int .u8 (k:Nat),.int .i64 (lv:Nat)])=some (x.tg k lv).arg:=by
 rw[←look_tg x hk];have:=map_get hW.hm (k,lv) tZ.arg;exact this
structure WB (w:WM) (n:Nat):Prop where
 row:w.row≠none
 page:w.page≤n
 line:w.line≤n
 lines:w.lines.length≤n
 tot:∀m∈w.tot,m≤1000*n
theorem WB.totM{w:WM}{n n':Nat}(h:WB w n)(hn:n≤n'):∀m∈w.tot,m≤1000*n':=fun m hm=>by have:=h.tot m hm;omega
def TOK (w:WM) (t:TG):Prop:=t.tl.length≤2∧∀q∈t.tl,q.2.length≤1000∧LsOK w q.2∧q.1≤2
def chkL (w:WM):Nat→List It→Prop
 | _,[]=>True
 | n,it::l=>it.ok w∧n+1≤it.col∧it.col≤n+10∧(it.txt w).length≤100∧it.col≤100∧chkL w (it.col-1+(it.txt w).length) l
theorem chk_go(w:WM):∀(l p:List It),chkL w (Eg w p).length l→∀(k:Nat) (it:It),l[k]?=some it→it.ok w∧(Eg w (p++l.take k)).length+1≤it.col∧it.col≤(Eg w (p++l.take k)).length+10∧(it.txt w).length≤100∧it.col≤100
 | [],_,_,k,it,h=>by simp at h
 | i::l,p,hc,0,it,h=>by
  obtain rfl:i=it:=by simpa using h
  obtain⟨h1,h2,h3,h4,h5,_⟩:=hc;simpa using ⟨h1,h2,h3,h4,h5⟩
 | i :: l, p, hc, k + 1, it, h => by
  obtain⟨h1,h2,h3,h4,h5,h6⟩:=hc;have e:Eg w (p++[i])=O4 (Eg w p) i.col++i.txt w:=by simp[Eg,List.foldl_append]
  have e2:(Eg w (p++[i])).length=i.col-1+(i.txt w).length:=by
   rw[e];simp[O4];omega
  have:=chk_go w l (p++[i]) (by rw[e2];exact h6) k it (by simpa using h);simpa using this
theorem Vt{w:WM}{its:List It}(h:chkL w 0 its):LsOK w its:=fun k it hk=>by
 have:=chk_go w its [] h k it hk;simpa using this
theorem Kq{w:WM}{n:Nat}{x:CM}(hB:WB w n)(hn:n<100000)(ht:w.tot.length=x.ctl+1){k lv:Nat}(hl:lv<x.ctl+1):TOK w (x.tg k lv):=by
 obtain⟨y,hy⟩:=Option.ne_none_iff_exists'.1 hB.row;have hp:w.page<100000:=by have:=hB.page;omega
 have xO:lv<w.tot.length:=by omega
 have htm:w.tot.getD lv 0<10 ^ 15:=by
  rw[show w.tot.getD lv 0=w.tot[lv] by simp[xO]];have:=hB.tot _ (List.getElem_mem xO);omega
 have htm2:w.tot[lv]<1000000000000000:=by have:=hB.tot _ (List.getElem_mem xO);omega
 have c1:∀a b,LsOK w [.lit 1 [a,b]]:=fun a b=>Vt (by simp[chkL,It.ok,It.col,It.txt]);have c2:∀a,LsOK w [.lit 1 [a],.pag]:=fun a=>Vt (by simp[chkL,It.ok,It.col,It.txt,hp,Bz]);have c3:∀a b,LsOK w [.lit 1 [a,b],.key 4 0,.key 5 1]:=fun a b=>Vt (by simp[chkL,It.ok,It.col,It.txt,hy]);have c4:∀a b,LsOK w [.lit 1 [a,b],.key 4 0,.key 5 1,.tot lv]:=fun a b=>Vt (by simp[chkL,It.ok,It.col,It.txt,hy,Bz,xO];exact htm2);have c5:LsOK w []:=Vt trivial;have z:TOK w tZ:=⟨by simp[tZ],by simp[tZ]⟩;unfold CM.tg
 repeat' split
 ·
  exact⟨by simp[tRH],by simp[tRH,c1]⟩
 ·
  exact z
 ·
  exact⟨by simp[tPH],by simp[tPH,c2]⟩
 ·
  exact z
 ·
  exact⟨by simp[tH],by simp[tH,c3]⟩
 ·
  exact z
 ·
  cases x.blk lv
  ·
   exact⟨by simp[tF],by simp[tF,c4]⟩
  exact⟨by simp[tF],by simp[tF,c4,c5]⟩
 ·
  exact z
 ·
  exact⟨by simp[tPF],by simp[tPF,c2]⟩
 ·
  exact z
 ·
  exact⟨by simp[tRF],by simp[tRF,c1]⟩
 exact z
theorem tok_D1{w:WM}{n:Nat}(hB:WB w n)(b:Bool):TOK w (tD1 b):=by
 obtain⟨y,hy⟩:=Option.ne_none_iff_exists'.1 hB.row;have c:LsOK w [.key 1 0,.key 2 1,.num 4]:=Vt (by simp[chkL,It.ok,It.col,It.txt,hy,Bz]);exact⟨by simp[tD1],by simp[tD1,c]⟩
theorem tok_D2{w:WM}{n:Nat}(hB:WB w n):TOK w tD2:=by
 obtain⟨y,hy⟩:=Option.ne_none_iff_exists'.1 hB.row;have c:LsOK w [.num 10]:=Vt (by simp[chkL,It.ok,It.col,It.txt,hy,Bz]);exact⟨by simp[tD2],by simp[tD2,c]⟩
def WF (d f:Nat) (args:List D) (g gm gt:Nat) (x:CM) (w w':WM):Prop:=∀(H:List Z9) (low:Nat),WS H g gm gt x w→∃r,(∃T wr,r=(.tup [],T,wr)∧Ef ⟨H,low⟩ T g gm gt x w w')∧Bd LP NN d f (.ptr g 0 0 0::args) ⟨H,low⟩=some r
theorem WF.go{d f:Nat}{args:List D}{g gm gt:Nat}{x:CM}{w w':WM}(h:WF d f args g gm gt x w w'){H:List Z9}(low:Nat)(hW:WS H g gm gt x w):∃H' lo' wr,Bd LP NN d f (.ptr g 0 0 0::args) ⟨H,low⟩=some (.tup [],⟨H',lo'⟩,wr)∧WS H' g gm gt x w'∧Keep H H'∧(lo'≤max g gt∨w'=w)∧lo'≤low:=by
 obtain⟨r,⟨T,wr,rfl,h1⟩,h2⟩:=h H low hW;exact⟨T.heap,T.low,wr,h2,h1.ws,h1.kp,h1.lo,h1.lm⟩
theorem Tu{d:Nat}(hd:25≤d){g gm gt:Nat}{x:CM}{w:WM}{n:Nat}(hn:n≤60000)(hl:w.lines.length≤n)(zF:w.line≤100000000){t:TG}(ht:TOK w t):WF d 43 [t.arg] g gm gt x w (w.write t.tl):=fun H low hW =>
 write_gen hd H low hW t.kind t.level t.np t.tl _ (P6 ..) (by rw[La,List.length_map]) (fun h=>Gm (by rw[List.length_map];exact h)) (by have:=ht.1;omega) (by have:=ht.1;omega) zF (fun q hq=>by obtain⟨h1,h2,h3⟩:=ht.2 q hq;exact⟨h1,h2,by omega⟩)
theorem WB.write{w:WM}{n:Nat}(h:WB w n){t:TG}(ht:TOK w t):WB (w.write t.tl) (n+4):=by
 have key:∀(tl:List (Nat × List It)) (w:WM),(w.write tl).row=w.row∧(w.write tl).page=w.page∧(w.write tl).tot=w.tot:=by
  intro tl
  induction tl with
  | nil=>intro w;exact⟨rfl,rfl,rfl⟩
  | cons q l ih=>intro w;exact ih (w.put q.1 (Eg w q.2))
 obtain⟨h1,h2,h3⟩:=key t.tl w;have h4:=(write_f w t.tl).2.2.2;have h5:=write_line w t.tl 2 (fun q hq=>(ht.2 q hq).2.2);have h6:=ht.1;have:=h.page;have:=h.line;have:=h.lines
 exact⟨by rw[h1];exact h.row,by omega,by omega,by omega,by rw[h3];exact h.totM (by omega)⟩
theorem Gw(w:WM)(tl:List (Nat × List It)):(w.write tl).row=w.row∧(w.write tl).page=w.page∧(w.write tl).tot=w.tot∧(w.write tl).body=w.body∧(w.write tl).ended=w.ended:=by
 induction tl generalizing w with
 | nil=>exact⟨rfl,rfl,rfl,rfl,rfl⟩
 | cons q l ih=>exact ih (w.put q.1 (Eg w q.2))
def Dk (x:CM) (w:WM):WM:=({ w with line:=x.L }:WM).write (x.tg 6 0).tl
theorem CM.L_le(x:CM):x.L≤12:=by
 have h1:x.p1 % 3<3:=Nat.mod_lt _ (by decide);have h2:x.p2 % 4<4:=Nat.mod_lt _ (by decide)
 unfold CM.L CM.last CM.first
 split<;>omega
theorem Vw{d:Nat}(hd:27≤d){g gm gt:Nat}{x:CM}{w:WM}{n:Nat}(hB:WB w n)(hn:n≤50000):WF d 59 [] g gm gt x w (Dk x w):=by
 intro H low hW;obtain⟨lin,hw,xY⟩:=hW.hw;have xO:=hW.lt;have uq:∀o,(H.set g o)[g]?=some o:=fun o=>A8 hw o;have zB:=hW.set w.page x.L w.body w.row lin w.lines w.ended xY;have hT:=Kq (x:=x) (w:={ w with line:=x.L }) (n:=n+20) ⟨hB.row,by have:=hB.page;show w.page≤_;omega,by show x.L≤_;have:=x.L_le;omega,by have:=hB.lines;show w.lines.length≤_;omega,hB.totM (by omega)⟩ (by omega) hW.hn (k:=6) (lv:=0) (by omega);obtain⟨H',lo',wr,h43,hW',hK',yU,hlm'⟩:=(Tu (d:=d-1) (by omega) (n:=n+20) (by omega) (by have:=hB.lines;show w.lines.length≤_;omega) (by have:=x.L_le;show x.L≤_;omega) hT).go (min H.length g) zB;obtain⟨d0,rfl⟩:∃e,d=e+1:=⟨d-1,by omega⟩;rw[Nat.add_sub_cancel]at h43;refine Eu (F:=F59) rfl (by simp only[LP,snapVs,zs,zm]<;>exact rfl) rfl (by simp only[LP,zf,zm];try rfl) (by simp only[F59,zv]<;>exact rfl) (by omega) ?_;intro d he;obtain rfl:=Nat.succ.inj he;refine Ad (Ae rfl (Ae rfl (xo3 (h:=xo1 (h:=xo1 (h:=Ac (by simp only[zl,zm,zd,Au,List.take,List.drop,hw,wO,wRow]<;>exact rfl) ?_))))));refine xo3 (h:=xo1 (h:=xo1 (h:=Ac (by simp only[zl,zm,Bg,overlay,zs,zc,zf,List.take,List.drop,hw,wO,wRow]<;>exact rfl) ?_)));refine Aa (Af ?_);refine Am (Ae rfl (Ae rfl (xo3 (h:=xo1 (h:=Ac (by simp only[zl,zm,zd,Au,List.take,List.drop,uq]<;>exact rfl) ?_)))));refine Px (h:=Ac (by simp only[opd,zv,Ar,aop,LOp.loud,lop,if_true];exact congrArg (Option.map fun r=>(r,_,false)) (Rq zB _ (.inl ⟨rfl,.inr (.inr (.inl rfl))⟩))) ?_);apply Ac (by simp only[zo];exact h43);apply Aa;simp only[ze];obtain⟨r,yG,xR⟩:=Jz (S:=⟨H,low⟩) (S':=⟨H',lo'⟩) hW hW' ((Keep.set hW _).trans hK') (.inl (by show lo'≤_;omega));refine⟨r,yG,?_⟩;refine⟨_,by simp only[F59,resultD,Ba]<;>exact rfl,?_⟩;exact xR
def Em (x:CM) (w:WM):WM:=({ Dk x w with page:=(Dk x w).page+1,line:=0,body:=false }:WM).write (x.tg 2 0).tl
def Gv (x:CM) (w:WM) (t:TG):Bool:=w.body&&(t.np||decide (x.L<t.h+max w.line (x.F-1)))
def Gq (x:CM) (w:WM) (t:TG):WM :=
 if x.P=0 then w else
 if t.tl=[] then (if Gv x w t then Em x w else w) else { (if Gv x w t then Em x w else w) with line:=max (if Gv x w t then Em x w else w).line (x.F-1),body:=true }
def Dz (x:CM) (w:WM) (t:TG):WM:=(Gq x w t).write t.tl
theorem CM.pg(x:CM)(h:x.P≠0):3≤x.F∧x.F≤5∧x.F+3≤x.L∧x.L+2=x.P∧x.L≤12:=by
 have h0:=x.L_le;have h1:x.p1 % 3<3:=Nat.mod_lt _ (by decide)
 cases hp:x.paged with
 | false=>simp[CM.P,hp]at h
 | true =>
  simp[CM.F,CM.L,CM.P,hp,CM.last,CM.first]at h0 ⊢;omega
theorem WB.bottom{w:WM}{n:Nat}(h:WB w n){x:CM}(hn:n≤50000)(ht:w.tot.length=x.ctl+1):WB ({ w with line:=x.L }:WM) (n+12)∧WB (Dk x w) (n+16):=by
 have h0:=x.L_le;have h1:WB ({ w with line:=x.L }:WM) (n+12):=⟨h.row,by have:=h.page;show w.page≤_;omega,by show x.L≤_;omega,by have:=h.lines;show w.lines.length≤_;omega,h.totM (by omega)⟩;exact⟨h1,h1.write (Kq h1 (by omega) ht (by omega))⟩
theorem Tm(x:CM)(w:WM):(Dk x w).row=w.row∧(Dk x w).page=w.page∧(Dk x w).tot=w.tot∧(Dk x w).body=w.body∧(Dk x w).ended=w.ended:=Gw _ _
theorem WB.page'{w:WM}{n:Nat}(h:WB w n){x:CM}(hn:n≤50000)(ht:w.tot.length=x.ctl+1):WB ({ Dk x w with page:=(Dk x w).page+1,line:=0,body:=false }:WM) (n+17)∧WB (Em x w) (n+21):=by
 have h1:=(h.bottom hn ht).2;have h2:=Tm x w;have h3:WB ({ Dk x w with page:=(Dk x w).page+1,line:=0,body:=false }:WM) (n+17):=⟨h1.row,by have:=h1.page;show (Dk x w).page+1≤_;omega,Nat.zero_le _,by have:=h1.lines;show (Dk x w).lines.length≤_;omega,h1.totM (by omega)⟩;exact⟨h3,h3.write (Kq h3 (by omega) (by show (Dk x w).tot.length=_;rw[h2.2.2.1];exact ht) (by omega))⟩
theorem page_f(x:CM)(w:WM):(Em x w).row=w.row∧(Em x w).tot=w.tot∧(Em x w).ended=w.ended:=by
 have h1:=Gw ({ Dk x w with page:=(Dk x w).page+1,line:=0,body:=false }:WM) (x.tg 2 0).tl;have h2:=Tm x w;exact⟨h1.1.trans h2.1,h1.2.2.1.trans h2.2.2.1,h1.2.2.2.2.trans h2.2.2.2.2⟩
theorem tok_of{w w':WM}(h1:w'.row=w.row)(h2:w'.tot=w.tot)(h3:w'.page<100000){t:TG}(h:TOK w t):TOK w' t:=by
 have e1:∀it:It,(it.txt w').length=(it.txt w).length:=fun it=>by cases it<;>simp[It.txt,h1,h2,Bz]
 have e2:∀it:It,it.ok w→it.ok w':=fun it=>by
  cases it with
  | tot i=>intro h;show i<w'.tot.length∧w'.tot.getD i 0<10 ^ 15;rw[h2];exact h
  | _=>simp_all [It.ok]
 have e3:∀(l:List It) (b b':List UInt8),b.length=b'.length→(l.foldl (fun b it=>O4 b it.col++it.txt w') b).length=(l.foldl (fun b it=>O4 b it.col++it.txt w) b').length:=by
  intro l
  induction l with
  | nil=>intro b b' h;exact h
  | cons it l ih=>intro b b' h;exact ih _ _ (by simp[O4,h,e1])
 refine⟨h.1,fun q hq=>⟨(h.2 q hq).1,fun k it hk=>?_,(h.2 q hq).2.2⟩⟩;obtain⟨c1,c2,c3,c4,c5⟩:=(h.2 q hq).2.1 k it hk;have:=e3 (q.2.take k) [] [] rfl;unfold Eg at c2 c3 ⊢;exact⟨e2 it c1,by omega,by omega,by rw[e1];exact c4,c5⟩
theorem Wj{d:Nat}(hd:29≤d){g gm gt:Nat}{x:CM}{w:WM}{n:Nat}(uo:WB w n)(hn:n≤50000)(ht:w.tot.length=x.ctl+1){t:TG}(hT:TOK w t)(hA:t∈allT):WF d 48 [t.arg] g gm gt x w (Dz x w t):=by
 intro H low hW;obtain⟨lin,hw,xY⟩:=hW.hw;have hwA:∀l,(H++l)[g]?=_:=fun l=>Di hw l;have hlenT:=La true 2 (t.tl.map Jr) none
 have uY:WB (if Gv x w t then Em x w else w) (n+21):=by
  split
  ·
   exact (uo.page' hn ht).2
  exact⟨uo.row,by have:=uo.page;omega,by have:=uo.line;omega,by have:=uo.lines;omega,uo.totM (by omega)⟩
 have hRf0:((if Gv x w t then Em x w else w)).row=w.row∧((if Gv x w t then Em x w else w)).tot=w.tot:=by
  split
  ·
   exact⟨(page_f x w).1,(page_f x w).2.1⟩
  exact⟨rfl,rfl⟩
 have hRf:(Gq x w t).row=w.row∧(Gq x w t).tot=w.tot:=by
  unfold Gq;split
  ·
   exact⟨rfl,rfl⟩
  split<;>exact hRf0
 have hBr0:WB (Gq x w t) (n+40):=by
  unfold Gq;split
  ·
   exact⟨uo.row,by have:=uo.page;omega,by have:=uo.line;omega,by have:=uo.lines;omega,uo.totM (by omega)⟩
  rename_i hP;obtain⟨f1,f2,f3,f4,f5⟩:=x.pg hP;split
  ·
   exact⟨uY.row,by have:=uY.page;omega,by have:=uY.line;omega,by have:=uY.lines;omega,uY.totM (by omega)⟩
  exact⟨uY.row,by have:=uY.page;show ((if Gv x w t then Em x w else w)).page≤_;omega,by have:=uY.line;show max ((if Gv x w t then Em x w else w)).line (x.F-1)≤_;omega,by have:=uY.lines;show ((if Gv x w t then Em x w else w)).lines.length≤_;omega,uY.totM (by omega)⟩
 have h82:∀S,Bd LP NN (d-1) 82 [.agg [.int .u8 (t.kind:Nat),.int .i64 (t.level:Nat),.bool t.np,slB true 2 (t.tl.map Jr) none]] S=some (.int .i64 (t.h:Nat),S,false):=fun S=>heightT (by omega) S t hA;obtain⟨d0,rfl⟩:∃e,d=e+1:=⟨d-1,by omega⟩;rw[Nat.add_sub_cancel]at h82;show ∃r,_∧Bd LP NN _ 48 [.ptr g 0 0 0,.agg [.int .u8 (t.kind:Nat),.int .i64 (t.level:Nat),.bool t.np,slB true 2 (t.tl.map Jr) none]] _=_;refine Eu (F:=F48) rfl (by simp only[LP,snapVs,Bh,zs,zm,Dq (Gp _ _ _ _)]<;>exact rfl) rfl (by simp only[LP,zf,zm,Gp];try rfl) (by simp only[F48,zv]<;>exact rfl) (by omega) ?_;intro d he;obtain rfl:=Nat.succ.inj he;refine Ad (Ac (by simp only[zl,zm,zc,Hm]<;>exact rfl) ?_);refine Aa (Af ?_);refine Ig (fun env S'=>∃(K:List Z9) (lo:Nat) (u3 u4 u5:D),WS K g gm gt x (Gq x w t)∧Keep H K∧K[H.length]?=some ⟨71,4,[[.int .u8 (t.kind:Nat),.int .i64 (t.level:Nat),.bool t.np,slB true 2 (t.tl.map Jr) none]],0,0,false⟩∧(lo≤max g gt∨(Gq x w t)=w)∧S'=⟨K,lo⟩∧env=[.ptr g 0 0 0,.agg [.int .u8 (t.kind:Nat),.int .i64 (t.level:Nat),.bool t.np,slB true 2 (t.tl.map Jr) none],.ptr H.length 0 0 0,u3,u4,u5]) ?_ ?_
 ·
  refine Ad (Ae rfl (xo3 (h:=xo1 (h:=xo1 (h:=Ac (by simp only[zl,zm,zd,Au,List.take,List.drop,hwA,wO,wRow]<;>exact rfl) ?_)))));refine xo2 (h:=?_);refine Aa (Af ?_);refine Bj (by simp only[opd,zv]<;>exact rfl) (fun hc=>?_) (fun hc=>?_)
  ·
   have hP0:x.P≠0:=by have:=of_decide_eq_true hc;omega
   obtain⟨f1,f2,f3,f4,f5⟩:=x.pg hP0;have hwF:IntKind.i64.wrap (((x.F:Nat):Int)-1)=((x.F-1:Nat):Int):=by rw[IntKind.wrap_i64]<;>omega
   have hwl:=uo.line;have hmax:(if (((x.F-1:Nat):Int)>((w.line:Nat):Int)) then ((x.F-1:Nat):Int) else ((w.line:Nat):Int))=((max w.line (x.F-1):Nat):Int):=by split<;>omega
   have hwS:IntKind.i64.wrap (((x.L:Nat):Int)-((max w.line (x.F-1):Nat):Int))=((x.L:Nat):Int)-((max w.line (x.F-1):Nat):Int):=by rw[IntKind.wrap_i64]<;>omega
   refine Ig (fun env S'=>∃(K:List Z9) (lo:Nat) (u3 u4 u5:D),WS K g gm gt x (if Gv x w t then Em x w else w)∧Keep H K∧K[H.length]?=some ⟨71,4,[[.int .u8 (t.kind:Nat),.int .i64 (t.level:Nat),.bool t.np,slB true 2 (t.tl.map Jr) none]],0,0,false⟩∧(lo≤max g gt∨(if Gv x w t then Em x w else w)=w)∧S'=⟨K,lo⟩∧env=[.ptr g 0 0 0,.agg [.int .u8 (t.kind:Nat),.int .i64 (t.level:Nat),.bool t.np,slB true 2 (t.tl.map Jr) none],.ptr H.length 0 0 0,u3,u4,u5]) ?_ ?_
   ·
    refine Ai (Eh ?_);refine Bc rfl rfl (xo6 (h:=xo4 (h:=xo4 (h:=Az (by simp only[zl,zm,zd,Au,List.take,List.drop,hwA,wO,wRow]<;>exact rfl) rfl ?_))));apply D9 rfl rfl;refine I9 0 (by simp only[zv]<;>exact rfl) (by simp only[zn]<;>exact rfl) (by simp only[zn]<;>exact rfl) (fun hgT=>?_) (fun hgT=>?_)
    ·
     refine Cb rfl (xo4 (h:=?_));refine Cb rfl (xo7 (h:=?_));refine Cb rfl (D9 rfl rfl ?_);refine I9 0 (by simp only[zv]<;>exact rfl) (by simp only[zn]<;>exact rfl) (by simp only[zn]<;>exact rfl) (fun hgTT=>?_) (fun hgTT=>?_)
     ·
      have hb:Gv x w t=true:=by simp[Gv,hgT,hgTT]
      obtain⟨Hb,lob,wrb,h59,rZ,hKb1,hlob,hlmb⟩:=(Vw (d:=d0) (by omega) (x:=x) (g:=g) (gm:=gm) (gt:=gt) uo hn).go (H.length) (hW.app [⟨71,4,[[.int .u8 (t.kind:Nat),.int .i64 (t.level:Nat),.bool t.np,slB true 2 (t.tl.map Jr) none]],0,0,false⟩]);obtain⟨linb,wX,uf⟩:=rZ.hw;have hsb:∀o,(Hb.set g o)[g]?=some o:=fun o=>A8 wX o;have hBp:=uo.page' (x:=x) hn hW.hn;have kF:IntKind.i64.wrap ((((Dk x w).page:Nat):Int)+1)=(((Dk x w).page+1:Nat):Int):=Dt _ (by have:=hBp.1.page;simp only at this;omega);have hWc:=rZ.set ((Dk x w).page+1) 0 false (Dk x w).row linb (Dk x w).lines (Dk x w).ended uf;obtain⟨Hp,loq,wrp,h43p,hWp,hKp1,hloq0,hlmp⟩:=(Tu (d:=d0) (by omega) (n:=n+17) (by omega) hBp.1.lines (by show (0:Nat)≤_;omega) (Kq hBp.1 (by omega) (by show (Dk x w).tot.length=_;rw[(Tm x w).2.2.1];exact hW.hn) (k:=2) (lv:=0) (by omega))).go (min (min (min lob g) g) g) hWc;have hloq:loq≤max g gt:=by omega
      have hKc:=Keep.set rZ (wO x gm (.int .i64 ((Dk x w).page+1:Nat)) (.int .i64 (0:Nat)) false (Jd (Dk x w).row) (.msl gt x.ctl 0 (x.ctl+1) none) linb (Dk x w).ended);have hKpp:=((Keep.app H [⟨71,4,[[.int .u8 (t.kind:Nat),.int .i64 (t.level:Nat),.bool t.np,slB true 2 (t.tl.map Jr) none]],0,0,false⟩]).trans hKb1).trans (hKc.trans hKp1);have hKpp2:=(hKc.trans hKp1).2 _ _ (hKb1.2 _ _ (G6 H [⟨71,4,[[.int .u8 (t.kind:Nat),.int .i64 (t.level:Nat),.bool t.np,slB true 2 (t.tl.map Jr) none]],0,0,false⟩]) (.inl ⟨rfl,by simp⟩)) (.inl ⟨rfl,by simp⟩);have xq:=aI wX (aI hsb (aI kF (@List.set_set.{0})));refine Cc rfl rfl (Cc rfl rfl (Cc rfl rfl (Cc rfl rfl (Cc rfl rfl (Cc rfl rfl (Cc rfl rfl (Cc rfl rfl (Cc rfl rfl (Cc rfl rfl (Cc rfl rfl (Cc rfl rfl (Cc rfl rfl (Cc rfl rfl (Cc rfl rfl (Cc rfl rfl (Cc rfl rfl (Cc rfl rfl (Cc rfl rfl (Cc rfl rfl (Cc rfl rfl (Cb rfl (xo6 (h:=xo6 (h:=?_))))))))))))))))))))))));refine Ce (Af ?_);apply Ez (by simp only[opd,zv]);refine Ad (Ae rfl (Ac (by simp only[zo];exact h59) ?_));refine Aa (Af ?_);refine Ad (Ae rfl (xo3 (h:=xo1 (h:=xo1 (h:=xo52 (h:=Xr (h:=xo3 (h:=xo1 (h:=xo1 (h:=Ac (by simp only[zl,zm,Bg,overlay,zs,zc,zf,List.take,List.drop,wO,wRow,xq]<;>exact rfl) ?_))))))))));refine Aa (Af ?_);refine Ad (Ae rfl (Ae rfl (xo3 (h:=xo1 (h:=xo1 (h:=Ac (by simp only[zl,zm,Bg,overlay,zs,zc,zf,List.take,List.drop,xq]<;>exact rfl) ?_))))));refine xo3 (h:=xo1 (h:=xo1 (h:=Ac (by simp only[zl,zm,Bg,overlay,zs,zc,zf,List.take,List.drop,xq]<;>exact rfl) ?_)));refine Aa (Af ?_);refine Am (Ae rfl (Ae rfl (xo3 (h:=xo1 (h:=Qw (h:=Px (h:=Ac (by simp only[opd,zv,Ar,aop,LOp.loud,lop,if_true];exact congrArg (Option.map fun r=>(r,_,false)) (Rq hWc _ (.inl ⟨rfl,.inr (.inl rfl)⟩))) ?_)))))));apply Ac (by simp only[zo];exact h43p);refine Aa (Gy (by simp only[ze]<;>exact rfl) ?_);exact⟨_,_,_,_,_,by rw[hb];exact hWp,hKpp,by exact hKpp2,.inl hloq,rfl,rfl⟩
     refine Cb rfl (xo7 (h:=?_));refine Cb rfl (Az (by simp only[zo];exact h82 _) rfl ?_);refine Cb rfl (Bc rfl rfl (Cb rfl (xo6 (h:=?_))));refine Cb rfl (xo4 (h:=?_));refine Cb rfl (xo4 (h:=?_));refine Cb rfl (Az (by simp only[zl,zm,zd,Au,List.take,List.drop,hwA,wO,wRow]<;>exact rfl) rfl ?_);refine Cb rfl (Bc rfl rfl (Cb rfl (xo6 (h:=?_))));refine Cb rfl (xo4 (h:=?_));refine Cb rfl (xo4 (h:=?_));refine Cb rfl (Az (by simp only[zl,zm,zd,Au,List.take,List.drop,hwA,wO,wRow]<;>exact rfl) rfl ?_);refine Cb rfl (Bc rfl rfl (Cb rfl (xo6 (h:=?_))));refine Cb rfl (xo4 (h:=?_));refine Cb rfl (xo4 (h:=?_));refine Cb rfl (Az (by simp only[zl,zm,zd,Au,List.take,List.drop,hwA,wO,wRow]<;>exact rfl) rfl ?_);refine Cb rfl (Aj (by simp only[zo,Bf,hwF]<;>exact rfl) rfl rfl ?_);refine Cb rfl (Aj (by simp only[zo,Jm,U9,hmax]<;>exact rfl) rfl rfl ?_);refine Cb rfl (Aj (by simp only[zo,Bf,hwS]<;>exact rfl) rfl rfl ?_);refine Cb rfl (xo28 (h:=?_));refine Cb rfl (xo6 (h:=xo6 (h:=?_)));refine Ce (Af ?_);refine Bj (by simp only[opd,zv]<;>exact rfl) (fun hcTTF=>?_) (fun hcTTF=>?_)
     ·
      have hb:Gv x w t=true:=by have:=of_decide_eq_true hcTTF;simp only[Gv,hgT,hgTT,Bool.false_or,Bool.true_and,decide_eq_true_eq];omega
      obtain⟨Hb,lob,wrb,h59,rZ,hKb1,hlob,hlmb⟩:=(Vw (d:=d0) (by omega) (x:=x) (g:=g) (gm:=gm) (gt:=gt) uo hn).go (H.length) (hW.app [⟨71,4,[[.int .u8 (t.kind:Nat),.int .i64 (t.level:Nat),.bool t.np,slB true 2 (t.tl.map Jr) none]],0,0,false⟩]);obtain⟨linb,wX,uf⟩:=rZ.hw;have hsb:∀o,(Hb.set g o)[g]?=some o:=fun o=>A8 wX o;have hBp:=uo.page' (x:=x) hn hW.hn;have kF:IntKind.i64.wrap ((((Dk x w).page:Nat):Int)+1)=(((Dk x w).page+1:Nat):Int):=Dt _ (by have:=hBp.1.page;simp only at this;omega);have hWc:=rZ.set ((Dk x w).page+1) 0 false (Dk x w).row linb (Dk x w).lines (Dk x w).ended uf;obtain⟨Hp,loq,wrp,h43p,hWp,hKp1,hloq0,hlmp⟩:=(Tu (d:=d0) (by omega) (n:=n+17) (by omega) hBp.1.lines (by show (0:Nat)≤_;omega) (Kq hBp.1 (by omega) (by show (Dk x w).tot.length=_;rw[(Tm x w).2.2.1];exact hW.hn) (k:=2) (lv:=0) (by omega))).go (min (min (min lob g) g) g) hWc;have hloq:loq≤max g gt:=by omega
      have hKc:=Keep.set rZ (wO x gm (.int .i64 ((Dk x w).page+1:Nat)) (.int .i64 (0:Nat)) false (Jd (Dk x w).row) (.msl gt x.ctl 0 (x.ctl+1) none) linb (Dk x w).ended);have hKpp:=((Keep.app H [⟨71,4,[[.int .u8 (t.kind:Nat),.int .i64 (t.level:Nat),.bool t.np,slB true 2 (t.tl.map Jr) none]],0,0,false⟩]).trans hKb1).trans (hKc.trans hKp1);have hKpp2:=(hKc.trans hKp1).2 _ _ (hKb1.2 _ _ (G6 H [⟨71,4,[[.int .u8 (t.kind:Nat),.int .i64 (t.level:Nat),.bool t.np,slB true 2 (t.tl.map Jr) none]],0,0,false⟩]) (.inl ⟨rfl,by simp⟩)) (.inl ⟨rfl,by simp⟩);have xI:=aI wX (aI hsb (aI kF (@List.set_set.{0})));refine Ad (Ae rfl (Ac (by simp only[zo];exact h59) ?_));refine Aa (Af ?_);refine Ad (Ae rfl (xo3 (h:=xo1 (h:=xo1 (h:=Ac (by simp only[zl,zm,zd,Au,List.take,List.drop,wO,wRow,xI]<;>exact rfl) ?_)))));refine xo39 (h:=xo3 (h:=xo1 (h:=xo1 (h:=Ac (by simp only[zl,zm,Bg,overlay,zs,zc,zf,List.take,List.drop,wO,wRow,xI]<;>exact rfl) ?_))));refine Aa (Af ?_);refine Ad (Ae rfl (Ae rfl (xo3 (h:=xo1 (h:=xo1 (h:=Ac (by simp only[zl,zm,Bg,overlay,zs,zc,zf,List.take,List.drop,xI]<;>exact rfl) ?_))))));refine xo3 (h:=xo1 (h:=xo1 (h:=Ac (by simp only[zl,zm,Bg,overlay,zs,zc,zf,List.take,List.drop,xI]<;>exact rfl) ?_)));refine Aa (Af ?_);refine Am (Ae rfl (Ae rfl (xo3 (h:=xo1 (h:=Vy (h:=Px (h:=Ac (by simp only[opd,zv,Ar,aop,LOp.loud,lop,if_true];exact congrArg (Option.map fun r=>(r,_,false)) (Rq hWc _ (.inl ⟨rfl,.inr (.inl rfl)⟩))) ?_)))))));apply Ac (by simp only[zo];exact h43p);refine Aa (Gy (by simp only[ze]<;>exact rfl) ?_);exact⟨_,_,_,_,_,by rw[hb];exact hWp,hKpp,by exact hKpp2,.inl hloq,rfl,rfl⟩
     have hb2:Gv x w t=false:=by have:=of_decide_eq_false hcTTF;simp only[Gv,hgTT,Bool.false_or,Bool.and_eq_false_imp,decide_eq_false_iff_not];intro _;omega
     refine Ak (Gy rfl ?_);rw[hb2];exact⟨_,_,_,_,_,hW.app _,Keep.app _ _,by rw[G6];rfl,.inr rfl,rfl,rfl⟩
    have hb1:Gv x w t=false:=by simp[Gv,hgT]
    refine Cc rfl rfl (Cc rfl rfl (Cc rfl rfl (Et rfl (Et rfl (Et rfl (Et rfl (Et rfl (Et rfl (Et rfl (Et rfl (Et rfl (Et rfl (Et rfl (Et rfl (Et rfl (Et rfl (Et rfl (Et rfl (Et rfl (Et rfl (Et rfl (Et rfl (Et rfl (Cc rfl rfl (xo6 (h:=?_))))))))))))))))))))))))));refine Ce (Af ?_);apply Be (by simp only[opd,zv]);refine Ak (Gy rfl ?_);rw[hb1];exact⟨_,_,_,_,_,hW.app _,Keep.app _ _,by rw[G6];rfl,.inr rfl,rfl,rfl⟩
   rintro env S' ⟨K,lo,u3,u4,u5,yg,zC,hKb,xU,rfl,rfl⟩;obtain⟨linK,hwK,hlinK⟩:=yg.hw;have hsK:∀o,(K.set g o)[g]?=some o:=fun o=>A8 hwK o;have hfl:(((if Gv x w t then Em x w else w)).line:Nat)≤100000:=by have:=uY.line;omega
   have hmx:(if (((x.F-1:Nat):Int)>(((if Gv x w t then Em x w else w)).line:Nat)) then ((x.F-1:Nat):Int) else ((((if Gv x w t then Em x w else w)).line:Nat):Int))=((max ((if Gv x w t then Em x w else w)).line (x.F-1):Nat):Int):=by split<;>omega
   have y5:=aI hKb (aI hwK (aI hsK (aI hmx (@List.set_set.{0}))));refine Ad (xo1 (h:=Ac (by simp only[zl,zm,zd,Au,List.take,List.drop,y5]<;>exact rfl) ?_));apply Ac (by simp only[zo,List.length_map,hlenT]<;>exact rfl);refine xo2 (h:=?_);refine Aa (Af ?_);refine Bj (by simp only[opd,zv]<;>exact rfl) (fun hcTp=>?_) (fun hcTp=>?_)
   ·
    refine Ai (Eh ?_);refine Bc rfl rfl (Bc rfl rfl (xo6 (h:=xo4 (h:=xo4 (h:=xo63 (h:=Bc rfl rfl ?_))))));refine xo6 (h:=xo4 (h:=xo4 (h:=xo63 (h:=Aj (by simp only[zo,Bf,hwF]<;>exact rfl) rfl rfl ?_))));apply Aj (by simp only[zo,Jm,U9,y5]<;>exact rfl) rfl rfl;refine xo6 (h:=xo4 (h:=xo4 (h:=Az (by simp only[zl,zm,Bg,overlay,zs,zc,zf,List.take,List.drop,wO,wRow,y5]<;>exact rfl) rfl ?_)));refine Ce (Af ?_);refine Am (Ae rfl (xo3 (h:=xo1 (h:=xo1 (h:=Ac (by simp only[zl,zm,Bg,overlay,zs,zc,zf,List.take,List.drop,y5]<;>exact rfl) ?_)))));refine Aa (Gy (by simp only[ze]<;>exact rfl) ?_);have e:Gq x w t={ (if Gv x w t then Em x w else w) with line:=max ((if Gv x w t then Em x w else w)).line (x.F-1),body:=true }:=by unfold Gq;rw[if_neg hP0,if_neg (by have:=of_decide_eq_true hcTp;intro h;rw[h]at this;simp at this)]
    rw[e];have hS:=yg.set ((if Gv x w t then Em x w else w)).page (max ((if Gv x w t then Em x w else w)).line (x.F-1)) true ((if Gv x w t then Em x w else w)).row linK ((if Gv x w t then Em x w else w)).lines ((if Gv x w t then Em x w else w)).ended hlinK;exact⟨_,_,_,_,_,hS,zC.trans (Keep.set yg _),Bv hKb (by have:=hW.lt;omega) _,.inl (by omega),rfl,rfl⟩
   refine Ak (Gy rfl ?_);have e:Gq x w t=(if Gv x w t then Em x w else w):=by unfold Gq;rw[if_neg hP0,if_pos (by have:=of_decide_eq_false hcTp;exact List.length_eq_zero_iff.1 (by omega))]
   rw[e];exact⟨_,_,_,_,_,yg,zC,hKb,xU,rfl,rfl⟩
  refine Ak (Gy rfl ?_);have e:Gq x w t=w:=by unfold Gq;rw[if_pos (by have:=of_decide_eq_false hc;omega)]
  rw[e];exact⟨_,_,_,_,_,hW.app _,Keep.app _ _,by rw[G6];rfl,.inr rfl,rfl,rfl⟩
 rintro env S' ⟨K,lo,u3,u4,u5,yg,zC,hKb,xU,rfl,rfl⟩;have vw:WB (Gq x w t) (n+40):=hBr0;obtain⟨H',lo',wr,h43,hW',hK',yU,hlm'⟩:=(Tu (d:=d0) (by omega) (by omega) vw.lines (by have:=vw.line;omega) (tok_of hRf.1 hRf.2 (by have:=vw.page;omega) hT)).go lo yg;refine Am (Ae rfl (Ac (by simp only[zl,zm,zd,Au,List.take,List.drop,hKb]<;>exact rfl) ?_));apply Ac (by simp only[zo];exact h43);apply Aa;simp only[ze]
 have hLO:lo'≤max g gt∨Dz x w t=w:=by
  rcases xU with h | h
  ·
   exact .inl (Nat.le_trans hlm' h)
  exact yU.imp_right fun h'=>h'.trans h
 obtain⟨r,yG,xR⟩:=Jz (S:=⟨H,low⟩) (S':=⟨H',lo'⟩) hW hW' (zC.trans hK') hLO;refine⟨r,yG,?_⟩;refine⟨_,by simp only[F48,resultD,Ba]<;>exact rfl,?_⟩;exact xR
theorem room_f(x:CM)(w:WM)(t:TG):(Gq x w t).row=w.row∧(Gq x w t).tot=w.tot∧(Gq x w t).ended=w.ended:=by
 have h0:(if Gv x w t then Em x w else w).row=w.row∧(if Gv x w t then Em x w else w).tot=w.tot∧(if Gv x w t then Em x w else w).ended=w.ended:=by
  split
  ·
   exact page_f x w
  exact⟨rfl,rfl,rfl⟩
 unfold Gq;split
 ·
  exact⟨rfl,rfl,rfl⟩
 split<;>exact h0
theorem Iw(x:CM)(w:WM)(t:TG):(Dz x w t).row=w.row∧(Dz x w t).tot=w.tot∧(Dz x w t).ended=w.ended:=by
 have h1:=Gw (Gq x w t) t.tl;have h2:=room_f x w t;exact⟨h1.1.trans h2.1,h1.2.2.1.trans h2.2.1,h1.2.2.2.2.trans h2.2.2⟩
theorem WB.room{w:WM}{n:Nat}(h:WB w n){x:CM}(hn:n≤50000)(ht:w.tot.length=x.ctl+1)(t:TG):WB (Gq x w t) (n+40):=by
 have h1:WB (if Gv x w t then Em x w else w) (n+21):=by
  split
  ·
   exact (h.page' hn ht).2
  exact⟨h.row,by have:=h.page;omega,by have:=h.line;omega,by have:=h.lines;omega,h.totM (by omega)⟩
 unfold Gq;split
 ·
  exact⟨h.row,by have:=h.page;omega,by have:=h.line;omega,by have:=h.lines;omega,h.totM (by omega)⟩
 rename_i hP;obtain⟨f1,f2,f3,f4,f5⟩:=x.pg hP;split
 ·
  exact⟨h1.row,by have:=h1.page;omega,by have:=h1.line;omega,by have:=h1.lines;omega,h1.totM (by omega)⟩
 exact⟨h1.row,by have:=h1.page;show (if Gv x w t then Em x w else w).page≤_;omega,by have:=h1.line;show max (if Gv x w t then Em x w else w).line (x.F-1)≤_;omega,by have:=h1.lines;show (if Gv x w t then Em x w else w).lines.length≤_;omega,h1.totM (by omega)⟩
theorem WB.pres{w:WM}{n:Nat}(h:WB w n){x:CM}(hn:n≤50000)(ht:w.tot.length=x.ctl+1){t:TG}(hT:TOK w t):WB (Dz x w t) (n+44):=by
 have h1:=h.room hn ht t;have h2:=room_f x w t;exact h1.write (tok_of h2.1 h2.2.1 (by have:=h1.page;omega) hT)
def headN (x:CM):Nat→Nat→WM→WM
 | _,0,w=>w
 | i,k+1,w=>headN x (i+1) k (Dz x w (x.tg 3 i))
def headW (x:CM) (w:WM) (l:Nat):WM:=headN x l (x.ctl+1-l) w
def WM.clr (w:WM) (i:Nat):WM:={ w with tot:=w.tot.set i 0 }
def footN (x:CM):Nat→Nat→WM→WM
 | _,0,w=>w
 | i,k+1,w=>footN x (i-1) k ((Dz x w (x.tg 5 (i-1))).clr (i-1))
def J9 (x:CM) (w:WM) (l:Nat):WM:=footN x (x.ctl+1) (x.ctl+1-l) w
theorem Qh(x:CM):∀(k i:Nat) (w:WM),(headN x i k w).row=w.row∧(headN x i k w).tot=w.tot∧(headN x i k w).ended=w.ended
 | 0,_,_=>⟨rfl,rfl,rfl⟩
 | k+1,i,w=>by
  have h:=Qh x k (i+1) (Dz x w (x.tg 3 i));have h2:=Iw x w (x.tg 3 i);exact⟨h.1.trans h2.1,h.2.1.trans h2.2.1,h.2.2.trans h2.2.2⟩
theorem WB.head{x:CM}:∀(k i:Nat) {w:WM} {n:Nat},WB w n→n+44*k≤50000→w.tot.length=x.ctl+1→i+k≤x.ctl+1→WB (headN x i k w) (n+44*k)
 | 0,_,_,_,h,_,_,_=>h
 | k+1,i,w,n,h,hn,ht,hi=>by
  have h1:=h.pres (x:=x) (by omega) ht (Kq (x:=x) h (by omega) ht (k:=3) (lv:=i) (by omega));have h2:=Iw x w (x.tg 3 i);have:=WB.head k (i+1) h1 (by omega) (by rw[h2.2.1];exact ht) (by omega);rw[show n+44+44*k=n+44*(k+1) by omega]at this;exact this
theorem WB.clr{w:WM}{n:Nat}(h:WB w n)(i:Nat):WB (w.clr i) n:=⟨h.row,h.page,h.line,h.lines,fun m hm=>by
 rcases List.mem_or_eq_of_mem_set hm with h1 | h1
 ·
  exact h.tot m h1
 subst h1;exact Nat.zero_le _⟩
theorem WS.tot{H:List Z9}{g gm gt:Nat}{x:CM}{w:WM}(h:WS H g gm gt x w)(tot':List Nat)(hl:tot'.length=x.ctl+1):WS (H.set gt ⟨57,3,tot'.map dcR,x.ctl,2,true⟩) g gm gt x { w with tot:=tot' }∧Keep H (H.set gt ⟨57,3,tot'.map dcR,x.ctl,2,true⟩):=by
 obtain⟨h1,h2⟩:=h.ne;obtain⟨lin,hw,xY⟩:=h.hw
 have key:∀(j:Nat) (o:Z9),H[j]?=some o→o.elem≠57∨o.kind≠2→(H.set gt ⟨57,3,tot'.map dcR,x.ctl,2,true⟩)[j]?=some o:=fun j o hj ho=>Bv hj (fun e=>by
  subst e;rw[h.ht]at hj;obtain rfl:=Option.some.inj hj
  simp at ho) _
 refine⟨⟨⟨lin,key _ _ hw (.inl (by simp[wO])),xY.keep fun j o hj he=>key j o hj (.inl (by rw[he];decide))⟩,key _ _ h.hm (.inl (by simp[mpO])),A8 h.ht _,hl⟩,by simp,fun j o hj hk=>key j o hj ?_⟩;rcases hk with hk | hk
 ·
  exact .inr (by rw[hk.1];decide)
 exact .inl (by rw[hk];decide)
theorem head_run{d:Nat}(hd:31≤d){g gm gt:Nat}{x:CM}{w:WM}{b:Nat}(uo:WB w b)(hn:b≤40000){l:Nat}(hl:l≤x.ctl+1):WF d 44 [.int .i64 (l:Nat)] g gm gt x w (headW x w l):=by
 intro H low hW;obtain⟨d0,rfl⟩:∃e,d=e+1:=⟨d-1,by omega⟩;have hct:=x.ctl_lt;refine Eu (F:=F44) rfl (by simp only[LP,snapVs,zs,zm]<;>exact rfl) rfl (by simp only[LP,zf,zm];try rfl) (by simp only[F44,zv]<;>exact rfl) (by omega) ?_;intro d he;obtain rfl:=Nat.succ.inj he;refine Aq (D5 (fun n env S'=>∃(i:Nat) (K:List Z9) (lo:Nat) (w1:WM) (u2:D),i≤x.ctl+1∧l≤i∧WS K g gm gt x w1∧Keep H K∧WB w1 (b+44*(i-l))∧headN x i (x.ctl+1-i) w1=headW x w l∧(lo≤max g gt∨w1=w)∧n=x.ctl+1-i∧S'=⟨K,lo⟩∧env=[.ptr g 0 0 0,.int .i64 (i:Nat),u2]) (x.ctl+1-l) (by omega) (⟨l,_,_,w,_,by omega,Nat.le_refl _,hW,Keep.refl _,by rw[Nat.sub_self];exact uo,rfl,.inr rfl,by omega,rfl,rfl⟩) ?_);rintro n env S' ⟨i,K,lo,w1,u2,hi,hli,yg,zC,yR,he,xU,hnA,rfl,rfl⟩;obtain⟨linK,hwK,hlinK⟩:=yg.hw;have rQ:lenD false (slB true 1 (x.ctlR x.ctl) none)=some (.int .i64 (x.ctl:Nat)):=by rw[La];simp[CM.ctlR]
 refine Ai (Ad (Ae rfl (Ae rfl (xo3 (h:=xo1 (h:=xo1 (h:=Ac (by simp only[zl,zm,zd,Au,List.take,List.drop,wO,wRow,hwK]<;>exact rfl) ?_)))))));apply Ac (by simp only[zo,rQ]<;>exact rfl);refine xo2 (h:=?_);refine Aa (Af ?_);refine Bj (by simp only[opd,zv]<;>exact rfl) (fun xZ=>?_) (fun xZ=>?_)
 ·
  have vV:i<x.ctl+1:=by have:=of_decide_eq_true xZ;omega
  have yH:=Dt i (by omega);have hBx:WB w1 (b+200):=⟨yR.row,by have:=yR.page;omega,by have:=yR.line;omega,by have:=yR.lines;omega,yR.totM (by omega)⟩;have hT:=Kq (x:=x) yR (by omega) yg.hn (k:=3) (lv:=i) vV;obtain⟨H',lo',wr,h48,hW',hK',yU,hlm'⟩:=(Wj (d:=d0) (by omega) yR (by omega) yg.hn hT (x.tg_all (by omega))).go lo yg
  have hBn:WB (Dz x w1 (x.tg 3 i)) (b+44*(i+1-l)):=by
   have:=yR.pres (x:=x) (by omega) yg.hn hT;rwa [show b+44*(i-l)+44=b+44*(i+1-l) by omega]at this
  have uD:headN x (i+1) (x.ctl+1-(i+1)) (Dz x w1 (x.tg 3 i))=headW x w l:=by
   rw[←he,show x.ctl+1-i=(x.ctl+1-(i+1))+1 by omega];rfl
  have hln:lo'≤max g gt∨Dz x w1 (x.tg 3 i)=w:=by
   rcases xU with h | h
   ·
    exact .inl (Nat.le_trans hlm' h)
   exact yU.imp_right fun h'=>h'.trans h
  refine Ak (Bi rfl (Ai (Aq (Am (Ae rfl (Ae rfl (xo3 (h:=xo1 (h:=Ac (by simp only[zl,zm,zd,Au,List.take,List.drop,wO,wRow,hwK]<;>exact rfl) ?_)))))))));refine Ae rfl (Px (h:=Ac (by simp only[opd,zv,Ar,aop,LOp.loud,lop,if_true];exact congrArg (Option.map fun r=>(r,_,false)) (Rq yg _ (.inr ⟨vV,.inl rfl⟩))) ?_));apply Ac (by simp only[zo];exact h48);refine Aa (D8 (Af ?_));refine Am (Ae rfl (Ac (by simp only[zo,Bf,yH]<;>exact rfl) ?_));refine Ag rfl (Aa (Gh (by simp only[ze]<;>exact rfl) ?_));exact⟨x.ctl+1-(i+1),by omega,i+1,_,_,Dz x w1 (x.tg 3 i),_,by omega,by omega,hW',zC.trans hK',hBn,uD,hln,rfl,rfl,rfl⟩
 have yV:i=x.ctl+1:=by have:=of_decide_eq_false xZ;omega
 subst yV;rw[Nat.sub_self]at he;have he2:w1=headW x w l:=he;subst he2;refine Dh (Gj (Hu (Gl ?_)));obtain⟨r,yG,xR⟩:=Jz (S:=⟨H,low⟩) (S':=⟨K,lo⟩) hW yg zC xU;refine⟨r,yG,?_⟩;refine⟨_,by simp only[F44,resultD,Ba]<;>exact rfl,?_⟩;exact xR
end Go.Proofs.YtbhnlppboegmjaaGreatDoor
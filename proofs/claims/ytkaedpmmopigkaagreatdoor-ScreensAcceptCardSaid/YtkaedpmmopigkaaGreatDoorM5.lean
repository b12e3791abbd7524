/- Proved here: parts of the proof, joined (K8, K9, K10, K11, K12, K13, K0, K14, K15, K16, K17, K18, K19, K20, K21, K22, K23, K24, K25, K26, K27, K28, K29, K30, K31, K32, K33, K34, K35, K36, K37, K38, K39, K42, K43): an abstract machine, its soundness, what functions of the program compute in it; no condition. -/
import Derived.Test.YtkaedpmmopigkaaGreatDoorM4
namespace Go.Proofs.YtkaedpmmopigkaaGreatDoor
set_option linter.unusedSimpArgs false
set_option linter.unusedVariables false
set_option maxRecDepth 100000
set_option maxHeartbeats 4000000
def FO (row:List D):U9:=⟨48,16,[row],0,0,false⟩
def Te:List D:=tkR 0 ⟨#[]⟩ 0 0
def Jk:ByteArray:=⟨#[86,65,76,85,69]⟩
def kPIC:ByteArray:=⟨#[80,73,67]⟩
def Q4:ByteArray:=⟨#[80,73,67,84,85,82,69]⟩
def kFROM:ByteArray:=⟨#[70,82,79,77]⟩
def kTO:ByteArray:=⟨#[84,79]⟩
def kUSING:ByteArray:=⟨#[85,83,73,78,71]⟩
structure Upd2 (H H':List U9) (g:Nat) (o:U9) (f:Nat) (p:U9):Prop where
 at1:H'[g]?=some o
 at2:H'[f]?=some p
 len:H.length≤H'.length
 ne:∀k,k<H.length→k≠g→k≠f→H'[k]?=H[k]?
theorem Mt(s:ByteArray):(Bu s).length=s.size:=by simp only[Bu,List.length_map];exact Array.length_toList
def Kk:U9:=⟨39,5,[[.int .u8 0,.str ⟨#[]⟩,.int .i64 0,.int .i64 0,.bool false]],0,0,false⟩
theorem Rn{H l:List U9}{g k:Nat}{x:U9}(hk:k<H.length)(hn:k≠g):(H.set g x++l)[k]?=H[k]?:=by
 rw[Cy (by simpa using hk),Ln_ (Ne.symm hn)]
theorem set_same{H:List U9}{g k:Nat}{x o:U9}(h:H[k]?=some o)(hn:k≠g):(H.set g x).set k o=H.set g x:=by
 refine List.ext_getElem? fun j=>?_
 rw[List.getElem?_set]
 by_cases hj:k=j
 ·
  subst hj
  rw[if_pos rfl,if_pos (by simpa using Br h),Ln_ (Ne.symm hn)];exact h.symm
 rw[if_neg hj]
theorem value_lit{d:Nat}(hd:16≤d){H H1 H2 H3:List U9}{g gf n l0 c0:Nat}{a0 a1 a2 a3 a4 a5 a6 a7 a8 a9 a10 a11 a12 a13 a14 a15:D}{b2 w2:Bool}{s:ByteArray}(hgf:gf<H.length)(qp:g<gf)
  (h1:∀d',d=d'+1→Az LP NN d' 93 [.ptr g 0 0 0,.sl 1 [[.str Jk]] (some 1)] ⟨H++[Kk],H.length⟩=some (.bool true,⟨H1,g⟩,true))
  (h2:∀d',d=d'+1→Az LP NN d' 93 [.ptr g 0 0 0,.sl 1 [[.str kIS]] (some 1)] ⟨H1,g⟩=some (.bool b2,⟨H2,g⟩,w2))
  (h3:∀d',d=d'+1→Az LP NN d' 89 [.ptr g 0 0 0,.int .u8 3,.Vu] ⟨H2,g⟩=some (.agg (tkR 3 s l0 c0),⟨H3,g⟩,true))
  (hF:H3[gf]?=some (FO [a0,a1,a2,a3,a4,a5,a6,a7,a8,a9,a10,a11,a12,a13,a14,a15])) (hZ:H3[H.length]?=some (Kk)) (hs:s.size=n) (h1n:1≤n) (hn:n≤6) (lo:Nat) :
  Az LP NN d 95 [.ptr g 0 0 0,.ptr gf 0 0 0] ⟨H,lo⟩=some (.agg Te,⟨H3.set gf (FO ([a0,a1,.int .u8 1,.sl 1 (Bu s) none]++Dh false n++[a15]))++[tkO 3 s l0 c0],min lo g⟩,true):=by
 have h3f:=Br hF
 have h3z:=Br hZ
 have hfz:¬gf=H.length:=by omega
 have hfz2:¬gf=H3.length:=by omega
 have hgfp:¬H3.length=gf:=by omega
 have hgf2:¬H.length=gf:=by omega
 have hA:∀l,(H3++l)[gf]?=some (FO [a0,a1,a2,a3,a4,a5,a6,a7,a8,a9,a10,a11,a12,a13,a14,a15]):=fun l=>by rw[Cy h3f];exact hF
 have hS1:∀l x,(H3++l).set gf x=H3.set gf x++l:=fun l x=>Jc h3f x
 have hA2:∀l x,(H3.set gf x++l)[gf]?=some x:=fun l x=>by rw[Cy (by simpa using h3f)];exact Gb h3f x
 have hS2:∀l x y,(H3.set gf x++l).set gf y=H3.set gf y++l:=fun l x y=>by rw[Jc (by simpa using h3f),List.set_set]
 have hZ1:∀l x,(H3.set gf x++l)[H.length]?=some (Kk):=fun l x=>by rw[Rn h3z hgf2];exact hZ
 have hS3:∀l x,(H3.set gf x++l).set H.length (Kk)=H3.set gf x++l:=fun l x=>by rw[Jc (by simpa using h3z),set_same hZ hgf2]
 have hS4:∀l x,(H3.set gf x++l)[H3.length]?=l[0]?:=fun l x=>at_S0 H3 l gf x
 have hS5:∀l,(H3++l)[H3.length]?=l[0]?:=fun l=>Ec H3 l
 have hS6:∀l x,(H3++l).set H3.length x=H3++l.set 0 x:=fun l x=>Gv H3 l x
 have hS7:(0:Nat)=0:=rfl
 have rZ:(Bu s).length=n:=(Mt s).trans hs
 have xA:(s.toList==(⟨#[]⟩:ByteArray).toList)=false:=by
  rw[beq_eq_false_iff_ne];intro e
  have:=(baeq s ⟨#[]⟩).1 e
  rw[this]at hs;simp[ByteArray.size]at hs;omega
 have xS:min H.length g=g:=by omega
 have wm:¬H.length≤g:=by omega
 have kZ:min g (min H3.length (min gf H.length))=g:=by omega
 simp only[Jk,kIS]at h1 h2
 simp only[Kk]at h1
 have hS3p:=hS3
 have hZ1p:=hZ1
 simp only[Kk]at hS3p hZ1p
 refine Du (F:=F95) rfl (by simp only[LP,Al,zs]<;>exact rfl) rfl (by simp only[LP,zf,zm];try rfl) (by simp only[F95,zv]<;>exact rfl) (by omega) ?_
 rintro d rfl
 have yX:=aI hA (aI hA2 (aI hZ1p (aI hS1 (aI hS2 (aI hS3p (aI hS4 (aI hS5 (aI hS6 (aI hS7 (aI xA (aI rZ (xS))))))))))))
 refine Ad (xo8 ?_)
 refine Aa (Af ?_)
 refine Ag (Ad (Ac rfl (xo0 ?_)))
 refine xo2 ?_
 refine Pp ?_
 first
  | refine Ab (by simp only[zo];exact h1 d rfl) ?_
  | refine Ab (by simp only[zo,tkO,tkR,Te,FO,Dh,yX];exact h2 d rfl) ?_
 refine Aa (Af ?_)
 refine Eo ?_
 refine Ad (Ac rfl (xo0 ?_))
 refine xo2 ?_
 refine Pp ?_
 first
  | refine Ab (by simp only[zo];exact h1 d rfl) ?_
  | refine Ab (by simp only[zo];exact h2 d rfl) ?_
 refine Aa (Af ?_)
 refine Ad (Ac rfl (xo0 ?_))
 refine xo2 ?_
 refine Ab (by simp only[zo];exact h3 d rfl) ?_
 refine Ab (by simp only[zl,zm,tkR]<;>exact rfl) ?_
 refine Ab (by simp only[zl,zm,Cc,overlay,Bw,zs,zc,zf,List.take,List.drop,tkR,yX]<;>exact rfl) ?_
 refine Aa (Af ?_)
 refine Ag (Ad (xo2 ?_))
 refine Ab (by simp only[zl,zm,zd,Be,List.take,List.drop,yX]<;>exact rfl) ?_
 refine Ab (by simp only[zo,Bh,yX]<;>exact rfl) ?_
 refine Aa (Af ?_)
 refine Ca ?_
 refine Aj (Bd rfl (Ag (Gy (by simp only[Dl,zw,Nat.reduceAdd]<;>exact rfl) (by simp only[zw]<;>exact rfl) ?_)))
 refine Bq rfl rfl (Bq rfl rfl (xo6 rfl rfl ?_))
 refine Ck (by simp only[zl,zm,zd,Be,List.take,List.drop,yX]<;>exact rfl) rfl ?_
 refine Ck (by simp only[zl]<;>exact rfl) rfl ?_
 refine Ji rfl rfl ?_
 refine xo6 rfl rfl ?_
 refine Ch (by simp only[zl,zm,Cc,overlay,zs,zc,zf,List.take,List.drop,FO,yX]<;>exact rfl) (by simp only[Bg,zo,zq]<;>exact rfl) (by first | rfl | simp[show ob 97 7=[true,true,false,false,false,false,true] from rfl,Vh,Bc,Aw,Cg,Ay,Bo,dj,Au,Am,hfz2]) ?_
 refine Ji rfl rfl ?_
 refine xo6 rfl rfl ?_
 refine Ch (by simp only[zl,zm,Cc,overlay,zs,zc,zf,List.take,List.drop,yX]<;>exact rfl) (by simp only[Bg,zo,zq]<;>exact rfl) (by first | rfl | simp[show ob 1023 10=[true,true,true,true,true,true,true,true,true,true] from rfl,Vh,Bc,Aw,Cg,Ay,Bo,dj,Au,Am,Bn,hfz,hfz2,hgfp,hgf2]) ?_
 refine Cw (Af ?_)
 refine Ad (Ac rfl (Ac rfl (xo0 ?_)))
 refine xo2 ?_
 refine Ab (by simp only[zl,zm,zd,Be,List.take,List.drop,yX]<;>exact rfl) ?_
 refine Ab (by simp only[zo,Kg,yX]<;>exact rfl) ?_
 refine Ab (by simp only[zo];exact stext_run (by omega) _ _ h1n hn) ?_
 refine Ab (by simp only[zo,Dh]<;>exact rfl) ?_
 refine Ab (by simp only[zo,E9,zm,Dh]<;>exact rfl) ?_
 refine Ab (by simp only[zl,zm,Cc,overlay,Bw,zs,zc,zf,List.take,List.drop,Dh,yX]<;>exact rfl) ?_
 refine Aa (Af ?_)
 refine Ad (Ab (by simp only[zo,Hf,Nat.reduceAdd,zm]<;>exact rfl) ?_)
 refine Ab (by simp only[zl,zm,Cc,overlay,Bw,zs,zc,zf,List.take,List.drop,yX]<;>exact rfl) ?_
 refine Aa (Af ?_)
 refine Av (D5 ?_)
 refine⟨_,by simp only[F95,Ak,Bb,Cb,zg,zd,rowsOf,Be,List.take,List.drop,zm,hZ1p]<;>exact rfl,?_⟩
 simp[leave,LP,Vl,Vi,snap,kZ,wm,Bw,Te,tkR,tkO,FO,Dh]
section
variable (d:Nat) (S:St) (k l c:Int) (s:ByteArray) (b:Bool) (cap:Option Nat)
theorem clone_one:Cj LP NN (d+2) 148 [.sl 5 [[.int .u8 k,.str s,.int .i64 l,.int .i64 c,.bool b]] cap] S=some (.sl 5 [[.int .u8 k,.str s,.int .i64 l,.int .i64 c,.bool b]] none,S,false):=by kernel_rfl
theorem clip_one:Cj LP NN (d+2) 147 [.sl 5 [[.int .u8 k,.str s,.int .i64 l,.int .i64 c,.bool b]] none] S=some (.sl 5 [[.int .u8 k,.str s,.int .i64 l,.int .i64 c,.bool b]] (some 1),S,false):=by kernel_rfl
end
theorem clone1_run{d:Nat}(hd:2≤d)(S:St)(k l c:Nat)(s:ByteArray)(cap:Option Nat):Az LP NN d 148 [.sl 5 [tkR k s l c] cap] S=some (.sl 5 [tkR k s l c] none,S,false):=by
 obtain⟨d,rfl⟩:∃d',d=d'+2:=⟨d-2,by omega⟩
 exact fast_ok (clone_one d S _ _ _ s false cap)
theorem clip1_run{d:Nat}(hd:2≤d)(S:St)(k l c:Nat)(s:ByteArray):Az LP NN d 147 [.sl 5 [tkR k s l c] none] S=some (.sl 5 [tkR k s l c] (some 1),S,false):=by
 obtain⟨d,rfl⟩:∃d',d=d'+2:=⟨d-2,by omega⟩
 exact fast_ok (clip_one d S _ _ _ s false)
def kwMap:List (List D):=[[.str ⟨#[70,82,79,77]⟩,.int .u8 2],[.str ⟨#[84,79]⟩,.int .u8 3],[.str ⟨#[85,83,73,78,71]⟩,.int .u8 4]]
theorem kw_find(k:Nat)(h1:2≤k)(h2:k≤4):Le (.str (kwB k)) kwMap 0=some (some (k-2,.int .u8 (k:Nat))):=by
 match k,h1,h2 with
 | 2,_,_=>rfl
 | 3,_,_=>rfl
 | 4,_,_=>rfl
 | n+5,_,h=>omega
def mapO:U9:=⟨0,2,kwMap,0,3,false⟩
theorem value_pic{d:Nat}(hd:16≤d){H H1 H2 H3 H4:List U9}{g gf a c l0 c0 l1 c1 l2 c2 k kk:Nat}{a0 a1 a2 a3 a4 a5 a6 a7 a8 a9 a10 a11 a12 a13 a14 a15 x1 ox:D}{cap:Option Nat}{b2 w2:Bool}{s w s2:ByteArray}(hgf:gf<H.length)(qp:g<gf)
  (h1:∀d',d=d'+1→Az LP NN d' 93 [.ptr g 0 0 0,.sl 1 [[.str Jk]] (some 1)] ⟨H++[Kk],H.length⟩=some (.bool false,⟨H++[Kk],H.length⟩,false))
  (h1b:∀d',d=d'+1→Az LP NN d' 89 [.ptr g 0 0 0,.int .u8 1,.sl 1 [[.str kPIC],[.str Q4]] (some 2)] ⟨H++[Kk],H.length⟩=some (x1,⟨H1,g⟩,true))
  (h2:∀d',d=d'+1→Az LP NN d' 93 [.ptr g 0 0 0,.sl 1 [[.str kIS]] (some 1)] ⟨H1,g⟩=some (.bool b2,⟨H2,g⟩,w2))
  (h3:∀d',d=d'+1→Az LP NN d' 89 [.ptr g 0 0 0,.int .u8 4,.Vu] ⟨H2,g⟩=some (.agg (tkR 4 s l0 c0),⟨H3,g⟩,true))
  (h4:∀d',d=d'+1→Az LP NN d' 89 [.ptr g 0 0 0,.int .u8 1,.sl 1 [[.str kFROM],[.str kTO],[.str kUSING]] (some 3)] ⟨H3++[tkO 4 s l0 c0,mapO],g⟩=some (.agg (tkR 1 w l1 c1),⟨H4,g⟩,true))
  (kK:Le (.str w) [[.str ⟨#[70,82,79,77]⟩,.int .u8 2],[.str ⟨#[84,79]⟩,.int .u8 3],[.str ⟨#[85,83,73,78,71]⟩,.int .u8 4]] 0=some (some (kk,.int .u8 (k:Nat)))) (xg:H.length<H3.length)
  (rC:H4[g]?=some (PO (.sl 5 [tkR 1 s2 l2 c2] cap) a c ox)) (uO:H4[gf]?=some (FO [a0,a1,a2,a3,a4,a5,a6,a7,a8,a9,a10,a11,a12,a13,a14,a15])) (h4z:H4[H.length]?=some Kk) (h4t:H4[H3.length]?=some (tkO 4 s l0 c0)) (h4m:H4[H3.length+1]?=some mapO) (lo:Nat) :
  Az LP NN d 95 [.ptr g 0 0 0,.ptr gf 0 0 0] ⟨H,lo⟩=some (.agg (tkR 4 s l0 c0),⟨((H4.set gf (FO [a0,a1,.int .u8 (k:Nat),a3,a4,a5,a6,a7,a8,a9,a10,a11,a12,a13,a14,.sl 5 [tkR 1 s2 l2 c2] (some 1)])).set g (PO .Vu a c ox)).set H.length (tkO 4 s l0 c0),min lo g⟩,true):=by
 have kJ:=Br rC
 have uN:=Br uO
 have hz4:=Br h4z
 have ht4:=Br h4t
 have hm4:=Br h4m
 have uK:(gf=g)=False:=eq_false (by omega)
 have qE:(g=H.length)=False:=eq_false (by omega)
 have hn3:(gf=H3.length)=False:=eq_false (by omega)
 have hn4:(g=H3.length)=False:=eq_false (by omega)
 have hn5:(gf=H3.length+1)=False:=eq_false (by omega)
 have hn6:(g=H3.length+1)=False:=eq_false (by omega)
 have hn7:(gf=H.length)=False:=eq_false (by omega)
 have hn8:(g=gf)=False:=eq_false (by omega)
 have hn9:(H.length=H3.length)=False:=eq_false (by omega)
 have vU:(gf<H4.length)=True:=eq_true uN
 have zy:(g<H4.length)=True:=eq_true kJ
 have hl3:(H.length<H4.length)=True:=eq_true hz4
 have hl4:(H3.length<H4.length)=True:=eq_true ht4
 have hl5:(H3.length+1<H4.length)=True:=eq_true hm4
 have xS:min H.length g=g:=by omega
 have hmin3:min g H3.length=g:=by omega
 have hmin4:min g (H3.length+1)=g:=by omega
 have wm:¬H.length≤g:=by omega
 have kZ:min g (min gf H.length)=g:=by omega
 simp only[Jk,kIS,kPIC,Q4,kFROM,kTO,kUSING]at h1 h1b h2 h4
 simp only[Kk,tkO,tkR,PO,FO,mapO,kwMap]at h1 h1b h4 rC uO h4z h4t h4m
 refine Du (F:=F95) rfl (by simp only[LP,Al,zs]<;>exact rfl) rfl (by simp only[LP,zf,zm];try rfl) (by simp only[F95,zv]<;>exact rfl) (by omega) ?_
 rintro d rfl
 have yw:=aI @List.length_set.{0} (aI @List.set_set.{0} (aI rC (aI uO (aI h4z (aI h4t (aI h4m (aI uK (aI qE (aI hn3 (aI hn4 (aI hn5 (aI hn6 (aI hn7 (aI hn8 (aI hn9 (aI vU (aI zy (aI hl3 (aI hl4 (aI hl5 (aI @Dn (aI @Ec (aI hmin3 (hmin4))))))))))))))))))))))))
 refine Ad (xo8 ?_)
 refine Aa (Af ?_)
 refine Ag (Ad (Ac rfl (xo0 ?_)))
 refine xo2 ?_
 refine Pp ?_
 first
  | refine Ab (by simp only[zo];exact h1 d rfl) ?_
  | refine Ab (by simp only[zo,List.getElem?_set,tkO,tkR,PO,FO,mapO,Gd,Gv,yw];exact h2 d rfl) ?_
 refine Aa (Af ?_)
 refine Ca ?_
 refine Aj (Bd rfl (Ad (Ac rfl (xo0 ?_))))
 refine xo2 ?_
 refine Pp ?_
 first
  | refine Ab (by simp only[zo];exact h1b d rfl) ?_
  | refine Ab (by simp only[zo,List.getElem?_set,tkO,tkR,PO,FO,mapO,Gd,Gv,yw];exact h3 d rfl) ?_
  | refine Ab (by simp only[zo,List.getElem?_set,tkO,tkR,PO,FO,mapO,Gd,Gv,yw];exact h4 d rfl) ?_
 refine Aa (Af ?_)
 refine Ad (Ac rfl (xo0 ?_))
 refine xo2 ?_
 refine Pp ?_
 first
  | refine Ab (by simp only[zo];exact h1 d rfl) ?_
  | refine Ab (by simp only[zo];exact h2 d rfl) ?_
 refine Aa (Af ?_)
 refine Ad (Ac rfl (xo0 ?_))
 refine xo2 ?_
 first
  | refine Ab (by simp only[zo];exact h1b d rfl) ?_
  | refine Ab (by simp only[zo];exact h3 d rfl) ?_
  | refine Ab (by simp only[zo,List.getElem?_set,tkO,tkR,PO,FO,mapO,Gd,Gv,yw];exact h4 d rfl) ?_
 refine Ab (by simp only[zl,zm,tkR]<;>exact rfl) ?_
 refine Ab (by simp only[zl,zm,Cc,overlay,Bw,zs,zc,zf,List.take,List.drop,tkR,yw]<;>exact rfl) ?_
 refine Aa (Af ?_)
 refine Ad (xo8 ?_)
 refine Ab (by simp only[zl,zm,Md,isKey,Le,zs,zc,zf,yw]<;>exact rfl) ?_
 refine Ab (by simp only[zl,zm,Md,isKey,Le,Gj,zs,zc,zf,yw]<;>exact rfl) ?_
 refine Ab (by simp only[zl,zm,Md,isKey,Le,Gj,zs,zc,zf,yw]<;>exact rfl) ?_
 refine Ae rfl (Ae rfl (Aa (Af ?_)))
 refine Ad (Ac rfl (Ac rfl (Ac rfl (xo0 ?_))))
 refine xo2 ?_
 refine Pp ?_
 first
  | refine Ab (by simp only[zo];exact h1b d rfl) ?_
  | refine Ab (by simp only[zo];exact h3 d rfl) ?_
  | refine Ab (by simp only[zo];exact h4 d rfl) ?_
 refine Ab (by simp only[zo,Be,List.take,List.drop,zm]<;>exact rfl) ?_
 refine Ab (by simp only[zl,zm,Me,O5,isKey,kK,yw]<;>exact rfl) ?_
 refine xo0 ?_
 refine xo2 ?_
 refine Ab (by simp only[zl,zm,Cc,overlay,zs,zc,zf,List.take,List.drop,yw]<;>exact rfl) ?_
 refine Aa (Af ?_)
 refine Ad (Ac rfl (Ac rfl (xo0 ?_)))
 refine xo2 ?_
 refine xo2 ?_
 refine Ab (by simp only[zl,zm,zd,Be,List.take,List.drop,List.getElem?_set,yw]<;>exact rfl) ?_
 refine Ab (by simp only[zo];exact clone1_run (by omega) _ _ _ _ _ _) ?_
 refine Ab (by simp only[zo,tkR];exact clip1_run (by omega) _ _ _ _ _) ?_
 refine Ab (by simp only[zo,tkR]<;>exact rfl) ?_
 refine Ab (by simp only[zo,E9,zm,tkR]<;>exact rfl) ?_
 refine Ab (by simp only[zl,zm,Cc,overlay,zs,zc,zf,List.take,List.drop,List.getElem?_set,tkR,yw]<;>exact rfl) ?_
 refine Aa (Af ?_)
 refine Ad (Ac rfl (xo0 ?_))
 refine xo2 ?_
 refine xo2 ?_
 refine Ab (by simp only[zl,zm,Cc,overlay,zs,zc,zf,List.take,List.drop,List.getElem?_set,yw]<;>exact rfl) ?_
 refine Aa (Af ?_)
 refine Ad (Ab (by simp only[zl,zm,zd,Be,List.take,List.drop,List.getElem?_set,yw]<;>exact rfl) ?_)
 refine Ab (by simp only[zl,zm,Cc,overlay,Bw,zs,zc,zf,List.take,List.drop,List.getElem?_set,yw]<;>exact rfl) ?_
 refine Aa (Af ?_)
 refine Av ?_
 refine⟨_,by simp only[F95,Ak,Bb,Cb,zg,zd,rowsOf,Be,List.take,List.drop,zm,List.getElem?_set,List.length_set,h4z,qE,hn7,vU,zy,hl3]<;>exact rfl,?_⟩
 simp[leave,LP,Vl,Vi,snap,Bw,kZ,wm,tkR,tkO,FO,PO]
def tailL (f:FM):List (Nat × ByteArray):=if f.kind=1 then (if f.lo then [(1,Jk),(1,kIS),(3,f.text)] else [(1,Jk),(3,f.text)]) else [(1,kPIC),(4,f.pic),(1,kwB f.kind),(1,⟨#[78]⟩)]
def shp0:List D:=[.int .u8 0,.int .u8 0,.str ⟨#[]⟩,.int .i64 0,.int .i64 0,.bool false,.bool false,.bool false,.bool false,.bool false,.int .i64 0]
def row1 (f:FM):List D:=[.int .i64 (f.line:Nat),.int .i64 (f.column:Nat),.int .u8 0,.Vu]++shp0++[.Vu]
def row2 (f:FM) (p:Nat):List D:=if f.kind=1 then [.int .i64 (f.line:Nat),.int .i64 (f.column:Nat),.int .u8 1,.sl 1 (Bu f.text) none]++Dh false f.size++[.Vu]
 else [.int .i64 (f.line:Nat),.int .i64 (f.column:Nat),.int .u8 (f.kind:Nat),.Vu]++shp0++[.sl 5 [tkR 1 ⟨#[78]⟩ p 12] (some 1)]
theorem Ru(f:FM):f.text.size=f.size:=by
 have h:=f.size_le
 unfold FM.text
 rw[show (⟨(([65,66,67,68,69,70]:List UInt8).take f.size).toArray⟩:ByteArray).size=(([65,66,67,68,69,70]:List UInt8).take f.size).toArray.size from rfl,List.size_toArray,List.length_take]
 simp;omega
theorem Upd.lt{H H':List U9}{g k:Nat}{o x:U9}(u:Upd H H' g o)(hn:k≠g)(h:H[k]?=some x):H'[k]?=some x:=(u.ne k (Br h) hn).trans h
theorem kw_isB(k:Nat)(h1:2≤k)(h2:k≤4):isB 1 1 (kwB k) [kFROM,kTO,kUSING]=true:=by
 match k,h1,h2 with
 | 2,_,_=>decide +kernel
 | 3,_,_=>decide +kernel
 | 4,_,_=>decide +kernel
 | n+5,_,h=>omega
theorem value_run{d:Nat}(hd:16≤d){H:List U9}{g gf a c m:Nat}{lx ox:D}(f:FM)(qp:g<gf)(hH:H[g]?=some (PO lx a c ox))(hF:H[gf]?=some (FO (row1 f)))(hL:SlD 5 (Fj m (tailL f)) lx) :
  ∃H' lx' p q,(∀lo,Az LP NN d 95 [.ptr g 0 0 0,.ptr gf 0 0 0] ⟨H,lo⟩=some (.agg (if f.kind=1 then Te else tkR 4 f.pic q 12),⟨H',min lo g⟩,true))∧Upd2 H H' g (PO lx' a c ox) gf (FO (row2 f p))∧SlD 5 [] lx':=by
 have yB:=Br hH
 have hfl:=Br hF
 have hk:=f.kind_le
 have xG:=f.size_le
 have hz:(H++[Kk])[H.length]?=some Kk:=by simp
 have hH0:(H++[Kk])[g]?=some (PO lx a c ox):=by rw[Cy yB];exact hH
 have hF0:(H++[Kk])[gf]?=some (FO (row1 f)):=by rw[Cy hfl];exact hF
 have hn0:∀k,k<H.length→(H++[Kk])[k]?=H[k]?:=fun k hk=>Cy hk
 have xS:min H.length g=g:=by omega
 by_cases h1:f.kind=1
 ·
  -- a literal
  simp only[tailL,h1,if_true]at hL
  have q:∃H1 lx1 m1,Az LP NN (d-1) 93 [.ptr g 0 0 0,.sl 1 [[.str Jk]] (some 1)] ⟨H++[Kk],H.length⟩=some (.bool true,⟨H1,g⟩,true)∧Upd (H++[Kk]) H1 g (PO lx1 a c ox)∧SlD 5 (Fj m1 ((if f.lo then [(1,kIS)] else [])++[(3,f.text)])) lx1:=by
   have hL':SlD 5 (Fj m ((1,Jk)::((if f.lo then [(1,kIS)] else [])++[(3,f.text)]))) lx:=by
    cases y5:f.lo<;>simp only[y5,if_true,if_false,Bool.false_eq_true]at hL ⊢<;>exact hL
   have s:=skip_hit (d:=d-1) (texts:=[Jk]) (tx:=.sl 1 [[.str Jk]] (some 1)) (by omega) hH0 (Fq hL') (.of _ _ _) (by simp) (by simp[isB]) H.length
   rw[xS]at s
   exact⟨_,_,_,s,by have:=Upd.of (Br hH0) (PO (Ea 1 lx) a c ox) [];rwa [List.append_nil]at this,Gx hL'⟩
  obtain⟨H1,lx1,m1,r1,u1,s1⟩:=q
  obtain⟨H2,lx2,w2,m2,r2,u2,s2⟩:=Nj (d:=d-1) (by omega) kIS f.lo (t:=(3,f.text)) (L:=[]) u1.at_ s1 (by simp[isB])
  have r3:=I9 (d:=d-1) (kd:=3) (by omega) u2.at_ (Fq s2) (texts:=[]) (.nil 1) (by simp) (Q7 3 _) g
  rw[Nat.min_self]at r3
  have u3:=Upd.of (Br u2.at_) (PO (Ea 1 lx2) a c ox) [tkO 3 f.text m2 12,tkO 3 f.text m2 12]
  have u:=u1.trans (u2.trans u3)
  have hf3:=u.lt (by omega) hF0
  have hz3:=u.lt (by omega) hz
  have e2:row2 f 0=[.int .i64 (f.line:Nat),.int .i64 (f.column:Nat),.int .u8 1,.sl 1 (Bu f.text) none]++Dh false f.size++[.Vu]:=if_pos h1
  generalize hH3:(H2.set g (PO (Ea 1 lx2) a c ox)++[tkO 3 f.text m2 12,tkO 3 f.text m2 12])=H3 at r3 u3 u hf3 hz3
  refine⟨H3.set gf (FO (row2 f 0))++[tkO 3 f.text m2 12],Ea 1 lx2,0,0,fun lo=>?_,?_,?_⟩
  ·
   rw[if_pos h1,e2]
   exact value_lit hd hfl qp (fun d' e=>by subst e;exact r1) (fun d' e=>by subst e;exact r2) (fun d' e=>by subst e;exact r3) hf3 hz3 (Ru f) xG.1 xG.2 lo
  ·
   have xu:=u.len
   rw[Ll_,List.length_cons,List.length_nil]at xu
   refine⟨by rw[Rn (Br u.at_) (by omega)];exact u.at_,?_,by rw[Ll_,List.length_set];omega,fun k hk h2 h3=>?_⟩
   ·
    rw[Cy (by rw[List.length_set];exact Br hf3),Gb (Br hf3)]
   rw[Rn (by omega) h3,u.ne k (by rw[Ll_];omega) h2];exact hn0 k hk
  have:=Gx s2
  exact this
 -- with a picture
 simp only[tailL,h1,if_false]at hL
 have vG:=kw_isB f.kind (by omega) hk.2
 have r0:=Ry (d:=d-1) (texts:=[Jk]) (tx:=.sl 1 [[.str Jk]] (some 1)) (by omega) hH0 (Fq hL) (.of _ _ _) (by simp) (by decide +kernel) H.length
 have r1:=I9 (d:=d-1) (kd:=1) (by omega) hH0 (Fq hL) (texts:=[kPIC,Q4]) (tx:=.sl 1 [[.str kPIC],[.str Q4]] (some 2)) (.of _ _ _) (by simp) (by decide +kernel) H.length
 rw[xS]at r1
 have u1:=Upd.of (Br hH0) (PO (Ea 1 lx) a c ox) [tkO 1 kPIC m 12,tkO 1 kPIC m 12]
 have s1:=Gx hL
 obtain⟨H2,lx2,w2,m2,r2,u2,s2⟩:=Nj (d:=d-1) (by omega) kIS false (t:=(4,f.pic)) (L:=[(1,kwB f.kind),(1,⟨#[78]⟩)]) u1.at_ s1 (by simp[isB])
 have r3:=I9 (d:=d-1) (kd:=4) (by omega) u2.at_ (Fq s2) (texts:=[]) (.nil 1) (by simp) (Q7 4 _) g
 rw[Nat.min_self]at r3
 have u3:=Upd.of (Br u2.at_) (PO (Ea 1 lx2) a c ox) [tkO 4 f.pic m2 12,tkO 4 f.pic m2 12]
 have s3:=Gx s2
 have u:=u1.trans (u2.trans u3)
 generalize hH3:(H2.set g (PO (Ea 1 lx2) a c ox)++[tkO 4 f.pic m2 12,tkO 4 f.pic m2 12])=H3 at r3 u u3
 have h3g:(H3++[tkO 4 f.pic m2 12,mapO])[g]?=some (PO (Ea 1 lx2) a c ox):=by rw[Cy (Br u.at_)];exact u.at_
 have r4:=I9 (d:=d-1) (kd:=1) (by omega) h3g (Fq s3) (texts:=[kFROM,kTO,kUSING]) (tx:=.sl 1 [[.str kFROM],[.str kTO],[.str kUSING]] (some 3)) (.of _ _ _) (by simp) vG g
 rw[Nat.min_self]at r4
 have s4:=Gx s3
 have u4:=(u.app [tkO 4 f.pic m2 12,mapO]).trans (Upd.of (Br h3g) (PO (Ea 1 (Ea 1 lx2)) a c ox) [tkO 1 (kwB f.kind) (m2+1) 12,tkO 1 (kwB f.kind) (m2+1) 12])
 have u4':=Upd.of (Br h3g) (PO (Ea 1 (Ea 1 lx2)) a c ox) [tkO 1 (kwB f.kind) (m2+1) 12,tkO 1 (kwB f.kind) (m2+1) 12]
 generalize hH4:((H3++[tkO 4 f.pic m2 12,mapO]).set g (PO (Ea 1 (Ea 1 lx2)) a c ox)++[tkO 1 (kwB f.kind) (m2+1) 12,tkO 1 (kwB f.kind) (m2+1) 12])=H4 at r4 u4 u4'
 have zV:H.length<H3.length:=by have:=u.len;rw[Ll_,List.length_cons,List.length_nil]at this;omega
 have h4t:H4[H3.length]?=some (tkO 4 f.pic m2 12):=u4'.lt (by omega) (Ec H3 _)
 have h4m:H4[H3.length+1]?=some mapO:=u4'.lt (by omega) (Dn H3 _ 1)
 have uO:=u4.lt (k:=gf) (by omega) hF0
 have h4z:=u4.lt (k:=H.length) (by omega) hz
 have rC:=u4.at_
 rcases s4 with⟨_,hbad⟩ | ⟨cap,xE⟩
 ·
  simp[Fj]at hbad
 rw[show Fj (m2+1+1) [(1,⟨#[78]⟩)]=[tkR 1 ⟨#[78]⟩ (m2+2) 12] from rfl]at xE
 rw[xE]at rC
 have e2:row2 f (m2+2)=[.int .i64 (f.line:Nat),.int .i64 (f.column:Nat),.int .u8 (f.kind:Nat),.Vu]++shp0++[.sl 5 [tkR 1 ⟨#[78]⟩ (m2+2) 12] (some 1)]:=if_neg h1
 refine⟨((H4.set gf (FO (row2 f (m2+2)))).set g (PO .Vu a c ox)).set H.length (tkO 4 f.pic m2 12),.Vu,m2+2,m2,fun lo=>?_,?_,.nil 5⟩
 ·
  rw[if_neg h1,e2]
  exact value_pic hd hfl qp (fun d' e=>by subst e;exact r0) (fun d' e=>by subst e;exact r1) (fun d' e=>by subst e;exact r2) (fun d' e=>by subst e;exact r3) (fun d' e=>by subst e;exact r4) (kw_find f.kind (by omega) hk.2) zV rC uO h4z h4t h4m lo
 refine⟨?_,?_,?_,fun k hk h2 h3=>?_⟩
 ·
  rw[Ln_ (by omega),List.getElem?_set_self (by rw[List.length_set];exact Br rC)]
 ·
  rw[Ln_ (by omega),Ln_ (by omega),List.getElem?_set_self (Br uO)]
 ·
  rw[List.length_set,List.length_set,List.length_set];have:=Br h4z;omega
 rw[Ln_ (by omega),Ln_ (Ne.symm h2),Ln_ (Ne.symm h3),u4.ne k (by rw[Ll_];omega) h2];exact hn0 k hk
theorem fits_run{d:Nat}(hd:2≤d)(S:St)(f:FM)(nu:Bool)(k:Nat){tx op:D}{r1 r2:List (List D)}(ht:SlD 1 r1 tx)(ho:SlD 5 r2 op) :
  Az LP NN d 39 [.agg [.int .i64 (f.line:Nat),.int .i64 (f.column:Nat),.int .u8 (k:Nat),tx,.int .u8 (if nu then (if f.size=1 then 4 else 5) else 2),.int .u8 0,.str (Gm nu f.size),.int .i64 (if nu then (f.size:Nat) else 0),.int .i64 0,.bool false,.bool false,.bool false,.bool false,.bool false,.int .i64 (f.size:Nat),op]] S=some (.bool true,S,false):=by
 have hl:=f.line_le
 have hc:=f.column_le
 have hs:=f.size_le
 have c1:decide (((f.line:Nat):Int)≥1)=true:=decide_eq_true (by omega)
 have c2:decide (((f.line:Nat):Int)≤24)=true:=decide_eq_true (by omega)
 have c3:decide (((f.column:Nat):Int)≥1)=true:=decide_eq_true (by omega)
 have c4:decide (((f.size:Nat):Int)≤80)=true:=decide_eq_true (by omega)
 have w1:IntKind.i64.wrap (80-((f.size:Nat):Int))=80-((f.size:Nat):Int):=by rw[IntKind.wrap_i64];omega
 have w2:IntKind.i64.wrap (80-((f.size:Nat):Int)+1)=80-((f.size:Nat):Int)+1:=by rw[IntKind.wrap_i64];omega
 have c5:decide (((f.column:Nat):Int)≤80-((f.size:Nat):Int)+1)=true:=decide_eq_true (by omega)
 refine run_pure (F:=F39) rfl (by simp only[LP,Al,Bw,zs,zm,ht.snap,ho.snap]<;>exact rfl) rfl (by simp only[LP,zf,zm,ht.free,ho.free];try rfl) (by simp only[F39,zv]<;>exact rfl) (by omega) ?_
 rintro d rfl
 have yw:=aI ht.Vn (aI ho.Vn (aI ht.cells (ho.cells)))
 refine Ad (Ab (by simp only[zl,zm,zc,yw]<;>exact rfl) ?_)
 refine Ap (Aa (Af ?_))
 refine Ad (xo2 ?_)
 refine xo3 ?_
 refine Ab (by simp only[zo,Bh,c1]<;>exact rfl) ?_
 refine Ae rfl (Ce 0 (b:=true) ?_)
 refine Ai rfl (xo2 ?_)
 refine Ai rfl (xo3 ?_)
 refine Ai rfl (Ab (by simp only[zo,Bh,c2]<;>exact rfl) ?_)
 refine xo0 ?_
 refine Ae rfl (Ce 0 (b:=true) ?_)
 refine Ai rfl (xo2 ?_)
 refine Ai rfl (xo3 ?_)
 refine Ai rfl (Ab (by simp only[zo,Bh,c3]<;>exact rfl) ?_)
 refine xo0 ?_
 refine Ae rfl (Ce 0 (b:=true) ?_)
 refine Ai rfl (xo2 ?_)
 refine Ai rfl (xo2 ?_)
 refine Ai rfl (xo3 ?_)
 refine Ai rfl (Ab (by simp only[zo,Bh,c4]<;>exact rfl) ?_)
 refine xo0 ?_
 refine Ae rfl (Ce 0 (b:=true) ?_)
 refine Ai rfl (xo2 ?_)
 refine Ai rfl (xo3 ?_)
 refine Ai rfl (xo2 ?_)
 refine Ai rfl (xo2 ?_)
 refine Ai rfl (xo3 ?_)
 refine Ai rfl (Ab (by simp only[zo,Bh,w1]<;>exact rfl) ?_)
 refine Ai rfl (Ab (by simp only[zo,Bh,w2]<;>exact rfl) ?_)
 refine Ai rfl (Ab (by simp only[zo,Bh,c5]<;>exact rfl) ?_)
 refine xo0 ?_
 refine Ae rfl (Aa (Af ?_))
 refine Av ?_
 refine⟨_,by simp only[F39,Ak,Bb,Cb,zg]<;>exact rfl,?_⟩
 simp only[Dv,leave,zs,zf,zk]
def Ia (f:FM) (p:Nat):List D:=if f.kind=1 then row2 f p else [.int .i64 (f.line:Nat),.int .i64 (f.column:Nat),.int .u8 (f.kind:Nat),.Vu]++Dh f.nu f.size++[.sl 5 [tkR 1 ⟨#[78]⟩ p 12] (some 1)]
def row0:List D:=[.int .i64 0,.int .i64 0,.int .u8 0,.Vu]++shp0++[.Vu]
def GO (rs:List (List D)) (nm:ByteArray) (x:D) (l c v:Nat):U9:=⟨36,4,rs++[[.str nm,x,.int .i64 (l:Nat),.int .i64 (c:Nat)]],v,0,true⟩
def I6:ByteArray:=⟨#[70,73,76,76,69,82]⟩
def Q5:ByteArray:=⟨#[76,73,78,69]⟩
def I7:ByteArray:=⟨#[67,79,76,85,77,78]⟩
def kCOL:ByteArray:=⟨#[67,79,76]⟩
theorem field_lit{d:Nat}(hd:18≤d){H H1 H2 H3 H4 HY:List U9}{g go a c n v l0 c0 lo1:Nat}{f:FM}{x x' lx4:D}{rs:List (List D)}{nm:ByteArray}{b1 w1 cr:Bool}{rd wt:List Nat}(hgo:g<go)(zT:go<H1.length)(yB:g<H.length)(qD:rs.length<100)(qm:min lo1 g=g)
  (h1:∀d',d=d'+1→Az LP NN d' 93 [.ptr g 0 0 0,.sl 1 [[.str I6]] (some 1)] ⟨H,H.length⟩=some (.bool b1,⟨H1,lo1⟩,w1))
  (h2:∀d',d=d'+1→∀lo,Az LP NN d' 94 [.ptr g 0 0 0,.sl 1 [[.str Q5]] (some 1)] ⟨H1++[FO row0],lo⟩=some (.int .i64 (f.line:Nat),⟨H2,min lo g⟩,true))
  (h3:∀d',d=d'+1→∀lo,Az LP NN d' 94 [.ptr g 0 0 0,.sl 1 [[.str I7],[.str kCOL]] (some 2)] ⟨H2,lo⟩=some (.int .i64 (f.column:Nat),⟨H3,min lo g⟩,true))
  (yP:H2[H1.length]?=some (FO row0)) (yO:H3[H1.length]?=some (FO row0))
  (h4:∀d',d=d'+1→∀lo,Az LP NN d' 95 [.ptr g 0 0 0,.ptr H1.length 0 0 0] ⟨H3.set H1.length (FO (row1 f)),lo⟩=some (.agg Te,⟨H4,min lo g⟩,true))
  (rC:H4[g]?=some (PO lx4 a c (.msl go v 0 (rs.length+1) none))) (yT:SlD 5 [] lx4) (uO:H4[H1.length]?=some (FO ([.int .i64 (f.line:Nat),.int .i64 (f.column:Nat),.int .u8 1,.sl 1 (Bu f.text) none]++Dh false f.size++[.Vu]))) (h4o:H4[go]?=some (GO rs nm x l0 c0 v))
  (qy:∀d',d=d'+1→∀S,Az LP NN d' 39 [.agg ([.int .i64 (f.line:Nat),.int .i64 (f.column:Nat),.int .u8 1,.sl 1 (Bu f.text) none]++Dh false f.size++[.Vu])] S=some (.bool true,S,false))
  (yH:Im false x=some (.int .i64 (n:Nat))) (wF:decide (((n:Nat):Int)≥256)=false)
  (zP:Ci 48 16 128 0 x (.msl (H4.length+1) 0 0 1 none) ⟨H4++[Kk,FO ([.int .i64 (f.line:Nat),.int .i64 (f.column:Nat),.int .u8 1,.sl 1 (Bu f.text) none]++Dh false f.size++[.Vu])],g⟩=some (x',⟨HY,g⟩,true)) (hxv:x'.val=true) (hpv:Vh x'=false) (vW:x'.cells=[x']) (xJ:Dm x (.msl (H4.length+1) 0 0 1 none) x' true=⟨true,some rd,some wt,cr,none⟩) (kM:HY[go]?=some (GO rs nm x l0 c0 v)) (lo:Nat) :
  Az LP NN d 52 [.ptr g 0 0 0] ⟨H,lo⟩=some (.tup [],⟨HY.set go (GO rs nm x' l0 c0 v),min lo g⟩,true):=by
 have kJ:=Br rC
 have kG:=Br h4o
 have uN:=Br uO
 have ieq1:¬go=H4.length:=by omega
 have ieq2:¬H4.length=go:=by omega
 have ieq3:¬go=H4.length+1:=by omega
 have ieq4:¬H4.length+1=go:=by omega
 have ieq:=aI ieq1 (aI ieq2 (aI ieq3 ieq4))
 have rU:min lo1 g=g:=qm
 have vF:min g H1.length=g:=by omega
 have hmg3:min g H4.length=g:=by omega
 have hmg4:min g go=g:=by omega
 have wm:¬H.length≤g:=by omega
 have hw:IntKind.i64.wrap (((rs.length+1:Nat):Int)-1)=((rs.length:Nat):Int):=by rw[IntKind.wrap_i64];omega
 have hl4:=yT.len
 have hlz:decide (((rs.length+1:Nat):Int)=0)=false:=decide_eq_false (by omega)
 have hia0:(0:Int)≤((rs.length:Nat):Int):=by omega
 have hia1:((rs.length:Nat):Int)<((rs.length+1:Nat):Int):=by omega
 simp only[I6,Q5,I7,kCOL]at h1 h2 h3
 simp only[FO,row0,row1,shp0,Dh,List.cons_append,List.nil_append,PO,GO,Te,Kk,tkR]at h2 h4 yP yO rC uO h4o zP kM qy
 refine Du (F:=F52) rfl (by simp only[LP,Al,zs]<;>exact rfl) rfl (by simp only[LP,zf,zm];try rfl) (by simp only[F52,zv]<;>exact rfl) (by omega) ?_
 rintro d rfl
 have xQ:=aI rC (aI h4o (aI uO (aI hl4 (aI hlz (aI hw (aI yH (aI wF (aI hia0 (aI hia1 (aI @Dn (aI @Ec (aI rU (aI vF (aI hmg3 (aI hmg4 (aI kM (aI yO (aI hxv (vW)))))))))))))))))))
 refine Ad (Ac rfl (xo0 ?_))
 refine xo2 ?_
 refine Pp ?_
 refine Ab (by simp only[zo];exact h1 d rfl) ?_
 refine Aa (Af ?_)
 refine Ag (Gy (by simp only[Dl,zw]<;>exact rfl) (by simp only[zw,Fz]<;>exact rfl) ?_)
 refine Bq rfl rfl (Ji rfl rfl ?_)
 refine xo6 rfl rfl ?_
 refine Ch (by simp only[zl,zm,Ct,List.replicate,Al,zs,zc,zf]<;>exact rfl) (by simp only[Bg,zo,zq]<;>exact rfl) (by first | rfl | (simp[show ob 0 3=[false,false,false] from rfl,Vh,Bc,Aw,Cg,Ay,Bo,dj,Au,Am,Bn,Bj,Cr,xJ,Cn,ieq];done) | (simp[show ob 0 3=[false,false,false] from rfl,Vh,Bc,Aw,Cg,Ay,Bo,dj,Au,Am,Bn,Bj,Cr,xJ,Cn,ieq,Cx,Bf,Cu,Di,Eg,yP,yO];done)) ?_
 first
  | refine Ch (by simp only[zo];exact (h2 d rfl _)) (by simp only[Bg,zo,zq]<;>exact rfl) (by first | rfl | (simp[show ob 15 4=[true,true,true,true] from rfl,Vh,Bc,Aw,Cg,Ay,Bo,dj,Au,Am,Cr];done) | (simp[show ob 15 4=[true,true,true,true] from rfl,Vh,Bc,Aw,Cg,Ay,Bo,dj,Au,Am,Cr,Cx,Bf,Cu,Di,Eg,yP];done)) ?_
  | refine Ch (by simp only[zo,Cy kJ,Cy kG,Cy uN,Jc kG,Jc uN,PO,GO,FO,Te,tkR,Dh,shp0,row0,Gd,Gv,xQ];exact (h3 d rfl _)) (by simp only[Bg,zo,zq,hpv,Bool.false_eq_true,if_false]<;>exact rfl) (by first | rfl | (simp[show ob 15 4=[true,true,true,true] from rfl,Vh,Bc,Aw,Cg,Ay,Bo,dj,Au,Am,Bn,Bj,Cr,xJ,Cn,ieq];done) | (simp[show ob 15 4=[true,true,true,true] from rfl,Vh,Bc,Aw,Cg,Ay,Bo,dj,Au,Am,Bn,Bj,Cr,xJ,Cn,ieq,Cx,Bf,Cu,Di,Eg,yP,yO];done)) ?_
 refine Bq rfl rfl (Bp (by simp only[zo,xQ]<;>exact rfl) rfl rfl ?_)
 refine xo6 rfl rfl ?_
 refine Ch (by simp only[zl,zm,Ct,List.replicate,Al,zs,zc,zf]<;>exact rfl) (by simp only[Bg,zo,zq]<;>exact rfl) (by first | rfl | (simp[show ob 0 8=[false,false,false,false,false,false,false,false] from rfl,Vh,Bc,Aw,Cg,Ay,Bo,dj,Au,Am,Bn,Bj,Cr,xJ,Cn,ieq];done) | (simp[show ob 0 8=[false,false,false,false,false,false,false,false] from rfl,Vh,Bc,Aw,Cg,Ay,Bo,dj,Au,Am,Bn,Bj,Cr,xJ,Cn,ieq,Cx,Bf,Cu,Di,Eg,yP,yO];done)) ?_
 first
  | refine Ch (by simp only[zo];exact (h2 d rfl _)) (by simp only[Bg,zo,zq,hpv,Bool.false_eq_true,if_false]<;>exact rfl) (by first | rfl | (simp[show ob 511 9=[true,true,true,true,true,true,true,true,true] from rfl,Vh,Bc,Aw,Cg,Ay,Bo,dj,Au,Am,Bn,Bj,Cr,xJ,Cn,ieq];done) | (simp[show ob 511 9=[true,true,true,true,true,true,true,true,true] from rfl,Vh,Bc,Aw,Cg,Ay,Bo,dj,Au,Am,Bn,Bj,Cr,xJ,Cn,ieq,Cx,Bf,Cu,Di,Eg,yP,yO];done)) ?_
  | refine Ch (by simp only[zo];exact (h3 d rfl _)) (by simp only[Bg,zo,zq]<;>exact rfl) (by first | rfl | (simp[show ob 511 9=[true,true,true,true,true,true,true,true,true] from rfl,Vh,Bc,Aw,Cg,Ay,Bo,dj,Au,Am,Cr];done) | (simp[show ob 511 9=[true,true,true,true,true,true,true,true,true] from rfl,Vh,Bc,Aw,Cg,Ay,Bo,dj,Au,Am,Cr,Cx,Bf,Cu,Di,Eg,yO];done)) ?_
 refine xo31 rfl rfl ?_
 refine Ch (by simp only[zo]<;>exact rfl) rfl rfl ?_
 refine Ch (by simp only[zl,zm,Cc,overlay,Bw,zs,zc,zf,List.take,List.drop,xQ]<;>exact rfl) (by simp only[Bg,zo,zq]<;>exact rfl) (by first | rfl | (simp[show ob 4095 12=[true,true,true,true,true,true,true,true,true,true,true,true] from rfl,Vh,Bc,Aw,Cg,Ay,Bo,dj,Au,Am,Bn,Bj,Cr,xJ,Cn,ieq];done) | (simp[show ob 4095 12=[true,true,true,true,true,true,true,true,true,true,true,true] from rfl,Vh,Bc,Aw,Cg,Ay,Bo,dj,Au,Am,Bn,Bj,Cr,xJ,Cn,ieq,Cx,Bf,Cu,Di,Eg,yP,yO];done)) ?_
 refine Cw (Af ?_)
 refine Ad (Ac rfl (Ab (by simp only[zo];exact (h4 d rfl _)) ?_))
 refine xo8 ?_
 refine Ab (by simp only[zl,zm,Cc,overlay,Bw,zs,zc,zf,List.take,List.drop,xQ]<;>exact rfl) ?_
 refine Aa (Af ?_)
 refine Ag (Ad (Ac rfl (xo0 ?_)))
 refine xo2 ?_
 refine xo2 ?_
 refine Ab (by simp only[zl,zm,zd,Be,List.take,List.drop,Cy kJ,xQ]<;>exact rfl) ?_
 refine Ab (by simp only[zo,xQ]<;>exact rfl) ?_
 refine xo1 ?_
 refine Ae rfl (Ce 0 (b:=false) ?_)
 refine Ai rfl (xo2 ?_)
 refine Ai rfl (Ab (by simp only[zl,zm,zd,Be,List.take,List.drop,Cy uN,xQ]<;>exact rfl) ?_)
 refine Ai rfl (xo1 ?_)
 refine Ai rfl (Ae rfl (Ce 0 (b:=false) ?_))
 refine Ao rfl rfl (Ao rfl rfl (Ao rfl rfl (Ao rfl rfl (Ai rfl (xo0 ?_)))))
 refine xo0 ?_
 refine Aa (Af ?_)
 refine Bz (by simp only[opd,zv]) ?_
 refine Aj (Bd rfl (Ag (Ad (Ac rfl (xo0 ?_)))))
 refine xo2 ?_
 refine Ab (by simp only[zl,zm,zd,Be,List.take,List.drop,Cy kJ,xQ]<;>exact rfl) ?_
 refine Nb ?_
 refine xo1 ?_
 refine Aa (Af ?_)
 refine Ca ?_
 refine Aj (Bd rfl (Ag (Ad (xo2 ?_))))
 refine Ab (by simp only[zl,zm,zd,Be,List.take,List.drop,Cy uN,xQ]<;>exact rfl) ?_
 refine xo1 ?_
 refine Aa (Af ?_)
 refine Ca ?_
 refine Aj (Bd rfl (Ag (Gy (by simp only[Dl,zw,Nat.reduceAdd]<;>exact rfl) (by simp only[zw]<;>exact rfl) ?_)))
 refine Bq rfl rfl (Ji rfl rfl ?_)
 refine xo6 rfl rfl ?_
 refine Ch (by simp only[zl,zm,zd,Be,List.take,List.drop,Cy kJ,xQ]<;>exact rfl) (by simp only[Bg,zo,zq]<;>exact rfl) (by first | rfl | (simp[show ob 7 3=[true,true,true] from rfl,Vh,Bc,Aw,Cg,Ay,Bo,dj,Au,Am,Bn,Bj,Cr,xJ,Cn,ieq];done) | (simp[show ob 7 3=[true,true,true] from rfl,Vh,Bc,Aw,Cg,Ay,Bo,dj,Au,Am,Bn,Bj,Cr,xJ,Cn,ieq,Cx,Bf,Cu,Di,Eg,yP,yO];done)) ?_
 refine Bq rfl rfl (Ji rfl rfl ?_)
 refine xo6 rfl rfl ?_
 refine Ch (by simp only[zl,zm,zd,Be,List.take,List.drop,Cy kJ,xQ]<;>exact rfl) (by simp only[Bg,zo,zq]<;>exact rfl) (by first | rfl | (simp[show ob 112 7=[true,true,true,false,false,false,false] from rfl,Vh,Bc,Aw,Cg,Ay,Bo,dj,Au,Am,Bn,Bj,Cr,xJ,Cn,ieq];done) | (simp[show ob 112 7=[true,true,true,false,false,false,false] from rfl,Vh,Bc,Aw,Cg,Ay,Bo,dj,Au,Am,Bn,Bj,Cr,xJ,Cn,ieq,Cx,Bf,Cu,Di,Eg,yP,yO];done)) ?_
 refine Bp (by simp only[zo,J3]<;>exact rfl) rfl rfl ?_
 refine Bp (by simp only[zo,Bh,xQ]<;>exact rfl) rfl rfl ?_
 refine Ch (by simp only[zl,zm,Cq,Int.toNat_natCast,Cy kG,xQ]<;>exact rfl) (by simp only[Bg,zo,zq]<;>exact rfl) (by first | rfl | (simp[show ob 1023 10=[true,true,true,true,true,true,true,true,true,true] from rfl,Vh,Bc,Aw,Cg,Ay,Bo,dj,Au,Am,Bn,Bj,Cr,xJ,Cn,ieq];done) | (simp[show ob 1023 10=[true,true,true,true,true,true,true,true,true,true] from rfl,Vh,Bc,Aw,Cg,Ay,Bo,dj,Au,Am,Bn,Bj,Cr,xJ,Cn,ieq,Cx,Bf,Cu,Di,Eg,yP,yO];done)) ?_
 refine Dq rfl rfl (Cw (Af ?_))
 refine Ag (Ad (Ab (by simp only[zl,zm,zd,Be,List.take,List.drop,Cy uN,xQ]<;>exact rfl) ?_))
 refine Ab (by simp only[zo];exact qy d rfl _) ?_
 refine xo9 ?_
 refine Aa (Af ?_)
 refine Ca ?_
 refine Aj (Bd rfl (Ag (Ad (Ac rfl (xo0 ?_)))))
 refine xo2 ?_
 refine Ab (by simp only[zl,zm,zd,Be,List.take,List.drop,Cy kG,xQ]<;>exact rfl) ?_
 refine Ab (by simp only[zo,xQ]<;>exact rfl) ?_
 refine Ab (by simp only[zo,Bh,xQ]<;>exact rfl) ?_
 refine Aa (Af ?_)
 refine Ca ?_
 refine Aj (Bd rfl (Gy (by simp only[Dl,zw,Nat.reduceAdd]<;>exact rfl) (by simp only[zw]<;>exact rfl) ?_))
 refine Bq rfl rfl (Bq rfl rfl (Ji rfl rfl ?_))
 refine xo6 rfl rfl ?_
 refine Ch (by simp only[zl,zm,zd,Be,List.take,List.drop,Cy kG,xQ]<;>exact rfl) (by simp only[Bg,zo,zq]<;>exact rfl) (by first | rfl | (simp[show ob 14 4=[true,true,true,false] from rfl,Vh,Bc,Aw,Cg,Ay,Bo,dj,Au,Am,Bn,Bj,Cr,xJ,Cn,ieq];done) | (simp[show ob 14 4=[true,true,true,false] from rfl,Vh,Bc,Aw,Cg,Ay,Bo,dj,Au,Am,Bn,Bj,Cr,xJ,Cn,ieq,Cx,Bf,Cu,Di,Eg,yP,yO];done)) ?_
 refine Ch (by simp only[zl,zm,zd,Be,List.take,List.drop,Cy uN,xQ]<;>exact rfl) (by simp only[Bg,zo,zq]<;>exact rfl) (by first | rfl | (simp[show ob 0 5=[false,false,false,false,false] from rfl,Vh,Bc,Aw,Cg,Ay,Bo,dj,Au,Am,Bn,Bj,Cr,xJ,Cn,ieq];done) | (simp[show ob 0 5=[false,false,false,false,false] from rfl,Vh,Bc,Aw,Cg,Ay,Bo,dj,Au,Am,Bn,Bj,Cr,xJ,Cn,ieq,Cx,Bf,Cu,Di,Eg,yP,yO];done)) ?_
 refine Ch (by simp only[zl,zm,Ct,List.replicate,Al,Bw,zs,zc,zf]<;>exact rfl) (by simp only[Bg,zo,zq]<;>exact rfl) (by first | rfl | (simp[show ob 32 6=[true,false,false,false,false,false] from rfl,Vh,Bc,Aw,Cg,Ay,Bo,dj,Au,Am,Cr,ieq];done) | (simp[show ob 32 6=[true,false,false,false,false,false] from rfl,Vh,Bc,Aw,Cg,Ay,Bo,dj,Au,Am,Bn,Bj,Cr,xJ,Cn,ieq,Cx,Bf,Cu,Di,Eg,yP,yO];done)) ?_
 refine Ch (by simp only[Ba,aop,LOp.loud,lop,if_true,opd,zv];exact zP) (by simp only[Bg,zo,zq]<;>exact rfl) (by first | rfl | (simp[show ob 126 7=[true,true,true,true,true,true,false] from rfl,Vh,Bc,Aw,Cg,Ay,Bo,dj,Au,Am,Cr,xJ];done) | (simp[show ob 126 7=[true,true,true,true,true,true,false] from rfl,Vh,Bc,Aw,Cg,Ay,Bo,dj,Au,Am,Bn,Bj,Cr,xJ,Cn,ieq,Cx,Bf,Cu,Di,Eg,yP,yO];done)) ?_
 refine Ji rfl rfl ?_
 refine xo6 rfl rfl ?_
 refine Ch (by simp only[zl,zm,Cc,overlay,List.take,List.drop,xQ]<;>exact rfl) (by simp only[Bg,zo,zq,hpv]<;>exact rfl) (by first | rfl | (simp[show ob 1023 10=[true,true,true,true,true,true,true,true,true,true] from rfl,Vh,Bc,Aw,Cg,Ay,Bo,dj,Au,Am,Cr,xJ];done) | (simp[show ob 1023 10=[true,true,true,true,true,true,true,true,true,true] from rfl,Vh,Bc,Aw,Cg,Ay,Bo,dj,Au,Am,Cr,xJ,Bf];done)) ?_
 refine Cw ?_
 simp only[ze]
 refine⟨_,by simp only[F52,Ak,Bb]<;>exact rfl,?_⟩
 simp[leave,LP,Vl,wm,Al,GO]
theorem field_pic{d:Nat}(hd:18≤d){H H1 H2 H3 H4 HY:List U9}{g go a c n v l0 c0 lo1:Nat}{f:FM}{x x' lx4:D}{rs:List (List D)}{nm:ByteArray}{b1 w1 cr:Bool}{rd wt:List Nat}(hgo:g<go)(zT:go<H1.length)(yB:g<H.length)(qD:rs.length<100)(qm:min lo1 g=g)
  (h1:∀d',d=d'+1→Az LP NN d' 93 [.ptr g 0 0 0,.sl 1 [[.str I6]] (some 1)] ⟨H,H.length⟩=some (.bool b1,⟨H1,lo1⟩,w1))
  (h2:∀d',d=d'+1→∀lo,Az LP NN d' 94 [.ptr g 0 0 0,.sl 1 [[.str Q5]] (some 1)] ⟨H1++[FO row0],lo⟩=some (.int .i64 (f.line:Nat),⟨H2,min lo g⟩,true))
  (h3:∀d',d=d'+1→∀lo,Az LP NN d' 94 [.ptr g 0 0 0,.sl 1 [[.str I7],[.str kCOL]] (some 2)] ⟨H2,lo⟩=some (.int .i64 (f.column:Nat),⟨H3,min lo g⟩,true))
  (yP:H2[H1.length]?=some (FO row0)) (yO:H3[H1.length]?=some (FO row0)) {p q:Nat} (hk:f.kind≠1)
  (h4:∀d',d=d'+1→∀lo,Az LP NN d' 95 [.ptr g 0 0 0,.ptr H1.length 0 0 0] ⟨H3.set H1.length (FO (row1 f)),lo⟩=some (.agg (tkR 4 f.pic q 12),⟨H4,min lo g⟩,true))
  (rC:H4[g]?=some (PO lx4 a c (.msl go v 0 (rs.length+1) none))) (yT:SlD 5 [] lx4) (uO:H4[H1.length]?=some (FO ([.int .i64 (f.line:Nat),.int .i64 (f.column:Nat),.int .u8 (f.kind:Nat),.Vu]++shp0++[.sl 5 [tkR 1 ⟨#[78]⟩ p 12] (some 1)]))) (h4o:H4[go]?=some (GO rs nm x l0 c0 v))
  (qy:∀d',d=d'+1→∀S,Az LP NN d' 39 [.agg ([.int .i64 (f.line:Nat),.int .i64 (f.column:Nat),.int .u8 (f.kind:Nat),.Vu]++Dh f.nu f.size++[.sl 5 [tkR 1 ⟨#[78]⟩ p 12] (some 1)])] S=some (.bool true,S,false))
  (yH:Im false x=some (.int .i64 (n:Nat))) (wF:decide (((n:Nat):Int)≥256)=false)
  (zP:Ci 48 16 128 0 x (.msl (H4.length+2) 0 0 1 none) ⟨H4.set H1.length (FO ([.int .i64 (f.line:Nat),.int .i64 (f.column:Nat),.int .u8 (f.kind:Nat),.Vu]++Dh f.nu f.size++[.sl 5 [tkR 1 ⟨#[78]⟩ p 12] (some 1)]))++[tkO 4 f.pic q 12,⟨46,11,[Dh f.nu f.size],0,0,false⟩,FO ([.int .i64 (f.line:Nat),.int .i64 (f.column:Nat),.int .u8 (f.kind:Nat),.Vu]++Dh f.nu f.size++[.sl 5 [tkR 1 ⟨#[78]⟩ p 12] (some 1)])],g⟩=some (x',⟨HY,g⟩,true)) (hxv:x'.val=true) (hpv:Vh x'=false) (vW:x'.cells=[x']) (xJ:Dm x (.msl (H4.length+2) 0 0 1 none) x' true=⟨true,some rd,some wt,cr,none⟩) (kM:HY[go]?=some (GO rs nm x l0 c0 v)) (lo:Nat) :
  Az LP NN d 52 [.ptr g 0 0 0] ⟨H,lo⟩=some (.tup [],⟨HY.set go (GO rs nm x' l0 c0 v),min lo g⟩,true):=by
 have kJ:=Br rC
 have kG:=Br h4o
 have uN:=Br uO
 have ieq1:¬go=H4.length:=by omega
 have ieq2:¬H4.length=go:=by omega
 have ieq3:¬go=H4.length+1:=by omega
 have ieq4:¬H4.length+1=go:=by omega
 have ieq5:¬go=H4.length+2:=by omega
 have ieq6:¬H4.length+2=go:=by omega
 have ieq:=aI ieq1 (aI ieq2 (aI ieq3 (aI ieq4 (aI ieq5 ieq6))))
 have rU:min lo1 g=g:=qm
 have vF:min g H1.length=g:=by omega
 have hmg3:min g H4.length=g:=by omega
 have hmg4:min g go=g:=by omega
 have wm:¬H.length≤g:=by omega
 have hw:IntKind.i64.wrap (((rs.length+1:Nat):Int)-1)=((rs.length:Nat):Int):=by rw[IntKind.wrap_i64];omega
 have hl4:=yT.len
 have hlz:decide (((rs.length+1:Nat):Int)=0)=false:=decide_eq_false (by omega)
 have hia0:(0:Int)≤((rs.length:Nat):Int):=by omega
 have hia1:((rs.length:Nat):Int)<((rs.length+1:Nat):Int):=by omega
 simp only[I6,Q5,I7,kCOL]at h1 h2 h3
 have hmg5:min g (H4.length+1)=g:=by omega
 have yE:(((f.kind:Nat):Int) != 1)=true:=by rw[bne_iff_ne];omega
 have hA2:∀l x,(H4.set H1.length x++l)[H1.length]?=some x:=fun l x=>by rw[Cy (by simpa using uN)];exact Gb uN x
 have hS2:∀l x y,(H4.set H1.length x++l).set H1.length y=H4.set H1.length y++l:=fun l x y=>by rw[Jc (by simpa using uN),List.set_set]
 have hG2:∀l x,(H4.set H1.length x++l)[g]?=H4[g]?:=fun l x=>Rn kJ (by omega)
 have rR:∀l x,(H4.set H1.length x++l)[go]?=H4[go]?:=fun l x=>Rn kG (by omega)
 have hSO:∀l x y,(H4.set H1.length x++l).set go y=(H4.set H1.length x).set go y++l:=fun l x y=>Jc (by simpa using kG) y
 simp only[FO,row0,row1,shp0,Dh,List.cons_append,List.nil_append,PO,GO,tkR,tkO]at h2 h4 yP yO rC uO h4o zP kM qy
 refine Du (F:=F52) rfl (by simp only[LP,Al,zs]<;>exact rfl) rfl (by simp only[LP,zf,zm];try rfl) (by simp only[F52,zv]<;>exact rfl) (by omega) ?_
 rintro d rfl
 have xP:=aI rC (aI h4o (aI uO (aI hl4 (aI hlz (aI hw (aI yH (aI wF (aI hia0 (aI hia1 (aI @Dn (aI @Ec (aI rU (aI vF (aI hmg3 (aI hmg4 (aI kM (aI yO (aI hxv (aI vW (aI hA2 (aI hS2 (aI hG2 (aI rR (aI hSO (aI yE (aI @List.length_set.{0} (hmg5)))))))))))))))))))))))))))
 refine Ad (Ac rfl (xo0 ?_))
 refine xo2 ?_
 refine Pp ?_
 refine Ab (by simp only[zo];exact h1 d rfl) ?_
 refine Aa (Af ?_)
 refine Ag (Gy (by simp only[Dl,zw]<;>exact rfl) (by simp only[zw,Fz]<;>exact rfl) ?_)
 refine Bq rfl rfl (Bp (by simp only[zo,Nat.reduceAdd]<;>exact rfl) rfl rfl ?_)
 refine xo6 rfl rfl ?_
 refine Ch (by simp only[zl,zm,Ct,List.replicate,Al,zs,zc,zf]<;>exact rfl) (by simp only[Bg,zo,zq]<;>exact rfl) (by first | rfl | (simp[show ob 0 3=[false,false,false] from rfl,Vh,Bc,Aw,Cg,Ay,Bo,dj,Au,Am,Bn,Bj,Cr,xJ,Cn,ieq];done) | (simp[show ob 0 3=[false,false,false] from rfl,Vh,Bc,Aw,Cg,Ay,Bo,dj,Au,Am,Bn,Bj,Cr,xJ,Cn,ieq,Cx,Bf,Cu,Di,Eg,yP,yO];done)) ?_
 first
  | refine Ch (by simp only[zo];exact (h2 d rfl _)) (by simp only[Bg,zo,zq]<;>exact rfl) (by first | rfl | (simp[show ob 15 4=[true,true,true,true] from rfl,Vh,Bc,Aw,Cg,Ay,Bo,dj,Au,Am,Cr];done) | (simp[show ob 15 4=[true,true,true,true] from rfl,Vh,Bc,Aw,Cg,Ay,Bo,dj,Au,Am,Cr,Cx,Bf,Cu,Di,Eg,yP];done)) ?_
  | refine Ch (by simp only[zo,Cy kJ,Cy kG,Cy uN,Jc kG,Jc uN,PO,GO,FO,Te,tkR,Dh,shp0,row0,Gd,Gv,Nat.reduceAdd,xP];exact (h3 d rfl _)) (by simp only[Bg,zo,zq,hpv,Bool.false_eq_true,if_false]<;>exact rfl) (by first | rfl | (simp[show ob 15 4=[true,true,true,true] from rfl,Vh,Bc,Aw,Cg,Ay,Bo,dj,Au,Am,Bn,Bj,Cr,xJ,Cn,ieq];done) | (simp[show ob 15 4=[true,true,true,true] from rfl,Vh,Bc,Aw,Cg,Ay,Bo,dj,Au,Am,Bn,Bj,Cr,xJ,Cn,ieq,Cx,Bf,Cu,Di,Eg,yP,yO];done)) ?_
 refine Bq rfl rfl (Bp (by simp only[zo,xP]<;>exact rfl) rfl rfl ?_)
 refine xo6 rfl rfl ?_
 refine Ch (by simp only[zl,zm,Ct,List.replicate,Al,zs,zc,zf,Nat.reduceAdd]<;>exact rfl) (by simp only[Bg,zo,zq]<;>exact rfl) (by first | rfl | (simp[show ob 0 8=[false,false,false,false,false,false,false,false] from rfl,Vh,Bc,Aw,Cg,Ay,Bo,dj,Au,Am,Bn,Bj,Cr,xJ,Cn,ieq];done) | (simp[show ob 0 8=[false,false,false,false,false,false,false,false] from rfl,Vh,Bc,Aw,Cg,Ay,Bo,dj,Au,Am,Bn,Bj,Cr,xJ,Cn,ieq,Cx,Bf,Cu,Di,Eg,yP,yO];done)) ?_
 first
  | refine Ch (by simp only[zo];exact (h2 d rfl _)) (by simp only[Bg,zo,zq,hpv,Bool.false_eq_true,if_false]<;>exact rfl) (by first | rfl | (simp[show ob 511 9=[true,true,true,true,true,true,true,true,true] from rfl,Vh,Bc,Aw,Cg,Ay,Bo,dj,Au,Am,Bn,Bj,Cr,xJ,Cn,ieq];done) | (simp[show ob 511 9=[true,true,true,true,true,true,true,true,true] from rfl,Vh,Bc,Aw,Cg,Ay,Bo,dj,Au,Am,Bn,Bj,Cr,xJ,Cn,ieq,Cx,Bf,Cu,Di,Eg,yP,yO];done)) ?_
  | refine Ch (by simp only[zo];exact (h3 d rfl _)) (by simp only[Bg,zo,zq]<;>exact rfl) (by first | rfl | (simp[show ob 511 9=[true,true,true,true,true,true,true,true,true] from rfl,Vh,Bc,Aw,Cg,Ay,Bo,dj,Au,Am,Cr];done) | (simp[show ob 511 9=[true,true,true,true,true,true,true,true,true] from rfl,Vh,Bc,Aw,Cg,Ay,Bo,dj,Au,Am,Cr,Cx,Bf,Cu,Di,Eg,yO];done)) ?_
 refine Bp (by simp only[zo,Hf,overlay,zc,List.take,List.drop,Nat.reduceAdd,Nat.reduceLeDiff,zm,Nat.reduceAdd]<;>exact rfl) rfl rfl ?_
 refine Ch (by simp only[zo]<;>exact rfl) rfl rfl ?_
 refine Ch (by simp only[zl,zm,Cc,overlay,Bw,zs,zc,zf,List.take,List.drop,Nat.reduceAdd,xP]<;>exact rfl) (by simp only[Bg,zo,zq]<;>exact rfl) (by first | rfl | (simp[show ob 4095 12=[true,true,true,true,true,true,true,true,true,true,true,true] from rfl,Vh,Bc,Aw,Cg,Ay,Bo,dj,Au,Am,Bn,Bj,Cr,xJ,Cn,ieq];done) | (simp[show ob 4095 12=[true,true,true,true,true,true,true,true,true,true,true,true] from rfl,Vh,Bc,Aw,Cg,Ay,Bo,dj,Au,Am,Bn,Bj,Cr,xJ,Cn,ieq,Cx,Bf,Cu,Di,Eg,yP,yO];done)) ?_
 refine Cw (Af ?_)
 refine Ad (Ac rfl (Ab (by simp only[zo];exact (h4 d rfl _)) ?_))
 refine Ab (by simp only[zl,zm,Nat.reduceAdd]<;>exact rfl) ?_
 refine Ab (by simp only[zl,zm,Cc,overlay,Bw,zs,zc,zf,List.take,List.drop,Nat.reduceAdd,xP]<;>exact rfl) ?_
 refine Aa (Af ?_)
 refine Ag (Ad (Ac rfl (xo0 ?_)))
 refine xo2 ?_
 refine xo2 ?_
 refine Ab (by simp only[zl,zm,zd,Be,List.take,List.drop,Cy kJ,Nat.reduceAdd,xP]<;>exact rfl) ?_
 refine Ab (by simp only[zo,xP]<;>exact rfl) ?_
 refine xo1 ?_
 refine Ae rfl (Ce 0 (b:=false) ?_)
 refine Ai rfl (xo2 ?_)
 refine Ai rfl (Ab (by simp only[zl,zm,zd,Be,List.take,List.drop,Cy uN,Nat.reduceAdd,xP]<;>exact rfl) ?_)
 refine Ai rfl (xo29 ?_)
 refine Ai rfl (Ae rfl (Ce 0 (b:=true) ?_))
 refine Ai rfl (xo2 ?_)
 refine Ai rfl (Ab (by simp only[zl,zm,zd,Be,List.take,List.drop,Cy uN,Nat.reduceAdd,xP]<;>exact rfl) ?_)
 refine Ai rfl (Ab (by simp only[zo,Kg]<;>exact rfl) ?_)
 refine Ai rfl (xo1 ?_)
 refine Ai rfl (xo0 ?_)
 refine xo0 ?_
 refine Aa (Af ?_)
 refine Ca ?_
 refine Aj (Bd rfl (Ag (Ad (Ac rfl (xo0 ?_)))))
 refine xo2 ?_
 refine Ab (by simp only[zl,zm,zd,Be,List.take,List.drop,Cy kJ,Nat.reduceAdd,xP]<;>exact rfl) ?_
 refine Nb ?_
 refine xo1 ?_
 refine Aa (Af ?_)
 refine Ca ?_
 refine Aj (Bd rfl (Ag (Ad (xo2 ?_))))
 refine Ab (by simp only[zl,zm,zd,Be,List.take,List.drop,Cy uN,Nat.reduceAdd,xP]<;>exact rfl) ?_
 refine xo29 ?_
 refine Aa (Af ?_)
 refine Eo ?_
 refine Ad (xo2 ?_)
 refine xo32 ?_
 refine Ab (by simp only[zo];exact parse_run (by omega) _ f) ?_
 refine Ae rfl (Ab (by simp only[zo,Lz,Dh]<;>exact rfl) ?_)
 refine Ab (by simp only[zo,Lz,Ls_,Dh]<;>exact rfl) ?_
 refine Ab (by simp only[zl,zm,Dh,Nat.reduceAdd]<;>exact rfl) ?_
 refine Ab (by simp only[zl,zm,Cc,overlay,Bw,zs,zc,zf,List.take,List.drop,Dh,Nat.reduceAdd,xP]<;>exact rfl) ?_
 refine Ae rfl (Aa (Af ?_))
 refine Ag (Ad (Ac rfl (xo1 ?_)))
 refine Aa (Af ?_)
 refine Ca ?_
 refine Aj (Bd rfl (Ar (xo32 ?_)))
 refine xo2 ?_
 refine Ab (by simp only[zl,zm,Cc,overlay,Bw,zs,zc,zf,List.take,List.drop,Cy uN,Jc uN,Nat.reduceAdd,xP]<;>exact rfl) ?_
 refine Aa (Af ?_)
 refine Ag (Ey ?_)
 refine Bq rfl rfl (Ji rfl rfl ?_)
 refine xo6 rfl rfl ?_
 refine Ch (by simp only[zl,zm,zd,Be,List.take,List.drop,Nat.reduceAdd,xP]<;>exact rfl) (by simp only[Bg,zo,zq]<;>exact rfl) (by first | rfl | (simp[show ob 7 3=[true,true,true] from rfl,Vh,Bc,Aw,Cg,Ay,Bo,dj,Au,Am,Bn,Bj,Cr,xJ,Cn,ieq];done) | (simp[show ob 7 3=[true,true,true] from rfl,Vh,Bc,Aw,Cg,Ay,Bo,dj,Au,Am,Bn,Bj,Cr,xJ,Cn,ieq,Cx,Bf,Cu,Di,Eg,yP,yO];done)) ?_
 refine Bq rfl rfl (Ji rfl rfl ?_)
 refine xo6 rfl rfl ?_
 refine Ch (by simp only[zl,zm,zd,Be,List.take,List.drop,Nat.reduceAdd,xP]<;>exact rfl) (by simp only[Bg,zo,zq]<;>exact rfl) (by first | rfl | (simp[show ob 112 7=[true,true,true,false,false,false,false] from rfl,Vh,Bc,Aw,Cg,Ay,Bo,dj,Au,Am,Bn,Bj,Cr,xJ,Cn,ieq];done) | (simp[show ob 112 7=[true,true,true,false,false,false,false] from rfl,Vh,Bc,Aw,Cg,Ay,Bo,dj,Au,Am,Bn,Bj,Cr,xJ,Cn,ieq,Cx,Bf,Cu,Di,Eg,yP,yO];done)) ?_
 refine Bp (by simp only[zo,J3]<;>exact rfl) rfl rfl ?_
 refine Bp (by simp only[zo,Bh,xP]<;>exact rfl) rfl rfl ?_
 refine Ch (by simp only[zl,zm,Cq,Int.toNat_natCast,xP]<;>exact rfl) (by simp only[Bg,zo,zq]<;>exact rfl) (by first | rfl | (simp[show ob 1023 10=[true,true,true,true,true,true,true,true,true,true] from rfl,Vh,Bc,Aw,Cg,Ay,Bo,dj,Au,Am,Bn,Bj,Cr,xJ,Cn,ieq];done) | (simp[show ob 1023 10=[true,true,true,true,true,true,true,true,true,true] from rfl,Vh,Bc,Aw,Cg,Ay,Bo,dj,Au,Am,Bn,Bj,Cr,xJ,Cn,ieq,Cx,Bf,Cu,Di,Eg,yP,yO];done)) ?_
 refine Dq rfl rfl (Cw (Af ?_))
 refine Ag (Ad (xo32 ?_))
 refine Ab (by simp only[zo];exact qy d rfl _) ?_
 refine xo9 ?_
 refine Aa (Af ?_)
 refine Ca ?_
 refine Aj (Bd rfl (Ag (Ad (Ac rfl (xo0 ?_)))))
 refine xo2 ?_
 refine xo32 ?_
 refine Ab (by simp only[zo,xP]<;>exact rfl) ?_
 refine xo29 ?_
 refine Aa (Af ?_)
 refine Ca ?_
 refine Aj (Bd rfl (Ey ?_))
 refine Bq rfl rfl (Bq rfl rfl (Ji rfl rfl ?_))
 refine xo6 rfl rfl ?_
 refine Ch (by simp only[zl,zm,zd,Be,List.take,List.drop,Nat.reduceAdd,xP]<;>exact rfl) (by simp only[Bg,zo,zq]<;>exact rfl) (by first | rfl | (simp[show ob 14 4=[true,true,true,false] from rfl,Vh,Bc,Aw,Cg,Ay,Bo,dj,Au,Am,Bn,Bj,Cr,xJ,Cn,ieq];done) | (simp[show ob 14 4=[true,true,true,false] from rfl,Vh,Bc,Aw,Cg,Ay,Bo,dj,Au,Am,Bn,Bj,Cr,xJ,Cn,ieq,Cx,Bf,Cu,Di,Eg,yP,yO];done)) ?_
 refine Ch (by simp only[zl,zm,zd,Be,List.take,List.drop,Nat.reduceAdd,xP]<;>exact rfl) (by simp only[Bg,zo,zq]<;>exact rfl) (by first | rfl | (simp[show ob 0 5=[false,false,false,false,false] from rfl,Vh,Bc,Aw,Cg,Ay,Bo,dj,Au,Am,Bn,Bj,Cr,xJ,Cn,ieq];done) | (simp[show ob 0 5=[false,false,false,false,false] from rfl,Vh,Bc,Aw,Cg,Ay,Bo,dj,Au,Am,Bn,Bj,Cr,xJ,Cn,ieq,Cx,Bf,Cu,Di,Eg,yP,yO];done)) ?_
 refine Ch (by simp only[zl,zm,Ct,List.replicate,Al,Bw,zs,zc,zf,Nat.reduceAdd,xP]<;>exact rfl) (by simp only[Bg,zo,zq]<;>exact rfl) (by first | rfl | (simp[show ob 32 6=[true,false,false,false,false,false] from rfl,Vh,Bc,Aw,Cg,Ay,Bo,dj,Au,Am,Cr,ieq];done) | (simp[show ob 32 6=[true,false,false,false,false,false] from rfl,Vh,Bc,Aw,Cg,Ay,Bo,dj,Au,Am,Bn,Bj,Cr,xJ,Cn,ieq,Cx,Bf,Cu,Di,Eg,yP,yO];done)) ?_
 refine Ch (by simp only[Ba,aop,LOp.loud,lop,if_true,opd,zv];exact zP) (by simp only[Bg,zo,zq]<;>exact rfl) (by first | rfl | (simp[show ob 126 7=[true,true,true,true,true,true,false] from rfl,Vh,Bc,Aw,Cg,Ay,Bo,dj,Au,Am,Cr,xJ];done) | (simp[show ob 126 7=[true,true,true,true,true,true,false] from rfl,Vh,Bc,Aw,Cg,Ay,Bo,dj,Au,Am,Bn,Bj,Cr,xJ,Cn,ieq,Cx,Bf,Cu,Di,Eg,yP,yO];done)) ?_
 refine Ji rfl rfl ?_
 refine xo6 rfl rfl ?_
 refine Ch (by simp only[zl,zm,Cc,overlay,List.take,List.drop,Nat.reduceAdd,xP]<;>exact rfl) (by simp only[Bg,zo,zq,hpv]<;>exact rfl) (by first | rfl | (simp[show ob 1023 10=[true,true,true,true,true,true,true,true,true,true] from rfl,Vh,Bc,Aw,Cg,Ay,Bo,dj,Au,Am,Cr,xJ];done) | (simp[show ob 1023 10=[true,true,true,true,true,true,true,true,true,true] from rfl,Vh,Bc,Aw,Cg,Ay,Bo,dj,Au,Am,Cr,xJ,Bf];done)) ?_
 refine Cw ?_
 simp only[ze]
 refine⟨_,by simp only[F52,Ak,Bb,zm]<;>exact rfl,?_⟩
 simp[leave,LP,Vl,wm,Al,GO]
def FL (H:List U9) (gs:Nat) (x:D) (rows:List (List D)):Prop:=(x=.Vu∧rows=[])∨∃vs,x=.msl gs vs 0 rows.length none∧H[gs]?=some ⟨48,16,rows,vs,0,true⟩
theorem FL.len{H:List U9}{gs:Nat}{x:D}{rows:List (List D)}(h:FL H gs x rows):Im false x=some (.int .i64 (rows.length:Nat)):=by
 rcases h with⟨rfl,rfl⟩ | ⟨vs,rfl,_⟩<;>rfl
def tokT (f:FM):List (Nat × ByteArray):=(if f.lo then [(1,I6),(1,Q5),(1,kNUM),(1,kIS),(2,Gt f.line),(1,kCOL),(1,kIS),(2,Gt f.column)] else [(1,Q5),(2,Gt f.line),(1,I7),(2,Gt f.column)])++tailL f
theorem U4(f:FM):Kr f=(2,Gt 5)::tokT f:=rfl
theorem FL.app{H Z:List U9}{gs g m:Nat}{x:D}{rows:List (List D)}{row:List D}(h:FL H gs x rows)(hgs:g<gs)(hm:Z.length=m+1)(hr:Z[m]?=some (FO row))(hgm:gs<m∨x=.Vu)(hZ:∀vs,H[gs]?=some ⟨48,16,rows,vs,0,true⟩→x≠.Vu→Z[gs]?=some ⟨48,16,rows,vs,0,true⟩)(hl:rows.length<256) :
  ∃x' HY gs' rd wt cr,Ci 48 16 128 0 x (.msl m 0 0 1 none) ⟨Z,g⟩=some (x',⟨HY,g⟩,true)∧x'.val=true∧Vh x'=false∧x'.cells=[x']∧Dm x (.msl m 0 0 1 none) x' true=⟨true,some rd,some wt,cr,none⟩∧FL HY gs' x' (rows++[row])∧(gs'=gs∨gs'=Z.length)∧Z.length≤HY.length∧∀k,k<Z.length→(k≠gs∨x=.Vu)→HY[k]?=Z[k]?:=by
 have zR:Ei ⟨Z,g⟩ 16 (.msl m 0 0 1 none)=some [row]:=by simp[Ei,rowsOf,hr,FO]
 rcases h with⟨rfl,rfl⟩ | ⟨vs,rfl,ho⟩
 ·
  refine⟨.msl Z.length 0 0 1 none,Z++[⟨48,16,[row],0,0,true⟩],Z.length,[m],[Z.length],true,?_,rfl,rfl,rfl,?_,.inr ⟨0,rfl,by simp⟩,.inr rfl,by simp,fun k hk _=>Cy hk⟩
  ·
   simp[Ci,zR,Bi,newAt]
  simp[Dm,Cn]
 have hz:=hZ vs ho (by simp)
 have yB:=Br hz
 refine⟨.msl gs (vs+1) 0 (rows.length+1) none,Z.set gs ⟨48,16,rows++[row],vs+1,0,true⟩,gs,[gs,m],[gs],false,?_,rfl,rfl,rfl,?_,.inr ⟨vs+1,by simp,by rw[Gb yB]⟩,.inl rfl,by simp,fun k hk hn=>?_⟩
 ·
  have hb:(rows.length+1)*128≤140737488355328:=by omega
  have xS:min g gs=g:=by omega
  simp[Ci,zR,Bi,rowsOf,hz,setAt,hb,xS]
 ·
  simp[Dm,Cn]
 rcases hn with hn | hn
 ·
  rw[Ln_ (Ne.symm hn)]
 cases hn
theorem Sl(f:FM)(p:Nat){d:Nat}(hd:2≤d)(S:St):Az LP NN d 39 [.agg (Ia f p)] S=some (.bool true,S,false):=by
 unfold Ia row2
 split
 ·
  exact fits_run hd S f false 1 (.of _ _ _) (.nil 5)
 exact fits_run hd S f f.nu f.kind (.nil 1) (.of _ _ _)
theorem field_run{d:Nat}(hd:18≤d){H:List U9}{g go gs a c m v l0 c0:Nat}{f:FM}{lx x:D}{rs rows:List (List D)}{nm:ByteArray}(hgo:g<go)(hgs:g<gs)(xA:gs≠go)(qD:rs.length<100)(xD:rows.length<256)
  (hH:H[g]?=some (PO lx a c (.msl go v 0 (rs.length+1) none))) (hO:H[go]?=some (GO rs nm x l0 c0 v)) (hF:FL H gs x rows) (hL:SlD 5 (Fj m (tokT f)) lx) :
  ∃H' lx' x' gs' p,(∀lo,Az LP NN d 52 [.ptr g 0 0 0] ⟨H,lo⟩=some (.tup [],⟨H',min lo g⟩,true))∧H'[g]?=some (PO lx' a c (.msl go v 0 (rs.length+1) none))∧H'[go]?=some (GO rs nm x' l0 c0 v)∧FL H' gs' x' (rows++[Ia f p])∧(gs'=gs∨H.length≤gs')∧H.length≤H'.length∧∀k,k<H.length→k≠g→k≠go→(k≠gs∨x=.Vu)→H'[k]?=H[k]?:=by
 have yB:=Br hH
 have zT:=Br hO
 have hk:=f.kind_le
 have hln:=f.line_le
 have hcn:=f.column_le
 have wO:=f.size_le
 have xS:min H.length g=g:=by omega
 -- FILLER
 have q:∃H1 lx1 lo1 w1 m1,Az LP NN (d-1) 93 [.ptr g 0 0 0,.sl 1 [[.str I6]] (some 1)] ⟨H,H.length⟩=some (.bool f.lo,⟨H1,lo1⟩,w1)∧min lo1 g=g∧Upd H H1 g (PO lx1 a c (.msl go v 0 (rs.length+1) none)) ∧
   SlD 5 (Fj m1 ((1,Q5)::((if f.lo then [(1,kNUM)] else [])++((if f.lo then [(1,kIS)] else [])++(2,Gt f.line)::(1,if f.lo then kCOL else I7)::((if false then [(1,kNUM)] else [])++((if f.lo then [(1,kIS)] else [])++(2,Gt f.column)::tailL f)))))) lx1:=by
  unfold tokT at hL
  cases y5:f.lo with
  | true =>
   simp only[y5,if_true]at hL
   have s:=skip_hit (d:=d-1) (texts:=[I6]) (tx:=.sl 1 [[.str I6]] (some 1)) (by omega) hH (Fq hL) (.of _ _ _) (by simp) (by simp[isB]) H.length
   rw[xS]at s
   exact⟨_,_,_,_,_,s,Nat.min_self g,by have:=Upd.of yB (PO (Ea 1 lx) a c (.msl go v 0 (rs.length+1) none)) [];rwa [List.append_nil]at this,Gx hL⟩
  | false =>
   simp only[y5,if_false,Bool.false_eq_true]at hL
   exact⟨_,_,_,_,_,Ry (d:=d-1) (texts:=[I6]) (tx:=.sl 1 [[.str I6]] (some 1)) (by omega) hH (Fq hL) (.of _ _ _) (by simp) (by decide +kernel) H.length,xS,Upd.refl hH,hL⟩
 obtain⟨H1,lx1,lo1,w1,m1,r1,qm,u1,s1⟩:=q
 have vU:=u1.len
 -- the places
 have yU:(H1++[FO row0])[g]?=some (PO lx1 a c (.msl go v 0 (rs.length+1) none)):=by rw[Cy (Br u1.at_)];exact u1.at_
 obtain⟨H2,lx2,m2,r2,u2,s2⟩:=place_run (d:=d-1) (tx:=.sl 1 [[.str Q5]] (some 1)) (texts:=[Q5]) (by omega) f.lo f.lo (by omega) yU (.of _ _ _) (by simp) (by simp[isB]) s1
 have hw:isB 1 1 (if f.lo then kCOL else I7) [I7,kCOL]=true:=by cases f.lo<;>decide +kernel
 obtain⟨H3,lx3,m3,r3,u3,s3⟩:=place_run (d:=d-1) (tx:=.sl 1 [[.str I7],[.str kCOL]] (some 2)) (texts:=[I7,kCOL]) (by omega) false f.lo (by omega) u2.at_ (.of _ _ _) (by simp) hw s2
 have hN1:(H1++[FO row0])[H1.length]?=some (FO row0):=by simp
 have yP:=u2.lt (k:=H1.length) (by omega) hN1
 have yO:=u3.lt (k:=H1.length) (by omega) yP
 have zy:=u2.len
 have hl3:=u3.len
 rw[Ll_,List.length_cons,List.length_nil]at zy
 have u123:=u2.trans u3
 -- the value
 have hg3:(H3.set H1.length (FO (row1 f)))[g]?=some (PO lx3 a c (.msl go v 0 (rs.length+1) none)):=by rw[Ln_ (by omega)];exact u3.at_
 obtain⟨H4,lx4,p,q,r4,u4,s4⟩:=value_run (d:=d-1) (by omega) f (gf:=H1.length) (by omega) hg3 (Gb (Br yO) _) s3
 have hl4:=u4.len
 rw[List.length_set]at hl4
 have keep:∀k,k<H.length→k≠g→H4[k]?=H[k]?:=fun k hk hn=>by
  rw[u4.ne k (by rw[List.length_set];omega) hn (by omega),Ln_ (by omega),u123.ne k (by rw[Ll_];omega) hn,Cy (by omega),u1.ne k hk hn]
 have h4o:H4[go]?=some (GO rs nm x l0 c0 v):=(keep go zT (by omega)).trans hO
 have yH:=hF.len
 have wF:decide (((rows.length:Nat):Int)≥256)=false:=decide_eq_false (by omega)
 have hgsl:gs<H.length∨x=.Vu:=by
  rcases hF with⟨h,_⟩ | ⟨vs,_,h⟩
  ·
   exact .inr h
  exact .inl (Br h)
 have fin:∀(Z:List U9) (mm:Nat),Z.length=mm+1→Z[mm]?=some (FO (Ia f p))→H.length<mm→(∀k,k<H.length→k≠g→Z[k]?=H[k]?)→Z[g]?=some (PO lx4 a c (.msl go v 0 (rs.length+1) none)) →
   (∀x' HY rd wt cr,Ci 48 16 128 0 x (.msl mm 0 0 1 none) ⟨Z,g⟩=some (x',⟨HY,g⟩,true)→x'.val=true→Vh x'=false→x'.cells=[x']→Dm x (.msl mm 0 0 1 none) x' true=⟨true,some rd,some wt,cr,none⟩→HY[go]?=some (GO rs nm x l0 c0 v)→∀lo,Az LP NN d 52 [.ptr g 0 0 0] ⟨H,lo⟩=some (.tup [],⟨HY.set go (GO rs nm x' l0 c0 v),min lo g⟩,true)) →
   ∃H' lx' x' gs' p,(∀lo,Az LP NN d 52 [.ptr g 0 0 0] ⟨H,lo⟩=some (.tup [],⟨H',min lo g⟩,true))∧H'[g]?=some (PO lx' a c (.msl go v 0 (rs.length+1) none))∧H'[go]?=some (GO rs nm x' l0 c0 v)∧FL H' gs' x' (rows++[Ia f p])∧(gs'=gs∨H.length≤gs')∧H.length≤H'.length∧∀k,k<H.length→k≠g→k≠go→(k≠gs∨x=.Vu)→H'[k]?=H[k]?:=by
  intro Z mm hZl hZr hmm hZk hZg xB
  obtain⟨x',HY,gs',rd,wt,cr,ha,hv,hp,hc,hf,hFL,qW,xg,hkeep⟩:=hF.app (Z:=Z) (g:=g) hgs hZl hZr (hgsl.imp (by omega) id) (fun vs h hn=>by
   rcases hgsl with h1 | h1
   ·
    rw[hZk gs h1 (by omega)];exact h
   exact absurd h1 hn) xD
  have kM:HY[go]?=some (GO rs nm x l0 c0 v):=by
   rw[hkeep go (by omega) (.inl (Ne.symm xA)),hZk go zT (by omega)];exact hO
  have hYg:HY[g]?=some (PO lx4 a c (.msl go v 0 (rs.length+1) none)):=by
   rw[hkeep g (by omega) (.inl (by omega))];exact hZg
  refine⟨_,lx4,x',gs',p,xB x' HY rd wt cr ha hv hp hc hf kM,by rw[Ln_ (by omega)];exact hYg,Gb (Br kM) _,?_,?_,by rw[List.length_set];omega,fun k hk h1 h2 h3=>?_⟩
  ·
   rcases hFL with h | ⟨vs,h1,h2⟩
   ·
    exact .inl h
   refine .inr ⟨vs,h1,?_⟩
   rw[Ln_ ?_];exact h2
   rcases qW with e | e<;>rw[e]
   ·
    exact Ne.symm xA
   omega
  ·
   rcases qW with e | e
   ·
    exact .inl e
   exact .inr (by omega)
  rw[Ln_ (Ne.symm h2),hkeep k (by omega) h3,hZk k hk h1]
 by_cases yE:f.kind=1
 ·
  have e3:Ia f p=[.int .i64 (f.line:Nat),.int .i64 (f.column:Nat),.int .u8 1,.sl 1 (Bu f.text) none]++Dh false f.size++[.Vu]:=(if_pos yE).trans (if_pos yE)
  have e2:row2 f p=[.int .i64 (f.line:Nat),.int .i64 (f.column:Nat),.int .u8 1,.sl 1 (Bu f.text) none]++Dh false f.size++[.Vu]:=if_pos yE
  have uO:=u4.at2
  rw[e2]at uO
  simp only[yE,if_true]at r4
  refine fin (H4++[Kk,FO (Ia f p)]) (H4.length+1) (by simp) (Dn H4 _ 1) (by omega) (fun k hk hn=>by rw[Cy (by omega)];exact keep k hk hn) (by rw[Cy (Br u4.at1)];exact u4.at1) (fun x' HY rd wt cr ha hv hp hc hf kM lo=>?_)
  rw[e3]at ha
  exact field_lit hd hgo (by omega) yB qD qm (fun d' e=>by subst e;exact r1) (fun d' e=>by subst e;exact r2) (fun d' e=>by subst e;exact r3) yP yO (fun d' e=>by subst e;exact r4) u4.at1 s4 uO h4o (fun d' e S=>by rw[←e3];exact Sl f p (by omega) S) yH wF ha hv hp hc hf kM lo
 have e3:Ia f p=[.int .i64 (f.line:Nat),.int .i64 (f.column:Nat),.int .u8 (f.kind:Nat),.Vu]++Dh f.nu f.size++[.sl 5 [tkR 1 ⟨#[78]⟩ p 12] (some 1)]:=if_neg yE
 have e2:row2 f p=[.int .i64 (f.line:Nat),.int .i64 (f.column:Nat),.int .u8 (f.kind:Nat),.Vu]++shp0++[.sl 5 [tkR 1 ⟨#[78]⟩ p 12] (some 1)]:=if_neg yE
 have uO:=u4.at2
 rw[e2]at uO
 simp only[yE,if_false]at r4
 have hlf:=Br uO
 refine fin (H4.set H1.length (FO (Ia f p))++[tkO 4 f.pic q 12,⟨46,11,[Dh f.nu f.size],0,0,false⟩,FO (Ia f p)]) (H4.length+2) (by simp) (by have e:=Dn (H4.set H1.length (FO (Ia f p))) [tkO 4 f.pic q 12,⟨46,11,[Dh f.nu f.size],0,0,false⟩,FO (Ia f p)] 2;rw[List.length_set]at e;exact e) (by omega) (fun k hk hn=>by rw[Rn (by omega) (by omega)];exact keep k hk hn) (by rw[Rn (Br u4.at1) (by omega)];exact u4.at1) (fun x' HY rd wt cr ha hv hp hc hf kM lo=>?_)
 rw[e3]at ha
 exact field_pic hd hgo (by omega) yB qD qm (fun d' e=>by subst e;exact r1) (fun d' e=>by subst e;exact r2) (fun d' e=>by subst e;exact r3) yP yO yE (fun d' e=>by subst e;exact r4) u4.at1 s4 uO h4o (fun d' e S=>by rw[←e3];exact Sl f p (by omega) S) yH wF ha hv hp hc hf kM lo
set_option maxRecDepth 10000
theorem loopN_mono{f:List D→St→Option (Vf × List D × St)}:∀{k:Nat} {env:List D} {S:St} {r:Vf × List D × St},Hu f k env S=some r→Hu f (k+1) env S=some r
 | 0,env,S,r,h=>by simp[Hu]at h
 | k + 1, env, S, r, h => by
  rw[Hu]at h ⊢
  cases e:f env S with
  | none=>rw[e]at h;simp at h
  | some x =>
   obtain⟨ex,env1,S1⟩:=x
   rw[e]at h
   cases ex with
   | normal=>exact loopN_mono h
   | ret=>exact h
   | exit i=>exact h
def CL (call:Bl) (k:Nat) (c:Ve) (Q:Vf→List D→St→Prop) (env:List D) (S:St):Prop:=∃e env' S',Hu (Bt call NN c) k env S=some (e,env',S')∧Q e env' S'
theorem loopN_le{f:List D→St→Option (Vf × List D × St)}{k:Nat}{env:List D}{S:St}{r:Vf × List D × St}(h:Hu f k env S=some r)(j:Nat):Hu f (k+j) env S=some r:=by
 induction j with
 | zero=>exact h
 | succ j ih=>exact loopN_mono ih
section
variable {call:Bl} {Q:Vf→List D→St→Prop} {env env':List D} {S:St} {c:Ve} {k:Nat}
def LuK (call:Bl) (k:Nat) (c:Ve) (Q:Vf→List D→St→Prop):Vf→List D→St→Prop
 | .normal,env,S=>CL call k c Q env S
 | e,env,S=>Q e env S
theorem lu_n(h:env=env')(h2:CL call k c Q env' S):LuK call k c Q .normal env S:=by subst h;exact h2
theorem lu_e{i:Nat}(h:Q (.exit i) env S):LuK call k c Q (.exit i) env S:=h
theorem Rl(h:CW call c (LuK call k c Q) env S):CL call (k+1) c Q env S:=by
 obtain⟨e,env',S',h1,h2⟩:=h
 unfold CL
 simp only[Hu,h1]
 cases e with
 | normal=>exact h2
 | ret=>exact⟨_,_,_,rfl,h2⟩
 | exit i=>exact⟨_,_,_,rfl,h2⟩
theorem cw_unroll(h:CL call 1000 c Q env S):CW call (.loop c) Q env S:=by
 obtain⟨e,env',S',h1,h2⟩:=h
 refine⟨e,env',S',?_,h2⟩
 simp only[Bt]
 have:=loopN_le h1 (18446744073709551616-1000)
 exact this
end
def CutK (I:List D→St→Prop):Vf→List D→St→Prop
 | .normal,env,S=>I env S
 | _,_,_=>False
theorem ck_n{I:List D→St→Prop}{env env':List D}{S:St}(h:env=env')(h2:I env' S):CutK I .normal env S:=by subst h;exact h2
theorem cw_cut{call:Bl}{Q:Vf→List D→St→Prop}{env:List D}{S:St}{a b:Ve}(I:List D→St→Prop)(h1:CW call a (CutK I) env S)(h2:∀env S,I env S→CW call b Q env S):CW call (.seq a b) Q env S:=by
 refine Ag (cw_mono h1 ?_)
 intro e env' S' h
 cases e with
 | normal=>exact h2 env' S' h
 | ret=>exact h.elim
 | exit i=>exact h.elim
theorem cw_dfr{call:Bl}{Q:Vf→List D→St→Prop}{env env':List D}{S:St}{x:Vd}{f:FuncId}{caps:List D}(hc:opd [] env x=.fn f caps)(he:env++[.fn f caps]=env')(h:Q .normal env' S):CW call (.dfr x) Q env S:=by
 subst he
 exact⟨_,_,_,by simp only[Bt,hc],h⟩
def FinKD (L:Prg) (d:Nat) (f:FuncId) (F:Va) (S:St) (x:D × St × Bool):Vf→List D→St→Prop
 | .exit _,_,_=>False
 | _,env',S1=>∃S2,J8 L.dfn (Az L NN d) NN (env'.drop F.slots.length).reverse S1=some S2∧∃r0,Ak env' S2 F.res=some r0∧leave (L.raw f) S r0 S2=some x
theorem run_atD_ex{L:Prg}{d:Nat}{f:FuncId}{F:Va}{args args' env0:List D}{S:St}{P:D × St × Bool→Prop}(hF:L.fns f=some F)(ha:(if L.raw f then some args else Al S.heap.length S.heap args)=some args')(hl:args'.length=F.nargs)(hp:(L.pure f&&args'.all D.Vj)=false)(he:(F.slots.map fun s=>args'.getD s .undef)=env0)(hd:0<d)
  (hb:∀d',d=d'+1→CW (Az L NN d') F.body (fun e env' S1=>∃x,P x∧FinKD L d' f F S x e env' S1) env0 ⟨S.heap,S.heap.length⟩) (hdp:L.deep f=false:=by rfl) (hE:L.ext f args=none:=by rfl) (qG:L.dfs f=true:=by rfl):∃x,P x∧Az L NN d f args S=some x:=by
 subst he
 obtain⟨d',rfl⟩:∃d',d=d'+1:=⟨d-1,by omega⟩
 obtain⟨e,env',S1,h1,x,hP,h2⟩:=hb d' rfl
 refine⟨x,hP,?_⟩
 simp only[Az,behind,qG,hE,hF,ha,hl,hp,ne_eq,not_true_eq_false,if_false,if_true,Bool.false_eq_true,h1,hdp]
 cases e with
 | exit i=>exact h2.elim
 | normal =>
  obtain⟨S2,h3,r0,h4,h5⟩:=h2
  simp only[h3,h4]
  exact h5
 | ret =>
  obtain⟨S2,h3,r0,h4,h5⟩:=h2
  simp only[h3,h4]
  exact h5
theorem run_at_ex{L:Prg}{d:Nat}{f:FuncId}{F:Va}{args args' env0:List D}{S:St}{P:D × St × Bool→Prop}(hF:L.fns f=some F)(ha:(if L.raw f then some args else Al S.heap.length S.heap args)=some args')(hl:args'.length=F.nargs)(hp:(L.pure f&&args'.all D.Vj)=false)(he:(F.slots.map fun s=>args'.getD s .undef)=env0)(hd:0<d)
  (hb:∀d',d=d'+1→CW (Az L NN d') F.body (fun e env' S1=>∃x,P x∧FinK L f F S x e env' S1) env0 ⟨S.heap,S.heap.length⟩) (hdp:L.deep f=false:=by rfl) (hE:L.ext f args=none:=by rfl) (qG:L.dfs f=false:=by rfl):∃x,P x∧Az L NN d f args S=some x:=by
 obtain⟨d',rfl⟩:∃d',d=d'+1:=⟨d-1,by omega⟩
 obtain⟨e,env',S1,h1,x,hP,h2⟩:=hb d' rfl
 refine⟨x,hP,Du hF ha hl hp he (by omega) (fun d'' e'=>?_) hdp hE qG⟩
 obtain rfl:d'=d'':=by omega
 subst he
 exact⟨e,env',S1,h1,h2⟩
def nmO (nm:ByteArray):U9:=⟨9,1,[[.str nm]],0,0,false⟩
theorem FL.cell{H:List U9}{gs:Nat}{x:D}{rows:List (List D)}(h:FL H gs x rows):x.Vn=true:=by
 rcases h with⟨rfl,rfl⟩ | ⟨vs,rfl,_⟩<;>rfl
theorem FL.snap{H:List U9}{gs:Nat}{x:D}{rows:List (List D)}(h:FL H gs x rows)(m:Nat)(l:List U9):snap m (H++l) x=some x:=by
 rcases h with⟨rfl,rfl⟩ | ⟨vs,rfl,ho⟩
 ·
  rfl
 rw[Ie,Cy (Br ho),ho];simp
theorem find37{d:Nat}(hd:1≤d){H:List U9}{r:Nat}{x:D}{nm nm':ByteArray}{l c:Nat}(hR:H[r]?=some (nmO nm))(hx:snap H.length H x=some x)(hc:x.Vn=true)(lo:Nat) :
  Az LP NN d 37 [.agg [.str nm',x,.int .i64 (l:Nat),.int .i64 (c:Nat)],.ptr r 0 0 0] ⟨H,lo⟩=some (.bool (nm'.toList==nm.toList),⟨H,lo⟩,false):=by
 have yI:=Br hR
 simp only[nmO]at hR
 refine Du (F:=F37) rfl (by simp only[LP,Al,Bw,zs,zm,hx]<;>exact rfl) rfl (by simp only[LP,zf,zm,Bool.and_false];try rfl) (by simp only[F37,zv]<;>exact rfl) (by omega) ?_
 rintro d rfl
 refine Ad (Ab (by simp only[zl,zm,zc,hc]<;>exact rfl) ?_)
 refine Ap (Aa (Af ?_))
 refine Ad (xo2 ?_)
 refine xo3 ?_
 refine Ab (by simp only[zl,zm,zd,Be,List.take,List.drop,hR,Cy yI]<;>exact rfl) ?_
 refine xo1 ?_
 refine Ae rfl (Aa (Af ?_))
 refine Av ?_
 refine⟨_,by simp only[F37,Ak,Bb,Cb,zg]<;>exact rfl,?_⟩
 simp[leave,LP,Vl,Vi,snap,D.Vk,D.Vj,D.free,D.Vo]
theorem find36{d:Nat}(hd:3≤d){H:List U9}{r go v:Nat}{x:D}{nm nm':ByteArray}{l c:Nat}(hO:H[go]?=some (GO [] nm' x l c v))(hR:H[r]?=some (nmO nm))(hx:snap H.length H x=some x)(hc:x.Vn=true)(xA:(nm'.toList==nm.toList)=false)(lo:Nat) :
  Az LP NN d 36 [.msl go v 0 1 none,.fn 37 [.ptr r 0 0 0]] ⟨H,lo⟩=some (.int .i64 (-1),⟨H,lo⟩,false):=by
 simp only[GO,List.nil_append]at hO
 refine Du (F:=F36) rfl (by simp only[LP,Al,zs,zm,hO,show ((0:Nat)=1)=False from by decide,show ((0:Nat)=2)=False from by decide,and_false,or_self]<;>exact rfl) rfl (by simp only[LP,zf,zm];try rfl) (by simp only[F36,zv]<;>exact rfl) (by omega) ?_
 rintro d rfl
 refine Ad (Ap (Aa (Af ?_)))
 refine Ag (Ad (Ac rfl (Nb ?_)))
 refine Ap (Aa (Af ?_))
 refine Aq (cw_unroll (Rl (Ad (xo1 ?_))))
 refine Aa (Af ?_)
 refine Ag (Eo ?_)
 refine Aj (Bd rfl (Ag (Aq (Ad (Ac rfl (Ae rfl (Aa (Af ?_))))))))
 refine Ad (Ac rfl (Ac rfl (Ac rfl (Ab (by simp only[zl,zm,Cq,Int.toNat_zero,Int.le_refl,hO]<;>exact rfl) ?_))))
 refine Ab (by simp only[zl,zm,zd,Be,List.take,List.drop,hO]<;>exact rfl) ?_
 refine Ab (by simp only[zo];exact (find37 (by omega) hR hx hc _).trans (congrArg (fun b=>some (D.bool b,_,false)) xA)) ?_
 refine Aa (Af ?_)
 refine Ca ?_
 refine Aj (Eb (Bd rfl (Ar (xo1 ?_))))
 refine Ae rfl (Aa (lu_n (by simp only[ze]<;>exact rfl) ?_))
 refine Rl (Ad (xo1 ?_))
 refine Aa (Af ?_)
 refine Ag (Ca ?_)
 refine Cf (E5 (lu_e (Fa (Bd rfl (Ad (Ap (Aa (Af ?_))))))))
 refine Av ?_
 refine⟨_,by simp only[F36,Ak,Bb,Cb,zg]<;>exact rfl,?_⟩
 simp[leave,LP,Vl,Vi,snap,D.Vk,D.Vj,D.free,D.Vo]
theorem find_one{d:Nat}(hd:5≤d){H:List U9}{go v gs:Nat}{x:D}{rows:List (List D)}{nm nm':ByteArray}{l c:Nat}(hO:H[go]?=some (GO [] nm' x l c v))(hF:FL H gs x rows)(xA:(nm'.toList==nm.toList)=false)(lo:Nat) :
  Az LP NN d 12 [.msl go v 0 1 none,.str nm] ⟨H,lo⟩=some (.tup [.int .i64 0,.int .i64 7],⟨H,lo⟩,false):=by
 have zT:=Br hO
 have hO0:=hO
 have hc:=hF.cell
 have hx:=hF.snap
 simp only[GO,List.nil_append]at hO
 refine Du (F:=F12) rfl (by simp only[LP,Al,zs,zm,hO,show ((0:Nat)=1)=False from by decide,show ((0:Nat)=2)=False from by decide,and_false,or_self]<;>exact rfl) rfl (by simp only[LP,zf,zm,Bool.and_false];try rfl) (by simp only[F12,zv]<;>exact rfl) (by omega) ?_
 rintro d rfl
 refine Ad (Rq ?_)
 refine Ap (Ap (Aa (Af ?_)))
 refine Ad (Ac rfl (xo0 ?_))
 refine Ab (by simp only[zo];exact find36 (by omega) (by rw[Cy zT];exact hO0) (Ec H _) (by rw[Ll_];exact hx _ _) hc xA _) ?_
 refine Ae rfl (Aa (Af ?_))
 refine Ag (Ad (Ac rfl (Ab (by simp only[zo,Bh,Int.reduceLT]<;>exact rfl) ?_)))
 refine Aa (Af ?_)
 refine Eo ?_
 refine Ad (Ap (Ap (Aa (Af ?_))))
 refine Av (D5 ?_)
 refine⟨_,by simp only[F12,Ak,Bb,Cb,zg,zm]<;>exact rfl,?_⟩
 simp[leave,LP,Vl,Vi,snap,D.Vk,D.Vj,D.free,D.Vo,Al]
section
variable (d:Nat) (S:St) (s:ByteArray)
theorem find_nil:Cj LP NN (d+5) 12 [.Vu,.str s] S=some (.tup [.int .i64 0,.int .i64 7],S,false):=by kernel_rfl
end
theorem find_nils{d:Nat}(hd:5≤d)(S:St)(s:ByteArray):Az LP NN d 12 [.Vu,.str s] S=some (.tup [.int .i64 0,.int .i64 7],S,false):=by
 obtain⟨d,rfl⟩:∃d',d=d'+5:=⟨d-5,by omega⟩
 exact fast_ok (find_nil d S s)
def SO (nm:ByteArray) (l c:Nat):U9:=⟨36,4,[[.str nm,.Vu,.int .i64 (l:Nat),.int .i64 (c:Nat)]],0,0,false⟩
theorem read_one{H:List U9}{g m e:Nat}{row:List D}(h:H[m]?=some ⟨e,4,[row],0,0,false⟩):Ei ⟨H,g⟩ 4 (.msl m 0 0 1 none)=some [row]:=by simp[Ei,rowsOf,h]
theorem Tq{d:Nat}(hd:6≤d){H H1 HY:List U9}{g a c n l0 c0:Nat}{ox ox' lx1:D}{nm:ByteArray}{rd wt:List Nat}{cr:Bool}(yB:g<H.length)
  (h1:∀d',d=d'+1→Az LP NN d' 89 [.ptr g 0 0 0,.int .u8 1,.Vu] ⟨H,H.length⟩=some (.agg (tkR 1 nm l0 c0),⟨H1,g⟩,true)) (h1g:H1[g]?=some (PO lx1 a c ox)) (yT:SlD 5 [] lx1)
  (hwd:∀d',d=d'+1→∀S,Az LP NN d' 92 [.str nm] S=some (.int .u8 0,S,false))
  (h3:∀d',d=d'+1→Az LP NN d' 12 [ox,.str nm] ⟨H1++[tkO 1 nm l0 c0],g⟩=some (.tup [.int .i64 0,.int .i64 7],⟨H1++[tkO 1 nm l0 c0],g⟩,false))
  (yH:Im false ox=some (.int .i64 (n:Nat))) (hx64:decide (((n:Nat):Int)≥64)=false)
  (zP:Ci 36 4 56 0 ox (.msl (H1.length+1) 0 0 1 none) ⟨H1++[tkO 1 nm l0 c0,SO nm a c],g⟩=some (ox',⟨HY,g⟩,true)) (hxv:ox'.val=true) (hpv:Vh ox'=false) (vW:ox'.cells=[ox']) (xJ:Dm ox (.msl (H1.length+1) 0 0 1 none) ox' true=⟨true,some rd,some wt,cr,none⟩) (hYg:HY[g]?=some (PO lx1 a c ox)) (lo:Nat) :
  Az LP NN d 51 [.ptr g 0 0 0] ⟨H,lo⟩=some (.tup [],⟨HY.set g (PO lx1 a c ox'),min lo g⟩,true):=by
 have yU:=Br h1g
 have ieq1:¬g=H1.length:=by omega
 have ieq2:¬H1.length=g:=by omega
 have ieq3:¬g=H1.length+1:=by omega
 have ieq4:¬H1.length+1=g:=by omega
 have ieq:=aI ieq1 (aI ieq2 (aI ieq3 ieq4))
 have yP:(0:Nat)=0:=rfl
 have yO:=yP
 have hw0:=yP
 have rU:min g H1.length=g:=by omega
 have vF:min g (H1.length+1)=g:=by omega
 have hmg3:min g g=g:=by omega
 have wm:¬H.length≤g:=by omega
 have vU:=yT.len
 simp only[PO,tkO,tkR,SO]at h1 h1g h3 zP hYg
 refine Du (F:=F51) rfl (by simp only[LP,Al,zs]<;>exact rfl) rfl (by simp only[LP,zf,zm];try rfl) (by simp only[F51,zv]<;>exact rfl) (by omega) ?_
 rintro d rfl
 have xP:=aI h1g (aI vU (aI hw0 (aI yH (aI hx64 (aI @Dn (aI @Ec (aI rU (aI vF (aI hmg3 (aI hYg (aI hxv (vW))))))))))))
 refine Ad (Ac rfl (xo0 ?_))
 refine xo2 ?_
 refine Ab (by simp only[zo];exact h1 d rfl) ?_
 refine Ab (by simp only[zl,zm,Nat.reduceAdd]<;>exact rfl) ?_
 refine Ab (by simp only[zl,zm,Cc,overlay,Bw,zs,zc,zf,List.take,List.drop,Nat.reduceAdd,xP]<;>exact rfl) ?_
 refine Aa (Af ?_)
 refine Ag (Ad (Ac rfl (xo0 ?_)))
 refine xo2 ?_
 refine xo2 ?_
 refine Ab (by simp only[zl,zm,zd,Be,List.take,List.drop,Cy yU,Nat.reduceAdd,xP]<;>exact rfl) ?_
 refine Ab (by simp only[zo,xP]<;>exact rfl) ?_
 refine xo1 ?_
 refine Aa (Af ?_)
 refine Ca ?_
 refine Aj (Bd rfl (Ag (Ad (xo2 ?_))))
 refine xo32 ?_
 refine Ab (by simp only[zo];exact hwd d rfl _) ?_
 refine xo1 ?_
 refine Aa (Af ?_)
 refine Ca ?_
 refine Aj (Bd rfl (Ag (Ag (Ey ?_))))
 refine Bq rfl rfl (Ji rfl rfl ?_)
 refine xo6 rfl rfl ?_
 refine Ch (by simp only[zl,zm,zd,Be,List.take,List.drop,Cy yU,Nat.reduceAdd,xP]<;>exact rfl) (by simp only[Bg,zo,zq]<;>exact rfl) (by first | rfl | (simp[show ob 7 3=[true,true,true] from rfl,Vh,Bc,Aw,Cg,Ay,Bo,dj,Au,Am,Bn,Bj,Cr,xJ,Cn,ieq];done) | (simp[show ob 7 3=[true,true,true] from rfl,Vh,Bc,Aw,Cg,Ay,Bo,dj,Au,Am,Bn,Bj,Cr,xJ,Cn,ieq,Cx,Bf,Cu,Di,Eg,yP,yO];done)) ?_
 refine xo6 rfl rfl ?_
 refine Ch (by simp only[zl,zm,zd,Be,List.take,List.drop,Nat.reduceAdd,xP]<;>exact rfl) (by simp only[Bg,zo,zq]<;>exact rfl) (by first | rfl | (simp[show ob 16 5=[true,false,false,false,false] from rfl,Vh,Bc,Aw,Cg,Ay,Bo,dj,Au,Am,Bn,Bj,Cr,xJ,Cn,ieq];done) | (simp[show ob 16 5=[true,false,false,false,false] from rfl,Vh,Bc,Aw,Cg,Ay,Bo,dj,Au,Am,Bn,Bj,Cr,xJ,Cn,ieq,Cx,Bf,Cu,Di,Eg,yP,yO];done)) ?_
 refine Ch (by simp only[zo];exact h3 d rfl) (by simp only[Bg,zo,zq]<;>exact rfl) (by first | rfl | (simp[show ob 63 6=[true,true,true,true,true,true] from rfl,Vh,Bc,Aw,Cg,Ay,Bo,dj,Au,Am,Bn,Bj,Cr,xJ,Cn,ieq];done) | (simp[show ob 63 6=[true,true,true,true,true,true] from rfl,Vh,Bc,Aw,Cg,Ay,Bo,dj,Au,Am,Bn,Bj,Cr,xJ,Cn,ieq,Cx,Bf,Cu,Di,Eg,yP,yO];done)) ?_
 refine Dq rfl rfl (xo25 rfl rfl ?_)
 refine xo22 rfl rfl ?_
 refine Dq rfl rfl (Dq rfl rfl (Cw (Af ?_)))
 refine Ad (Ac rfl (xo1 ?_))
 refine Aa (Af ?_)
 refine Ca ?_
 refine Aj (Bd rfl (Ag (Ad (Ac rfl (xo0 ?_)))))
 refine xo2 ?_
 refine Ab (by simp only[zl,zm,zd,Be,List.take,List.drop,Cy yU,Nat.reduceAdd,xP]<;>exact rfl) ?_
 refine Ab (by simp only[zo,xP]<;>exact rfl) ?_
 refine xo29 ?_
 refine Aa (Af ?_)
 refine Ca ?_
 refine Aj (Bd rfl (Ey ?_))
 refine Bq rfl rfl (Bq rfl rfl (Ji rfl rfl ?_))
 refine xo6 rfl rfl ?_
 refine Ch (by simp only[zl,zm,zd,Be,List.take,List.drop,Cy yU,Nat.reduceAdd,xP]<;>exact rfl) (by simp only[Bg,zo,zq]<;>exact rfl) (by first | rfl | (simp[show ob 14 4=[true,true,true,false] from rfl,Vh,Bc,Aw,Cg,Ay,Bo,dj,Au,Am,Bn,Bj,Cr,xJ,Cn,ieq];done) | (simp[show ob 14 4=[true,true,true,false] from rfl,Vh,Bc,Aw,Cg,Ay,Bo,dj,Au,Am,Bn,Bj,Cr,xJ,Cn,ieq,Cx,Bf,Cu,Di,Eg,yP,yO];done)) ?_
 refine xo6 rfl rfl ?_
 refine Ch (by simp only[zl,zm,zd,Be,List.take,List.drop,Nat.reduceAdd,xP]<;>exact rfl) (by simp only[Bg,zo,zq]<;>exact rfl) (by first | rfl | (simp[show ob 32 6=[true,false,false,false,false,false] from rfl,Vh,Bc,Aw,Cg,Ay,Bo,dj,Au,Am,Bn,Bj,Cr,xJ,Cn,ieq];done) | (simp[show ob 32 6=[true,false,false,false,false,false] from rfl,Vh,Bc,Aw,Cg,Ay,Bo,dj,Au,Am,Bn,Bj,Cr,xJ,Cn,ieq,Cx,Bf,Cu,Di,Eg,yP,yO];done)) ?_
 refine Bq rfl rfl (Ji rfl rfl ?_)
 refine xo6 rfl rfl ?_
 refine xo6 rfl rfl ?_
 refine Ch (by simp only[zl,zm,zd,Be,List.take,List.drop,Cy yU,Nat.reduceAdd,xP]<;>exact rfl) (by simp only[Bg,zo,zq]<;>exact rfl) (by first | rfl | (simp[show ob 1920 11=[true,true,true,true,false,false,false,false,false,false,false] from rfl,Vh,Bc,Aw,Cg,Ay,Bo,dj,Au,Am,Bn,Bj,Cr,xJ,Cn,ieq];done) | (simp[show ob 1920 11=[true,true,true,true,false,false,false,false,false,false,false] from rfl,Vh,Bc,Aw,Cg,Ay,Bo,dj,Au,Am,Bn,Bj,Cr,xJ,Cn,ieq,Cx,Bf,Cu,Di,Eg,yP,yO];done)) ?_
 refine Bp (by simp only[zo,Hf,overlay,zc,List.take,List.drop,Nat.reduceAdd,Nat.reduceLeDiff,zm,Nat.reduceAdd]<;>exact rfl) rfl rfl ?_
 refine Ch (by simp only[zl,zm,Ct,List.replicate,Al,Bw,zs,zc,zf,Nat.reduceAdd]<;>exact rfl) (by simp only[Bg,zo,zq]<;>exact rfl) (by first | rfl | (simp[show ob 8160 13=[true,true,true,true,true,true,true,true,false,false,false,false,false] from rfl,Vh,Bc,Aw,Cg,Ay,Bo,dj,Au,Am,Cr,ieq];done) | (simp[show ob 8160 13=[true,true,true,true,true,true,true,true,false,false,false,false,false] from rfl,Vh,Bc,Aw,Cg,Ay,Bo,dj,Au,Am,Bn,Bj,Cr,xJ,Cn,ieq,Cx,Bf,Cu,Di,Eg,yP,yO];done)) ?_
 refine Ch (by simp only[Ba,aop,LOp.loud,lop,if_true,opd,zv];exact zP) (by simp only[Bg,zo,zq]<;>exact rfl) (by first | rfl | (simp[show ob 16382 14=[true,true,true,true,true,true,true,true,true,true,true,true,true,false] from rfl,Vh,Bc,Aw,Cg,Ay,Bo,dj,Au,Am,Cr,xJ];done) | (simp[show ob 16382 14=[true,true,true,true,true,true,true,true,true,true,true,true,true,false] from rfl,Vh,Bc,Aw,Cg,Ay,Bo,dj,Au,Am,Bn,Bj,Cr,xJ,Cn,ieq,Cx,Bf,Cu,Di,Eg,yP,yO];done)) ?_
 refine Ji rfl rfl ?_
 refine xo6 rfl rfl ?_
 refine Ch (by simp only[zl,zm,Cc,overlay,List.take,List.drop,Nat.reduceAdd,xP]<;>exact rfl) (by simp only[Bg,zo,zq,hpv]<;>exact rfl) (by first | rfl | (simp[show ob 131071 17=[true,true,true,true,true,true,true,true,true,true,true,true,true,true,true,true,true] from rfl,Vh,Bc,Aw,Cg,Ay,Bo,dj,Au,Am,Cr,xJ];done) | (simp[show ob 131071 17=[true,true,true,true,true,true,true,true,true,true,true,true,true,true,true,true,true] from rfl,Vh,Bc,Aw,Cg,Ay,Bo,dj,Au,Am,Cr,xJ,Bf];done)) ?_
 refine Cw ?_
 simp only[ze]
 refine⟨_,by simp only[F51,Ak,Bb,zm]<;>exact rfl,?_⟩
 simp[leave,LP,Vl,wm,Al,PO]
theorem screen_run1{d:Nat}(hd:16≤d){H:List U9}{g a c m:Nat}{lx:D}{nm:ByteArray}(hH:H[g]?=some (PO lx a c .Vu))(hL:SlD 5 (Fj m [(1,nm)]) lx)(hwd:∀d',14≤d'→∀S,Az LP NN d' 92 [.str nm] S=some (.int .u8 0,S,false)) :
  ∃H' lx' go,(∀lo,Az LP NN d 51 [.ptr g 0 0 0] ⟨H,lo⟩=some (.tup [],⟨H',min lo g⟩,true))∧H'[g]?=some (PO lx' a c (.msl go 0 0 1 none))∧H'[go]?=some (GO [] nm .Vu a c 0)∧H.length≤go∧H.length≤H'.length∧∀k,k<H.length→k≠g→H'[k]?=H[k]?:=by
 have yB:=Br hH
 have xS:min H.length g=g:=by omega
 have r1:=I9 (d:=d-1) (kd:=1) (by omega) hH (Fq hL) (texts:=[]) (.nil 1) (by simp) (Q7 1 _) H.length
 rw[xS]at r1
 have u:=Upd.of yB (PO (Ea 1 lx) a c .Vu) [tkO 1 nm m 12,tkO 1 nm m 12]
 generalize hH1:(H.set g (PO (Ea 1 lx) a c .Vu)++[tkO 1 nm m 12,tkO 1 nm m 12])=H1 at r1 u
 have s1:SlD 5 [] (Ea 1 lx):=Gx hL
 have xu:=u.len
 have yU:=Br u.at_
 have zP:Ci 36 4 56 0 .Vu (.msl (H1.length+1) 0 0 1 none) ⟨H1++[tkO 1 nm m 12,SO nm a c],g⟩=some (.msl (H1.length+2) 0 0 1 none,⟨(H1++[tkO 1 nm m 12,SO nm a c])++[GO [] nm .Vu a c 0],g⟩,true):=by
  have hr:(H1++[tkO 1 nm m 12,SO nm a c])[H1.length+1]?=some (SO nm a c):=Dn H1 _ 1
  have zR:Ei ⟨H1++[tkO 1 nm m 12,SO nm a c],g⟩ 4 (.msl (H1.length+1) 0 0 1 none)=some [[.str nm,.Vu,.int .i64 (a:Nat),.int .i64 (c:Nat)]]:=read_one hr
  simp[Ci,zR,Bi,newAt,GO]
 have hYg:((H1++[tkO 1 nm m 12,SO nm a c])++[GO [] nm .Vu a c 0])[g]?=some (PO (Ea 1 lx) a c .Vu):=by rw[Cy (by rw[Ll_];omega),Cy yU];exact u.at_
 refine⟨((H1++[tkO 1 nm m 12,SO nm a c])++[GO [] nm .Vu a c 0]).set g (PO (Ea 1 lx) a c (.msl (H1.length+2) 0 0 1 none)),Ea 1 lx,H1.length+2,fun lo=>?_,Gb (Br hYg) _,?_,by omega,by simp;omega,fun k hk hn=>?_⟩
 ·
  exact Tq (n:=0) (by omega) yB (fun d' e=>by subst e;exact r1) u.at_ s1 (fun d' e S=>hwd d' (by omega) S) (fun d' e=>find_nils (by omega) _ nm) rfl rfl zP rfl rfl rfl (rd:=[H1.length+1]) (wt:=[H1.length+2]) (cr:=true) (by simp[Dm,Cn]) hYg lo
 ·
  rw[Ln_ (by omega)];simp
 rw[Ln_ (Ne.symm hn),Cy (by rw[Ll_];omega),Cy (by omega)];exact u.ne k hk hn
theorem screen_run2{d:Nat}(hd:16≤d){H:List U9}{g go gs a c m v l0 c0:Nat}{lx x:D}{nm nm':ByteArray}{rows:List (List D)}(hgo:g<go)(hgs:gs≠g∨x=.Vu)(hH:H[g]?=some (PO lx a c (.msl go v 0 1 none)))(hO:H[go]?=some (GO [] nm' x l0 c0 v))(hF:FL H gs x rows)(xA:(nm'.toList==nm.toList)=false)(hL:SlD 5 (Fj m [(1,nm)]) lx)(hwd:∀d',14≤d'→∀S,Az LP NN d' 92 [.str nm] S=some (.int .u8 0,S,false)) :
  ∃H' lx',(∀lo,Az LP NN d 51 [.ptr g 0 0 0] ⟨H,lo⟩=some (.tup [],⟨H',min lo g⟩,true))∧H'[g]?=some (PO lx' a c (.msl go (v+1) 0 2 none))∧H'[go]?=some (GO [[.str nm',x,.int .i64 (l0:Nat),.int .i64 (c0:Nat)]] nm .Vu a c (v+1))∧H.length≤H'.length∧∀k,k<H.length→k≠g→k≠go→H'[k]?=H[k]?:=by
 have yB:=Br hH
 have zT:=Br hO
 have xS:min H.length g=g:=by omega
 have r1:=I9 (d:=d-1) (kd:=1) (by omega) hH (Fq hL) (texts:=[]) (.nil 1) (by simp) (Q7 1 _) H.length
 rw[xS]at r1
 have u:=Upd.of yB (PO (Ea 1 lx) a c (.msl go v 0 1 none)) [tkO 1 nm m 12,tkO 1 nm m 12]
 generalize hH1:(H.set g (PO (Ea 1 lx) a c (.msl go v 0 1 none))++[tkO 1 nm m 12,tkO 1 nm m 12])=H1 at r1 u
 have s1:SlD 5 [] (Ea 1 lx):=Gx hL
 have xu:=u.len
 have yU:=Br u.at_
 have h1o:H1[go]?=some (GO [] nm' x l0 c0 v):=u.lt (by omega) hO
 have hF1:FL H1 gs x rows:=by
  rcases hF with h | ⟨vs,h1,h2⟩
  ·
   exact .inl h
  refine .inr ⟨vs,h1,u.lt ?_ h2⟩
  rcases hgs with h | h
  ·
   exact h
  rw[h]at h1;cases h1
 have hF2:FL (H1++[tkO 1 nm m 12]) gs x rows:=by
  rcases hF1 with h | ⟨vs,h1,h2⟩
  ·
   exact .inl h
  exact .inr ⟨vs,h1,by rw[Cy (Br h2)];exact h2⟩
 have h2o:(H1++[tkO 1 nm m 12,SO nm a c])[go]?=some (GO [] nm' x l0 c0 v):=by rw[Cy (Br h1o)];exact h1o
 have zP:Ci 36 4 56 0 (.msl go v 0 1 none) (.msl (H1.length+1) 0 0 1 none) ⟨H1++[tkO 1 nm m 12,SO nm a c],g⟩=some (.msl go (v+1) 0 2 none,⟨(H1++[tkO 1 nm m 12,SO nm a c]).set go (GO [[.str nm',x,.int .i64 (l0:Nat),.int .i64 (c0:Nat)]] nm .Vu a c (v+1)),g⟩,true):=by
  have hr:(H1++[tkO 1 nm m 12,SO nm a c])[H1.length+1]?=some (SO nm a c):=Dn H1 _ 1
  have zR:Ei ⟨H1++[tkO 1 nm m 12,SO nm a c],g⟩ 4 (.msl (H1.length+1) 0 0 1 none)=some [[.str nm,.Vu,.int .i64 (a:Nat),.int .i64 (c:Nat)]]:=read_one hr
  have rU:min g go=g:=by omega
  simp only[GO]at h2o
  simp[Ci,zR,Bi,rowsOf,h2o,setAt,GO,rU]
 have hYg:((H1++[tkO 1 nm m 12,SO nm a c]).set go (GO [[.str nm',x,.int .i64 (l0:Nat),.int .i64 (c0:Nat)]] nm .Vu a c (v+1)))[g]?=some (PO (Ea 1 lx) a c (.msl go v 0 1 none)):=by rw[Ln_ (by omega),Cy yU];exact u.at_
 refine⟨((H1++[tkO 1 nm m 12,SO nm a c]).set go (GO [[.str nm',x,.int .i64 (l0:Nat),.int .i64 (c0:Nat)]] nm .Vu a c (v+1))).set g (PO (Ea 1 lx) a c (.msl go (v+1) 0 2 none)),Ea 1 lx,fun lo=>?_,Gb (Br hYg) _,?_,by simp;omega,fun k hk hn qE=>?_⟩
 ·
  exact Tq (n:=1) (by omega) yB (fun d' e=>by subst e;exact r1) u.at_ s1 (fun d' e S=>hwd d' (by omega) S) (fun d' e=>find_one (by omega) (by rw[Cy (Br h1o)];exact h1o) hF2 xA g) rfl rfl zP rfl rfl rfl (rd:=[go,H1.length+1]) (wt:=[go]) (cr:=false) (by simp[Dm,Cn]) hYg lo
 ·
  rw[Ln_ (by omega),Gb (Br h2o)]
 rw[Ln_ (Ne.symm hn),Ln_ (Ne.symm qE),Cy (by omega)];exact u.ne k hk hn
theorem entry_scr{d:Nat}(hd:3≤d){H H1 H2:List U9}{g a0 c0 a c n:Nat}{ox lx0 lx:D}{rows:List (List D)}(hH:H[g]?=some (PO lx0 a0 c0 ox))(hL:SlD 5 rows lx)(hn:n=1)
  (h5:∀d',d=d'+1→Az LP NN d' 50 [.ptr g 0 0 0] ⟨H.set g (PO lx a c ox)++[⟨29,2,[[.int .i64 (a:Nat),.int .i64 (c:Nat)]],0,0,false⟩],g⟩=some (.int .i64 (n:Nat),⟨H1,g⟩,true))
  (h6:∀d',d=d'+1→Az LP NN d' 51 [.ptr g 0 0 0] ⟨H1,g⟩=some (.tup [],⟨H2,g⟩,true)) (lo:Nat) :
  Az LP NN d 29 [.ptr g 0 0 0,lx,.agg [.int .i64 (a:Nat),.int .i64 (c:Nat)]] ⟨H,lo⟩=some (.tup [],⟨H2,min lo g⟩,true):=by
 have yB:=Br hH
 have ieq1:¬g=H.length:=by omega
 have ieq2:¬H.length=g:=by omega
 have wm:¬H.length≤g:=by omega
 have rU:min H.length g=g:=by omega
 have vF:min g g=g:=by omega
 have hSg:∀l x,(H.set g x++l)[g]?=some x:=fun l x=>by rw[Cy (by simpa using yB)];exact Gb yB x
 have hSg2:∀l x y,(H.set g x++l).set g y=H.set g y++l:=fun l x y=>by rw[Jc (by simpa using yB),List.set_set]
 have vU:(((n:Nat):Int)==1)=true:=by rw[beq_iff_eq];omega
 have zy:decide (((n:Nat):Int)≥2)=false:=decide_eq_false (by omega)
 have hl3:decide (((n:Nat):Int)≤49)=true:=decide_eq_true (by omega)
 simp only[PO]at hH h5
 refine Du (F:=F29) rfl (by simp only[LP,Al,Bw,zs,zm,hL.Vi]<;>exact rfl) rfl (by simp only[LP,zf,zm,hL.Vj,Bool.and_false];try rfl) (by simp only[F29,zv]<;>exact rfl) (by omega) ?_
 rintro d rfl
 have xP:=aI hH (aI @Dn (aI @Ec (aI hSg (aI hSg2 (aI hL.Vn (aI hL.val (aI hL.cells (aI rU (aI vF (aI vU (aI zy (hl3))))))))))))
 refine Ad (Rq ?_)
 refine Aa (Af ?_)
 refine Ag (Ey ?_)
 refine Bq rfl rfl (Bq rfl rfl (Bq rfl rfl (xo34 rfl ?_)))
 refine Ji rfl rfl ?_
 refine xo6 rfl rfl ?_
 refine xo6 rfl rfl ?_
 refine Ch (by simp only[zl,zm,Cc,overlay,List.take,List.drop,Cy yB,Jc yB,xP]<;>exact rfl) (by simp only[Bg,zo,zq,hL.Vh]<;>exact rfl) (by simp[show ob 117 7=[true,true,true,false,true,false,true] from rfl,Aw,Cg,Ay,Bo,dj,Au,Am,ieq1]) ?_
 refine Ji rfl rfl ?_
 refine xo6 rfl rfl ?_
 refine xo6 rfl rfl ?_
 refine Ck (by simp only[zl,zm,Cc,overlay,Bw,zs,zc,zf,List.take,List.drop,xP]<;>exact rfl) rfl ?_
 refine Cw (Af ?_)
 refine Ad (Ac rfl (xo0 ?_))
 refine xo2 ?_
 refine Ab (by simp only[zo];exact h5 d rfl) ?_
 refine Ae rfl (Aa (Af ?_))
 refine Aq (Ad (Ac rfl (xo29 ?_)))
 refine Ae rfl (Aa (Af ?_))
 refine Eo ?_
 refine Ar (Ac rfl (Ab (by simp only[zo];exact h6 d rfl) ?_))
 refine Aa (Eb ?_)
 simp only[ze]
 refine⟨_,by simp only[F29,Ak,Bb]<;>exact rfl,?_⟩
 simp[leave,LP,Vl,wm,Al]
theorem entry_fld{d:Nat}(hd:3≤d){H H1 H2:List U9}{g a0 c0 a c n:Nat}{ox lx0 lx:D}{rows:List (List D)}(hH:H[g]?=some (PO lx0 a0 c0 ox))(hL:SlD 5 rows lx)(hn:2≤n∧n≤49)
  (h5:∀d',d=d'+1→Az LP NN d' 50 [.ptr g 0 0 0] ⟨H.set g (PO lx a c ox)++[⟨29,2,[[.int .i64 (a:Nat),.int .i64 (c:Nat)]],0,0,false⟩],g⟩=some (.int .i64 (n:Nat),⟨H1,g⟩,true))
  (h6:∀d',d=d'+1→Az LP NN d' 52 [.ptr g 0 0 0] ⟨H1,g⟩=some (.tup [],⟨H2,g⟩,true)) (lo:Nat) :
  Az LP NN d 29 [.ptr g 0 0 0,lx,.agg [.int .i64 (a:Nat),.int .i64 (c:Nat)]] ⟨H,lo⟩=some (.tup [],⟨H2,min lo g⟩,true):=by
 have yB:=Br hH
 have ieq1:¬g=H.length:=by omega
 have ieq2:¬H.length=g:=by omega
 have wm:¬H.length≤g:=by omega
 have rU:min H.length g=g:=by omega
 have vF:min g g=g:=by omega
 have hSg:∀l x,(H.set g x++l)[g]?=some x:=fun l x=>by rw[Cy (by simpa using yB)];exact Gb yB x
 have hSg2:∀l x y,(H.set g x++l).set g y=H.set g y++l:=fun l x y=>by rw[Jc (by simpa using yB),List.set_set]
 have vU:(((n:Nat):Int)==1)=false:=by rw[beq_eq_false_iff_ne];omega
 have zy:decide (((n:Nat):Int)≥2)=true:=decide_eq_true (by omega)
 have hl3:decide (((n:Nat):Int)≤49)=true:=decide_eq_true (by omega)
 simp only[PO]at hH h5
 refine Du (F:=F29) rfl (by simp only[LP,Al,Bw,zs,zm,hL.Vi]<;>exact rfl) rfl (by simp only[LP,zf,zm,hL.Vj,Bool.and_false];try rfl) (by simp only[F29,zv]<;>exact rfl) (by omega) ?_
 rintro d rfl
 have zz5:=aI hH (aI @Dn (aI @Ec (aI hSg (aI hSg2 (aI hL.Vn (aI hL.val (aI hL.cells (aI rU (aI vF (aI vU (aI zy (hl3))))))))))))
 refine Ad (Rq ?_)
 refine Aa (Af ?_)
 refine Ag (Ey ?_)
 refine Bq rfl rfl (Bq rfl rfl (Bq rfl rfl (Ck (by simp only[zl,zm,zd,Be,List.take,List.drop,zz5]<;>exact rfl) rfl ?_)))
 refine Ji rfl rfl ?_
 refine xo6 rfl rfl ?_
 refine xo6 rfl rfl ?_
 refine Ch (by simp only[zl,zm,Cc,overlay,List.take,List.drop,Cy yB,Jc yB,zz5]<;>exact rfl) (by simp only[Bg,zo,zq,hL.Vh]<;>exact rfl) (by simp[show ob 117 7=[true,true,true,false,true,false,true] from rfl,Aw,Cg,Ay,Bo,dj,Au,Am,ieq1]) ?_
 refine Ji rfl rfl ?_
 refine xo6 rfl rfl ?_
 refine xo6 rfl rfl ?_
 refine Ck (by simp only[zl,zm,Cc,overlay,Bw,zs,zc,zf,List.take,List.drop,zz5]<;>exact rfl) rfl ?_
 refine Cw (Af ?_)
 refine Ad (Ac rfl (xo0 ?_))
 refine xo2 ?_
 refine Ab (by simp only[zo];exact h5 d rfl) ?_
 refine Ae rfl (Aa (Af ?_))
 refine Aq (Ad (Ac rfl (Ab (by simp only[zo,Bh,zz5]<;>exact rfl) ?_)))
 refine Ae rfl (Aa (Af ?_))
 refine Ca ?_
 refine Ad (Ac rfl (Ab (by simp only[zo,Bh,zz5]<;>exact rfl) ?_))
 refine Ae rfl (Ce 0 (b:=true) ?_)
 refine Ai rfl (Ac rfl (Ai rfl (Ab (by simp only[zo,Bh,zz5]<;>exact rfl) ?_)))
 refine xo0 ?_
 refine Ae rfl (Aa (Af ?_))
 refine Eo ?_
 refine Ar (Ac rfl (Ab (by simp only[zo];exact h6 d rfl) ?_))
 refine Aa (Eb ?_)
 simp only[ze]
 refine⟨_,by simp only[F29,Ak,Bb]<;>exact rfl,?_⟩
 simp[leave,LP,Vl,wm,Al]
theorem per_run{d:Nat}(hd:2≤d)(S:St)(k l c:Nat)(s:ByteArray):Az LP NN d 28 [.agg (tkR k s l c)] S=some (.bool ((k:Int)==6),S,false):=by
 refine run_pure (F:=F28) rfl (by simp only[LP,Al,Bw,zs,zm,tkR]<;>exact rfl) rfl (by simp only[LP,zf,zm];try rfl) (by simp only[F28,zv]<;>exact rfl) (by omega) ?_
 rintro d rfl
 refine Ad (Rq ?_)
 refine Ap (Aa (Af ?_))
 refine Ad (xo2 ?_)
 refine xo3 ?_
 refine xo1 ?_
 refine Ae rfl (Aa (Af ?_))
 refine Av ?_
 refine⟨_,by simp only[F28,Ak,Bb,Cb,zg]<;>exact rfl,?_⟩
 simp only[Dv,leave,zs,zf,zk]
theorem posR_at{m:Nat}{l:List (Nat × ByteArray)}{i:Nat}(h:i<l.length):(Fj m l)[i]?=some (tkR l[i].1 l[i].2 (m+i) 12):=by simp[Fj,h]
theorem index27_run{d:Nat}(hd:4≤d)(S:St){x:D}{m:Nat}{l:List (Nat × ByteArray)}(hS:SlD 5 (Fj m l) x)(hl:l.length≤1000000) :
  Az LP NN d 27 [x,.fn 28 []] S=some (.int .i64 (idxI (fun x:Nat × ByteArray=>((x.1:Int)==6)) l),S,false):=by
 refine run_pure (F:=F27) rfl (by simp only[LP,Al,zs,hS.Vi]<;>exact rfl) rfl (by simp only[LP,zf,zm,hS.Vj];try rfl) (by simp only[F27,zv]<;>exact rfl) (by omega) ?_
 rintro d rfl
 refine Ad (Ap (Aa (Af ?_)))
 refine Ag (Ad (Ac rfl (Ab (by simp only[zo,hS.len,Fh]<;>exact rfl) ?_)))
 refine Ap (Aa (Af ?_))
 refine Aq (Cz (fun n env S'=>∃(i:Nat) (u3 u6 u7:D),i≤l.length∧n=l.length-i∧((l.take i).any fun x=>((x.1:Int)==6))=false∧S'=⟨[],0⟩∧env=[x,.fn 28 [],.int .i64 0,u3,.int .i64 l.length,.int .i64 i,u6,u7]) (l.length) (by omega) (⟨0,_,_,_,by omega,by omega,by simp,rfl,rfl⟩) ?_)
 rintro n env S' ⟨i,u3,u6,u7,hi,rfl,vR,rfl,rfl⟩
 have h0:(0:Int)≤(i:Int):=by omega
 refine Ad (xo1 ?_)
 refine Aa (Af ?_)
 refine Ag ?_
 refine Bv (by simp only[opd,zv]<;>exact rfl) (fun yG=>?_) (fun yG=>?_)
 ·
  have xu:i<l.length:=by have:=of_decide_eq_true yG;omega
  have hw:=Dx i (by omega)
  have hx:=Lg xu
  have yN:=fun (S:St)=>hS.iaddrN S .i64 (posR_at (m:=m) xu)
  refine Aj (Bd rfl (Ag (Aq (Ad (Ac rfl (Ae rfl (Aa (Af ?_))))))))
  refine Ad (Ac rfl (Ac rfl (Ac rfl (Ab (by simp only[zl,zm,yN,tkR]<;>exact rfl) ?_))))
  refine xo3 ?_
  refine Ab (by simp only[zo];exact per_run (by omega) _ _ _ _ _) ?_
  refine Aa (Af ?_)
  refine Bv (by simp only[opd,zv]<;>exact rfl) (fun yA=>?_) (fun yA=>?_)
  ·
   refine Ad (Ac rfl (Ae rfl (Aa (Af ?_))))
   refine Av (G9 (D5 (Nw (G9 (D5 ?_)))))
   refine⟨_,by simp only[F27,Ak,Bb,Cb,zg]<;>exact rfl,?_⟩
   rw[idxI_at (p:=fun x:Nat × ByteArray=>((x.1:Int)==6)) xu yA vR];rfl
  refine Aj (Eb (Bd rfl (Ar (Ab (by simp only[zo,Bh,hw]<;>exact rfl) ?_))))
  refine Ae rfl (Aa (Fb (by simp only[ze]<;>exact rfl) ?_))
  exact⟨l.length-(i+1),by omega,i+1,_,_,_,by omega,rfl,any_take_succ xu vR yA,rfl,rfl⟩
 have zF:l.length≤i:=by have:=of_decide_eq_false yG;omega
 refine Cf (E5 (Fp (Fa (Bd rfl (Ad (Ap (Aa (Af ?_))))))))
 refine Av ?_
 refine⟨_,by simp only[F27,Ak,Bb,Cb,zg]<;>exact rfl,?_⟩
 rw[List.take_of_length_le zF]at vR
 rw[Sg vR];rfl
theorem idxI_app{α:Type}{p:α→Bool}{e L:List α}{t:α}(he:e.any p=false)(ht:p t=true):idxI p (e++t::L)=(e.length:Nat):=by
 refine idxI_at (by simp) (by simp[ht]) (by simp[he])
def takeD (n:Nat):D→D
 | .sl s rows cap=>.sl s (rows.take n) cap
 | x=>x
theorem SlD.take{sz:Nat}{rows:List (List D)}{x:D}(h:SlD sz rows x)(n:Nat):SlD sz (rows.take n) (takeD n x):=by
 rcases h with⟨rfl,rfl⟩ | ⟨c,rfl⟩
 ·
  simp[takeD,SlD.nil]
 exact .of _ _ _
theorem SlD.slice_hi{sz:Nat}{rows:List (List D)}{x:D}(h:SlD sz rows x)(S:St)(k:IntKind){n:Nat}(hn:n≤rows.length):Ep S sz x none (some (.int k n)) none=some (takeD n x):=by
 rcases h with⟨rfl,rfl⟩ | ⟨c,rfl⟩
 ·
  simp only[List.length_nil,Nat.le_zero]at hn
  subst hn
  simp[Ep,Dj,F3,Et,takeD]
 cases c<;>simp[Ep,Dj,F3,Et,takeD,hn]
theorem posR_take(m n:Nat)(l:List (Nat × ByteArray)):(Fj m l).take n=Fj m (l.take n):=by
 refine List.ext_getElem? fun i=>?_
 rw[List.getElem?_take]
 simp only[Fj,List.getElem?_mapIdx,List.getElem?_take]
 split<;>rfl
theorem posR_drop(m n:Nat)(l:List (Nat × ByteArray)):(Fj m l).drop n=Fj (m+n) (l.drop n):=by
 refine List.ext_getElem? fun i=>?_
 rw[List.getElem?_drop]
 simp only[Fj,List.getElem?_mapIdx,List.getElem?_drop]
 cases l[n+i]?<;>simp[Nat.add_assoc]
def RW (l:List FM) (rows:List (List D)):Prop:=∃ps:List Nat,ps.length=l.length∧rows=List.zipWith Ia l ps
theorem RW.nil:RW [] []:=⟨[],rfl,rfl⟩
theorem RW.snoc{l:List FM}{rows:List (List D)}(h:RW l rows)(f:FM)(p:Nat):RW (l++[f]) (rows++[Ia f p]):=by
 obtain⟨ps,h1,rfl⟩:=h
 exact⟨ps++[p],by simp[h1],by rw[List.zipWith_append (by omega)];rfl⟩
theorem RW.len{l:List FM}{rows:List (List D)}(h:RW l rows):rows.length=l.length:=by
 obtain⟨ps,h1,rfl⟩:=h
 simp[h1]
theorem RW.at_{l:List FM}{rows:List (List D)}(h:RW l rows){i:Nat}(hi:i<l.length):∃p,rows[i]?=some (Ia l[i] p):=by
 obtain⟨ps,h1,rfl⟩:=h
 exact⟨ps[i]'(by omega),by simp[h1,hi]⟩
structure P0 (B H:List U9):Prop where
 o0:H[B.length]?=some ⟨26,1,[[.Vu]],0,0,false⟩
 o1:H[B.length+1]?=some ⟨31,3,[[.int .i64 0,.int .i64 0,.int .i64 0]],0,0,false⟩
 fr:∀k,k<B.length→H[k]?=B[k]?
theorem P0.keep{B H H':List U9}(h:P0 B H)(hk:∀k,k<B.length+2→H'[k]?=H[k]?):P0 B H':=⟨(hk _ (by omega)).trans h.o0,(hk _ (by omega)).trans h.o1,fun k hl=>(hk k (by omega)).trans (h.fr k hl)⟩
def nmA:ByteArray:=⟨#[65]⟩
def nmB:ByteArray:=⟨#[66]⟩
def PA (B H:List U9) (l:List FM):Prop:=∃lx a c go gs x rows,H[B.length+2]?=some (PO lx a c (.msl go 0 0 1 none))∧H[go]?=some (GO [] nmA x 1 12 0)∧FL H gs x rows∧RW l rows∧B.length+2<go∧B.length+2<gs∧gs≠go
def PB (B H:List U9) (la l:List FM):Prop:=∃lx a c go ga gs xa x lb ra rows,H[B.length+2]?=some (PO lx a c (.msl go 1 0 2 none))∧H[go]?=some (GO [[.str nmA,xa,.int .i64 ((1:Nat):Int),.int .i64 ((12:Nat):Int)]] nmB x lb 12 1)∧FL H ga xa ra∧FL H gs x rows∧RW la ra∧RW l rows∧B.length+2<go∧B.length+2<ga∧B.length+2<gs∧gs≠go∧ga≠go∧ga≠gs
inductive PI (B:List U9) (a b:List FM):List (Nat × ByteArray)→List U9→Prop
 | start {H:List U9}:P0 B H→H[B.length+2]?=some (PO .Vu 0 0 .Vu)→PI B a b (Iu a b) H
 | first {H:List U9} {i:Nat}:P0 B H→i≤a.length→PA B H (a.take i)→PI B a b (Ib (a.drop i)++Ip nmB++Ib b) H
 | second {H:List U9} {i:Nat}:P0 B H→i≤b.length→PB B H a (b.take i)→PI B a b (Ib (b.drop i)) H
theorem tokL_any(f:FM):(Kr f).any (fun x:Nat × ByteArray=>((x.1:Int)==6))=false:=by
 unfold Kr
 split<;>split<;>(try split)<;>rfl
theorem Sy(f:FM)(l:List FM):Ib (f::l)=Kr f++U2::Ib l:=by simp[Ib]
theorem Sz{l:List FM}{i:Nat}(h:i<l.length):l.drop i=l[i]::l.drop (i+1):=List.drop_eq_getElem_cons h
theorem take_e{m:Nat}{e L:List (Nat × ByteArray)}{t:Nat × ByteArray}{x:D}(hx:SlD 5 (Fj m (e++t::L)) x):SlD 5 (Fj m e) (takeD e.length x):=by
 have h:=hx.take e.length
 rwa [posR_take,List.take_left']at h
 rfl
theorem O8{d:Nat}(hd:7≤d){H:List U9}{g m a0 c0 n:Nat}{lx0 lx ox:D}{T:List (Nat × ByteArray)}(hn:n<100)(hH:H[g]?=some (PO lx0 a0 c0 ox))(hL:SlD 5 (Fj m ((2,Gt n)::T)) lx) :
  ∃H1 lx1,Az LP NN d 50 [.ptr g 0 0 0] ⟨H.set g (PO lx m 12 ox)++[⟨29,2,[[.int .i64 (m:Nat),.int .i64 ((12:Nat):Int)]],0,0,false⟩],g⟩=some (.int .i64 (n:Nat),⟨H1,g⟩,true)∧H1[g]?=some (PO lx1 m 12 ox)∧SlD 5 (Fj (m+1) T) lx1∧H.length≤H1.length∧∀k,k<H.length→k≠g→H1[k]?=H[k]?:=by
 have u1:=Upd.of (Br hH) (PO lx m 12 ox) [⟨29,2,[[.int .i64 (m:Nat),.int .i64 ((12:Nat):Int)]],0,0,false⟩]
 have r:=number_at hd hn u1.at_ (Fq hL) g
 rw[Nat.min_self]at r
 have u:=u1.trans (Upd.of (Br u1.at_) (PO (Ea 1 lx) m 12 ox) [tkO 2 (Gt n) m 12,tkO 2 (Gt n) m 12,tkO 2 (Gt n) m 12])
 exact⟨_,_,r,u.at_,Gx hL,u.len,u.ne⟩
theorem FL.keep{H H':List U9}{gs:Nat}{x:D}{rows:List (List D)}(h:FL H gs x rows)(hk:gs<H.length→H'[gs]?=H[gs]?):FL H' gs x rows:=by
 rcases h with h | ⟨vs,h1,h2⟩
 ·
  exact .inl h
 exact .inr ⟨vs,h1,(hk (Br h2)).trans h2⟩
theorem PI_step{d:Nat}(hd:20≤d){a b:List FM}(ha:a.length≤20)(hb:b.length≤20){L:List (Nat × ByteArray)}{B H:List U9}(h:PI B a b L H)(hL:L≠[]){x:D}{m:Nat}(hm:L=Iu a b→m=1)(hx:SlD 5 (Fj m L) x) :
  ∃e L' H',L=e++U2::L'∧e.any (fun x:Nat × ByteArray=>((x.1:Int)==6))=false∧Az LP NN d 29 [.ptr (B.length+2) 0 0 0,takeD e.length x,.agg [.int .i64 (m:Nat),.int .i64 ((12:Nat):Int)]] ⟨H,B.length⟩=some (.tup [],⟨H',B.length⟩,true)∧PI B a b L' H'∧e≠[]:=by
 have xu:∀{H:List U9},(∃o,H[B.length+2]?=some o)→B.length+2<H.length:=fun ⟨_,h⟩=>Br h
 have xS:min B.length (B.length+2)=B.length:=by omega
 cases h with
 | start h0 h2 =>
  have:=hm rfl
  subst this
  have eL:Iu a b=[(2,Gt 1),(1,nmA)]++U2::(Ib a++Ip nmB++Ib b):=by simp[Iu,Ip,nmA,nmB]
  rw[eL]at hx
  have se:=take_e hx
  obtain⟨H1,lx1,r1,g1,s1,l1,n1⟩:=O8 (d:=d-1) (by omega) (by omega) h2 se
  obtain⟨H',lx',go,r2,g2,o2,hgo,l2,n2⟩:=screen_run1 (d:=d-1) (by omega) g1 s1 (fun d' hd' S=>wordA_run (by omega) S)
  have:=r2 (B.length+2)
  rw[Nat.min_self]at this
  have hw:=xu ⟨_,g1⟩
  have h2l:=xu ⟨_,h2⟩
  refine⟨_,_,H',eL,rfl,by have:=entry_scr (d:=d) (by omega) h2 se rfl (fun d' e=>by subst e;exact r1) (fun d' e=>by subst e;exact this) B.length;rwa [xS]at this,?_,by simp⟩
  have:=PI.first (B:=B) (a:=a) (b:=b) (i:=0) (h0.keep fun k hk=>by rw[n2 k (by omega) (by omega),n1 k (by omega) (by omega)]) (Nat.zero_le _) ⟨lx',1,12,go,go+1,.Vu,[],g2,o2,.inl ⟨rfl,rfl⟩,by rw[List.take_zero];exact .nil,by omega,by omega,by omega⟩
  rwa [List.drop_zero]at this
 | @first _ i h0 hi hA =>
  obtain⟨lx,a0,c0,go,gs,xf,rows,h2,ho,hF,hR,hgo,hgs,xA⟩:=hA
  have h2l:=xu ⟨_,h2⟩
  have zT:=Br ho
  by_cases yN:i<a.length
  ·
   have eL:Ib (a.drop i)++Ip nmB++Ib b=Kr a[i]++U2::(Ib (a.drop (i+1))++Ip nmB++Ib b):=by
    rw[Sz yN,Sy];simp
   rw[eL]at hx
   have se:=take_e hx
   have se':=se
   rw[U4]at se'
   obtain⟨H1,lx1,r1,g1,s1,l1,n1⟩:=O8 (d:=d-1) (by omega) (by omega) h2 se'
   have yI:=hR.len
   rw[List.length_take]at yI
   obtain⟨H',lx',x',gs',p,r2,g2,o2,hF2,wW,l2,n2⟩:=field_run (d:=d-1) (by omega) (rs:=[]) hgo hgs xA (by simp) (by omega) g1 ((n1 go zT (by omega)).trans ho) (hF.keep fun h=>n1 gs h (by omega)) s1
   have:=r2 (B.length+2)
   rw[Nat.min_self]at this
   refine⟨_,_,H',eL,tokL_any _,by have:=entry_fld (d:=d) (n:=5) (by omega) h2 se (by omega) (fun d' e=>by subst e;exact r1) (fun d' e=>by subst e;exact this) B.length;rwa [xS]at this,?_,by rw[U4];simp⟩
   refine PI.first (B:=B) (i:=i+1) (h0.keep fun k hk=>?_) yN ⟨lx',m,12,go,gs',x',rows++[Ia a[i] p],g2,o2,hF2,?_,hgo,?_,?_⟩
   ·
    rw[n2 k (by omega) (by omega) (by omega) (.inl (by omega)),n1 k (by omega) (by omega)]
   ·
    rw[List.take_succ_eq_append_getElem yN];exact hR.snoc _ _
   ·
    rcases wW with e | e<;>omega
   rcases wW with e | e<;>omega
  have hia':i=a.length:=by omega
  subst hia'
  have eL:Ib (a.drop a.length)++Ip nmB++Ib b=[(2,Gt 1),(1,nmB)]++U2::Ib b:=by simp[Ip,Ib]
  rw[eL]at hx
  have se:=take_e hx
  obtain⟨H1,lx1,r1,g1,s1,l1,n1⟩:=O8 (d:=d-1) (by omega) (by omega) h2 se
  obtain⟨H',lx',r2,g2,o2,l2,n2⟩:=screen_run2 (d:=d-1) (by omega) hgo (.inl (by omega)) g1 ((n1 go zT (by omega)).trans ho) (hF.keep fun h=>n1 gs h (by omega)) (by decide +kernel) s1 (fun d' hd' S=>wordB_run (by omega) S)
  have:=r2 (B.length+2)
  rw[Nat.min_self]at this
  refine⟨_,_,H',eL,rfl,by have:=entry_scr (d:=d) (by omega) h2 se rfl (fun d' e=>by subst e;exact r1) (fun d' e=>by subst e;exact this) B.length;rwa [xS]at this,?_,by simp⟩
  rw[List.take_length]at hR
  have:=PI.second (B:=B) (a:=a) (b:=b) (i:=0) (h0.keep fun k hk=>by rw[n2 k (by omega) (by omega) (by omega),n1 k (by omega) (by omega)]) (Nat.zero_le _) ⟨lx',m,12,go,gs,go+gs+3,xf,.Vu,m,rows,[],g2,o2,hF.keep fun h=>by rw[n2 gs (by omega) (by omega) xA,n1 gs h (by omega)],.inl ⟨rfl,rfl⟩,hR,by rw[List.take_zero];exact .nil,hgo,hgs,by omega,by omega,xA,by omega⟩
  rwa [List.drop_zero]at this
 | @second _ i h0 hi hB =>
  obtain⟨lx,a0,c0,go,ga,gs,xa,xf,lb,ra,rows,h2,ho,hFa,hF,hRa,hR,hgo,hga,hgs,xA,kY,wm⟩:=hB
  have h2l:=xu ⟨_,h2⟩
  have zT:=Br ho
  have qR:i<b.length:=by
   refine Nat.lt_of_not_le fun h=>hL ?_
   rw[List.drop_eq_nil_of_le h];rfl
  have eL:Ib (b.drop i)=Kr b[i]++U2::Ib (b.drop (i+1)):=by rw[Sz qR,Sy]
  rw[eL]at hx
  have se:=take_e hx
  have se':=se
  rw[U4]at se'
  obtain⟨H1,lx1,r1,g1,s1,l1,n1⟩:=O8 (d:=d-1) (by omega) (by omega) h2 se'
  have yI:=hR.len
  rw[List.length_take]at yI
  obtain⟨H',lx',x',gs',p,r2,g2,o2,hF2,wW,l2,n2⟩:=field_run (d:=d-1) (by omega) (rs:=[[.str nmA,xa,.int .i64 ((1:Nat):Int),.int .i64 ((12:Nat):Int)]]) hgo hgs xA (by simp) (by omega) g1 ((n1 go zT (by omega)).trans ho) (hF.keep fun h=>n1 gs h (by omega)) s1
  have:=r2 (B.length+2)
  rw[Nat.min_self]at this
  refine⟨_,_,H',eL,tokL_any _,by have:=entry_fld (d:=d) (n:=5) (by omega) h2 se (by omega) (fun d' e=>by subst e;exact r1) (fun d' e=>by subst e;exact this) B.length;rwa [xS]at this,?_,by rw[U4];simp⟩
  have hRs:RW (b.take (i+1)) (rows++[Ia b[i] p]):=by rw[List.take_succ_eq_append_getElem qR];exact hR.snoc _ _
  have h0':P0 B H':=h0.keep fun k hk=>by rw[n2 k (by omega) (by omega) (by omega) (.inl (by omega)),n1 k (by omega) (by omega)]
  have qW:B.length+2<gs'∧gs'≠go:=by rcases wW with e | e<;>omega
  rcases hFa with⟨e1,e2⟩ | ⟨vs,e1,e2⟩
  ·
   exact PI.second (B:=B) (i:=i+1) h0' qR ⟨lx',m,12,go,gs'+go+1,gs',xa,x',lb,ra,_,g2,o2,.inl ⟨e1,e2⟩,hF2,hRa,hRs,hgo,by omega,qW.1,qW.2,by omega,by omega⟩
  have hal:=Br e2
  refine PI.second (B:=B) (i:=i+1) h0' qR ⟨lx',m,12,go,ga,gs',xa,x',lb,ra,_,g2,o2,.inr ⟨vs,e1,?_⟩,hF2,hRa,hRs,hgo,hga,qW.1,qW.2,kY,?_⟩
  ·
   rw[n2 ga (by omega) (by omega) kY (.inl wm),n1 ga hal (by omega)];exact e2
  rcases wW with e | e<;>omega
def Da:D→D
 | .msl g v lo n _=>.msl g v lo n (some n)
 | x=>x
theorem FL.clip_val{H:List U9}{gs:Nat}{x:D}{rows:List (List D)}(h:FL H gs x rows):(Da x).val=true∧(Da x).cells=[Da x]:=by
 rcases h with⟨rfl,rfl⟩ | ⟨vs,rfl,_⟩<;>exact⟨rfl,rfl⟩
theorem clip30_nil{d:Nat}(hd:1≤d)(H:List U9)(lo:Nat):Az LP NN d 30 [.Vu] ⟨H,lo⟩=some (.Vu,⟨H,lo⟩,false):=by
 refine Du (F:=F30) rfl (by simp only[LP,Al,zs]<;>exact rfl) rfl (by simp only[LP,zf,zm];try rfl) (by simp only[F30,zv]<;>exact rfl) (by omega) ?_
 rintro d rfl
 refine Ad (Ap (Aa (Af ?_)))
 refine Ad (Ac rfl (Ac rfl (Ab (by simp only[zo,K8]<;>exact rfl) ?_)))
 refine Ac rfl (Ab (by simp only[zo,K8]<;>exact rfl) ?_)
 refine Ab (by simp only[zl,Cm,Ep,Dj,F3,Et]<;>exact rfl) ?_
 refine Ae rfl (Aa (Af ?_))
 refine Av ?_
 refine⟨_,by simp only[F30,Ak,Bb,Cb,zg]<;>exact rfl,?_⟩
 simp[leave,LP,Vl,Vi,snap,D.Vk,D.Vj,D.free,D.Vo]
theorem clip30_msl{d:Nat}(hd:1≤d){H:List U9}{gs vs:Nat}{rows:List (List D)}(h2:H[gs]?=some ⟨48,16,rows,vs,0,true⟩)(lo:Nat):Az LP NN d 30 [.msl gs vs 0 rows.length none] ⟨H,lo⟩=some (.msl gs vs 0 rows.length (some rows.length),⟨H,lo⟩,false):=by
 have hb:∀(n:Nat),(0:Int)≤(n:Int):=fun n=>by omega
 refine Du (F:=F30) rfl (by simp only[LP,Al,zs,zm,h2,show ((0:Nat)=1)=False from by decide,show ((0:Nat)=2)=False from by decide,and_false,or_self]<;>exact rfl) rfl (by simp only[LP,zf,zm,Bool.and_false];try rfl) (by simp only[F30,zv]<;>exact rfl) (by omega) ?_
 rintro d rfl
 refine Ad (Ap (Aa (Af ?_)))
 refine Ad (Ac rfl (Ac rfl (Nb ?_)))
 refine Ac rfl (Nb ?_)
 refine Ab (by simp only[zl,zm,Cm,Ep,Gz,Dj,F3,Et,h2,hb,Int.toNat_natCast,Nat.zero_le,Nat.le_refl,Nat.sub_zero]<;>exact rfl) ?_
 refine Ae rfl (Aa (Af ?_))
 refine Av ?_
 refine⟨_,by simp only[F30,Ak,Bb,Cb,zg]<;>exact rfl,?_⟩
 simp[leave,LP,Vl,Vi,snap,D.Vk,D.Vj,D.free,D.Vo,h2]
theorem clip30_run{d:Nat}(hd:1≤d){H:List U9}{gs:Nat}{x:D}{rows:List (List D)}(h:FL H gs x rows)(lo:Nat):Az LP NN d 30 [x] ⟨H,lo⟩=some (Da x,⟨H,lo⟩,false):=by
 rcases h with⟨rfl,rfl⟩ | ⟨vs,rfl,h2⟩
 ·
  exact clip30_nil hd H lo
 exact clip30_msl hd h2 lo
theorem clip31_run{d:Nat}(hd:1≤d){H:List U9}{go v:Nat}{rows:List (List D)}(h2:H[go]?=some ⟨36,4,rows,v,0,true⟩)(lo:Nat):Az LP NN d 31 [.msl go v 0 2 none] ⟨H,lo⟩=some (.msl go v 0 2 (some 2),⟨H,lo⟩,false):=by
 refine Du (F:=F31) rfl (by simp only[LP,Al,zs,zm,h2,show ((0:Nat)=1)=False from by decide,show ((0:Nat)=2)=False from by decide,and_false,or_self]<;>exact rfl) rfl (by simp only[LP,zf,zm,Bool.and_false];try rfl) (by simp only[F31,zv]<;>exact rfl) (by omega) ?_
 rintro d rfl
 refine Ad (Ap (Aa (Af ?_)))
 refine Ad (Ac rfl (Ac rfl (Nb ?_)))
 refine Ac rfl (Nb ?_)
 refine Ab (by simp only[zl,zm,Cm,Ep,Gz,Dj,F3,Et,h2]<;>exact rfl) ?_
 refine Ae rfl (Aa (Af ?_))
 refine Av ?_
 refine⟨_,by simp only[F31,Ak,Bb,Cb,zg]<;>exact rfl,?_⟩
 simp[leave,LP,Vl,Vi,snap,D.Vk,D.Vj,D.free,D.Vo,h2]
structure PF (a b:List FM) (B H:List U9) (go ga gs:Nat) (xa xb:D) (lb:Nat) (ra rb:List (List D)):Prop where
 len:B.length≤H.length
 fr:∀k,k<B.length→H[k]?=B[k]?
 ho:H[go]?=some ⟨36,4,[[.str nmA,Da xa,.int .i64 ((1:Nat):Int),.int .i64 ((12:Nat):Int)],[.str nmB,Da xb,.int .i64 ((lb:Nat):Int),.int .i64 ((12:Nat):Int)]],1,0,true⟩
 fa:FL H ga xa ra
 fb:FL H gs xb rb
 wa:RW a ra
 wb:RW b rb
 hgo:B.length≤go
 hga:B.length≤ga
 hgs:B.length≤gs
 ne:ga≠go∧gs≠go∧ga≠gs
theorem parse_all{d:Nat}(hd:22≤d)(B:List U9)(lo:Nat)(a b:List FM)(hla:a.length≤20)(hlb:b.length≤20):∃r,(fun r=>∃H' go ga gs xa xb lb ra rb,r=(.tup [.msl go 1 0 2 (some 2),.agg [.int .i64 0,.int .i64 0,.int .i64 0]],⟨H',min lo B.length⟩,true)∧PF a b B H' go ga gs xa xb lb ra rb) r∧Az LP NN d 10 [.sl 5 (Fj 1 (Iu a b)) none] ⟨B,lo⟩=some r:=by
 have wL:(Iu a b).length≤700:=by
  have h1:=Lf a
  have h2:=Lf b
  simp only[Iu,Ip,Ll_,List.length_cons,List.length_nil];omega
 refine run_atD_ex (F:=F10) (P:=fun r=>∃H' go ga gs xa xb lb ra rb,r=(.tup [.msl go 1 0 2 (some 2),.agg [.int .i64 0,.int .i64 0,.int .i64 0]],⟨H',min lo B.length⟩,true)∧PF a b B H' go ga gs xa xb lb ra rb) rfl (by simp only[LP,Al,zs]<;>exact rfl) rfl (by simp only[LP,zf,zm];try rfl) (by simp only[F10,zv]<;>exact rfl) (by omega) ?_
 rintro d rfl
 refine Ad (xo8 ?_)
 refine xo8 ?_
 refine Aa (Af ?_)
 refine Ag (Ad (xo0 ?_))
 refine Aa (Af ?_)
 refine cw_dfr (by simp only[opd,zv]<;>exact rfl) (by simp only[List.cons_append,List.nil_append]<;>exact rfl) ?_
 refine Bd rfl (Ad (Ab (by simp only[zo,Hf,Nat.reduceAdd,zm]<;>exact rfl) ?_))
 refine Rq ?_
 refine Ae rfl (Aa (Af ?_))
 refine Ag (Aq (Cz (fun n env S'=>∃(L:List (Nat × ByteArray)) (H:List U9) (m:Nat) (x0 u4 u5 u7 u8 u9 u10 u11:D),S'=⟨H,B.length⟩∧env=[x0,.ptr B.length 0 0 0,.ptr (B.length+1) 0 0 0,.ptr (B.length+2) 0 0 0,u4,u5,.fn 26 [.ptr B.length 0 0 0,.ptr (B.length+1) 0 0 0],u7,u8,u9,u10,u11,.fn 26 [.ptr B.length 0 0 0,.ptr (B.length+1) 0 0 0]]∧PI B a b L H∧SlD 5 (Fj m L) x0∧(L=Iu a b→m=1)∧L.length≤(Iu a b).length∧n=L.length) ((Iu a b).length) (by omega) (⟨Iu a b,_,1,_,_,_,_,_,_,_,_,rfl,rfl,.start ⟨Dn B _ 0,Dn B _ 1,fun k hk=>Cy hk⟩ (Dn B _ 2),.of _ _ _,fun _=>rfl,by omega,rfl⟩) ?_))
 rintro n env S' ⟨L,H,m,x0,u4,u5,u7,u8,u9,u10,u11,rfl,rfl,hPI,hx,qP,yD,rfl⟩
 have yH:=hx.len
 rw[Fh]at yH
 refine Ag (Ad (Ac rfl (Ab (by simp only[zo,yH]<;>exact rfl) ?_)))
 refine xo1 ?_
 refine Aa (Af ?_)
 refine Bv (by simp only[opd,zv]<;>exact rfl) (fun yG=>?_) (fun yG=>?_)
 ·
  have hL0:L≠[]:=by
   intro e
   have:=of_decide_eq_true yG
   rw[e]at this;simp at this
  obtain⟨e,L',H',eL,he,hr,hPI',xA⟩:=PI_step (d:=d) (by omega) hla hlb hPI hL0 qP hx
  have hel:L.length=e.length+(L'.length+1):=by rw[eL];simp
  have hlt':L'.length<L.length:=by omega
  have hi:Az LP NN d 27 [x0,.fn 28 []] ⟨H,B.length⟩=some (.int .i64 (e.length:Nat),⟨H,B.length⟩,false):=by
   rw[index27_run (d:=d) (by omega) _ hx (by omega),eL,idxI_app (t:=U2) he rfl]
  have hneg:decide (((e.length:Nat):Int)<0)=false:=decide_eq_false (by omega)
  have wL:=fun S=>hx.slice_hi S .i64 (n:=e.length) (by rw[Fh];omega)
  have h00:0<L.length:=by omega
  have yN:=fun S=>hx.Vs S .i64 (i:=0) (by omega) (posR_at (m:=m) h00)
  have hw:=Dx e.length (by omega)
  have hsd:=fun S=>hx.slice_lo S .i64 (n:=e.length+1) (by rw[Fh];omega)
  have hx':SlD 5 (Fj (m+(e.length+1)) L') (Ea (e.length+1) x0):=by
   have h:=hx.drop (e.length+1)
   rw[posR_drop,eL,show (e++U2::L').drop (e.length+1)=L' from by rw[List.drop_append];simp]at h
   exact h
  simp only[Nat.add_zero]at yN
  have yw:=aI hneg (aI wL (aI yN (aI hw (hsd))))
  refine Aj (Bd rfl (Aq (Ad (Ac rfl (Ab (by simp only[zo];exact hi) ?_)))))
  refine Ae rfl (Aa (Af ?_))
  refine Ag (Ad (Ac rfl (Qj ?_)))
  refine Aa (Af ?_)
  refine Ca ?_
  refine Aj (Bd rfl (Ag (Ey ?_)))
  refine Bq rfl rfl (Bq rfl rfl (Bq rfl rfl (Ch (by simp only[opd,zv,Ba,aop,LOp.loud,lop,if_true,Cm,Option.map_some,yw]<;>exact rfl) (by simp only[Bg,zo,hx.fps]<;>exact rfl) rfl ?_)))
  refine Bq rfl rfl (Ch (by simp only[zl,zm,tkR,yw]<;>exact rfl) (by simp only[Bg,zo,hx.fpi]<;>exact rfl) rfl ?_)
  refine Bp (by simp only[zo,F5,zm]<;>exact rfl) rfl rfl ?_
  refine Iq rfl ?_
  refine Ch (by simp only[zo];exact hr) (by simp only[Bg,zo,zq]<;>exact rfl) (by first | rfl | (generalize Vh (Da xa)=t;cases t<;>rfl) | (generalize Vh (Da xf)=t;cases t<;>rfl) | (simp[show ob 255 8=[true,true,true,true,true,true,true,true] from rfl,Vh,Bc,Aw,Cg,Ay,Bo,dj,Au,Am,Bn,Bj,ieq1,ieq2];done)) ?_
  refine Cw (Af ?_)
  refine Ar (Ac rfl (Ac rfl (Qj ?_)))
  refine Ab (by simp only[opd,zv,Ba,aop,LOp.loud,lop,if_true,Cm,Option.map_some,yw]<;>exact rfl) ?_
  refine Ae rfl (Aa (Eb (Fb (by simp only[ze]<;>exact rfl) ?_)))
  exact⟨_,hlt',L',H',_,_,_,_,_,_,_,_,_,rfl,rfl,hPI',hx',fun e=>absurd (congrArg List.length e) (by omega),by omega,rfl⟩
 have hL0:L=[]:=by
  have:=of_decide_eq_false yG
  exact List.length_eq_zero_iff.1 (by omega)
 obtain⟨h0,hB⟩:P0 B H∧PB B H a b:=by
  cases hPI with
  | start=>simp[Iu,Ip]at hL0
  | first=>simp[Ip]at hL0
  | @second _ i h0 hi hB =>
   have hbi:b.length≤i:=by
    refine Nat.le_of_not_lt fun h=>?_
    rw[Sz h,Sy]at hL0
    simp at hL0
   rw[List.take_of_length_le hbi]at hB
   exact⟨h0,hB⟩
 obtain⟨lx,a0,c0,go,ga,gs,xa,xf,lb,ra,rows,h2,ho,hFa,hF,hRa,hR,hgo,hga,hgs,hneo,kY,wm⟩:=hB
 have h2l:=Br h2
 have zT:=Br ho
 obtain⟨o0,o1,ofr⟩:=h0
 have xZ:=clip30_run (d:=d) (by omega) hFa B.length
 have hF1:∀x,FL (H.set go x) gs xf rows:=fun x=>hF.keep fun h=>by rw[Ln_ (by omega)]
 have zD:=fun x=>clip30_run (d:=d) (by omega) (hF1 x) B.length
 obtain⟨v1,v2⟩:=hFa.clip_val
 obtain⟨v3,v4⟩:=hF.clip_val
 have ieq1:¬go=B.length+2:=by omega
 have ieq2:¬B.length+2=go:=by omega
 have n2:(go=B.length+2)=False:=eq_false (by omega)
 have n0:(go=B.length)=False:=eq_false (by omega)
 have n1:(go=B.length+1)=False:=eq_false (by omega)
 have n3:(B.length=B.length+1)=False:=eq_false (by omega)
 have l0:(go<H.length)=True:=eq_true zT
 have l1:(B.length<H.length)=True:=eq_true (by omega)
 have l2:(B.length+1<H.length)=True:=eq_true (by omega)
 have m1:min B.length go=B.length:=by omega
 simp only[PO,GO,List.cons_append,List.nil_append]at h2 ho
 have xQ:=aI h2 (aI ho (aI @List.length_set.{0} (@List.set_set.{0})))
 refine Cf (E5 (Fp (Fa (Bd rfl (Ag (Ad (Ac rfl (xo0 ?_))))))))
 refine xo2 ?_
 refine Na ?_
 refine Nb ?_
 refine Ap (Aa (Af ?_))
 refine Aq (cw_unroll (Rl (Ad (xo1 ?_))))
 refine Aa (Af ?_)
 refine Ag (Eo ?_)
 refine Aj (Bd rfl (Ag (Aq (Ad (Ac rfl (Ae rfl (Aa (Af ?_))))))))
 refine Ey ?_
 refine Bq rfl rfl (Ji rfl rfl ?_)
 refine xo6 rfl rfl ?_
 refine Ck (by simp only[zl,zm,zd,Be,List.take,List.drop,xQ]<;>exact rfl) rfl ?_
 refine Bq rfl rfl (Bq rfl rfl (Ji rfl rfl ?_))
 refine xo6 rfl rfl ?_
 refine Ck (by simp only[zl,zm,zd,Be,List.take,List.drop,xQ]<;>exact rfl) rfl ?_
 refine Bq rfl rfl (Ck (by simp only[zl,zm,Cq,Int.toNat_zero,Int.le_refl,Int.toNat_zero,xQ]<;>exact rfl) rfl ?_)
 refine xo6 rfl rfl ?_
 refine Ck (by simp only[zl,zm,zd,Be,List.take,List.drop,xQ]<;>exact rfl) rfl ?_
 first
  | refine Ch (by simp only[zo];exact xZ) (by simp only[Bg,zo,zq]<;>exact rfl) (by first | rfl | (generalize Vh (Da xa)=t;cases t<;>rfl) | (generalize Vh (Da xf)=t;cases t<;>rfl) | (simp[show ob 8160 13=[true,true,true,true,true,true,true,true,false,false,false,false,false] from rfl,Vh,Bc,Aw,Cg,Ay,Bo,dj,Au,Am,Bn,Bj,ieq1,ieq2];done)) ?_
  | refine Ch (by simp only[zo,yH,n0,n1,n2,n3,l0,l1,l2,m1,v1,v2,v3,v4,List.getElem?_set,o0,o1,Int.toNat_zero,show IntKind.i64.wrap (0+1)=1 from rfl,List.set_cons_succ,List.set_cons_zero,show ((0:Int)≤1)=True from by decide,show ((1:Int).toNat)=1 from rfl,xQ];exact zD _) (by simp only[Bg,zo,zq,hx.fps,hx.fpi]<;>exact rfl) (by first | rfl | (generalize Vh (Da xa)=t;cases t<;>rfl) | (generalize Vh (Da xf)=t;cases t<;>rfl) | (simp[show ob 8160 13=[true,true,true,true,true,true,true,true,false,false,false,false,false] from rfl,Vh,Bc,Aw,Cg,Ay,Bo,dj,Au,Am,Bn,Bj,ieq1,ieq2];done)) ?_
 refine Ck (by simp only[zl,zm,Cq,Int.toNat_zero,Int.le_refl,Int.toNat_zero,xQ]<;>exact rfl) rfl ?_
 refine xo6 rfl rfl ?_
 refine Ch (by simp only[zl,zm,Cc,overlay,List.take,List.drop,m1,v1,v2,xQ]<;>exact rfl) (by simp only[Bg,zo,zq]<;>exact rfl) (by first | rfl | (generalize Vh (Da xa)=t;cases t<;>rfl) | (generalize Vh (Da xf)=t;cases t<;>rfl) | (simp[show ob 65535 16=[true,true,true,true,true,true,true,true,true,true,true,true,true,true,true,true] from rfl,Vh,Bc,Aw,Cg,Ay,Bo,dj,Au,Am,Bn,Bj,ieq1,ieq2];done)) ?_
 refine Cw (Eb (Af ?_))
 refine Ar (Ab (by simp only[zo,Bh,show IntKind.i64.wrap (0+1)=1 from rfl]<;>exact rfl) ?_)
 refine Ae rfl (Aa (lu_n (by simp only[ze]<;>exact rfl) ?_))
 refine Rl (Ad (xo1 ?_))
 refine Aa (Af ?_)
 refine Ag (Eo ?_)
 refine Aj (Bd rfl (Ag (Aq (Ad (Ac rfl (Ae rfl (Aa (Af ?_))))))))
 refine Ey ?_
 refine Bq rfl rfl (Ji rfl rfl ?_)
 refine xo6 rfl rfl ?_
 refine Ck (by simp only[zl,zm,zd,Be,List.take,List.drop,n2,l0,List.getElem?_set,xQ]<;>exact rfl) rfl ?_
 refine Bq rfl rfl (Bq rfl rfl (Ji rfl rfl ?_))
 refine xo6 rfl rfl ?_
 refine Ck (by simp only[zl,zm,zd,Be,List.take,List.drop,n2,l0,List.getElem?_set,xQ]<;>exact rfl) rfl ?_
 refine Bq rfl rfl (Ck (by simp only[zl,zm,Cq,l0,List.getElem?_set,show ((0:Int)≤1)=True from by decide,show ((1:Int).toNat)=1 from rfl,xQ]<;>exact rfl) rfl ?_)
 refine xo6 rfl rfl ?_
 refine Ck (by simp only[zl,zm,zd,Be,List.take,List.drop,l0,List.getElem?_set,xQ]<;>exact rfl) rfl ?_
 first
  | refine Ch (by simp only[zo];exact xZ) (by simp only[Bg,zo,zq,hx.fps,hx.fpi]<;>exact rfl) (by first | rfl | (generalize Vh (Da xa)=t;cases t<;>rfl) | (generalize Vh (Da xf)=t;cases t<;>rfl) | (simp[show ob 8160 13=[true,true,true,true,true,true,true,true,false,false,false,false,false] from rfl,Vh,Bc,Aw,Cg,Ay,Bo,dj,Au,Am,Bn,Bj,ieq1,ieq2];done)) ?_
  | refine Ch (by simp only[zo];exact zD _) (by simp only[Bg,zo,zq]<;>exact rfl) (by first | rfl | (generalize Vh (Da xa)=t;cases t<;>rfl) | (generalize Vh (Da xf)=t;cases t<;>rfl) | (simp[show ob 8160 13=[true,true,true,true,true,true,true,true,false,false,false,false,false] from rfl,Vh,Bc,Aw,Cg,Ay,Bo,dj,Au,Am,Bn,Bj,ieq1,ieq2];done)) ?_
 refine Ck (by simp only[zl,zm,Cq,l0,List.getElem?_set,show ((0:Int)≤1)=True from by decide,show ((1:Int).toNat)=1 from rfl,xQ]<;>exact rfl) rfl ?_
 refine xo6 rfl rfl ?_
 refine Ch (by simp only[zl,zm,Cc,overlay,List.take,List.drop,l0,m1,v3,v4,List.getElem?_set,xQ]<;>exact rfl) (by simp only[Bg,zo,zq]<;>exact rfl) (by first | rfl | (generalize Vh (Da xa)=t;cases t<;>rfl) | (generalize Vh (Da xf)=t;cases t<;>rfl) | (simp[show ob 65535 16=[true,true,true,true,true,true,true,true,true,true,true,true,true,true,true,true] from rfl,Vh,Bc,Aw,Cg,Ay,Bo,dj,Au,Am,Bn,Bj,ieq1,ieq2];done)) ?_
 refine Cw (Eb (Af ?_))
 refine Ar (xo1 ?_)
 refine Ae rfl (Aa (lu_n (by simp only[ze]<;>exact rfl) ?_))
 refine Rl (Ad (xo1 ?_))
 refine Aa (Af ?_)
 refine Ag (Ca ?_)
 refine Cf (E5 (lu_e (Fa (Bd rfl (Ad (Ac rfl (xo0 ?_)))))))
 refine xo2 ?_
 refine Ab (by simp only[zl,zm,zd,Be,List.take,List.drop,n2,l0,List.getElem?_set,xQ]<;>exact rfl) ?_
 refine Ab (by simp only[zo];exact clip31_run (by omega) (Gb zT _) _) ?_
 refine Ab (by simp only[zo,Hf,zm]<;>exact rfl) ?_
 refine Ab (by simp only[zl,zm,Cc,overlay,zs,zc,zf,List.take,List.drop,n0,l0,List.getElem?_set,o0,xQ]<;>exact rfl) ?_
 refine Ab (by simp only[zl,zm,Cc,overlay,Bw,zs,zc,zf,List.take,List.drop,n1,n3,l0,l1,List.getElem?_set,o1,xQ]<;>exact rfl) ?_
 refine Aa (Af ?_)
 refine Av ?_
 have hz2:∀k,k≠go→k≠B.length→k≠B.length+1→∀x y z,(((H.set go x).set B.length y).set (B.length+1) z)[k]?=H[k]?:=fun k h1 h2 h3 x y z=>by
  rw[Ln_ (Ne.symm h3),Ln_ (Ne.symm h2),Ln_ (Ne.symm h1)]
 have hB2:B.length+2<H.length:=h2l
 refine⟨(.tup [.msl go 1 0 2 (some 2),.agg [.int .i64 0,.int .i64 0,.int .i64 0]],⟨((H.set go ⟨36,4,[[.str nmA,Da xa,.int .i64 ((1:Nat):Int),.int .i64 ((12:Nat):Int)],[.str nmB,Da xf,.int .i64 ((lb:Nat):Int),.int .i64 ((12:Nat):Int)]],1,0,true⟩).set B.length ⟨26,1,[[.msl go 1 0 2 (some 2)]],0,0,false⟩).set (B.length+1) ⟨31,3,[[.int .i64 0,.int .i64 0,.int .i64 0]],0,0,false⟩,min lo B.length⟩,true),⟨((H.set go ⟨36,4,[[.str nmA,Da xa,.int .i64 ((1:Nat):Int),.int .i64 ((12:Nat):Int)],[.str nmB,Da xf,.int .i64 ((lb:Nat):Int),.int .i64 ((12:Nat):Int)]],1,0,true⟩).set B.length ⟨26,1,[[.msl go 1 0 2 (some 2)]],0,0,false⟩).set (B.length+1) ⟨31,3,[[.int .i64 0,.int .i64 0,.int .i64 0]],0,0,false⟩,go,ga,gs,xa,xf,lb,ra,rows,rfl,⟨?_,?_,?_,?_,?_,hRa,hR,by omega,by omega,by omega,kY,hneo,wm⟩⟩,⟨⟨((H.set go ⟨36,4,[[.str nmA,Da xa,.int .i64 ((1:Nat):Int),.int .i64 ((12:Nat):Int)],[.str nmB,Da xf,.int .i64 ((lb:Nat):Int),.int .i64 ((12:Nat):Int)]],1,0,true⟩).set B.length ⟨26,1,[[.msl go 1 0 2 (some 2)]],0,0,false⟩).set (B.length+1) ⟨31,3,[[.int .i64 0,.int .i64 0,.int .i64 0]],0,0,false⟩,B.length⟩,exDefs_one (F:=FD26) rfl rfl rfl rfl (by simp only[FD26,zv]<;>exact rfl) (by refine⟨_,_,_,rfl,?_⟩;exact rfl),.tup [.msl go 1 0 2 (some 2),.agg [.int .i64 0,.int .i64 0,.int .i64 0]],?_,?_⟩⟩
 ·
  rw[List.length_set,List.length_set,List.length_set];omega
 ·
  intro k hk
  rw[hz2 k (by omega) (by omega) (by omega)];exact ofr k hk
 ·
  rw[Ln_ (by omega),Ln_ (by omega),Gb zT]
 ·
  exact hFa.keep fun h=>hz2 ga kY (by omega) (by omega) _ _ _
 ·
  exact hF.keep fun h=>hz2 gs hneo (by omega) (by omega) _ _ _
 ·
  simp only[F10,Ak,Bb,Cb,List.getD_cons_zero,List.getD_cons_succ,Sa,rowsOf,Be,List.getElem?_set,List.length_set,n3,show (B.length+1=B.length)=False from eq_false (by omega),l1,l2,if_true,if_false,Lz,List.take,List.drop,Bool.false_eq_true]
  rfl
 have x9:B.length≤B.length:=Nat.le_refl _
 have xg:¬H.length=B.length:=by omega
 have hgo2:¬B.length+1=go:=by omega
 have hgo3:¬B.length=go:=by omega
 simp[leave,LP,Vl,Al,Vi,snap,Bw,D.Vk,D.Vj,D.free,D.Vo,hgo2,hgo3,zT,xg]
structure SrcF (H:List U9) (x:D) (rows:List (List D)) (gs v:Nat):Prop where
 len:Im false x=some (.int .i64 (rows.length:Nat))
 cell:x.Vn=true
 snap:∀m l,snap m (H++l) x=some x
 fpi:∀n i r wr,E8 (.Vs n) [x,i] r wr=Au (Cn x)
 ia:∀l lo i,i<rows.length→Gs ⟨H++l,lo⟩ 16 x (.int .i64 (i:Nat))=some (.ptr gs v i 0)
 ld:∀l lo i r,rows[i]?=some r→16≤r.length→H8 16 true ⟨H++l,lo⟩ (.ptr gs v i 0)=some (.agg (r.take 16))
theorem FL.src{H:List U9}{gs:Nat}{x:D}{rows:List (List D)}(h:FL H gs x rows):∃v,SrcF H (Da x) rows gs v:=by
 rcases h with⟨rfl,rfl⟩ | ⟨vs,rfl,ho⟩
 ·
  exact⟨0,rfl,rfl,fun _ _=>rfl,fun _ _ _ _=>rfl,fun _ _ i h=>absurd h (by simp),fun _ _ i r h=>by simp at h⟩
 refine⟨vs,rfl,rfl,fun m l=>?_,fun _ _ _ _=>rfl,fun l lo i h=>?_,fun l lo i r h h16=>?_⟩
 ·
  simp only[Da]
  rw[Ie,Cy (Br ho),ho];simp
 ·
  simp[Da,Gs,rowsOf,Cy (Br ho),ho,h]
 simp[H8,rowsOf,Cy (Br ho),ho,h,Be,h16]
theorem SrcF.zero{H:List U9}{x:D}{rows:List (List D)}{gs v:Nat}(h:SrcF H x rows gs v):∀m,Go.Proofs.YtkaedpmmopigkaaGreatDoor.snap m H x=some x:=fun m=>by have:=h.snap m [];rwa [List.append_nil]at this
theorem R3(f:FM)(p:Nat):∃tx op nu r1 r2,Ia f p=[.int .i64 (f.line:Nat),.int .i64 (f.column:Nat),.int .u8 (f.kind:Nat),tx,.int .u8 (if nu then (if f.size=1 then 4 else 5) else 2),.int .u8 0,.str (Gm nu f.size),.int .i64 (if nu then (f.size:Nat) else 0),.int .i64 0,.bool false,.bool false,.bool false,.bool false,.bool false,.int .i64 (f.size:Nat),op]∧SlD 1 r1 tx∧SlD 5 r2 op ∧
  (f.kind=1→nu=false∧tx=.sl 1 (Bu f.text) none∧op=.Vu∧r1=Bu f.text)∧(f.kind≠1→nu=f.nu∧tx=.Vu∧op=.sl 5 [tkR 1 ⟨#[78]⟩ p 12] (some 1)):=by
 by_cases h:f.kind=1
 ·
  refine⟨.sl 1 (Bu f.text) none,.Vu,false,Bu f.text,[],?_,.of _ _ _,.nil 5,fun _=>⟨rfl,rfl,rfl,rfl⟩,fun h'=>absurd h h'⟩
  unfold Ia row2
  rw[if_pos h,if_pos h,h]
  rfl
 refine⟨.Vu,.sl 5 [tkR 1 ⟨#[78]⟩ p 12] (some 1),f.nu,[],_,?_,.nil 1,.of _ _ _,fun h'=>absurd h' h,fun _=>⟨rfl,rfl,rfl⟩⟩
 unfold Ia
 rw[if_neg h]
 rfl
theorem Qu(f:FM)(p:Nat):(Ia f p).length=16:=by
 unfold Ia row2 Dh
 split<;>rfl
theorem Rz(f:FM)(p:Nat):(Ia f p).take 16=Ia f p:=List.take_of_length_le (by rw[Qu];exact Nat.le_refl _)
theorem pcheck_form{d:Nat}(hd:16≤d)(S:St)(nu:Bool)(f:FM):Az LP NN d 38 [.agg [.int .u8 (if nu then (if f.size=1 then 4 else 5) else 2),.int .u8 0,.str (Gm nu f.size),.int .i64 (if nu then (f.size:Nat) else 0),.int .i64 0,.bool false,.bool false,.bool false,.bool false,.bool false,.int .i64 (f.size:Nat)]] S=some (.int .i64 0,S,false):=Pv (by omega) S hd nu f.size f.size_le.1 f.size_le.2
theorem check_run{d:Nat}(hd:18≤d){H:List U9}{x:D}{rows:List (List D)}{gs v:Nat}{l0:List FM}(hS:SrcF H x rows gs v)(hR:RW l0 rows)(xg:l0.length≤256)(nm:ByteArray)(p0 c0:Nat)(lo:Nat) :
  Az LP NN d 13 [.agg [.str nm,x,.int .i64 (p0:Nat),.int .i64 (c0:Nat)]] ⟨H,lo⟩=some (.int .i64 0,⟨H,lo⟩,false):=by
 have yI:=hR.len
 have wF:decide (((rows.length:Nat):Int)>256)=false:=decide_eq_false (by omega)
 refine Du (F:=F13) rfl (by simp only[LP,Al,Bw,zs,zm,hS.zero]<;>exact rfl) rfl (by simp only[LP,zf,zm];try rfl) (by simp only[F13,zv]<;>exact rfl) (by omega) ?_
 rintro d rfl
 have xQ:=aI hS.len (aI hS.cell (aI wF (aI @Dn (@Ec))))
 refine Ad (Ab (by simp only[zl,zm,zc,xQ]<;>exact rfl) ?_)
 refine Ap (Aa (Af ?_))
 refine Ag (Ad (xo2 ?_))
 refine Na ?_
 refine Ab (by simp only[zo,xQ]<;>exact rfl) ?_
 refine Ab (by simp only[zo,Bh,xQ]<;>exact rfl) ?_
 refine Aa (Af ?_)
 refine Ca ?_
 refine Aj (Bd rfl (Ag (Ad (xo2 ?_))))
 refine Na ?_
 refine Ab (by simp only[zo,xQ]<;>exact rfl) ?_
 refine Ap (Aa (Af ?_))
 refine Aq (Cz (fun n env S'=>∃(i:Nat) (l:List U9) (u3 u9 u10 u11 u8:D),i≤rows.length∧n=rows.length-i∧S'=⟨H++⟨36,4,[[.str nm,x,.int .i64 (p0:Nat),.int .i64 (c0:Nat)]],0,0,false⟩::l,H.length⟩∧env=[.agg [.str nm,x,.int .i64 (p0:Nat),.int .i64 (c0:Nat)],.ptr H.length 0 0 0,.int .i64 0,u3,.bool false,x,.int .i64 rows.length,.int .i64 i,u8,u9,u10,u11]) (rows.length) (by omega) (⟨0,[],_,_,_,_,_,by omega,by omega,rfl,rfl⟩) ?_)
 rintro n env S' ⟨i,l,u3,u9,u10,u11,u8,hi,rfl,rfl,rfl⟩
 refine Ad (xo1 ?_)
 refine Aa (Af ?_)
 refine Ag ?_
 refine Bv (by simp only[opd,zv]<;>exact rfl) (fun yG=>?_) (fun yG=>?_)
 ·
  have xu:i<rows.length:=by have:=of_decide_eq_true yG;omega
  have hltl:i<l0.length:=by omega
  have hw:=Dx i (by omega)
  have yN:=fun l lo=>hS.ia l lo i xu
  obtain⟨p,xR⟩:=hR.at_ hltl
  have kH:=fun (l:List U9) lo=>hS.ld l lo i _ xR (by rw[Qu];exact Nat.le_refl _)
  rw[Rz]at kH
  have xV:=fun (S:St)=>Sl l0[i] p (d:=d) (by omega) S
  obtain⟨tx,op,nu,r1,r2,hrf,kQ,yQ,yE,vG⟩:=R3 l0[i] p
  have hpc:=fun (S:St)=>pcheck_form (d:=d) (by omega) S nu l0[i]
  rw[hrf]at kH xV
  have xG:=l0[i].size_le
  have uF:=l0[i].kind_le
  have yF:∀k:Nat,(H++⟨36,4,[[.str nm,x,.int .i64 (p0:Nat),.int .i64 (c0:Nat)]],0,0,false⟩::l).length=H.length+l.length+1:=fun k=>by simp;omega
  have uI:∀(o:U9) (m:List U9),(H++⟨36,4,[[.str nm,x,.int .i64 (p0:Nat),.int .i64 (c0:Nat)]],0,0,false⟩::(l++o::m))[H.length+(l.length+1)]?=some o:=fun o m=>by rw[Dn,Ls_,Ec];rfl
  have xO:∀(o y:U9) (m:List U9),(H++⟨36,4,[[.str nm,x,.int .i64 (p0:Nat),.int .i64 (c0:Nat)]],0,0,false⟩::(l++o::m)).set (H.length+(l.length+1)) y=H++⟨36,4,[[.str nm,x,.int .i64 (p0:Nat),.int .i64 (c0:Nat)]],0,0,false⟩::(l++y::m):=fun o y m=>by rw[Gd,List.set_cons_succ,Gv];rfl
  have k1:decide (((l0[i].kind:Nat):Int)<1)=false:=decide_eq_false (by omega)
  have k2:decide (((l0[i].kind:Nat):Int)>4)=false:=decide_eq_false (by omega)
  have xP:=aI hw (aI yN (aI kH (aI uI (aI xO (aI kQ.Vn (aI yQ.Vn (aI kQ.cells (aI yQ.cells (aI kQ.val (aI yQ.val (kQ.len)))))))))))
  by_cases hk:l0[i].kind=1
  ·
   obtain⟨rfl,rfl,rfl,rfl⟩:=yE hk
   have e1:(((l0[i].kind:Nat):Int)==1)=true:=by rw[beq_iff_eq];omega
   have e2:(((Bu l0[i].text).length:Int) != ((l0[i].size:Nat):Int))=false:=by rw[Mt,Ru,bne_self_eq_false]
   refine Aj (Bd rfl (Ag (Aq (Ad (Ab (by simp only[zl,zm,xP]<;>exact rfl) ?_)))))
   refine Ab (by simp only[zl,zm,xP]<;>exact rfl) ?_
   refine xo8 ?_
   refine Ab (by simp only[zl,zm,Cc,overlay,Bw,zs,zc,zf,List.take,List.drop,xQ,xP]<;>exact rfl) ?_
   refine Aa (Af ?_)
   refine Aq (Ad (xo2 ?_))
   refine Na ?_
   refine Ab (by simp only[zo,Bh,k1]<;>exact rfl) ?_
   refine Ae rfl (Ce 0 (b:=false) ?_)
   refine Ai rfl (xo2 ?_)
   refine Ai rfl (Na ?_)
   refine Ai rfl (Ab (by simp only[zo,Bh,k2]<;>exact rfl) ?_)
   refine xo0 ?_
   refine Ae rfl (Ce 0 (b:=false) ?_)
   refine Ai rfl (xo2 ?_)
   refine Ai rfl (Na ?_)
   refine Ai rfl (Ab (by simp only[zo];exact hpc _) ?_)
   refine Ai rfl (Ab (by simp only[zo,Bh,bne_self_eq_false]<;>exact rfl) ?_)
   refine xo0 ?_
   refine Ae rfl (Aa (Af ?_))
   refine Ca ?_
   refine Ad (xo2 ?_)
   refine Na ?_
   refine Ab (by simp only[zo,Bh,e1]<;>exact rfl) ?_
   refine Ae rfl (Ce 0 (b:=true) ?_)
   refine Ai rfl (xo2 ?_)
   refine Ai rfl (xo2 ?_)
   refine Ai rfl (Na ?_)
   refine Ai rfl (Ab (by simp only[zo,Bh,bne_self_eq_false]<;>exact rfl) ?_)
   refine Ai rfl (Ae rfl (Ce 0 (b:=false) ?_))
   refine Ai rfl (xo2 ?_)
   refine Ai rfl (Na ?_)
   refine Ai rfl (Ab (by simp only[zo,xP]<;>exact rfl) ?_)
   refine Ai rfl (xo2 ?_)
   refine Ai rfl (xo2 ?_)
   refine Ai rfl (Na ?_)
   refine Ai rfl (Ab (by simp only[zo,Bh,e2]<;>exact rfl) ?_)
   refine Ai rfl (xo0 ?_)
   refine xo0 ?_
   refine Ae rfl (Aa (Af ?_))
   refine Ca ?_
   refine Ad (Na ?_)
   refine Ab (by simp only[zo];exact xV _) ?_
   refine xo9 ?_
   refine Ae rfl (Aa (Af ?_))
   refine Ca ?_
   refine Aj (Eb (Eb (Bd rfl (Ar (xo29 ?_)))))
   refine Ae rfl (Aa (Fb (by simp only[ze]<;>exact rfl) ?_))
   exact⟨rows.length-(i+1),by omega,i+1,_,_,_,_,_,_,by omega,rfl,rfl,rfl⟩
  have e1:(((l0[i].kind:Nat):Int)==1)=false:=by rw[beq_eq_false_iff_ne];omega
  refine Aj (Bd rfl (Ag (Aq (Ad (Ab (by simp only[zl,zm,xP]<;>exact rfl) ?_)))))
  refine Ab (by simp only[zl,zm,xP]<;>exact rfl) ?_
  refine xo8 ?_
  refine Ab (by simp only[zl,zm,Cc,overlay,Bw,zs,zc,zf,List.take,List.drop,xQ,xP]<;>exact rfl) ?_
  refine Aa (Af ?_)
  refine Aq (Ad (xo2 ?_))
  refine Na ?_
  refine Ab (by simp only[zo,Bh,k1]<;>exact rfl) ?_
  refine Ae rfl (Ce 0 (b:=false) ?_)
  refine Ai rfl (xo2 ?_)
  refine Ai rfl (Na ?_)
  refine Ai rfl (Ab (by simp only[zo,Bh,k2]<;>exact rfl) ?_)
  refine xo0 ?_
  refine Ae rfl (Ce 0 (b:=false) ?_)
  refine Ai rfl (xo2 ?_)
  refine Ai rfl (Na ?_)
  refine Ai rfl (Ab (by simp only[zo];exact hpc _) ?_)
  refine Ai rfl (xo1 ?_)
  refine xo0 ?_
  refine Ae rfl (Aa (Af ?_))
  refine Ca ?_
  refine Ad (xo2 ?_)
  refine Na ?_
  refine Ab (by simp only[zo,Bh,e1]<;>exact rfl) ?_
  refine Ae rfl (Ce 0 (b:=false) ?_)
  refine Ao rfl rfl (Ao rfl rfl (Ao rfl rfl (Ao rfl rfl (Ao rfl rfl (El rfl (El rfl (El rfl (El rfl (El rfl (El rfl (El rfl (Ao rfl rfl (xo0 ?_)))))))))))))
  refine Ae rfl (Aa (Af ?_))
  refine Bz (by simp only[opd,zv]) ?_
  refine Ad (Na ?_)
  refine Ab (by simp only[zo];exact xV _) ?_
  refine xo9 ?_
  refine Ae rfl (Aa (Af ?_))
  refine Ca ?_
  refine Aj (Eb (Eb (Bd rfl (Ar (xo29 ?_)))))
  refine Ae rfl (Aa (Fb (by simp only[ze]<;>exact rfl) ?_))
  exact⟨rows.length-(i+1),by omega,i+1,_,_,_,_,_,_,by omega,rfl,rfl,rfl⟩
 refine Cf (E5 (Fp (Fa (Bd rfl (Ad (Ap (Aa (Af ?_))))))))
 refine Av ?_
 refine⟨_,by simp only[F13,Ak,Bb,Cb,zg]<;>exact rfl,?_⟩
 simp[leave,LP,Vl,Vi,snap,D.Vk,D.Vj,D.free,D.Vo]
theorem fmRows_nil:SlD 6 (Jl []) .Vu:=.nil 6
theorem of_walk{d:Nat}(hd:24≤d){B H':List U9}{lx xa xb:D}{l:List FM}{go lb:Nat}(uE:SlD 6 (Jl l) lx)(rV:l.length≤20)
  (xB:Az LP NN (d-1) 10 [.sl 5 (Fj 1 (Iu l [])) none] ⟨B++[⟨36,4,[[.str ⟨#[]⟩,.Vu,.int .i64 0,.int .i64 0]],0,0,false⟩],B.length⟩=some (.tup [.msl go 1 0 2 (some 2),.agg [.int .i64 0,.int .i64 0,.int .i64 0]],⟨H',min B.length (B++[(⟨36,4,[[.str ⟨#[]⟩,.Vu,.int .i64 0,.int .i64 0]],0,0,false⟩:U9)]).length⟩,true))
  (hz:H'[B.length]?=some ⟨36,4,[[.str ⟨#[]⟩,.Vu,.int .i64 0,.int .i64 0]],0,0,false⟩) (ho:H'[go]?=some ⟨36,4,[[.str nmA,Da xa,.int .i64 ((1:Nat):Int),.int .i64 ((12:Nat):Int)],[.str nmB,Da xb,.int .i64 ((lb:Nat):Int),.int .i64 ((12:Nat):Int)]],1,0,true⟩) (hc:(Da xa).Vn=true) (hX:∀x m l,snap m (H'.set B.length x++l) (Da xa)=some (Da xa)) (lo:Nat) :
  Az LP NN d 18 [lx] ⟨B,lo⟩=some (.tup [.agg [.str nmA,Da xa,.int .i64 ((1:Nat):Int),.int .i64 ((12:Nat):Int)],.bool true],if (Da xa).free then ⟨B,lo⟩ else ⟨H'.set B.length ⟨36,4,[[.str nmA,Da xa,.int .i64 ((1:Nat):Int),.int .i64 ((12:Nat):Int)]],0,0,false⟩++[⟨31,3,[[.int .i64 0,.int .i64 0,.int .i64 0]],0,0,false⟩],min lo B.length⟩,!(Da xa).free):=by
 have rD:=Br hz
 have zT:=Br ho
 have hnil0:=fmRows_nil
 have xG:∀l x,(H'.set B.length x++l)[B.length]?=some x:=fun l x=>by rw[Cy (by simpa using rD)];exact Gb rD x
 have xG:=xG
 have zF:¬H'.length+1=B.length:=by omega
 have qP:min B.length (B.length+1)=B.length:=by omega
 have wm:¬H'.length=B.length:=by omega
 rw[Ll_,List.length_cons,List.length_nil,qP]at xB
 refine Du (F:=F18) rfl (by simp only[LP,Al,uE.Vi]<;>exact rfl) rfl (by simp only[LP,zm,uE.Vj];try rfl) (by simp only[F18,zv]<;>exact rfl) (by omega) ?_
 rintro d rfl
 have yw:=aI hz (aI ho (aI xG (aI hc (aI @Dn (aI @Ec (qP))))))
 refine Ad (xo8 ?_)
 refine Ap (Aa (Af ?_))
 refine Ad (Ac rfl (Ab (by simp only[zo];exact section_run (by omega) _ uE hnil0 rV (by simp)) ?_))
 refine Ab (by simp only[zo];exact xB) ?_
 refine Ae rfl (xo7 ?_)
 refine xo4 ?_
 refine xo8 ?_
 refine Ae rfl (xo43 ?_)
 refine Aa (Af ?_)
 refine Ag (Ad (xo2 ?_))
 refine xo35 ?_
 refine xo1 ?_
 refine Ae rfl (Ce 0 (b:=false) ?_)
 refine Ai rfl (Ac rfl (Ai rfl (Nb ?_)))
 refine Ai rfl (xo1 ?_)
 refine xo0 ?_
 refine Aa (Af ?_)
 refine Ca ?_
 refine Aj (Bd rfl (Ad (Ac rfl (Ab (by simp only[zl,zm,Cq,Int.toNat_zero,Int.le_refl,Cy zT,yw]<;>exact rfl) ?_))))
 refine Ab (by simp only[zl,zm,zd,Be,List.take,List.drop,Cy zT,yw]<;>exact rfl) ?_
 refine Ab (by simp only[zl,zm,Cc,overlay,Bw,zs,zc,zf,List.take,List.drop,Cy rD,Jc rD,yw]<;>exact rfl) ?_
 refine Ap (Aa (Af ?_))
 refine Av ?_
 refine⟨_,by simp only[F18,Ak,Bb,Cb,zg,zd,rowsOf,Be,List.take,List.drop,zm,xG]<;>exact rfl,?_⟩
 have hmm:min (min B.length H'.length) B.length=B.length:=by omega
 have yD:(B.length≤B.length)=True:=eq_true (Nat.le_refl _)
 cases hf:(Da xa).free
 ·
  simp[leave,LP,Oz,Al,Hz,Bw,Ja,Jb,Lu,hX,Pg,Pf,N8,N9,Mj,hf,hmm,zF]
 simp[leave,LP,Oz,Al,Hz,Bw,Ja,Jb,Lu,hX,Pg,Pf,N8,N9,Mj,hf,hmm]
theorem FL.clip_free{H:List U9}{gs:Nat}{x:D}{rows:List (List D)}(h:FL H gs x rows)(hf:(Da x).free=true):x=.Vu∧rows=[]:=by
 rcases h with h | ⟨vs,rfl,_⟩
 ·
  exact h
 cases hf
theorem of_run{d:Nat}(hd:24≤d)(B:List U9)(lo:Nat)(y5:lo≤B.length){lx:D}{l:List FM}(uE:SlD 6 (Jl l) lx)(rV:l.length≤20) :
  ∃H' x0 gs rows wr,Az LP NN d 18 [lx] ⟨B,lo⟩=some (.tup [.agg [.str nmA,Da x0,.int .i64 ((1:Nat):Int),.int .i64 ((12:Nat):Int)],.bool true],⟨H',lo⟩,wr)∧B.length≤H'.length∧(∀k,k<B.length→H'[k]?=B[k]?)∧FL H' gs x0 rows∧RW l rows∧B.length≤gs:=by
 obtain⟨_,⟨H',go,ga,gs,xa,xb,lb,ra,rb,rfl,hP⟩,xB⟩:=parse_all (d:=d-1) (by omega) (B++[⟨36,4,[[.str ⟨#[]⟩,.Vu,.int .i64 0,.int .i64 0]],0,0,false⟩]) B.length l [] rV (by simp)
 have hz:=(hP.fr B.length (by simp)).trans (Dn B [⟨36,4,[[.str ⟨#[]⟩,.Vu,.int .i64 0,.int .i64 0]],0,0,false⟩] 0)
 have xg:=hP.len
 rw[Ll_,List.length_cons,List.length_nil]at xg
 have hga:=hP.hga
 rw[Ll_,List.length_cons,List.length_nil]at hga
 have hX:∀x m l,snap m (H'.set B.length x++l) (Da xa)=some (Da xa):=by
  intro x m l
  obtain⟨v,hS⟩:=(hP.fa.keep (H':=H'.set B.length x) fun h=>by rw[Ln_ (by omega)]).src
  exact hS.snap m l
 obtain⟨v0,hS0⟩:=hP.fa.src
 have r:=of_walk hd uE rV xB hz hP.ho hS0.cell hX lo
 have hm:min lo B.length=lo:=by omega
 rw[hm]at r
 cases hf:(Da xa).free with
 | true =>
  obtain⟨e1,e2⟩:=hP.fa.clip_free hf
  rw[hf,if_pos rfl]at r
  exact⟨B,xa,B.length,ra,_,r,Nat.le_refl _,fun _ _=>rfl,.inl ⟨e1,e2⟩,hP.wa,Nat.le_refl _⟩
 | false =>
  rw[hf,if_neg (by simp)]at r
  refine⟨_,xa,ga,ra,_,r,by rw[Ll_,List.length_set];omega,fun k hk=>?_,?_,hP.wa,by omega⟩
  ·
   rw[Rn (by omega) (by omega),hP.fr k (by rw[Ll_];omega),Cy hk]
  exact hP.fa.keep fun h=>Rn h (by omega)
def spR (j:Nat):List (List D):=List.replicate j [.int .u8 32]++List.replicate (80-j) [.junk]
theorem spR_len{j:Nat}(h:j≤80):(spR j).length=80:=by simp[spR];omega
theorem spR_step{j:Nat}(h1:1≤j)(h:j<80):List.take j (spR j)++(List.take (min (min j 80) (80-j)) (List.take j (spR j))++List.drop (j+min (min j 80) (80-j)) (spR j))=spR (j+min j (80-j)):=by
 have e:min (min j 80) (80-j)=min j (80-j):=by omega
 rw[e]
 have t:List.take j (spR j)=List.replicate j [.int .u8 32]:=by
  unfold spR
  rw[List.take_left' (by simp)]
 rw[t,List.take_replicate]
 have d:List.drop (j+min j (80-j)) (spR j)=List.replicate (80-(j+min j (80-j))) [.junk]:=by
  unfold spR
  rw[List.drop_append,List.drop_eq_nil_of_le (by simp),List.nil_append,List.length_replicate,List.drop_replicate]
  congr 1
  omega
 rw[d,←Lo_,List.replicate_append_replicate]
 unfold spR
 congr 2
 omega
section
variable (d:Nat) (S:St)
theorem mul_cl:Cj LP NN (d+4) 78 [.int .u64 1,.int .u64 80] S=some (.tup [.int .u64 0,.int .u64 80],S,false):=by kernel_rfl
end
theorem mul_run{d:Nat}(hd:4≤d)(S:St):Az LP NN d 78 [.int .u64 1,.int .u64 80] S=some (.tup [.int .u64 0,.int .u64 80],S,false):=by
 obtain⟨d,rfl⟩:∃d',d=d'+4:=⟨d-4,by omega⟩
 exact fast_ok (mul_cl d S)
theorem repeat_run{d:Nat}(hd:6≤d){H:List U9}{gb:Nat}(hg:H[gb]?=some ⟨5,1,[[.int .u8 32]],0,2,false⟩)(lo:Nat) :
  Az LP NN d 45 [.msl gb 0 0 1 none,.int .i64 80] ⟨H,lo⟩=some (.msl H.length 0 0 80 (some 80),⟨H++[⟨5,1,spR 80,0,2,true⟩],min lo H.length⟩,true):=by
 have yB:=Br hg
 have hw80:IntKind.i64.wrap 80=80:=by decide
 have h80n:(80:Int).toNat=80:=rfl
 refine Du (F:=F45) rfl (by simp only[LP,Al,zs,zm]<;>exact rfl) rfl (by simp only[LP,zf,zm];try rfl) (by simp only[F45,zv]<;>exact rfl) (by omega) ?_
 rintro d rfl
 have yw:=aI hw80 (aI h80n (aI hg (aI @Dn (@Ec))))
 refine Ad (Ap (Aa (Af ?_)))
 refine Ag (Ad (Ac rfl (xo1 ?_)))
 refine Aa (Af ?_)
 refine Ca ?_
 refine Aj (Bd rfl (Ag (Ad (Ac rfl (Ab (by simp only[zo,Bh,Int.reduceLT]<;>exact rfl) ?_)))))
 refine Aa (Af ?_)
 refine Ca ?_
 refine Aj (Bd rfl (Ad (Ac rfl (Nb ?_))))
 refine xo0 ?_
 refine Ac rfl (xo0 ?_)
 refine Ab (by simp only[zo];exact mul_run (by omega) _) ?_
 refine Ae rfl (xo7 ?_)
 refine xo4 ?_
 refine Ae rfl (Ae rfl (Aa (Af ?_)))
 refine Ag (Ad (Ac rfl (xo1 ?_)))
 refine Ae rfl (Ce 0 (b:=false) ?_)
 refine Ai rfl (Ac rfl (Ai rfl (xo1 ?_)))
 refine xo0 ?_
 refine Aa (Af ?_)
 refine Ca ?_
 refine Aj (Bd rfl (Ad (Ac rfl (Ab (by simp only[zo,yw]<;>exact rfl) ?_))))
 refine Ae rfl (Aa (Af ?_))
 refine Ag (Ad (Ac rfl (Nb ?_)))
 refine xo1 ?_
 refine Aa (Af ?_)
 refine Ca ?_
 refine Aj (Bd rfl (Ad (Ac rfl (Ae rfl (Aa (Af ?_))))))
 refine Ag (Ad (Ac rfl (xo1 ?_)))
 refine Aa (Af ?_)
 refine Ca ?_
 refine Aj (Bd rfl (Ad (Ac rfl (Ab (by simp only[zl,yw]<;>exact rfl) ?_))))
 refine Ac rfl (Ac rfl (Ab (by simp only[zl,zm,Cm,Ep,Gz,Dj,F3,Et,yw]<;>exact rfl) ?_))
 refine Ae rfl (Aa (Af ?_))
 refine Ad (Ac rfl (Ac rfl (Ab (by simp only[opd,zv,Ba,aop,LOp.loud,lop,rowsOf,M3,De,F7,kW,setAt,if_true,zm,Cy yB,Gv,yw]<;>exact rfl) ?_)))
 refine Ae rfl (Aa (Af ?_))
 refine Ag (Aq (Cz (fun n env S'=>∃(j:Nat) (u9 u15 u16:D),1≤j∧j≤80∧n=80-j∧S'=⟨H++[⟨5,1,spR j,0,2,true⟩],H.length⟩∧env=[.msl gb 0 0 1 none,.int .i64 80,.Vu,.int .u64 0,.int .u64 80,.int .i64 80,.int .i64 80,.msl H.length 0 0 80 (some 80),.int .i64 j,u9,.bool false,.bool false,.bool false,.bool false,.bool false,u15,u16]) (79) (by omega) (⟨1,_,_,_,by omega,by omega,by omega,by simp[spR],rfl⟩) ?_))
 rintro n env S' ⟨j,u9,u15,u16,hj1,hj,rfl,rfl,rfl⟩
 refine Ag (Ad (Ac rfl (Ac rfl (xo1 ?_))))
 refine Aa (Af ?_)
 refine Bv (by simp only[opd,zv]<;>exact rfl) (fun yG=>?_) (fun yG=>?_)
 ·
  have xu:j<80:=by have:=of_decide_eq_true yG;omega
  have kT:=spR_step hj1 xu
  have hmn:((80:Int)<(j:Int))=False:=eq_false (by omega)
  have hw:IntKind.i64.wrap ((j:Int)+((min (min j 80) (80-j):Nat):Int))=((j+min j (80-j):Nat):Int):=by rw[IntKind.wrap_i64];omega
  have h0:(0:Int)≤(j:Int):=by omega
  have kg:j≤80:=hj
  have hl:=spR_len hj
  have xQ:=aI hmn (aI hw (aI h0 (aI kg (aI hl (@Int.toNat_natCast)))))
  refine Aj (Bd rfl (Aq (Ad (Ac rfl (Ac rfl (Ab (by simp only[zo,M5,minD,xQ]<;>exact rfl) ?_))))))
  refine Ae rfl (Aa (Af ?_))
  refine Ey ?_
  refine Bq rfl rfl (Bq rfl rfl (Bq rfl rfl (Ck (by simp only[zl,zm,Cm,Ep,Gz,Dj,F3,Et,yw,Et,xQ]<;>exact rfl) rfl ?_)))
  refine Bq rfl rfl (Bq rfl rfl (Ck (by simp only[zl,zm,Cm,Ep,Gz,Dj,F3,Et,yw,Et,xQ]<;>exact rfl) rfl ?_))
  refine Ch (by simp only[opd,zv,Ba,aop,LOp.loud,lop,rowsOf,M3,De,F7,kW,setAt,if_true,zm,Gv,yw,M3,F7,kW,Nat.sub_zero]<;>exact rfl) (by simp only[Bg,zo]<;>exact rfl) rfl ?_
  refine Bp (by simp only[zo,Bh,List.length_take,Nat.sub_zero,xQ]<;>exact rfl) rfl rfl ?_
  refine Dq rfl rfl (Cw (Eb (Fb (by simp only[ze]<;>exact rfl) ?_)))
  exact⟨80-(j+min j (80-j)),by omega,j+min j (80-j),_,_,_,by omega,by omega,rfl,by rw[←kT];simp only[List.set_cons_zero,Lo_,Nat.min_self],rfl⟩
 have hj':j=80:=by have:=of_decide_eq_false yG;omega
 subst hj'
 refine Cf (E5 (Fp (Fa (Bd rfl (Ad (Ac rfl (Ae rfl (Aa (Af ?_)))))))))
 refine Av ?_
 refine⟨_,by simp only[F45,Ak,Bb,Cb,zg]<;>exact rfl,?_⟩
 simp[leave,LP]
theorem clone8_0{d:Nat}(hd:1≤d){H:List U9}{g v n:Nat}{L:List UInt8}{gr:Bool}{cap:Option Nat}(hg:H[g]?=some ⟨5,1,bR L,v,2,gr⟩)(hn:n≤L.length)(hL:L.length≤1000)(h0:n=0)(lo:Nat) :
  Az LP NN d 83 [.msl g v 0 n cap] ⟨H,lo⟩=some (.sl 1 [] (some 0),⟨H,lo⟩,false):=by
 have yB:=Br hg
 have zF:¬H.length≤g:=by omega
 subst h0
 have hem:((bR L).take 0).isEmpty=true:=rfl
 refine Du (F:=F83) rfl (by simp only[LP,Al,zs,zm,hg,zF,show ((2:Nat)=1)=False from by decide,and_false,or_self]<;>exact rfl) rfl (by simp only[LP,zf,zm,Bool.and_false];try rfl) (by simp only[F83,zv]<;>exact rfl) (by omega) ?_
 rintro d rfl
 refine Ad (Ap (Aa (Af ?_)))
 refine Ag (Ad (Ac rfl (Ab (by simp only[zo,Qe]<;>exact rfl) ?_)))
 refine Aa (Af ?_)
 refine Ca ?_
 refine Aj (Bd rfl (Ad (Ab (by simp only[zl,Ct,List.replicate,Al]<;>exact rfl) ?_)))
 refine Ac rfl (Ab (by simp only[zl,zm,Ci,Bi,Jr,hg]<;>exact rfl) ?_)
 refine Ae rfl (Aa (Af ?_))
 refine Av ?_
 refine⟨_,by simp only[F83,Ak,Bb,Cb,zg]<;>exact rfl,?_⟩
 simp[leave,LP,Vl,Vi,snap,D.Vk,D.Vj,D.free,D.Vo]
theorem clone8_1{d:Nat}(hd:1≤d){H:List U9}{g v n:Nat}{L:List UInt8}{gr:Bool}{cap:Option Nat}(hg:H[g]?=some ⟨5,1,bR L,v,2,gr⟩)(hn:n≤L.length)(hL:L.length≤1000)(h0:0<n)(lo:Nat) :
  Az LP NN d 83 [.msl g v 0 n cap] ⟨H,lo⟩=some (.sl 1 (bR (L.take n)) none,⟨H,lo⟩,false):=by
 have yB:=Br hg
 have zF:¬H.length≤g:=by omega
 have htk:(bR L).take n=bR (L.take n):=by simp[bR,List.map_take]
 have hem:(bR (L.take n)).isEmpty=false:=by
  rw[List.isEmpty_eq_false_iff];intro e
  have:=congrArg List.length e
  rw[Iz,List.length_take,List.length_nil]at this;omega
 have hbb:((bR (L.take n)).length*1≤140737488355328)=True:=eq_true (by rw[Iz,List.length_take];omega)
 refine Du (F:=F83) rfl (by simp only[LP,Al,zs,zm,hg,zF,show ((2:Nat)=1)=False from by decide,and_false,or_self]<;>exact rfl) rfl (by simp only[LP,zf,zm,Bool.and_false];try rfl) (by simp only[F83,zv]<;>exact rfl) (by omega) ?_
 rintro d rfl
 have yw:=aI hg (aI zF (aI hem (aI hbb (aI htk (@Int.toNat_natCast)))))
 refine Ad (Ap (Aa (Af ?_)))
 refine Ag (Ad (Ac rfl (Ab (by simp only[zo,Qe]<;>exact rfl) ?_)))
 refine Aa (Af ?_)
 refine Ca ?_
 refine Aj (Bd rfl (Ad (Ab (by simp only[zl,zm,Ct,List.replicate,Al,show ((1:Nat)=0)=False from by decide]<;>exact rfl) ?_)))
 refine Ac rfl (Ab (by simp only[zl,zm,Ci,Bi,Jr,or_true,show ((1:Nat)=0)=False from by decide,yw]<;>exact rfl) ?_)
 refine Ae rfl (Aa (Af ?_))
 refine Av ?_
 refine⟨_,by simp only[F83,Ak,Bb,Cb,zg]<;>exact rfl,?_⟩
 simp[leave,LP,Vl,Vi,snap,D.Vk,D.Vj,D.free,D.Vo]
theorem clip8_run{d:Nat}(hd:1≤d)(S:St){x:D}{rows:List (List D)}(hS:SlD 1 rows x):Az LP NN d 82 [x] S=some (Rk x,S,false):=by
 have wL:=hS.slice_clip
 refine run_pure (F:=F82) rfl (by simp only[LP,Al,hS.Vi]<;>exact rfl) rfl (by simp only[LP,zm,hS.Vj];try rfl) (by simp only[F82,zv]<;>exact rfl) (by omega) ?_
 rintro d rfl
 refine Ad (Ap (Aa (Af ?_)))
 refine Ad (Ac rfl (Ac rfl (Ab (by simp only[zo,hS.len]<;>exact rfl) ?_)))
 refine Ac rfl (Ab (by simp only[zo,hS.len]<;>exact rfl) ?_)
 refine Ab (by simp only[opd,zv,Ba,aop,LOp.loud,lop,if_true,Cm,Option.map_some,wL]<;>exact rfl) ?_
 refine Ae rfl (Aa (Af ?_))
 refine Av ?_
 refine⟨_,by simp only[F82,Ak,Bb,Cb,zg]<;>exact rfl,?_⟩
 simp only[Dv,leave,hS.clip.Vl,hS.clip.Vk,List.length_nil,Nat.le_refl,if_true,Bool.false_eq_true,if_false]
def Ta (L:List UInt8) (n:Nat):D:=if n=0 then .sl 1 [] (some 0) else .sl 1 (bR (L.take n)) none
theorem cloneY_S(L:List UInt8)(n:Nat):SlD 1 (bR (L.take n)) (Ta L n):=by
 unfold Ta
 split
 ·
  subst_vars;exact .of _ _ _
 exact .of _ _ _
theorem Uu(L:List UInt8){n:Nat}(h:n≤L.length):Rk (Ta L n)=.sl 1 (bR (L.take n)) (some n):=by
 unfold Ta
 split
 ·
  subst_vars;rfl
 simp[Rk,Iz,Nat.min_eq_left h]
theorem clone8_at{d:Nat}(hd:1≤d){H:List U9}{g v n:Nat}{L:List UInt8}{gr:Bool}{cap:Option Nat}(hg:H[g]?=some ⟨5,1,bR L,v,2,gr⟩)(hn:n≤L.length)(hL:L.length≤1000)(lo:Nat):Az LP NN d 83 [.msl g v 0 n cap] ⟨H,lo⟩=some (Ta L n,⟨H,lo⟩,false):=by
 unfold Ta
 split
 ·
  exact clone8_0 hd hg hn hL (by assumption) lo
 exact clone8_1 hd hg hn hL (by omega) lo
def tn:List UInt8→Nat
 | []=>0
 | a::l=>if tn l=0 then (if a=32 then 0 else 1) else tn l+1
theorem tn_snoc:∀(l:List UInt8) (c:UInt8),tn (l++[c])=if c=32 then tn l else l.length+1
 | [],c=>by simp[tn]
 | a :: l, c => by
  simp only[List.cons_append,tn,tn_snoc l c]
  by_cases h:c=32
  ·
   simp[h]
  simp[h]
theorem tn_take:∀(l:List UInt8) (n:Nat),n≤l.length→(∀i c,n≤i→l[i]?=some c→c=32)→tn l=tn (l.take n):=by
 intro l n hn h
 induction hk:l.length-n generalizing n with
 | zero =>
  have:n=l.length:=by omega
  rw[this,List.take_length]
 | succ k ih =>
  have h1:=ih (n+1) (by omega) (fun i c hi hc=>h i c (by omega) hc) (by omega)
  rw[h1]
  have xu:n<l.length:=by omega
  rw[List.take_succ_eq_append_getElem xu,tn_snoc,if_pos (h n _ (Nat.le_refl _) (Lg xu))]
theorem tn_at{l:List UInt8}{n:Nat}(hn:n≤l.length)(h:∀i c,n≤i→l[i]?=some c→c=32)(h2:n=0∨∃c,l[n-1]?=some c∧c≠32):tn l=n:=by
 rw[tn_take l n hn h]
 rcases h2 with rfl | ⟨c,hc,xA⟩
 ·
  simp[tn]
 have xu:=(List.getElem?_eq_some_iff.1 hc).1
 obtain⟨m,rfl⟩:∃m,n=m+1:=⟨n-1,by
  rcases Nat.eq_zero_or_pos n with h0 | h0
  ·
   subst h0
   exact absurd (h 0 c (Nat.le_refl _) hc) xA
  omega⟩
 rw[List.take_succ_eq_append_getElem (by omega),tn_snoc,if_neg]
 ·
  simp;omega
 rw[Nat.add_sub_cancel,Lg (by omega)]at hc
 cases hc;exact xA
theorem u8_32(b:UInt8):(((b.toNat:Nat):Int)==32)=decide (b=32):=by
 by_cases h:b=32
 ·
  subst h;rfl
 rw[decide_eq_false h,beq_eq_false_iff_ne]
 intro e
 apply h
 have e1:b.toNat=32:=by omega
 exact UInt8.toNat_inj.1 e1
theorem trim_run{d:Nat}(hd:3≤d){H:List U9}{g v:Nat}{L:List UInt8}{gr:Bool}{cap:Option Nat}(hg:H[g]?=some ⟨5,1,bR L,v,2,gr⟩)(hL:L.length≤1000)(lo:Nat) :
  Az LP NN d 47 [.msl g v 0 L.length cap] ⟨H,lo⟩=some (.sl 1 (bR (L.take (tn L))) (some (tn L)),⟨H,lo⟩,false):=by
 have yB:=Br hg
 have zF:¬H.length≤g:=by omega
 have hbo:=Iz L
 refine Du (F:=F47) rfl (by simp only[LP,Al,zs,zm,hg,zF,show ((2:Nat)=1)=False from by decide,and_false,or_self]<;>exact rfl) rfl (by simp only[LP,zf,zm,Bool.and_false];try rfl) (by simp only[F47,zv]<;>exact rfl) (by omega) ?_
 rintro d rfl
 refine Ad (Ap (Aa (Af ?_)))
 refine Ad (Ac rfl (Nb ?_))
 refine Ae rfl (Aa (Af ?_))
 refine Ag (Aq ?_)
 refine Cz (fun n env S'=>∃(k:Nat) (u3:D),k≤L.length∧n=k+0∧S'=⟨H,H.length⟩∧env=[.msl g v 0 L.length cap,.Vu,.int .i64 k,u3]∧(∀i c,k≤i→L[i]?=some c→c=32)) (L.length) (by omega) (⟨L.length,_,by omega,rfl,rfl,rfl,fun i c h1 h2=>absurd (List.getElem?_eq_some_iff.1 h2).1 (by omega)⟩) ?_
 rintro n env S' ⟨k,u3,hk,kV,rfl,rfl,xq⟩
 refine Ag (Ad (Ac rfl (xo1 ?_)))
 refine Ae rfl ?_
 refine Dr 0 (by simp only[zv]<;>exact rfl) (by simp only[zn]<;>exact rfl) (by simp only[zn]<;>exact rfl) (fun hgA=>?_) (fun hgA=>?_)
 ·
  have xu:0<k:=by have:=of_decide_eq_true hgA;omega
  have hw:IntKind.i64.wrap ((k:Int)-1)=((k-1:Nat):Int):=by rw[IntKind.wrap_i64];omega
  have qF:k-1<L.length:=by omega
  have hbk:=Lg qF
  have hbr:=bR_at hbk
  have h0:(0:Int)≤((k-1:Nat):Int):=by omega
  have h1:((k-1:Nat):Int)<((L.length:Nat):Int):=by omega
  have yw:=aI hw (aI hbr (aI h0 (h1)))
  refine Ai rfl (Ac rfl (Ai rfl (Ac rfl (Ai rfl (Qj ?_)))))
  refine Ai rfl (Ab (by simp only[zl,zm,Cq,Int.toNat_natCast,hg,yw]<;>exact rfl) ?_)
  refine Ai rfl (Ab (by simp only[zl,zm,zd,Be,List.take,List.drop,hg,yw]<;>exact rfl) ?_)
  refine Ai rfl (xo1 ?_)
  refine xo0 ?_
  refine Aa (Af ?_)
  refine Bv (by simp only[opd,zv]<;>exact rfl) (fun yA=>?_) (fun yA=>?_)
  ·
   refine Aj (Bd rfl (Aq (Ar (Ac rfl (Qj ?_)))))
   refine Ae rfl (Aa (Eb (Fb (by simp only[ze]<;>exact rfl) ?_)))
   refine⟨k-1,by omega,k-1,_,by omega,rfl,rfl,rfl,fun i c h1 h2=>?_⟩
   rcases Nat.eq_or_lt_of_le h1 with e | e
   ·
    rw[←e,hbk]at h2
    cases h2
    have h:=yA;rw[u8_32]at h;exact of_decide_eq_true h
   exact xq i c (by omega) h2
  have htn:tn L=k:=tn_at hk xq (.inr ⟨_,hbk,by intro e;rw[e]at yA;simp at yA⟩)
  have yF:=fun lo cap=>clone8_at (d:=d) (by omega) (cap:=cap) hg hk hL lo
  have hcy:=clip8_run (d:=d) (by omega) ⟨H,H.length⟩ (cloneY_S L k)
  rw[Uu L hk]at hcy
  have z8:(k≤L.length)=True:=eq_true hk
  have rP:((0:Int)≤(k:Int))=True:=eq_true (by omega)
  refine Cf (E5 (Fp (Fa (Bd rfl (Ad (Ac rfl (Ac rfl (Ab (by simp only[zl,zm,Cm,Ep,Gz,Dj,F3,Et,hg,z8,rP,Nat.sub_zero,Int.toNat_natCast,Nat.zero_le]<;>exact rfl) ?_))))))))
  refine Ab (by simp only[zo];exact yF _ _) ?_
  refine Ab (by simp only[zo];exact hcy) ?_
  refine Ae rfl (Aa (Af ?_))
  refine Av ?_
  refine⟨_,by simp only[F47,Ak,Bb,Cb,zg]<;>exact rfl,?_⟩
  simp[leave,LP,Vl,Vi,snap,D.Vk,D.Vj,D.free,D.Vo,htn]
 have htn:tn L=k:=tn_at hk xq (.inl (by have:=of_decide_eq_false hgA;omega))
 have yF:=fun lo cap=>clone8_at (d:=d) (by omega) (cap:=cap) hg hk hL lo
 have hcy:=clip8_run (d:=d) (by omega) ⟨H,H.length⟩ (cloneY_S L k)
 rw[Uu L hk]at hcy
 have z8:(k≤L.length)=True:=eq_true hk
 have rP:((0:Int)≤(k:Int))=True:=eq_true (by omega)
 refine Ao rfl rfl (Ao rfl rfl (Ao rfl rfl (Ao rfl rfl (Ao rfl rfl (Ao rfl rfl (xo0 ?_))))))
 refine Aa (Af ?_)
 refine Bz (by simp only[opd,zv]) ?_
 refine Cf (E5 (Fp (Fa (Bd rfl (Ad (Ac rfl (Ac rfl (Ab (by simp only[zl,zm,Cm,Ep,Gz,Dj,F3,Et,hg,z8,rP,Nat.sub_zero,Int.toNat_natCast,Nat.zero_le]<;>exact rfl) ?_))))))))
 refine Ab (by simp only[zo];exact yF _ _) ?_
 refine Ab (by simp only[zo];exact hcy) ?_
 refine Ae rfl (Aa (Af ?_))
 refine Av ?_
 refine⟨_,by simp only[F47,Ak,Bb,Cb,zg]<;>exact rfl,?_⟩
 simp[leave,LP,Vl,Vi,snap,D.Vk,D.Vj,D.free,D.Vo,htn]
theorem prn_tab(d:Nat)(S:St):(List.range 256).map (fun k=>Cj LP NN (d+5) 46 [.str ⟨#[UInt8.ofNat k]⟩] S)=(List.range 256).map (fun k=>some (.bool (decide (32≤k)&&decide (k≤126)),S,false)):=by kernel_rfl
theorem prn_run{d:Nat}(hd:5≤d)(S:St)(b:UInt8):Az LP NN d 46 [.str ⟨#[b]⟩] S=some (.bool (decide (32≤b.toNat)&&decide (b.toNat≤126)),S,false):=by
 obtain⟨d,rfl⟩:∃d',d=d'+5:=⟨d-5,by omega⟩
 have:=fast_ok (Ga (prn_tab d S) b.toNat b.toNat_lt)
 rwa [UInt8.ofNat_toNat]at this
def prn (b:UInt8):UInt8:=if decide (32≤b.toNat)&&decide (b.toNat≤126) then b else 46
abbrev Jm:=Nat→Nat→UInt8
def Fu (G:Jm) (r:Nat):List UInt8:=(List.range 80).map (G r)
theorem O7(G:Jm)(r:Nat):(Fu G r).length=80:=by simp[Fu]
def Fv (G:Jm) (f:FM) (bs:List UInt8) (k:Nat):Jm:=fun r c=>if r+1=f.line∧f.column≤c+1∧c+1<f.column+k then prn (bs.getD (c+1-f.column) 0) else G r c
def G0:Jm:=fun _ _=>32
def Ex (P:List (FM × List UInt8)):Jm:=P.foldl (fun G p=>Fv G p.1 p.2 p.1.size) G0
theorem paintK_0(G:Jm)(f:FM)(bs:List UInt8):Fv G f bs 0=G:=by
 funext r c
 unfold Fv
 rw[if_neg]
 intro h;omega
theorem Uh{P:List (FM × List UInt8)}{i:Nat}(h:i<P.length):Ex (P.take (i+1))=Fv (Ex (P.take i)) P[i].1 P[i].2 P[i].1.size:=by
 unfold Ex
 rw[List.take_succ_eq_append_getElem h,List.foldl_append]
 rfl
theorem Tu(G:Jm)(f:FM)(bs:List UInt8){k:Nat}(hk:k<f.size):∀r,Fu (Fv G f bs (k+1)) r=if r=f.line-1 then (Fu (Fv G f bs k) r).set (f.column-1+k) (prn (bs.getD k 0)) else Fu (Fv G f bs k) r:=by
 intro r
 have hl:=f.line_le
 have hc:=f.column_le
 split
 ·
  rename_i hr
  refine List.ext_getElem? fun c=>?_
  rw[List.getElem?_set]
  simp only[Fu,List.length_map,List.length_range,Lp_]
  by_cases hc80:c<80
  ·
   rw[List.getElem?_range hc80]
   simp only[Option.map_some]
   by_cases he:f.column-1+k=c
   ·
    rw[if_pos he,if_pos (by omega)]
    unfold Fv
    rw[if_pos (by omega),show c+1-f.column=k from by omega]
   rw[if_neg he]
   unfold Fv
   congr 1
   by_cases hx:r+1=f.line∧f.column≤c+1∧c+1<f.column+k
   ·
    rw[if_pos hx,if_pos (by omega)]
   rw[if_neg hx,if_neg (by omega)]
  have hn:(List.range 80)[c]?=none:=by simp;omega
  rw[hn]
  have:¬f.column-1+k=c:=by omega
  rw[if_neg this];rfl
 rename_i hr
 unfold Fu
 refine List.map_congr_left fun c hc=>?_
 unfold Fv
 rw[if_neg (by omega),if_neg (by omega)]
def lnO (L:List UInt8):U9:=⟨5,1,bR L,0,2,true⟩
def b32O:U9:=⟨5,1,[[.int .u8 32]],0,2,false⟩
def LNi (G:Jm) (i:Nat):List U9:=(List.range i).flatMap fun r=>[b32O,lnO (Fu G r)]
theorem Kj(G:Jm)(i:Nat):(LNi G i).length=2*i:=by
 induction i with
 | zero=>rfl
 | succ i ih=>unfold LNi at ih ⊢;rw[List.range_succ,List.flatMap_append,Ll_,ih];simp;omega
theorem Rp(G:Jm)(i:Nat):LNi G (i+1)=LNi G i++[b32O,lnO (Fu G i)]:=by
 unfold LNi
 rw[List.range_succ,List.flatMap_append];simp
theorem LNi_at(G:Jm):∀{i r:Nat},r<i→(LNi G i)[2*r+1]?=some (lnO (Fu G r))
 | i + 1, r, h => by
  rw[Rp]
  by_cases hr:r<i
  ·
   rw[La_ (by rw[Kj];omega)];exact LNi_at G hr
  have:r=i:=by omega
  subst this
  rw[Lr_ (by rw[Kj];omega),Kj]
  simp[show 2*r+1-2*r=1 from by omega]
theorem LNi_set(G G':Jm):∀{i r:Nat} {L:List UInt8},r<i→(∀j,Fu G' j=if j=r then L else Fu G j)→(LNi G i).set (2*r+1) (lnO L)=LNi G' i
 | i + 1, r, L, h, hG => by
  rw[Rp,Rp]
  by_cases hr:r<i
  ·
   rw[List.set_append_left _ _ (by rw[Kj];omega),LNi_set G G' hr hG,hG i,if_neg (by omega)]
  have:r=i:=by omega
  subst this
  rw[List.set_append_right _ _ (by rw[Kj];omega),Kj,show 2*r+1-2*r=1 from by omega,hG r,if_pos rfl]
  have yL:LNi G r=LNi G' r:=by
   unfold LNi
   rw[List.flatMap_def,List.flatMap_def]
   congr 1
   refine List.map_congr_left fun j hj=>?_
   have:=List.mem_range.1 hj
   rw[hG j,if_neg (by omega)]
  rw[yL];rfl
def P9 (n0 i:Nat):List (List D):=(List.range 24).map fun r=>if r<i then [.msl (n0+(3+2*r)) 0 0 80 (some 80)] else [.Vu]
def GLi (n0 i:Nat):U9:=⟨42,1,P9 n0 i,0,0,false⟩
theorem Iw{n0 i r:Nat}(h:r<24):(P9 n0 i)[r]?=some (if r<i then [.msl (n0+(3+2*r)) 0 0 80 (some 80)] else [.Vu]):=by simp[P9,h]
theorem Mi(n0 i:Nat):(P9 n0 i).length=24:=by simp[P9]
theorem glRows_set{n0 i:Nat}(h:i<24):(P9 n0 i).set i [.msl (n0+(3+2*i)) 0 0 80 (some 80)]=P9 n0 (i+1):=by
 refine List.ext_getElem? fun j=>?_
 rw[List.getElem?_set]
 by_cases hj:i=j
 ·
  subst hj
  rw[if_pos rfl,if_pos (by rw[Mi];exact h),Iw h,if_pos (by omega)]
 rw[if_neg hj]
 by_cases h24:j<24
 ·
  rw[Iw h24,Iw h24]
  by_cases hi:j<i
  ·
   rw[if_pos hi,if_pos (by omega)]
  rw[if_neg hi,if_neg (by omega)]
 rw[List.getElem?_eq_none (by rw[Mi];omega),List.getElem?_eq_none (by rw[Mi];omega)]
def HB (sb:U9) (n0:Nat) (G:Jm):List U9:=sb::GLi n0 24::LNi G 24
theorem Ot(sb:U9)(n0:Nat)(G:Jm):(HB sb n0 G).length=50:=by simp[HB,Kj]
section
variable (H:List U9) (sb:U9) (G:Jm) (t:List U9)
theorem HB_sb:(H++(HB sb H.length G++t))[H.length]?=some sb:=by rw[Ec];rfl
theorem HB_gl:(H++(HB sb H.length G++t))[H.length+1]?=some (GLi H.length 24):=by rw[Dn];rfl
theorem HB_ln{r:Nat}(h:r<24):(H++(HB sb H.length G++t))[H.length+(3+2*r)]?=some (lnO (Fu G r)):=by
 rw[Dn,La_ (by rw[Ot];omega),show 3+2*r=(2*r+1)+1+1 from by omega]
 exact LNi_at G h
theorem HB_set{G':Jm}{r:Nat}{L:List UInt8}(h:r<24)(hG:∀j,Fu G' j=if j=r then L else Fu G j):(H++(HB sb H.length G++t)).set (H.length+(3+2*r)) (lnO L)=H++(HB sb H.length G'++t):=by
 rw[Gd,List.set_append_left _ _ (by rw[Ot];omega),show 3+2*r=(2*r+1)+1+1 from by omega]
 unfold HB
 rw[List.set_cons_succ,List.set_cons_succ,LNi_set G G' h hG]
theorem HB_new(o:U9)(m:List U9):(H++(HB sb H.length G++(t++o::m)))[H.length+(50+t.length)]?=some o:=by
 rw[Dn,←Lo_,Lr_ (by simp[Ot]),Ll_,Ot];simp
theorem HB_newS(o y:U9)(m:List U9):(H++(HB sb H.length G++(t++o::m))).set (H.length+(50+t.length)) y=H++(HB sb H.length G++(t++y::m)):=by
 rw[Gd,←Lo_,List.set_append_right _ _ (by simp[Ot]),Ll_,Ot];simp
end
theorem bR_set(L:List UInt8)(c:Nat)(b:UInt8):(bR L).set c [.int .u8 b.toNat]=bR (L.set c b):=by simp[bR,List.map_set]
theorem spR_blank(r:Nat):spR 80=bR (Fu G0 r):=by
 have:Fu G0 r=List.replicate 80 32:=by
  show (List.range 80).map (fun _=>(32:UInt8))=_
  rw[List.map_const',List.length_range]
 rw[this]
 simp[spR,bR]
structure SrcV (H:List U9) (x:D) (vals:List D) (gv vv:Nat):Prop where
 len:Im false x=some (.int .i64 (vals.length:Nat))
 cell:x.Vn=true
 Vi:∀m l,Vi m (H++l) x=some x
 ia:∀l lo i,i<vals.length→Gs ⟨H++l,lo⟩ 1 x (.int .i64 (i:Nat))=some (.ptr gv vv i 0)
 ld:∀l lo i v,vals[i]?=some v→H8 1 false ⟨H++l,lo⟩ (.ptr gv vv i 0)=some v
structure RdB (H:List U9) (w:D) (bs:List UInt8):Prop where
 len:Im false w=some (.int .i64 (bs.length:Nat))
 cell:w.Vn=true
 rd:∀(k:Nat) (b:UInt8),bs[k]?=some b→∃A,∀l lo,Gs ⟨H++l,lo⟩ 1 w (.int .i64 (k:Nat))=some A∧H8 1 false ⟨H++l,lo⟩ A=some (.int .u8 (b.toNat:Nat))
theorem SlD.rdb{w:D}{bs:List UInt8}(h:SlD 1 (bR bs) w)(H:List U9):RdB H w bs:=by
 refine⟨by rw[h.len,Iz],h.Vn,fun k b hb=>⟨.Vw [.int .u8 (b.toNat:Nat)] 0,fun l lo=>⟨h.iaddrN _ .i64 (bR_at hb),rfl⟩⟩⟩
def Fits (H:List U9) (f:FM) (bs:List UInt8) (v:D):Prop:=bs.length=f.size∧if f.kind=1 then bs=f.text.data.toList else RdB H v bs
def trS (G:Jm) (r:Nat):ByteArray:=⟨((Fu G r).take (tn (Fu G r))).toArray⟩
def Ih (G:Jm) (i:Nat):List (List D):=(List.range 24).map fun r=>if r<i then [.str (trS G r)] else [.str ⟨#[]⟩]
theorem Ma{G:Jm}{i r:Nat}(h:r<24):(Ih G i)[r]?=some (if r<i then [.str (trS G r)] else [.str ⟨#[]⟩]):=by simp[Ih,h]
theorem Jd(G:Jm)(i:Nat):(Ih G i).length=24:=by simp[Ih]
theorem outRows_set{G:Jm}{i:Nat}(h:i<24):(Ih G i).set i [.str (trS G i)]=Ih G (i+1):=by
 refine List.ext_getElem? fun j=>?_
 rw[List.getElem?_set]
 by_cases hj:i=j
 ·
  subst hj
  rw[if_pos rfl,if_pos (by rw[Jd];exact h),Ma h,if_pos (by omega)]
 rw[if_neg hj]
 by_cases h24:j<24
 ·
  rw[Ma h24,Ma h24]
  by_cases hi:j<i
  ·
   rw[if_pos hi,if_pos (by omega)]
  rw[if_neg hi,if_neg (by omega)]
 rw[List.getElem?_eq_none (by rw[Jd];omega),List.getElem?_eq_none (by rw[Jd];omega)]
theorem SrcF.mono{H:List U9}{x:D}{rows:List (List D)}{gs v:Nat}(h:SrcF H x rows gs v)(l:List U9):SrcF (H++l) x rows gs v :=
 ⟨h.len,h.cell,fun m l'=>by rw[Lo_];exact h.snap m _,h.fpi,fun l' lo i hi=>by rw[Lo_];exact h.ia _ lo i hi,fun l' lo i r hr h16=>by rw[Lo_];exact h.ld _ lo i r hr h16⟩
abbrev sbO (nm:ByteArray) (x:D) (p0 c0:Nat):U9:=⟨36,4,[[.str nm,x,.int .i64 (p0:Nat),.int .i64 (c0:Nat)]],0,0,false⟩
theorem show_run{d:Nat}(hd:24≤d){H:List U9}{x xv:D}{rows:List (List D)}{vals:List D}{gs v gv vv:Nat}{P:List (FM × List UInt8)}(hS:SrcF H x rows gs v)(hR:RW (P.map (·.1)) rows)(hv:SrcV H xv vals gv vv)(xg:P.length≤256)(kD:vals.length=P.length)(xV:∀(i:Nat) (p:FM × List UInt8) (w:D),P[i]?=some p→vals[i]?=some w→Fits H p.1 p.2 w)(nm:ByteArray)(p0 c0:Nat)(lo:Nat) :
  Az LP NN d 20 [.agg [.str nm,x,.int .i64 (p0:Nat),.int .i64 (c0:Nat)],xv] ⟨H,lo⟩=some (.tup [.sl 1 (Ih (Ex P) 24) (some 24),.int .i64 0],⟨H,lo⟩,false):=by
 have hvz:∀m,Go.Proofs.YtkaedpmmopigkaaGreatDoor.Vi m H xv=some xv:=fun m=>by have:=hv.Vi m [];rwa [List.append_nil]at this
 have yI:=hR.len
 rw[List.length_map]at yI
 have hE:(((vals.length:Nat):Int) != ((rows.length:Nat):Int))=false:=by rw[kD,yI,bne_self_eq_false]
 have hchk:∀d',d=d'+1→∀l lo,Az LP NN d' 13 [.agg [.str nm,x,.int .i64 (p0:Nat),.int .i64 (c0:Nat)]] ⟨H++l,lo⟩=some (.int .i64 0,⟨H++l,lo⟩,false):=fun d' e l lo=>check_run (l0:=P.map (·.1)) (by omega) (hS.mono l) hR (by rw[List.length_map];omega) nm p0 c0 lo
 refine Du (F:=F20) rfl (by simp only[LP,Al,Bw,zs,zm,hS.zero,hvz]<;>exact rfl) rfl (by simp only[LP,zf,zm];try rfl) (by simp only[F20,zv]<;>exact rfl) (by omega) ?_
 rintro d rfl
 refine Ad (Ab (by simp only[zl,zm,zc,hS.cell]<;>exact rfl) ?_)
 refine Ap (Ap (Aa (Af ?_)))
 refine Ag (Ad (xo3 ?_))
 refine Ab (by simp only[zo];exact hchk d rfl _ _) ?_
 refine Ae rfl (Aa (Af ?_))
 refine Ad (Ac rfl (xo1 ?_))
 refine Aa (Af ?_)
 refine Ca ?_
 refine Aj (Bd rfl (Ag (Ad (Ac rfl (Ab (by simp only[zo,hv.len]<;>exact rfl) ?_)))))
 refine xo2 ?_
 refine xo3 ?_
 refine Ab (by simp only[zo,hS.len]<;>exact rfl) ?_
 refine Ab (by simp only[zo,Bh,hE]<;>exact rfl) ?_
 refine Aa (Af ?_)
 refine Ca ?_
 refine Aj (Bd rfl (Ad (Ab (by simp only[zl,zm,Int.reduceToNat]<;>exact rfl) ?_)))
 refine Ae rfl (Aa (Af ?_))
 refine Ag (Ad (Ac rfl (Nb ?_)))
 refine Ap (Aa (Af ?_))
 refine Aq (Cz (fun n env S'=>∃(i:Nat) (u7 u20:D),i≤24∧n=24-i∧S'=⟨H++(sbO nm x p0 c0::GLi H.length i::LNi G0 i),H.length⟩∧env=[.agg [.str nm,x,.int .i64 (p0:Nat),.int .i64 (c0:Nat)],xv,.ptr H.length 0 0 0,.Vu,.int .i64 0,.int .i64 0,.msl (H.length+1) 0 0 24 none,u7,.undef,.undef,.undef,.undef,.undef,.undef,.undef,.undef,.bool false,.bool false,.int .i64 24,.int .i64 (i:Nat),u20,.undef,.undef,.undef,.undef,.undef,.undef,.undef,.undef,.undef,.undef,.undef,.undef,.undef,.undef,.undef]) (24) (by omega) (⟨0,_,_,by omega,by omega,rfl,rfl⟩) ?_)
 rintro n env S' ⟨i,u7,u20,hi,kV,rfl,rfl⟩
 refine Ad (xo1 ?_)
 refine Aa (Af ?_)
 refine Ag ?_
 refine Bv (by simp only[opd,zv]<;>exact rfl) (fun yG=>?_) (fun yG=>?_)
 ·
  have xu:i<24:=by have:=of_decide_eq_true yG;omega
  have hw:=Dx i (by omega)
  have hga:=(Iw (n0:=H.length) (i:=i) xu).trans (by rw[if_neg (by omega)])
  have hgs:=glRows_set (n0:=H.length) xu
  have yB:=Mi H.length i
  have h0:(0:Int)≤(i:Int):=by omega
  have h24:(i:Int)<((24:Nat):Int):=by omega
  have rV:=Kj G0 i
  have hb32:(H++(sbO nm x p0 c0::GLi H.length i::(LNi G0 i++[⟨5,1,[[.int .u8 32]],0,2,false⟩])))[H.length+(2*i+1+1)]?=some ⟨5,1,[[.int .u8 32]],0,2,false⟩:=by
   rw[Dn,Ls_,Ls_,Lr_ (by rw[rV];omega),rV];simp
  have hrep:=fun lo=>repeat_run (d:=d) (by omega) hb32 lo
  have xg:(H++(sbO nm x p0 c0::GLi H.length i::(LNi G0 i++[⟨5,1,[[.int .u8 32]],0,2,false⟩]))).length=H.length+(3+2*i):=by
   simp[rV];omega
  have xS:min H.length (H.length+(3+2*i))=H.length:=by omega
  have hLN:LNi G0 (i+1)=LNi G0 i++[⟨5,1,[[.int .u8 32]],0,2,false⟩,⟨5,1,spR 80,0,2,true⟩]:=by rw[Rp,spR_blank i];rfl
  rw[xg]at hrep
  refine Aj (Bd rfl (Ag (Aq (Ad (Ac rfl (Ae rfl (Aa (Af ?_))))))))
  refine Ar (Ac rfl (Ac rfl (Ab (by simp only[zl,zm,Ct,List.replicate,Al,zs,zc,zf,rV,GLi]<;>exact rfl) ?_)))
  refine Ab (by simp only[zo];exact (hrep _)) ?_
  refine Ab (by simp only[zl,zm,Cq,Int.toNat_natCast,h0,h24,GLi,xS]<;>exact rfl) ?_
  refine Ab (by simp only[zl,zm,Cc,overlay,zs,zc,zf,List.take,List.drop,hga,hgs,rV]<;>exact rfl) ?_
  refine Aa (Eb (Af ?_))
  refine Ar (Ab (by simp only[zo,Bh,hw]<;>exact rfl) ?_)
  refine Ae rfl (Aa (Fb (by simp only[ze]<;>exact rfl) ?_))
  exact⟨24-(i+1),by omega,i+1,_,_,by omega,rfl,by rw[hLN];rfl,rfl⟩
 have hi':i=24:=by have:=of_decide_eq_false yG;omega
 subst hi'
 refine Cf (E5 (Fp (Fa (Bd rfl (Ag (Ad (xo2 ?_)))))))
 refine xo3 ?_
 refine Ab (by simp only[zo,hS.len]<;>exact rfl) ?_
 refine Ap (Aa (Af ?_))
 refine Aq (Cz (fun n env S'=>∃(i:Nat) (t:List U9) (u7 u8 u9 u10 u11 u12 u19 u20 u24 u25 u26 u27 u28 u29 u30 u31:D),i≤P.length∧n=P.length-i∧S'=⟨H++(HB (sbO nm x p0 c0) H.length (Ex (P.take i))++t),H.length⟩∧env=[.agg [.str nm,x,.int .i64 (p0:Nat),.int .i64 (c0:Nat)],xv,.ptr H.length 0 0 0,.Vu,.int .i64 0,.int .i64 0,.msl (H.length+1) 0 0 24 none,u7,u8,u9,u10,u11,u12,.undef,.undef,.undef,.bool false,.bool false,.int .i64 24,u19,u20,x,.int .i64 rows.length,.int .i64 (i:Nat),u24,u25,u26,u27,u28,u29,u30,u31,.undef,.undef,.undef,.undef]) (P.length) (by omega) (⟨0,[],_,_,_,_,_,_,_,_,_,_,_,_,_,_,_,_,by omega,by omega,by rw[List.append_nil,List.take_zero];rfl,rfl⟩) ?_)
 rintro n env S' ⟨i,t,u7,u8,u9,u10,u11,u12,u19,u20,u24,u25,u26,u27,u28,u29,u30,u31,hi,kV,rfl,rfl⟩
 refine Ad (xo1 ?_)
 refine Aa (Af ?_)
 refine Ag ?_
 refine Bv (by simp only[opd,zv]<;>exact rfl) (fun uw=>?_) (fun uw=>?_)
 ·
  have xu:i<P.length:=by have:=of_decide_eq_true uw;omega
  have hw:=Dx i (by omega)
  obtain⟨f,bs,hPe⟩:∃f bs,P[i]=(f,bs):=⟨_,_,rfl⟩
  have hPi:P[i]?=some (f,bs):=by rw[Lg xu,hPe]
  obtain⟨w,vX⟩:∃w,vals[i]?=some w:=⟨_,Lg (by omega)⟩
  obtain⟨rZ,hbf⟩:=xV i _ w hPi vX
  simp only at rZ hbf
  have hltr:i<rows.length:=by omega
  have yN:=fun l lo=>hS.ia l lo i hltr
  have hiv:=fun l lo=>hv.ia l lo i (by omega)
  have hlv:=fun l lo=>hv.ld l lo i w vX
  obtain⟨p,xR⟩:=hR.at_ (i:=i) (by rw[List.length_map];exact xu)
  have hfe:(P.map (·.1))[i]'(by rw[List.length_map];exact xu)=f:=by rw[List.getElem_map,hPe]
  rw[hfe]at xR
  have kH:=fun (l:List U9) lo=>hS.ld l lo i _ xR (by rw[Qu];exact Nat.le_refl _)
  rw[Rz]at kH
  obtain⟨tx,op,nu,r1,r2,hrf,kQ,yQ,yE,vG⟩:=R3 f p
  rw[hrf]at kH
  obtain⟨G,hG⟩:∃G,G=Ex (P.take i):=⟨_,rfl⟩
  rw[←hG]
  have xG:=f.size_le
  have uF:=f.kind_le
  have vD:=fun G o m=>HB_new H (sbO nm x p0 c0) G t o m
  have hns:=fun G o y m=>HB_newS H (sbO nm x p0 c0) G t o y m
  have kr:=fun G=>Ot (sbO nm x p0 c0) H.length G
  have hsbo:=fun G t=>HB_sb H (sbO nm x p0 c0) G t
  by_cases hk1':f.kind=1
  ·
   obtain⟨rfl,rfl,rfl,rfl⟩:=yE hk1'
   rw[if_pos hk1']at hbf
   have e1:(((f.kind:Nat):Int)==1)=true:=by rw[beq_iff_eq];omega
   have hb:RdB H (.sl 1 (Bu f.text) none) bs:=by rw[hbf];exact SlD.rdb (.of _ _ _) H
   have rY:(Bu f.text).length=f.size:=by rw[Mt,Ru]
   refine Aj (Bd rfl (Ag (Aq (Ad (Ac rfl (Ab (by simp only[zl,zm,yN]<;>exact rfl) ?_))))))
   refine Ab (by simp only[zl,zm,kH]<;>exact rfl) ?_
   refine Ab (by simp only[zl,zm,kr]<;>exact rfl) ?_
   refine Ae rfl (Ab (by simp only[zl,zm,Cc,overlay,Bw,zs,zc,zf,List.take,List.drop,vD,hns,kr,kQ.Vn,yQ.Vn]<;>exact rfl) ?_)
   refine Aa (Af ?_)
   refine Ad (Ac rfl (Ac rfl (Ab (by simp only[zl,zm,hiv]<;>exact rfl) ?_)))
   refine Ab (by simp only[zl,zm,hlv]<;>exact rfl) ?_
   refine Ae rfl (Aa (Af ?_))
   refine Ag (Ad (xo2 ?_))
   refine Ab (by simp only[zl,zm,zd,Be,List.take,List.drop,vD]<;>exact rfl) ?_
   refine Ab (by simp only[zo,Bh,e1]<;>exact rfl) ?_
   refine Aa (Af ?_)
   refine Eo ?_
   refine Ar (xo2 ?_)
   refine Ab (by simp only[zl,zm,zd,Be,List.take,List.drop,vD]<;>exact rfl) ?_
   refine Ae rfl (Aa (Af ?_))
   refine Ag (Ad (Ac rfl (Ab (by simp only[zo,Kg,rY]<;>exact rfl) ?_)))
   refine xo2 ?_
   refine xo2 ?_
   refine Ab (by simp only[zl,zm,zd,Be,List.take,List.drop,vD]<;>exact rfl) ?_
   refine Ab (by simp only[zo,Bh,bne_self_eq_false]<;>exact rfl) ?_
   refine Aa (Af ?_)
   refine Ca ?_
   refine Aj (Bd rfl (Ad (Ac rfl (Ab (by simp only[zo,Kg,rY]<;>exact rfl) ?_))))
   refine Ap (Aa (Af ?_))
   refine Aq (Cz (fun n env S'=>∃(k:Nat) (t2:List U9) (v11 v12 v30 v31:D),k≤f.size∧n=f.size-k∧S'=⟨H++(HB (sbO nm x p0 c0) H.length (Fv G f bs k)++(t++FO [.int .i64 (f.line:Nat),.int .i64 (f.column:Nat),.int .u8 (f.kind:Nat),.sl 1 (Bu f.text) none,.int .u8 (if false then (if f.size=1 then 4 else 5) else 2),.int .u8 0,.str (Gm false f.size),.int .i64 (if false then (f.size:Nat) else 0),.int .i64 0,.bool false,.bool false,.bool false,.bool false,.bool false,.int .i64 (f.size:Nat),.Vu]::t2)),H.length⟩∧env=[.agg [.str nm,x,.int .i64 (p0:Nat),.int .i64 (c0:Nat)],xv,.ptr H.length 0 0 0,.Vu,.int .i64 0,.int .i64 0,.msl (H.length+1) 0 0 24 none,u7,.int .i64 (i:Nat),.ptr (H.length+(50+t.length)) 0 0 0,(.sl 1 (Bu f.text) none),v11,v12,.undef,.undef,.undef,.bool false,.bool false,.int .i64 24,u19,u20,x,.int .i64 rows.length,.int .i64 (i:Nat),.bool (decide (((i:Nat):Int)<((rows.length:Nat):Int))),.bool true,.bool false,(.sl 1 (Bu f.text) none),.int .i64 (f.size:Nat),.int .i64 (k:Nat),v30,v31,.undef,.undef,.undef,.undef]) (f.size) (by omega) (⟨0,[],_,_,_,_,by omega,by omega,by rw[paintK_0];rfl,rfl⟩) ?_)
   rintro n env S' ⟨k,t2,v11,v12,v30,v31,hk,hnk2,rfl,rfl⟩
   refine Ad (Ab (by simp only[zo,Bh,FO]<;>exact rfl) ?_)
   refine Aa (Af ?_)
   refine Ag ?_
   refine Bv (by simp only[opd,zv]<;>exact rfl) (fun uq=>?_) (fun uq=>?_)
   ·
    have qF:k<f.size:=by have:=of_decide_eq_true uq;omega
    have hwk:=Dx k (by omega)
    have hbk:bs[k]?=some (bs[k]'(by omega)):=Lg _
    obtain⟨c,hc⟩:∃c,c=bs[k]'(by omega):=⟨_,rfl⟩
    rw[←hc]at hbk
    obtain⟨A,hA⟩:=hb.rd k c hbk
    have hiab:=fun l lo=>(hA l lo).1
    have hlab:=fun l lo=>(hA l lo).2
    have hln:=f.line_le
    have hcn:=f.column_le
    have hwl:IntKind.i64.wrap (((f.line:Nat):Int)-1)=((f.line-1:Nat):Int):=by rw[IntKind.wrap_i64];omega
    have hwc:IntKind.i64.wrap (((f.column:Nat):Int)-1)=((f.column-1:Nat):Int):=by rw[IntKind.wrap_i64];omega
    have rT:IntKind.i64.wrap (((f.column-1:Nat):Int)+((k:Nat):Int))=((f.column-1+k:Nat):Int):=by rw[IntKind.wrap_i64];omega
    have uY:f.line-1<24:=by omega
    have hc80:f.column-1+k<80:=by omega
    have yB:=fun G t=>HB_gl H (sbO nm x p0 c0) G t
    have qX:=(Iw (n0:=H.length) (i:=24) uY).trans (by rw[if_pos uY])
    have uM:=fun G t=>HB_ln H (sbO nm x p0 c0) G t uY
    have hnw2:∀(G:Jm) (fo o:U9),(H++(HB (sbO nm x p0 c0) H.length G++(t++fo::(t2++[o]))))[H.length+(50+(t.length+(t2.length+1)))]?=some o:=fun G fo o=>by
     have:=HB_new H (sbO nm x p0 c0) G (t++fo::t2) o []
     simpa using this
    have hbo:bytesOf [[D.int .u8 (c.toNat:Nat)]]=some [c]:=by simp[bytesOf]
    have hp:=fun S=>prn_run (d:=d) (by omega) S c
    have yJ:UInt8.ofNat (((c.toNat:Nat):Int)).toNat=c:=by simp
    have hp2:∀S,Az LP NN d 46 [.str ⟨#[UInt8.ofNat (((c.toNat:Nat):Int)).toNat]⟩] S=some (.bool (decide (32≤c.toNat)&&decide (c.toNat≤126)),S,false):=fun S=>by rw[yJ];exact hp S
    have zS:=bR_at (Lg (l:=Fu (Fv G f bs k) (f.line-1)) (i:=f.column-1+k) (by rw[O7];exact hc80))
    have xO:∀(v:UInt8) m,v=prn c→(H++(HB (sbO nm x p0 c0) H.length (Fv G f bs k)++m)).set (H.length+(3+2*(f.line-1))) ⟨5,1,(bR (Fu (Fv G f bs k) (f.line-1))).set (f.column-1+k) [.int .u8 (v.toNat:Nat)],0,2,true⟩=H++(HB (sbO nm x p0 c0) H.length (Fv G f bs (k+1))++m):=fun v m e=>by
     subst e
     rw[bR_set]
     refine HB_set H _ (Fv G f bs k) m uY fun j=>?_
     rw[Tu G f bs qF j]
     have:bs.getD k 0=c:=by rw[List.getD_eq_getElem?_getD,hbk];rfl
     rw[this]
     split
     ·
      rename_i e;rw[e]
     rfl
    have z1:(0:Int)≤((f.line-1:Nat):Int):=by omega
    have z2:((f.line-1:Nat):Int)<((24:Nat):Int):=by omega
    have z3:(0:Int)≤((f.column-1+k:Nat):Int):=by omega
    have z4:((f.column-1+k:Nat):Int)<((80:Nat):Int):=by omega
    refine Aj (Bd rfl (Ag (Aq (Ad (Ac rfl (Ab (by simp only[zl,zm,hiab]<;>exact rfl) ?_))))))
    refine Ab (by simp only[zl,zm,hlab]<;>exact rfl) ?_
    refine Ae rfl (Ae rfl (Aa (Af ?_)))
    refine Ag (Ad (Ac rfl (Ab (by simp only[zl,zm,Ct,List.replicate,Al,zs,zc,zf,kr]<;>exact rfl) ?_)))
    refine Ab (by simp only[zl,zm,Jr,hnw2]<;>exact rfl) ?_
    first
     | refine Ab (by simp only[zo];exact hp _) ?_
     | refine Ab (by simp only[zo];exact hp2 _) ?_
    refine xo9 ?_
    refine Aa (Af ?_)
    refine Bv (by simp only[opd,zv]<;>exact rfl) (fun wC=>?_) (fun wC=>?_)
    ·
     have hv46:(46:UInt8)=prn c:=by
      have h:=wC
      unfold prn
      rw[if_neg (by intro h2;rw[h2]at h;cases h)]
     have uV:=fun m=>xO 46 m hv46
     simp only[show ((((46:UInt8).toNat:Nat):Int))=46 from rfl]at uV
     have qH:=fun m=>List.append_cancel_left ((Gd H _ _ _).symm.trans (uV m))
     refine Ar (Ap (Aa (Af ?_)))
     refine Ey ?_
     refine Bq rfl rfl (xo6 rfl rfl ?_)
     refine Ck (by simp only[zl,zm,zd,Be,List.take,List.drop,vD]<;>exact rfl) rfl ?_
     refine Bp (by simp only[zo,Bh,hwl]<;>exact rfl) rfl rfl ?_
     refine Ck (by simp only[zl,zm,Cq,Int.toNat_natCast,yB,z1,z2,GLi]<;>exact rfl) rfl ?_
     refine Ck (by simp only[zl,zm,zd,Be,List.take,List.drop,yB,qX,GLi]<;>exact rfl) rfl ?_
     refine xo6 rfl rfl ?_
     refine Ck (by simp only[zl,zm,zd,Be,List.take,List.drop,vD]<;>exact rfl) rfl ?_
     refine Bp (by simp only[zo,Bh,hwc]<;>exact rfl) rfl rfl ?_
     refine Bq rfl rfl (Bp (by simp only[zo,Bh,rT]<;>exact rfl) rfl rfl ?_)
     refine Bq rfl rfl (Ck (by simp only[zl,zm,Cq,Int.toNat_natCast,uM,z3,z4,lnO]<;>exact rfl) rfl ?_)
     refine Ck (by simp only[zl,zm,Cc,overlay,zs,List.take,kr,uM,zS,lnO]<;>exact rfl) rfl ?_
     refine Cw (Eb (Af ?_))
     refine Ar (Ab (by simp only[zo,Bh,hwk]<;>exact rfl) ?_)
     refine Ae rfl (Aa (Fb (by simp only[ze]<;>exact rfl) ?_))
     exact⟨f.size-(k+1),by omega,k+1,_,_,_,_,_,by omega,rfl,by rw[←qH];rfl,rfl⟩
    have hvc:c=prn c:=by
     have h:=wC
     unfold prn
     rw[if_pos (by simpa using h)]
    have uV:=fun m=>xO c m hvc
    have qH:=fun m=>List.append_cancel_left ((Gd H _ _ _).symm.trans (uV m))
    refine Aj (Bd rfl (Ey ?_))
    refine Bq rfl rfl (xo6 rfl rfl ?_)
    refine Ck (by simp only[zl,zm,zd,Be,List.take,List.drop,vD]<;>exact rfl) rfl ?_
    refine Bp (by simp only[zo,Bh,hwl]<;>exact rfl) rfl rfl ?_
    refine Ck (by simp only[zl,zm,Cq,Int.toNat_natCast,yB,z1,z2,GLi]<;>exact rfl) rfl ?_
    refine Ck (by simp only[zl,zm,zd,Be,List.take,List.drop,yB,qX,GLi]<;>exact rfl) rfl ?_
    refine xo6 rfl rfl ?_
    refine Ck (by simp only[zl,zm,zd,Be,List.take,List.drop,vD]<;>exact rfl) rfl ?_
    refine Bp (by simp only[zo,Bh,hwc]<;>exact rfl) rfl rfl ?_
    refine Bq rfl rfl (Bp (by simp only[zo,Bh,rT]<;>exact rfl) rfl rfl ?_)
    refine Bq rfl rfl (Ck (by simp only[zl,zm,Cq,Int.toNat_natCast,uM,z3,z4,lnO]<;>exact rfl) rfl ?_)
    refine Ck (by simp only[zl,zm,Cc,overlay,zs,List.take,kr,uM,zS,lnO]<;>exact rfl) rfl ?_
    refine Cw (Eb (Af ?_))
    refine Ar (Ab (by simp only[zo,Bh,hwk]<;>exact rfl) ?_)
    refine Ae rfl (Aa (Fb (by simp only[ze]<;>exact rfl) ?_))
    exact⟨f.size-(k+1),by omega,k+1,_,_,_,_,_,by omega,rfl,by rw[←qH];rfl,rfl⟩
   have hk':k=f.size:=by have:=of_decide_eq_false uq;omega
   subst hk'
   refine Cf (E5 (Fp (Fa (Eb (Bd rfl (Ar (Ab (by simp only[zo,Bh,hw]<;>exact rfl) ?_)))))))
   refine Ae rfl (Aa (Fb (by simp only[ze]<;>exact rfl) ?_))
   exact⟨P.length-(i+1),by omega,i+1,_,_,_,_,_,_,_,_,_,_,_,_,_,_,_,_,_,by omega,rfl,by rw[Uh xu,hPe,←hG],rfl⟩
  rw[if_neg hk1']at hbf
  have e1:(((f.kind:Nat):Int)==1)=false:=by rw[beq_eq_false_iff_ne];omega
  have hb:=hbf
  have rY:=hb.len
  rw[rZ]at rY
  refine Aj (Bd rfl (Ag (Aq (Ad (Ac rfl (Ab (by simp only[zl,zm,yN]<;>exact rfl) ?_))))))
  refine Ab (by simp only[zl,zm,kH]<;>exact rfl) ?_
  refine Ab (by simp only[zl,zm,kr]<;>exact rfl) ?_
  refine Ae rfl (Ab (by simp only[zl,zm,Cc,overlay,Bw,zs,zc,zf,List.take,List.drop,vD,hns,kr,kQ.Vn,yQ.Vn]<;>exact rfl) ?_)
  refine Aa (Af ?_)
  refine Ad (Ac rfl (Ac rfl (Ab (by simp only[zl,zm,hiv]<;>exact rfl) ?_)))
  refine Ab (by simp only[zl,zm,hlv]<;>exact rfl) ?_
  refine Ae rfl (Aa (Af ?_))
  refine Ag (Ad (xo2 ?_))
  refine Ab (by simp only[zl,zm,zd,Be,List.take,List.drop,vD]<;>exact rfl) ?_
  refine Ab (by simp only[zo,Bh,e1]<;>exact rfl) ?_
  refine Aa (Af ?_)
  refine Ca ?_
  refine Aj (Bd rfl (Ag (Ad (Ac rfl (Ab (by simp only[zo,rY]<;>exact rfl) ?_)))))
  refine xo2 ?_
  refine xo2 ?_
  refine Ab (by simp only[zl,zm,zd,Be,List.take,List.drop,vD]<;>exact rfl) ?_
  refine Ab (by simp only[zo,Bh,bne_self_eq_false]<;>exact rfl) ?_
  refine Aa (Af ?_)
  refine Ca ?_
  refine Aj (Bd rfl (Ad (Ac rfl (Ab (by simp only[zo,rY]<;>exact rfl) ?_))))
  refine Ap (Aa (Af ?_))
  refine Aq (Cz (fun n env S'=>∃(k:Nat) (t2:List U9) (v11 v12 v30 v31:D),k≤f.size∧n=f.size-k∧S'=⟨H++(HB (sbO nm x p0 c0) H.length (Fv G f bs k)++(t++FO [.int .i64 (f.line:Nat),.int .i64 (f.column:Nat),.int .u8 (f.kind:Nat),tx,.int .u8 (if nu then (if f.size=1 then 4 else 5) else 2),.int .u8 0,.str (Gm nu f.size),.int .i64 (if nu then (f.size:Nat) else 0),.int .i64 0,.bool false,.bool false,.bool false,.bool false,.bool false,.int .i64 (f.size:Nat),op]::t2)),H.length⟩∧env=[.agg [.str nm,x,.int .i64 (p0:Nat),.int .i64 (c0:Nat)],xv,.ptr H.length 0 0 0,.Vu,.int .i64 0,.int .i64 0,.msl (H.length+1) 0 0 24 none,u7,.int .i64 (i:Nat),.ptr (H.length+(50+t.length)) 0 0 0,w,v11,v12,.undef,.undef,.undef,.bool false,.bool false,.int .i64 24,u19,u20,x,.int .i64 rows.length,.int .i64 (i:Nat),.bool (decide (((i:Nat):Int)<((rows.length:Nat):Int))),.bool false,.bool false,w,.int .i64 (f.size:Nat),.int .i64 (k:Nat),v30,v31,.undef,.undef,.undef,.undef]) (f.size) (by omega) (⟨0,[],_,_,_,_,by omega,by omega,by rw[paintK_0];rfl,rfl⟩) ?_)
  rintro n env S' ⟨k,t2,v11,v12,v30,v31,hk,hnk2,rfl,rfl⟩
  refine Ad (Ab (by simp only[zo,Bh,FO]<;>exact rfl) ?_)
  refine Aa (Af ?_)
  refine Ag ?_
  refine Bv (by simp only[opd,zv]<;>exact rfl) (fun uo=>?_) (fun uo=>?_)
  ·
   have qF:k<f.size:=by have:=of_decide_eq_true uo;omega
   have hwk:=Dx k (by omega)
   have hbk:bs[k]?=some (bs[k]'(by omega)):=Lg _
   obtain⟨c,hc⟩:∃c,c=bs[k]'(by omega):=⟨_,rfl⟩
   rw[←hc]at hbk
   obtain⟨A,hA⟩:=hb.rd k c hbk
   have hiab:=fun l lo=>(hA l lo).1
   have hlab:=fun l lo=>(hA l lo).2
   have hln:=f.line_le
   have hcn:=f.column_le
   have hwl:IntKind.i64.wrap (((f.line:Nat):Int)-1)=((f.line-1:Nat):Int):=by rw[IntKind.wrap_i64];omega
   have hwc:IntKind.i64.wrap (((f.column:Nat):Int)-1)=((f.column-1:Nat):Int):=by rw[IntKind.wrap_i64];omega
   have rT:IntKind.i64.wrap (((f.column-1:Nat):Int)+((k:Nat):Int))=((f.column-1+k:Nat):Int):=by rw[IntKind.wrap_i64];omega
   have uY:f.line-1<24:=by omega
   have hc80:f.column-1+k<80:=by omega
   have yB:=fun G t=>HB_gl H (sbO nm x p0 c0) G t
   have qX:=(Iw (n0:=H.length) (i:=24) uY).trans (by rw[if_pos uY])
   have uM:=fun G t=>HB_ln H (sbO nm x p0 c0) G t uY
   have hnw2:∀(G:Jm) (fo o:U9),(H++(HB (sbO nm x p0 c0) H.length G++(t++fo::(t2++[o]))))[H.length+(50+(t.length+(t2.length+1)))]?=some o:=fun G fo o=>by
    have:=HB_new H (sbO nm x p0 c0) G (t++fo::t2) o []
    simpa using this
   have hbo:bytesOf [[D.int .u8 (c.toNat:Nat)]]=some [c]:=by simp[bytesOf]
   have hp:=fun S=>prn_run (d:=d) (by omega) S c
   have yJ:UInt8.ofNat (((c.toNat:Nat):Int)).toNat=c:=by simp
   have hp2:∀S,Az LP NN d 46 [.str ⟨#[UInt8.ofNat (((c.toNat:Nat):Int)).toNat]⟩] S=some (.bool (decide (32≤c.toNat)&&decide (c.toNat≤126)),S,false):=fun S=>by rw[yJ];exact hp S
   have zS:=bR_at (Lg (l:=Fu (Fv G f bs k) (f.line-1)) (i:=f.column-1+k) (by rw[O7];exact hc80))
   have xO:∀(v:UInt8) m,v=prn c→(H++(HB (sbO nm x p0 c0) H.length (Fv G f bs k)++m)).set (H.length+(3+2*(f.line-1))) ⟨5,1,(bR (Fu (Fv G f bs k) (f.line-1))).set (f.column-1+k) [.int .u8 (v.toNat:Nat)],0,2,true⟩=H++(HB (sbO nm x p0 c0) H.length (Fv G f bs (k+1))++m):=fun v m e=>by
    subst e
    rw[bR_set]
    refine HB_set H _ (Fv G f bs k) m uY fun j=>?_
    rw[Tu G f bs qF j]
    have:bs.getD k 0=c:=by rw[List.getD_eq_getElem?_getD,hbk];rfl
    rw[this]
    split
    ·
     rename_i e;rw[e]
    rfl
   have z1:(0:Int)≤((f.line-1:Nat):Int):=by omega
   have z2:((f.line-1:Nat):Int)<((24:Nat):Int):=by omega
   have z3:(0:Int)≤((f.column-1+k:Nat):Int):=by omega
   have z4:((f.column-1+k:Nat):Int)<((80:Nat):Int):=by omega
   refine Aj (Bd rfl (Ag (Aq (Ad (Ac rfl (Ab (by simp only[zl,zm,hiab]<;>exact rfl) ?_))))))
   refine Ab (by simp only[zl,zm,hlab]<;>exact rfl) ?_
   refine Ae rfl (Ae rfl (Aa (Af ?_)))
   refine Ag (Ad (Ac rfl (Ab (by simp only[zl,zm,Ct,List.replicate,Al,zs,zc,zf,kr]<;>exact rfl) ?_)))
   refine Ab (by simp only[zl,zm,Jr,hnw2]<;>exact rfl) ?_
   first
    | refine Ab (by simp only[zo];exact hp _) ?_
    | refine Ab (by simp only[zo];exact hp2 _) ?_
   refine xo9 ?_
   refine Aa (Af ?_)
   refine Bv (by simp only[opd,zv]<;>exact rfl) (fun wB=>?_) (fun wB=>?_)
   ·
    have hv46:(46:UInt8)=prn c:=by
     have h:=wB
     unfold prn
     rw[if_neg (by intro h2;rw[h2]at h;cases h)]
    have uV:=fun m=>xO 46 m hv46
    simp only[show ((((46:UInt8).toNat:Nat):Int))=46 from rfl]at uV
    have qH:=fun m=>List.append_cancel_left ((Gd H _ _ _).symm.trans (uV m))
    refine Ar (Ap (Aa (Af ?_)))
    refine Ey ?_
    refine Bq rfl rfl (xo6 rfl rfl ?_)
    refine Ck (by simp only[zl,zm,zd,Be,List.take,List.drop,vD]<;>exact rfl) rfl ?_
    refine Bp (by simp only[zo,Bh,hwl]<;>exact rfl) rfl rfl ?_
    refine Ck (by simp only[zl,zm,Cq,Int.toNat_natCast,yB,z1,z2,GLi]<;>exact rfl) rfl ?_
    refine Ck (by simp only[zl,zm,zd,Be,List.take,List.drop,yB,qX,GLi]<;>exact rfl) rfl ?_
    refine xo6 rfl rfl ?_
    refine Ck (by simp only[zl,zm,zd,Be,List.take,List.drop,vD]<;>exact rfl) rfl ?_
    refine Bp (by simp only[zo,Bh,hwc]<;>exact rfl) rfl rfl ?_
    refine Bq rfl rfl (Bp (by simp only[zo,Bh,rT]<;>exact rfl) rfl rfl ?_)
    refine Bq rfl rfl (Ck (by simp only[zl,zm,Cq,Int.toNat_natCast,uM,z3,z4,lnO]<;>exact rfl) rfl ?_)
    refine Ck (by simp only[zl,zm,Cc,overlay,zs,List.take,kr,uM,zS,lnO]<;>exact rfl) rfl ?_
    refine Cw (Eb (Af ?_))
    refine Ar (Ab (by simp only[zo,Bh,hwk]<;>exact rfl) ?_)
    refine Ae rfl (Aa (Fb (by simp only[ze]<;>exact rfl) ?_))
    exact⟨f.size-(k+1),by omega,k+1,_,_,_,_,_,by omega,rfl,by rw[←qH];rfl,rfl⟩
   have hvc:c=prn c:=by
    have h:=wB
    unfold prn
    rw[if_pos (by simpa using h)]
   have uV:=fun m=>xO c m hvc
   have qH:=fun m=>List.append_cancel_left ((Gd H _ _ _).symm.trans (uV m))
   refine Aj (Bd rfl (Ey ?_))
   refine Bq rfl rfl (xo6 rfl rfl ?_)
   refine Ck (by simp only[zl,zm,zd,Be,List.take,List.drop,vD]<;>exact rfl) rfl ?_
   refine Bp (by simp only[zo,Bh,hwl]<;>exact rfl) rfl rfl ?_
   refine Ck (by simp only[zl,zm,Cq,Int.toNat_natCast,yB,z1,z2,GLi]<;>exact rfl) rfl ?_
   refine Ck (by simp only[zl,zm,zd,Be,List.take,List.drop,yB,qX,GLi]<;>exact rfl) rfl ?_
   refine xo6 rfl rfl ?_
   refine Ck (by simp only[zl,zm,zd,Be,List.take,List.drop,vD]<;>exact rfl) rfl ?_
   refine Bp (by simp only[zo,Bh,hwc]<;>exact rfl) rfl rfl ?_
   refine Bq rfl rfl (Bp (by simp only[zo,Bh,rT]<;>exact rfl) rfl rfl ?_)
   refine Bq rfl rfl (Ck (by simp only[zl,zm,Cq,Int.toNat_natCast,uM,z3,z4,lnO]<;>exact rfl) rfl ?_)
   refine Ck (by simp only[zl,zm,Cc,overlay,zs,List.take,kr,uM,zS,lnO]<;>exact rfl) rfl ?_
   refine Cw (Eb (Af ?_))
   refine Ar (Ab (by simp only[zo,Bh,hwk]<;>exact rfl) ?_)
   refine Ae rfl (Aa (Fb (by simp only[ze]<;>exact rfl) ?_))
   exact⟨f.size-(k+1),by omega,k+1,_,_,_,_,_,by omega,rfl,by rw[←qH];rfl,rfl⟩
  have hk':k=f.size:=by have:=of_decide_eq_false uo;omega
  subst hk'
  refine Cf (E5 (Fp (Fa (Eb (Bd rfl (Ar (Ab (by simp only[zo,Bh,hw]<;>exact rfl) ?_)))))))
  refine Ae rfl (Aa (Fb (by simp only[ze]<;>exact rfl) ?_))
  exact⟨P.length-(i+1),by omega,i+1,_,_,_,_,_,_,_,_,_,_,_,_,_,_,_,_,_,by omega,rfl,by rw[Uh xu,hPe,←hG],rfl⟩
 have hi':i=P.length:=by have:=of_decide_eq_false uw;omega
 subst hi'
 have vD:=fun G o m=>HB_new H (sbO nm x p0 c0) G t o m
 have hns:=fun G o y m=>HB_newS H (sbO nm x p0 c0) G t o y m
 have kr:=fun G=>Ot (sbO nm x p0 c0) H.length G
 have hsbo:=fun G t=>HB_sb H (sbO nm x p0 c0) G t
 refine Cf (E5 (Fp (Fa (Bd rfl (Ad (Ab (by simp only[zl,zm,Int.reduceToNat,kr]<;>exact rfl) ?_))))))
 refine Ae rfl (Aa (Af ?_))
 refine Ag (Ad (Ac rfl (Nb ?_)))
 refine Ap (Aa (Af ?_))
 refine Aq (Cz (fun n env S'=>∃(i:Nat) (w14 w15 w24 w35:D),i≤24∧n=24-i∧S'=⟨H++(HB (sbO nm x p0 c0) H.length (Ex P)++(t++[⟨9,1,Ih (Ex P) i,0,2,false⟩])),H.length⟩∧env=[.agg [.str nm,x,.int .i64 (p0:Nat),.int .i64 (c0:Nat)],xv,.ptr H.length 0 0 0,.Vu,.int .i64 0,.int .i64 0,.msl (H.length+1) 0 0 24 none,u7,u8,u9,u10,u11,u12,.msl (H.length+(50+t.length)) 0 0 24 none,w14,w15,.bool false,.bool false,.int .i64 24,u19,u20,x,.int .i64 rows.length,.int .i64 (P.length:Nat),w24,u25,u26,u27,u28,u29,u30,u31,.msl (H.length+1) 0 0 24 none,.int .i64 24,.int .i64 (i:Nat),w35]) (24) (by omega) (⟨0,_,_,_,_,by omega,by omega,by rw[List.take_length];rfl,rfl⟩) ?_)
 rintro n env S' ⟨i,w14,w15,w24,w35,yY,hnk3,rfl,rfl⟩
 refine Ad (xo1 ?_)
 refine Aa (Af ?_)
 refine Ag ?_
 refine Bv (by simp only[opd,zv]<;>exact rfl) (fun vO=>?_) (fun vO=>?_)
 ·
  have xu:i<24:=by have:=of_decide_eq_true vO;omega
  have hw:=Dx i (by omega)
  have h0:(0:Int)≤(i:Int):=by omega
  have h24:(i:Int)<((24:Nat):Int):=by omega
  have yB:=fun G t=>HB_gl H (sbO nm x p0 c0) G t
  have qX:=(Iw (n0:=H.length) (i:=24) xu).trans (by rw[if_pos xu])
  have uM:=fun G t=>HB_ln H (sbO nm x p0 c0) G t xu
  have hTr:∀m lo,Az LP NN d 47 [.msl (H.length+(3+2*i)) 0 0 80 (some 80)] ⟨H++(HB (sbO nm x p0 c0) H.length (Ex P)++m),lo⟩=some (.sl 1 (bR ((Fu (Ex P) i).take (tn (Fu (Ex P) i)))) (some (tn (Fu (Ex P) i))),⟨H++(HB (sbO nm x p0 c0) H.length (Ex P)++m),lo⟩,false):=fun m lo=>by
   have:=trim_run (d:=d) (cap:=some 80) (by omega) (uM (Ex P) m) (by rw[O7];omega) lo
   rwa [O7]at this
  have hbb:=Ms ((Fu (Ex P) i).take (tn (Fu (Ex P) i)))
  have hoa:=(Ma (G:=Ex P) (i:=i) xu).trans (by rw[if_neg (by omega)])
  have hos:=outRows_set (G:=Ex P) xu
  rw[show trS (Ex P) i=⟨((Fu (Ex P) i).take (tn (Fu (Ex P) i))).toArray⟩ from rfl]at hos
  refine Aj (Bd rfl (Ag (Aq (Ad (Ac rfl (Ab (by simp only[zl,zm,Cq,Int.toNat_natCast,h0,h24,yB,GLi]<;>exact rfl) ?_))))))
  refine Ab (by simp only[zl,zm,zd,Be,List.take,List.drop,yB,qX,GLi]<;>exact rfl) ?_
  refine Ae rfl (Ae rfl (Aa (Af ?_)))
  refine Ar (Ac rfl (Ac rfl (Ac rfl (Ab (by simp only[zo];exact hTr _ _) ?_))))
  refine Ab (by simp only[zl,zm,Gn,hbb]<;>exact rfl) ?_
  refine Ab (by simp only[zl,zm,Cq,Int.toNat_natCast,vD,h0,h24]<;>exact rfl) ?_
  refine Ab (by simp only[zl,zm,Cc,overlay,zs,List.take,vD,hns,kr,hoa]<;>exact rfl) ?_
  refine Aa (Eb (Af ?_))
  refine Ar (Ab (by simp only[zo,Bh,hw]<;>exact rfl) ?_)
  refine Ae rfl (Aa (Fb (by simp only[ze]<;>exact rfl) ?_))
  exact⟨24-(i+1),by omega,i+1,_,_,_,_,by omega,rfl,by rw[←hos];rfl,rfl⟩
 have hi':i=24:=by have:=of_decide_eq_false vO;omega
 subst hi'
 have hto:(Ih (Ex P) 24).take 24=Ih (Ex P) 24:=List.take_of_length_le (by rw[Jd];exact Nat.le_refl _)
 have zT:=Jd (Ex P) 24
 have zF:H.length≤H.length+(50+t.length):=by omega
 refine Cf (E5 (Fp (Fa (Bd rfl (Ad (Ac rfl (Ae rfl (Ap (Aa (Af ?_))))))))))
 refine Av ?_
 refine⟨_,by simp only[F20,Ak,Bb,Cb,zg]<;>exact rfl,?_⟩
 simp[leave,LP,Vl,Vi,snap,D.Vk,D.Vj,D.free,D.Vo,Al,vD,hto,zT,zF]
def OL (l:List U9) (n0 q:Nat) (x:D) (rows:List (List D)):Prop:=(x=.Vu∧rows=[])∨∃vs,x=.msl (n0+q) vs 0 rows.length none∧l[q]?=some ⟨74,2,rows,vs,0,true⟩
theorem OL.app{H l:List U9}{q n0 lo:Nat}{x:D}{rows:List (List D)}{row:List D}(hn:H.length=n0)(y5:lo≤n0)(h:OL l n0 q x rows)(hq:0<q)(hl:rows.length<1000)(yS:0<l.length) :
  ∃x' l' q',Ci 74 2 32 0 x (.msl (n0+l.length) 0 0 1 none) ⟨H++(l++[⟨74,2,[row],0,0,false⟩]),lo⟩=some (x',⟨H++l',lo⟩,true)∧OL l' n0 q' x' (rows++[row])∧0<q'∧l.length+1≤l'.length∧l'[0]?=l[0]?∧x'.Vn=true∧∀(k:Nat) (o:U9),l[k]?=some o→o.elem≠74→l'[k]?=some o:=by
 subst hn
 have hr:(H++(l++[(⟨74,2,[row],0,0,false⟩:U9)]))[H.length+l.length]?=some ⟨74,2,[row],0,0,false⟩:=by rw[Dn,Ec];rfl
 have zR:Ei ⟨H++(l++[⟨74,2,[row],0,0,false⟩]),lo⟩ 2 (.msl (H.length+l.length) 0 0 1 none)=some [row]:=by simp[Ei,rowsOf]
 rcases h with⟨rfl,rfl⟩ | ⟨vs,rfl,ho⟩
 ·
  refine⟨.msl (H.length+(l.length+1)) 0 0 1 none,l++[⟨74,2,[row],0,0,false⟩,⟨74,2,[row],0,0,true⟩],l.length+1,?_,.inr ⟨0,rfl,by simp⟩,by omega,by simp,by rw[La_ yS],rfl,fun k o h _=>by rw[Cy (Br h)];exact h⟩
  simp[Ci,zR,Bi,newAt]
 have vg:=Br ho
 have hz:(H++(l++[(⟨74,2,[row],0,0,false⟩:U9)]))[H.length+q]?=some ⟨74,2,rows,vs,0,true⟩:=by rw[Dn,Cy vg];exact ho
 refine⟨.msl (H.length+q) (vs+1) 0 (rows.length+1) none,l.set q ⟨74,2,rows++[row],vs+1,0,true⟩++[⟨74,2,[row],0,0,false⟩],q,?_,.inr ⟨vs+1,by simp,by rw[Cy (by simpa using vg)];exact Gb vg _⟩,hq,by simp,?_,rfl,fun k o h he=>?_⟩
 ·
  have hb:(rows.length+1)*32≤140737488355328:=by omega
  have xS:min lo (H.length+q)=lo:=by omega
  simp[Ci,zR,Bi,rowsOf,hz,setAt,hb,xS,Jc vg]
 ·
  rw[La_ (by simpa using yS),Ln_ (by omega)]
 rw[Cy (by simpa using Br h),Ln_ ?_]
 ·
  exact h
 intro e
 subst e
 rw[ho]at h
 cases h
 exact he rfl
theorem OL.len{l:List U9}{n0 q:Nat}{x:D}{rows:List (List D)}(h:OL l n0 q x rows):Im false x=some (.int .i64 (rows.length:Nat)):=by
 rcases h with⟨rfl,rfl⟩ | ⟨vs,rfl,_⟩<;>rfl
theorem OL.more{l:List U9}{n0 q:Nat}{x:D}{rows:List (List D)}(h:OL l n0 q x rows)(m:List U9):OL (l++m) n0 q x rows:=by
 rcases h with h | ⟨vs,h1,h2⟩
 ·
  exact .inl h
 exact .inr ⟨vs,h1,by rw[Cy (Br h2)];exact h2⟩
def Ef (T:Nat→D × Bool) (m j:Nat):Option (Nat × D):=if j<m then (if (T j).2 then some (j+1,(T j).1) else Ef T m (j+1)) else none
termination_by m-j
def Fx (T:Nat→Nat→D × Bool) (m:Nat):List FM→Nat→Nat→List (Nat × D)→Option (Nat × List (Nat × D))
 | [],_,used,out=>some (used,out)
 | f::l,i,used,out=>if f.kind<3 then Fx T m l (i+1) used out else match Ef (T i) m used with
  | none=>none
  | some (j,b)=>Fx T m l (i+1) j (out++[(i,b)])
def Ha (l:List (Nat × D)):List (List D):=l.map fun p=>[.int .i64 (p.1:Nat),p.2]
theorem Td(l:List (Nat × D))(i:Nat)(b:D):Ha (l++[(i,b)])=Ha l++[[.int .i64 (i:Nat),b]]:=by simp[Ha]
theorem tyRows_len(l:List (Nat × D)):(Ha l).length=l.length:=by simp[Ha]
theorem clip49_msl{d:Nat}(hd:1≤d){H:List U9}{gs vs:Nat}{rows:List (List D)}(h2:H[gs]?=some ⟨74,2,rows,vs,0,true⟩)(lo:Nat):Az LP NN d 49 [.msl gs vs 0 rows.length none] ⟨H,lo⟩=some (.msl gs vs 0 rows.length (some rows.length),⟨H,lo⟩,false):=by
 have hb:∀(n:Nat),(0:Int)≤(n:Int):=fun n=>by omega
 refine Du (F:=F49) rfl (by simp only[LP,Al,zs,zm,h2,show ((0:Nat)=1)=False from by decide,show ((0:Nat)=2)=False from by decide,and_false,or_self]<;>exact rfl) rfl (by simp only[LP,zf,zm,Bool.and_false];try rfl) (by simp only[F49,zv]<;>exact rfl) (by omega) ?_
 rintro d rfl
 refine Ad (Ap (Aa (Af ?_)))
 refine Ad (Ac rfl (Ac rfl (Nb ?_)))
 refine Ac rfl (Nb ?_)
 refine Ab (by simp only[zl,zm,Cm,Ep,Gz,Dj,F3,Et,h2,hb,Int.toNat_natCast,Nat.zero_le,Nat.le_refl,Nat.sub_zero]<;>exact rfl) ?_
 refine Ae rfl (Aa (Af ?_))
 refine Av ?_
 refine⟨_,by simp only[F49,Ak,Bb,Cb,zg]<;>exact rfl,?_⟩
 simp[leave,LP,Vl,Vi,snap,D.Vk,D.Vj,D.free,D.Vo,h2]
theorem clip49_nil{d:Nat}(hd:1≤d)(H:List U9)(lo:Nat):Az LP NN d 49 [.Vu] ⟨H,lo⟩=some (.Vu,⟨H,lo⟩,false):=by
 refine Du (F:=F49) rfl (by simp only[LP,Al,zs]<;>exact rfl) rfl (by simp only[LP,zf,zm];try rfl) (by simp only[F49,zv]<;>exact rfl) (by omega) ?_
 rintro d rfl
 refine Ad (Ap (Aa (Af ?_)))
 refine Ad (Ac rfl (Ac rfl (Ab (by simp only[zo,K8]<;>exact rfl) ?_)))
 refine Ac rfl (Ab (by simp only[zo,K8]<;>exact rfl) ?_)
 refine Ab (by simp only[zl,Cm,Ep,Dj,F3,Et]<;>exact rfl) ?_
 refine Ae rfl (Aa (Af ?_))
 refine Av ?_
 refine⟨_,by simp only[F49,Ak,Bb,Cb,zg]<;>exact rfl,?_⟩
 simp[leave,LP,Vl,Vi,snap,D.Vk,D.Vj,D.free,D.Vo]
theorem clip49_run{d:Nat}(hd:1≤d){H l:List U9}{q:Nat}{x:D}{rows:List (List D)}(h:OL l H.length q x rows)(lo:Nat):Az LP NN d 49 [x] ⟨H++l,lo⟩=some (Da x,⟨H++l,lo⟩,false):=by
 rcases h with⟨rfl,rfl⟩ | ⟨vs,rfl,h2⟩
 ·
  exact clip49_nil hd _ lo
 exact clip49_msl hd (by rw[Dn];exact h2) lo
def TL (H:List U9) (go:Nat) (y:D) (rows:List (List D)):Prop:=(y=.Vu∧rows=[])∨∃vs,y=.msl go vs 0 rows.length (some rows.length)∧H[go]?=some ⟨74,2,rows,vs,0,true⟩
def AccR (H:List U9) (lo:Nat):Option (Nat × List (Nat × D))→D × St × Bool→Prop
 | none,x=>x=(.tup [.Vu,.int .i64 0,.int .i64 7],⟨H,lo⟩,false)
 | some (u,out),x=>∃y H' go wr,x=(.tup [y,.int .i64 (u:Nat),.int .i64 0],⟨H',lo⟩,wr)∧TL H' go y (Ha out)∧H.length≤H'.length∧(∀k,k<H.length→H'[k]?=H[k]?)∧u≤1000000
theorem Ka{d:Nat}(hd:24≤d){H:List U9}{x xl:D}{rows:List (List D)}{gs v:Nat}{l0:List FM}{ls:List ByteArray}{T:Nat→Nat→D × Bool}(hS:SrcF H x rows gs v)(hR:RW l0 rows)(uE:SlD 1 (Co ls) xl)(xg:l0.length≤256)(hls:ls.length≤1000)
  (hT:∀i j p (hi:i<l0.length) (hj:j<ls.length),3≤l0[i].kind→(∀d',d=d'+1→∀S,Az LP NN d' 48 [.agg (Ia l0[i] p),.str ls[j]] S=some (.tup [(T i j).1,.bool (T i j).2],S,false))∧∃ys,SlD 1 ys (T i j).1) (nm:ByteArray) (p0 c0:Nat) (lo:Nat) (y5:lo≤H.length) :
  ∃r,AccR H lo (Fx T ls.length l0 0 0 []) r∧Az LP NN d 23 [.agg [.str nm,x,.int .i64 (p0:Nat),.int .i64 (c0:Nat)],xl] ⟨H,lo⟩=some r:=by
 have yI:=hR.len
 have hchk:∀d',d=d'+1→∀l lo,Az LP NN d' 13 [.agg [.str nm,x,.int .i64 (p0:Nat),.int .i64 (c0:Nat)]] ⟨H++l,lo⟩=some (.int .i64 0,⟨H++l,lo⟩,false):=fun d' e l lo=>check_run (l0:=l0) (by omega) (hS.mono l) hR (by omega) nm p0 c0 lo
 refine run_at_ex (F:=F23) (P:=fun r=>AccR H lo (Fx T ls.length l0 0 0 []) r) rfl (by simp only[LP,Al,Bw,zs,zm,hS.zero,uE.Vi]<;>exact rfl) rfl (by simp only[LP,zf,zm];try rfl) (by simp only[F23,zv]<;>exact rfl) (by omega) ?_
 rintro d rfl
 have zz9:=aI uE.len (aI hS.len (aI hS.cell (aI @Dn (@Ec))))
 refine Ad (Ab (by simp only[zl,zm,zc,zz9]<;>exact rfl) ?_)
 refine Ap (Ap (Ap (Aa (Af ?_))))
 refine Ag (Ad (xo33 ?_))
 refine Ab (by simp only[zo];exact hchk d rfl _ _) ?_
 refine Ae rfl (Aa (Af ?_))
 refine Ad (Ac rfl (xo1 ?_))
 refine Aa (Af ?_)
 refine Ca ?_
 refine Aj (Bd rfl (Ad (Ap (Aa (Af ?_)))))
 refine Ad (Ap (Aa (Af ?_)))
 refine Ag (Ad (Go.Proofs.YtkaedpmmopigkaaGreatDoor.xo2 ?_))
 refine xo33 ?_
 refine Ab (by simp only[zo,zz9]<;>exact rfl) ?_
 refine Ap (Aa (Af ?_))
 refine Aq (Cz (fun n env S'=>∃(i used q:Nat) (out:List (Nat × D)) (l:List U9) (xo u9 u10 u11 u12 u13 u18 u19 u20 u21 u22:D),i≤l0.length∧n=l0.length-i∧S'=⟨H++l,H.length⟩∧env=[.agg [.str nm,x,.int .i64 (p0:Nat),.int .i64 (c0:Nat)],xl,.ptr H.length 0 0 0,.Vu,.int .i64 0,.int .i64 0,.int .i64 0,xo,.int .i64 (used:Nat),u9,u10,u11,u12,u13,.bool false,x,.int .i64 rows.length,.int .i64 (i:Nat),u18,u19,u20,u21,u22]∧OL l H.length q xo (Ha out)∧0<q∧l[0]?=some (sbO nm x p0 c0)∧used≤ls.length∧out.length≤i∧Fx T ls.length l0 0 0 []=Fx T ls.length (l0.drop i) i used out) (l0.length) (by omega) (⟨0,0,1,[],[sbO nm x p0 c0],.Vu,_,_,_,_,_,_,_,_,_,_,by omega,by omega,rfl,rfl,.inl ⟨rfl,rfl⟩,by omega,rfl,by omega,by simp,by rw[List.drop_zero]⟩) ?_)
 rintro n env S' ⟨i,used,q,out,l,xo,u9,u10,u11,u12,u13,u18,u19,u20,u21,u22,hi,kV,rfl,rfl,hO,hq,vT,hu,hou,zY⟩
 refine Ad (xo1 ?_)
 refine Aa (Af ?_)
 refine Ag ?_
 refine Bv (by simp only[opd,zv]<;>exact rfl) (fun yG=>?_) (fun yG=>?_)
 ·
  have xu:i<rows.length:=by have:=of_decide_eq_true yG;omega
  have hlt0:i<l0.length:=by omega
  have hw:=Dx i (by omega)
  have r9:=List.drop_eq_getElem_cons hlt0
  obtain⟨f,kL⟩:∃f,f=l0[i]:=⟨_,rfl⟩
  rw[←kL]at r9
  have yN:=fun l lo=>hS.ia l lo i xu
  obtain⟨p,xR⟩:=hR.at_ hlt0
  rw[←kL]at xR
  have kH:=fun (l:List U9) lo=>hS.ld l lo i _ xR (by rw[Qu];exact Nat.le_refl _)
  rw[Rz]at kH
  have hTy:=fun j hj hk=>hT i j p hlt0 hj (by rw[←kL];exact hk)
  rw[←kL]at hTy
  obtain⟨tx,op,nu,r1,r2,hrf,kQ,yQ,yE,vG⟩:=R3 f p
  rw[hrf]at kH hTy
  have uF:=f.kind_le
  have hsb1:=Br vT
  have hll0:∀o:U9,(l++[o])[l.length]?=some o:=fun o=>by simp
  have hlls:∀o y:U9,(l++[o]).set l.length y=l++[y]:=fun o y=>by simp
  have uJ:=aI hw (aI yN (aI kH (aI hll0 (aI hlls (aI kQ.Vn (aI yQ.Vn (aI kQ.cells (aI yQ.cells (aI kQ.val (yQ.val))))))))))
  rcases (by omega:f.kind<3∨f.kind=3∨f.kind=4) with z8 | z8 | z8
  ·
   have e3:(((f.kind:Nat):Int) != 3)=true:=by rw[bne_iff_ne];omega
   have e4:(((f.kind:Nat):Int) != 4)=true:=by rw[bne_iff_ne];omega
   refine Aj (Bd rfl (Ag (Aq (Ad (Ac rfl (Ab (by simp only[zl,zm,uJ]<;>exact rfl) ?_))))))
   refine Ab (by simp only[zl,zm,uJ]<;>exact rfl) ?_
   refine xo8 ?_
   refine Ae rfl (xo44 ?_)
   refine Aa (Af ?_)
   refine Ag (Ad (Go.Proofs.YtkaedpmmopigkaaGreatDoor.xo2 ?_))
   refine xo33 ?_
   refine Ab (by simp only[zo,Bh,e3]<;>exact rfl) ?_
   refine Ae rfl (Ce 0 (b:=true) ?_)
   refine Ai rfl (Go.Proofs.YtkaedpmmopigkaaGreatDoor.xo2 ?_)
   refine Ai rfl (xo33 ?_)
   refine Ai rfl (Ab (by simp only[zo,Bh,e4]<;>exact rfl) ?_)
   refine xo0 ?_
   refine Aa (Af ?_)
   refine Eo ?_
   refine Cf (E5 (Fa (Bd rfl (Ar (Ab (by simp only[zo,Bh,uJ]<;>exact rfl) ?_)))))
   refine Ae rfl (Aa (Fb (by simp only[ze]<;>exact rfl) ?_))
   exact⟨l0.length-(i+1),by omega,i+1,used,q,out,_,xo,_,_,_,_,_,_,_,_,_,_,by omega,rfl,rfl,rfl,hO.more _,hq,by rw[Cy (Br vT)];exact vT,hu,by omega,by rw[zY,r9,Fx,if_pos (by omega)]⟩
  ·
   have e3:(((f.kind:Nat):Int) != 3)=false:=by rw[z8];rfl
   have xM:3≤f.kind:=by omega
   refine Aj (Bd rfl (Ag (Aq (Ad (Ac rfl (Ab (by simp only[zl,zm,uJ]<;>exact rfl) ?_))))))
   refine Ab (by simp only[zl,zm,uJ]<;>exact rfl) ?_
   refine xo8 ?_
   refine Ae rfl (xo44 ?_)
   refine Aa (Af ?_)
   refine Ag (Ad (Go.Proofs.YtkaedpmmopigkaaGreatDoor.xo2 ?_))
   refine xo33 ?_
   refine Ab (by simp only[zo,Bh,e3]<;>exact rfl) ?_
   refine Ae rfl (Ce 0 (b:=false) ?_)
   refine Ao rfl rfl (Ao rfl rfl (Ao rfl rfl (xo0 ?_)))
   refine Aa (Af ?_)
   refine Bz (by simp only[opd,zv]) ?_
   refine Aj (Bd rfl (Ad (Ap (Aa (Af ?_)))))
   refine Aq (Cz (fun n env S'=>∃(j q2:Nat) (done:Bool) (out2:List (Nat × D)) (l2:List U9) (xo2 v12 v13 v20 v21 v22:D),S'=⟨H++l2,H.length⟩∧env=[.agg [.str nm,x,.int .i64 (p0:Nat),.int .i64 (c0:Nat)],xl,.ptr H.length 0 0 0,.Vu,.int .i64 0,.int .i64 0,.int .i64 0,xo2,.int .i64 (j:Nat),.int .i64 (i:Nat),.ptr (H.length+l.length) 0 0 0,.bool done,v12,v13,.bool false,x,.int .i64 rows.length,.int .i64 (i:Nat),.bool (decide (((i:Nat):Int)<((rows.length:Nat):Int))),.bool false,v20,v21,v22]∧OL l2 H.length q2 xo2 (Ha out2)∧0<q2∧l2[0]?=some (sbO nm x p0 c0)∧l2[l.length]?=some (FO [.int .i64 (f.line:Nat),.int .i64 (f.column:Nat),.int .u8 (f.kind:Nat),tx,.int .u8 (if nu then (if f.size=1 then 4 else 5) else 2),.int .u8 0,.str (Gm nu f.size),.int .i64 (if nu then (f.size:Nat) else 0),.int .i64 0,.bool false,.bool false,.bool false,.bool false,.bool false,.int .i64 (f.size:Nat),op])∧j≤ls.length∧n=2*(ls.length-j)+(if done then 0 else 1)∧((done=false∧Ef (T i) ls.length used=Ef (T i) ls.length j∧out2=out)∨(done=true∧∃b,Ef (T i) ls.length used=some (j,b)∧out2=out++[(i,b)]))) (2*(ls.length-used)+1) (by omega) (⟨used,q,false,out,_,xo,_,_,_,_,_,rfl,rfl,hO.more _,hq,by rw[Cy hsb1];exact vT,hll0 _,hu,rfl,.inl ⟨rfl,rfl,rfl⟩⟩) ?_)
   rintro n env S' ⟨j,q2,done,out2,l2,xo2,v12,v13,v20,v21,v22,rfl,rfl,rR,rH,zL,hfo,hj,hnB,hdone⟩
   rcases hdone with⟨rfl,hf,rfl⟩ | ⟨rfl,b0,hf,rfl⟩
   ·
    refine Ag (Ad (Ac rfl (xo9 ?_)))
    refine Aa (Af ?_)
    refine Eo ?_
    refine Aj (Bd rfl (Aq (Ag (Ad (Ac rfl (Ac rfl (Ab (by simp only[zo,Ej,zz9]<;>exact rfl) ?_)))))))
    refine xo1 ?_
    refine Aa (Af ?_)
    refine Bv (by simp only[opd,zv]<;>exact rfl) (fun vN=>?_) (fun vN=>?_)
    ·
     have hjm:ls.length≤j:=by have:=of_decide_eq_true vN;omega
     have yg:Fx T ls.length l0 0 0 []=none:=by
      rw[zY,r9,Fx,if_neg (by omega),hf,Ef,if_neg (by omega)]
     refine Ad (Ap (Ap (Ap (Aa (Af ?_)))))
     refine Av (D5 (G9 (Nw (G9 (G9 (D5 (Nw (G9 (D5 ?_)))))))))
     refine⟨_,by rw[yg];exact rfl,?_⟩
     refine⟨_,by simp only[F23,Ak,Bb,Cb,zg]<;>exact rfl,?_⟩
     simp[leave,LP,Vl,Vi,snap,D.Vk,D.Vj,D.free,D.Vo,Al]
    have yc:j<ls.length:=by have:=of_decide_eq_false vN;omega
    have hwj:=Dx j (by omega)
    have yM:=fun (S:St)=>uE.iaddrN S .i64 (Jz yc)
    obtain⟨hty,ys,kN⟩:=hTy j yc (by omega)
    have vJ:Ed [[D.int .i64 0,D.Vu]] 2 [0] [D.agg [D.int .i64 (i:Nat),(T i j).1]]=some [[D.int .i64 (i:Nat),(T i j).1]]:=by simp[Ed,D.val,D.cells,kN.Vn,J4]
    have zz11:=aI hwj (aI yM (aI kN.Vn (aI kN.val (aI kN.cells (vJ)))))
    refine Aj (Bd rfl (Ag (Ey ?_)))
    refine Ck (by simp only[zl,zm,zd,Be,List.take,List.drop,zz9,FO,hfo]<;>exact rfl) rfl ?_
    refine Bq rfl rfl (Bq rfl rfl (Ch (by simp only[zl,zm,zz11]<;>exact rfl) (by simp only[Bg,zo,uE.fpi]<;>exact rfl) rfl ?_))
    refine Iq rfl ?_
    refine Ck (by simp only[zo];exact (hty d rfl _)) rfl ?_
    refine Dq rfl rfl (xo25 rfl rfl ?_)
    refine xo22 rfl rfl ?_
    refine Dq rfl rfl (Dq rfl rfl (Cw (Af ?_)))
    refine Ad (Ac rfl (Ab (by simp only[zo,Bh,zz11]<;>exact rfl) ?_))
    refine Ae rfl (Aa (Af ?_))
    refine Ad (Ac rfl (Aa (Af ?_)))
    refine Bv (by simp only[opd,zv]<;>exact rfl) (fun uj=>?_) (fun uj=>?_)
    ·
     have y9:(T i j).2=true:=uj
     obtain⟨x3,l3,q3,zP,hO3,hq3,hl3,h30,hx3,hkp⟩:=OL.app (H:=H) (lo:=H.length) (row:=[.int .i64 (i:Nat),(T i j).1]) rfl (Nat.le_refl _) rR rH (by rw[tyRows_len];omega) (by have:=Br zL;omega)
     rw[←Td]at hO3
     have hfo3:=hkp _ _ hfo (by simp[FO])
     refine Ad (Ac rfl (Ac rfl (Ac rfl (Ab (by simp only[zo,Hf,overlay,zc,List.take,List.drop,Nat.reduceAdd,Nat.reduceLeDiff,zm,zz11]<;>exact rfl) ?_))))
     refine Ab (by simp only[zl,zm,List.replicate,Al,Bw,zs,zz11]<;>exact rfl) ?_
     refine Ab (by simp only[Ba,aop,LOp.loud,lop,if_true,opd,zv];exact zP) ?_
     refine Ae rfl (Aa (Af ?_))
     refine Ar (Ap (Aa (Eb (Fb (by simp only[ze]<;>exact rfl) ?_))))
     exact⟨2*(ls.length-(j+1))+0,by simp at hnB;omega,j+1,q3,true,_,l3,x3,_,_,_,_,_,rfl,rfl,hO3,hq3,by rw[h30];exact zL,hfo3,by omega,rfl,.inr ⟨rfl,_,by rw[hf,Ef,if_pos yc,if_pos y9],rfl⟩⟩
    have y9:(T i j).2=false:=uj
    refine Aj (Eb (Fb rfl ?_))
    exact⟨2*(ls.length-(j+1))+1,by simp at hnB;omega,j+1,q2,false,_,l2,xo2,_,_,_,_,_,rfl,rfl,rR,rH,zL,hfo,by omega,rfl,.inl ⟨rfl,by rw[hf,Ef,if_pos yc,if_neg (by rw[y9];simp)],rfl⟩⟩
   refine Ag (Ad (Ac rfl (xo9 ?_)))
   refine Aa (Af ?_)
   refine Ca ?_
   refine Cf (E5 (Fp (Fa (Eb (Bd rfl (Ar (Ab (by simp only[zo,Bh,uJ]<;>exact rfl) ?_)))))))
   refine Ae rfl (Aa (Fb (by simp only[ze]<;>exact rfl) ?_))
   exact⟨l0.length-(i+1),by omega,i+1,j,q2,_,_,xo2,_,_,_,_,_,_,_,_,_,_,by omega,rfl,rfl,rfl,rR,rH,zL,hj,by rw[Ll_,List.length_cons,List.length_nil];omega,by rw[zY,r9,Fx,if_neg (by omega),hf]⟩
  have e3:(((f.kind:Nat):Int) != 3)=true:=by rw[z8];rfl
  have e4:(((f.kind:Nat):Int) != 4)=false:=by rw[z8];rfl
  have xM:3≤f.kind:=by omega
  refine Aj (Bd rfl (Ag (Aq (Ad (Ac rfl (Ab (by simp only[zl,zm,uJ]<;>exact rfl) ?_))))))
  refine Ab (by simp only[zl,zm,uJ]<;>exact rfl) ?_
  refine xo8 ?_
  refine Ae rfl (xo44 ?_)
  refine Aa (Af ?_)
  refine Ag (Ad (Go.Proofs.YtkaedpmmopigkaaGreatDoor.xo2 ?_))
  refine xo33 ?_
  refine Ab (by simp only[zo,Bh,e3]<;>exact rfl) ?_
  refine Ae rfl (Ce 0 (b:=true) ?_)
  refine Ai rfl (Go.Proofs.YtkaedpmmopigkaaGreatDoor.xo2 ?_)
  refine Ai rfl (xo33 ?_)
  refine Ai rfl (Ab (by simp only[zo,Bh,e4]<;>exact rfl) ?_)
  refine xo0 ?_
  refine Aa (Af ?_)
  refine Ca ?_
  refine Aj (Bd rfl (Ad (Ap (Aa (Af ?_)))))
  refine Aq (Cz (fun n env S'=>∃(j q2:Nat) (done:Bool) (out2:List (Nat × D)) (l2:List U9) (xo2 v12 v13 v20 v21 v22:D),S'=⟨H++l2,H.length⟩∧env=[.agg [.str nm,x,.int .i64 (p0:Nat),.int .i64 (c0:Nat)],xl,.ptr H.length 0 0 0,.Vu,.int .i64 0,.int .i64 0,.int .i64 0,xo2,.int .i64 (j:Nat),.int .i64 (i:Nat),.ptr (H.length+l.length) 0 0 0,.bool done,v12,v13,.bool false,x,.int .i64 rows.length,.int .i64 (i:Nat),.bool (decide (((i:Nat):Int)<((rows.length:Nat):Int))),.bool false,v20,v21,v22]∧OL l2 H.length q2 xo2 (Ha out2)∧0<q2∧l2[0]?=some (sbO nm x p0 c0)∧l2[l.length]?=some (FO [.int .i64 (f.line:Nat),.int .i64 (f.column:Nat),.int .u8 (f.kind:Nat),tx,.int .u8 (if nu then (if f.size=1 then 4 else 5) else 2),.int .u8 0,.str (Gm nu f.size),.int .i64 (if nu then (f.size:Nat) else 0),.int .i64 0,.bool false,.bool false,.bool false,.bool false,.bool false,.int .i64 (f.size:Nat),op])∧j≤ls.length∧n=2*(ls.length-j)+(if done then 0 else 1)∧((done=false∧Ef (T i) ls.length used=Ef (T i) ls.length j∧out2=out)∨(done=true∧∃b,Ef (T i) ls.length used=some (j,b)∧out2=out++[(i,b)]))) (2*(ls.length-used)+1) (by omega) (⟨used,q,false,out,_,xo,_,_,_,_,_,rfl,rfl,hO.more _,hq,by rw[Cy hsb1];exact vT,hll0 _,hu,rfl,.inl ⟨rfl,rfl,rfl⟩⟩) ?_)
  rintro n env S' ⟨j,q2,done,out2,l2,xo2,v12,v13,v20,v21,v22,rfl,rfl,rR,rH,zL,hfo,hj,hnB,hdone⟩
  rcases hdone with⟨rfl,hf,rfl⟩ | ⟨rfl,b0,hf,rfl⟩
  ·
   refine Ag (Ad (Ac rfl (xo9 ?_)))
   refine Aa (Af ?_)
   refine Eo ?_
   refine Aj (Bd rfl (Aq (Ag (Ad (Ac rfl (Ac rfl (Ab (by simp only[zo,Ej,zz9]<;>exact rfl) ?_)))))))
   refine xo1 ?_
   refine Aa (Af ?_)
   refine Bv (by simp only[opd,zv]<;>exact rfl) (fun vM=>?_) (fun vM=>?_)
   ·
    have hjm:ls.length≤j:=by have:=of_decide_eq_true vM;omega
    have yg:Fx T ls.length l0 0 0 []=none:=by
     rw[zY,r9,Fx,if_neg (by omega),hf,Ef,if_neg (by omega)]
    refine Ad (Ap (Ap (Ap (Aa (Af ?_)))))
    refine Av (D5 (G9 (Nw (G9 (G9 (D5 (Nw (G9 (D5 ?_)))))))))
    refine⟨_,by rw[yg];exact rfl,?_⟩
    refine⟨_,by simp only[F23,Ak,Bb,Cb,zg]<;>exact rfl,?_⟩
    simp[leave,LP,Vl,Vi,snap,D.Vk,D.Vj,D.free,D.Vo,Al]
   have yc:j<ls.length:=by have:=of_decide_eq_false vM;omega
   have hwj:=Dx j (by omega)
   have yM:=fun (S:St)=>uE.iaddrN S .i64 (Jz yc)
   obtain⟨hty,ys,kN⟩:=hTy j yc (by omega)
   have vJ:Ed [[D.int .i64 0,D.Vu]] 2 [0] [D.agg [D.int .i64 (i:Nat),(T i j).1]]=some [[D.int .i64 (i:Nat),(T i j).1]]:=by simp[Ed,D.val,D.cells,kN.Vn,J4]
   have zz12:=aI hwj (aI yM (aI kN.Vn (aI kN.val (aI kN.cells (vJ)))))
   refine Aj (Bd rfl (Ag (Ey ?_)))
   refine Ck (by simp only[zl,zm,zd,Be,List.take,List.drop,zz9,FO,hfo]<;>exact rfl) rfl ?_
   refine Bq rfl rfl (Bq rfl rfl (Ch (by simp only[zl,zm,zz12]<;>exact rfl) (by simp only[Bg,zo,uE.fpi]<;>exact rfl) rfl ?_))
   refine Iq rfl ?_
   refine Ck (by simp only[zo];exact (hty d rfl _)) rfl ?_
   refine Dq rfl rfl (xo25 rfl rfl ?_)
   refine xo22 rfl rfl ?_
   refine Dq rfl rfl (Dq rfl rfl (Cw (Af ?_)))
   refine Ad (Ac rfl (Ab (by simp only[zo,Bh,zz12]<;>exact rfl) ?_))
   refine Ae rfl (Aa (Af ?_))
   refine Ad (Ac rfl (Aa (Af ?_)))
   refine Bv (by simp only[opd,zv]<;>exact rfl) (fun uh=>?_) (fun uh=>?_)
   ·
    have y9:(T i j).2=true:=uh
    obtain⟨x3,l3,q3,zP,hO3,hq3,hl3,h30,hx3,hkp⟩:=OL.app (H:=H) (lo:=H.length) (row:=[.int .i64 (i:Nat),(T i j).1]) rfl (Nat.le_refl _) rR rH (by rw[tyRows_len];omega) (by have:=Br zL;omega)
    rw[←Td]at hO3
    have hfo3:=hkp _ _ hfo (by simp[FO])
    refine Ad (Ac rfl (Ac rfl (Ac rfl (Ab (by simp only[zo,Hf,overlay,zc,List.take,List.drop,Nat.reduceAdd,Nat.reduceLeDiff,zm,zz12]<;>exact rfl) ?_))))
    refine Ab (by simp only[zl,zm,List.replicate,Al,Bw,zs,zz12]<;>exact rfl) ?_
    refine Ab (by simp only[Ba,aop,LOp.loud,lop,if_true,opd,zv];exact zP) ?_
    refine Ae rfl (Aa (Af ?_))
    refine Ar (Ap (Aa (Eb (Fb (by simp only[ze]<;>exact rfl) ?_))))
    exact⟨2*(ls.length-(j+1))+0,by simp at hnB;omega,j+1,q3,true,_,l3,x3,_,_,_,_,_,rfl,rfl,hO3,hq3,by rw[h30];exact zL,hfo3,by omega,rfl,.inr ⟨rfl,_,by rw[hf,Ef,if_pos yc,if_pos y9],rfl⟩⟩
   have y9:(T i j).2=false:=uh
   refine Aj (Eb (Fb rfl ?_))
   exact⟨2*(ls.length-(j+1))+1,by simp at hnB;omega,j+1,q2,false,_,l2,xo2,_,_,_,_,_,rfl,rfl,rR,rH,zL,hfo,by omega,rfl,.inl ⟨rfl,by rw[hf,Ef,if_pos yc,if_neg (by rw[y9];simp)],rfl⟩⟩
  refine Ag (Ad (Ac rfl (xo9 ?_)))
  refine Aa (Af ?_)
  refine Ca ?_
  refine Cf (E5 (Fp (Fa (Eb (Bd rfl (Ar (Ab (by simp only[zo,Bh,uJ]<;>exact rfl) ?_)))))))
  refine Ae rfl (Aa (Fb (by simp only[ze]<;>exact rfl) ?_))
  exact⟨l0.length-(i+1),by omega,i+1,j,q2,_,_,xo2,_,_,_,_,_,_,_,_,_,_,by omega,rfl,rfl,rfl,rR,rH,zL,hj,by rw[Ll_,List.length_cons,List.length_nil];omega,by rw[zY,r9,Fx,if_neg (by omega),hf]⟩
 have hi':i=l0.length:=by have:=of_decide_eq_false yG;omega
 subst hi'
 refine Cf (E5 (Fp (Fa (Bd rfl (Ad (Ac rfl (Ab (by simp only[zo];exact (clip49_run (by omega) hO _)) ?_)))))))
 refine Ac rfl (Ae rfl (Ae rfl (Ap (Aa (Af ?_)))))
 refine Av ?_
 rw[List.drop_length]at zY
 rw[Fx]at zY
 rcases hO with⟨rfl,hto⟩ | ⟨vs,rfl,ho⟩
 ·
  refine⟨(.tup [.Vu,.int .i64 (used:Nat),.int .i64 0],⟨H,lo⟩,false),by rw[zY];exact⟨_,_,0,_,rfl,.inl ⟨rfl,hto⟩,Nat.le_refl _,fun _ _=>rfl,by omega⟩,?_⟩
  refine⟨_,by simp only[F23,Ak,Bb,Cb,zg]<;>exact rfl,?_⟩
  simp[leave,LP,Vl,Vi,snap,D.Vk,D.Vj,D.free,D.Vo,Al,Da]
 have hHl:min lo H.length=lo:=by omega
 have xA:¬l=[]:=by intro e;rw[e]at vT;cases vT
 have ho':(H++l)[H.length+q]?=some ⟨74,2,Ha out,vs,0,true⟩:=by rw[Dn];exact ho
 refine⟨(.tup [.msl (H.length+q) vs 0 (Ha out).length (some (Ha out).length),.int .i64 (used:Nat),.int .i64 0],⟨H++l,lo⟩,true),by rw[zY];exact⟨_,_,H.length+q,_,rfl,.inr ⟨vs,rfl,ho'⟩,by rw[Ll_];omega,fun k hk=>Cy hk,by omega⟩,?_⟩
 refine⟨_,by simp only[F23,Ak,Bb,Cb,zg]<;>exact rfl,?_⟩
 simp[leave,LP,Vl,Vi,snap,D.Vk,D.Vj,D.free,D.Vo,Al,Da,ho',hHl,xA]
def fm1:FM:=⟨1,2,0,1,false,false,by decide⟩
def fm2:FM:=⟨1,3,3,2,true,false,by decide⟩
section
variable (d:Nat) (S:St) (p:Nat)
theorem typed_x:Cj LP NN (d+20) 48 [.agg [.int .i64 2,.int .i64 4,.int .u8 4,.Vu,.int .u8 5,.int .u8 0,.str ⟨#[90,90,57]⟩,.int .i64 3,.int .i64 0,.bool false,.bool false,.bool false,.bool false,.bool false,.int .i64 3,.sl 5 [[.int .u8 1,.str ⟨#[78]⟩,.int .i64 (p:Nat),.int .i64 12,.bool false]] (some 1)],.str ⟨#[120]⟩] S=some (.tup [.Vu,.bool false],S,false):=by kernel_rfl
theorem typed_7:Cj LP NN (d+20) 48 [.agg [.int .i64 2,.int .i64 4,.int .u8 4,.Vu,.int .u8 5,.int .u8 0,.str ⟨#[90,90,57]⟩,.int .i64 3,.int .i64 0,.bool false,.bool false,.bool false,.bool false,.bool false,.int .i64 3,.sl 5 [[.int .u8 1,.str ⟨#[78]⟩,.int .i64 (p:Nat),.int .i64 12,.bool false]] (some 1)],.str ⟨#[55]⟩] S=some (.tup [.sl 1 [[.int .u8 32],[.int .u8 32],[.int .u8 55]] (some 3),.bool true],S,false):=by kernel_rfl
end
def P0v:List (FM × List UInt8):=[(fm1,[65,66]),(fm2,[32,49,50])]
theorem out_cl:Ih (Ex P0v) 24=[.str ⟨#[]⟩]::[.str ⟨#[32,32,65,32,49,50]⟩]::List.replicate 22 [.str ⟨#[]⟩]:=by kernel_rfl
def T2:Nat→Nat→D × Bool:=fun _ j=>if j=0 then (.Vu,false) else ((.sl 1 [[.int .u8 32],[.int .u8 32],[.int .u8 55]] (some 3)),true)
theorem acc_cl:Fx T2 2 [fm1,fm2] 0 0 []=some (2,[(1,(.sl 1 [[.int .u8 32],[.int .u8 32],[.int .u8 55]] (some 3)))]):=by
 have h1:fm1.kind=1:=rfl
 have h2:fm2.kind=4:=rfl
 rw[Fx,if_pos (by rw[h1];omega),Fx,if_neg (by rw[h2];omega),Ef,if_pos (by omega),if_neg (by simp[T2]),Ef,if_pos (by omega),if_pos (by simp[T2])]
 simp[Fx,T2]
theorem SrcV.of{H:List U9}{gv n vv:Nat}{vals:List D}{gr:Bool}(hg:H[gv]?=some ⟨42,1,vals.map fun v=>[v],vv,0,gr⟩)(hn:n=vals.length):SrcV H (.msl gv vv 0 n none) vals gv vv:=by
 subst hn
 refine⟨rfl,rfl,fun m l=>?_,fun l lo i hi=>?_,fun l lo i v hv=>?_⟩
 ·
  rw[Jw,Ie,Cy (Br hg),hg];simp
 ·
  simp[Gs,rowsOf,Cy (Br hg),hg,hi]
 simp[H8,rowsOf,Cy (Br hg),hg,hv,Be]
theorem lives_T(d:Nat)(hd:20≤d):∀i j p (hi:i<[fm1,fm2].length) (hj:j<([⟨#[120]⟩,⟨#[55]⟩]:List ByteArray).length),3≤([fm1,fm2][i]).kind→(∀d',d=d'→∀S,Az LP NN d' 48 [.agg (Ia [fm1,fm2][i] p),.str ([⟨#[120]⟩,⟨#[55]⟩]:List ByteArray)[j]] S=some (.tup [(T2 i j).1,.bool (T2 i j).2],S,false))∧∃ys,SlD 1 ys (T2 i j).1:=by
 intro i j p hi hj hk
 match i,hi,hk with
 | 0,_,hk=>exact absurd hk (show ¬3≤fm1.kind from by decide)
 | 1,_,_ =>
  match j,hj with
  | 0,_=>exact⟨fun d' e S=>by subst e;obtain⟨d,rfl⟩:∃d',d=d'+20:=⟨d-20,by omega⟩;exact fast_ok (typed_x d S p),[],.nil 1⟩
  | 1,_=>exact⟨fun d' e S=>by subst e;obtain⟨d,rfl⟩:∃d',d=d'+20:=⟨d-20,by omega⟩;exact fast_ok (typed_7 d S p),_,.of _ _ _⟩
  | j+2,h=>exact absurd h (by simp)
 | i+2,h,_=>exact absurd h (by simp)
theorem G6{d:Nat}(hd:26≤d)(S:St):Az LP NN d 8 [] S=some (.bool true,S,false):=by
 obtain⟨H',x0,gs,rows,wr,hof,-,-,hFL,hRW,-⟩:=of_run (d:=d-1) (by omega) [] 0 (by simp) (lx:=.sl 6 [[.int .u8 1,.int .u8 2,.int .u8 0,.int .u8 1,.bool false,.bool false],[.int .u8 1,.int .u8 3,.int .u8 3,.int .u8 2,.bool true,.bool false]] (some 2)) (l:=[fm1,fm2]) (SlD.of 6 (Jl [fm1,fm2]) (some 2)) (by decide)
 obtain⟨v,hS⟩:=hFL.src
 have yI:rows.length=2:=hRW.len
 have hS2:=hS.mono [⟨36,4,[[.str nmA,Da x0,.int .i64 ((1:Nat):Int),.int .i64 ((12:Nat):Int)]],0,0,false⟩,⟨5,1,[[.int .u8 32],[.int .u8 49],[.int .u8 50]],1,2,false⟩,⟨42,1,[[.Vu],[.sl 1 [[.int .u8 32],[.int .u8 49],[.int .u8 50]] (some 3)]],0,0,false⟩]
 have yH:=hS.len
 rw[yI]at yH
 have yF:=hS.cell
 have hv:SrcV (H'++[⟨36,4,[[.str nmA,Da x0,.int .i64 ((1:Nat):Int),.int .i64 ((12:Nat):Int)]],0,0,false⟩,⟨5,1,[[.int .u8 32],[.int .u8 49],[.int .u8 50]],1,2,false⟩,⟨42,1,[[.Vu],[.sl 1 [[.int .u8 32],[.int .u8 49],[.int .u8 50]] (some 3)]],0,0,false⟩]) (.msl (H'.length+2) 0 0 2 none) [.Vu,.sl 1 [[.int .u8 32],[.int .u8 49],[.int .u8 50]] (some 3)] (H'.length+2) 0:=.of (gr:=false) (by rw[Dn];rfl) rfl
 have hshow:=fun lo=>show_run (d:=d-1) (by omega) (P:=P0v) hS2 hRW hv (by decide) rfl (fun i p w hp hw=>by
  match i with
  | 0=>cases hp;cases hw;exact⟨rfl,rfl⟩
  | 1=>cases hp;cases hw;exact⟨rfl,by rw[if_neg (by decide)];exact SlD.rdb (SlD.of 1 (bR [32,49,50]) (some 3)) _⟩
  | i+2=>simp[P0v]at hp) nmA 1 12 lo
 rw[out_cl]at hshow
 have zY:=Ka (d:=d-1) (by omega) (T:=T2) (ls:=[⟨#[120]⟩,⟨#[55]⟩]) (xl:=.sl 1 [[.str ⟨#[120]⟩],[.str ⟨#[55]⟩]] (some 2)) (lo:=0) hS2 hRW (SlD.of 1 _ _) (by decide) (by simp) (fun i j p hi hj hk=>by
  obtain⟨h1,h2⟩:=lives_T (d-1-1) (by omega) i j p hi hj hk
  exact⟨fun d' e S=>h1 d' (by omega) S,h2⟩) nmA 1 12 (by omega)
 rw[show ([⟨#[120]⟩,⟨#[55]⟩]:List ByteArray).length=2 from rfl,acc_cl]at zY
 obtain⟨_,⟨y,H3,go,wr2,rfl,hTL,-,-,-⟩,zY⟩:=zY
 rcases hTL with⟨-,hbad⟩ | ⟨vs,rfl,h3⟩
 ·
  cases hbad
 have h3':H3[go]?=some ⟨74,2,[[.int .i64 1,(.sl 1 [[.int .u8 32],[.int .u8 32],[.int .u8 55]] (some 3))]],vs,0,true⟩:=h3
 have zT:∀i:Nat,2≤i→i<24→(([.str ⟨#[]⟩]::[.str ⟨#[32,32,65,32,49,50]⟩]::List.replicate 22 [.str ⟨#[]⟩]:List (List D)))[i]?=some [.str ⟨#[]⟩]:=fun i h1 h2=>by
  obtain⟨j,rfl⟩:∃j,i=j+2:=⟨i-2,by omega⟩
  rw[Ls_,Ls_,List.getElem?_replicate,if_pos (by omega)]
 have h3p:=h3'
 have h24l:((⟨#[UInt8.ofNat 32,UInt8.ofNat 32,UInt8.ofNat 55]⟩:ByteArray).toList==(⟨#[32,32,55]⟩:ByteArray).toList)=true:=by decide +kernel
 refine run_pure (F:=F8) rfl (by simp only[LP,Al]<;>exact rfl) rfl (by simp only[LP,zm];try rfl) (by simp only[F8,zv]<;>exact rfl) (by omega) ?_
 rintro d rfl
 have yw:=aI @beq_self_eq_true.{0} (aI @Bool.not_true (aI yH (aI yF (aI @Dn (aI @Ec (aI h3p (h24l)))))))
 refine Ad (Ap (Aa (Af ?_)))
 refine Ad (xo24 ?_)
 refine xo24 ?_
 refine xo39 ?_
 refine Ae rfl (Aa (Af ?_))
 refine Ad (Ac rfl (Ab (by simp only[zo];exact hof) ?_))
 refine Ae rfl (xo7 ?_)
 refine xo4 ?_
 refine xo8 ?_
 refine xo43 ?_
 refine Ae rfl (Aa (Af ?_))
 refine Ag (Ad (Ac rfl (Ab (by simp only[zo,unD,yw]<;>exact rfl) ?_)))
 refine Ae rfl (Ce 0 (b:=false) ?_)
 refine Ai rfl (xo2 ?_)
 refine Ai rfl (xo35 ?_)
 refine Ai rfl (Ab (by simp only[zo,yw]<;>exact rfl) ?_)
 refine Ai rfl (xo1 ?_)
 refine xo0 ?_
 refine Aa (Af ?_)
 refine Ca ?_
 refine Aj (Bd rfl (Ad (xo35 ?_)))
 refine Pp ?_
 refine Ab (by simp only[zl,zm,Rv,yw]<;>exact rfl) ?_
 refine Pp ?_
 refine Ab (by simp only[zo];exact (hshow _)) ?_
 refine Ae rfl (xo7 ?_)
 refine xo4 ?_
 refine Ae rfl (Ae rfl (Aa (Af ?_)))
 refine Ad (xo35 ?_)
 refine Pp ?_
 refine Ab (by simp only[zo];exact zY) ?_
 refine Ae rfl (xo7 ?_)
 refine xo4 ?_
 refine xo4 ?_
 refine Ae rfl (Ae rfl (Ae rfl (Aa (Af ?_))))
 refine Ag (Ad (Ac rfl (xo1 ?_)))
 refine Ae rfl (Ce 0 (b:=false) ?_)
 refine Ai rfl (Ac rfl (Ai rfl (xo1 ?_)))
 refine xo0 ?_
 refine Ae rfl (Ce 0 (b:=false) ?_)
 refine Ai rfl (Ac rfl (Ai rfl (Ab (by simp only[zo,Kg]<;>exact rfl) ?_)))
 refine Ai rfl (xo1 ?_)
 refine xo0 ?_
 refine Ae rfl (Ce 0 (b:=false) ?_)
 refine Ai rfl (Ac rfl (Ai rfl (Nb ?_)))
 refine Ai rfl (xo1 ?_)
 refine xo0 ?_
 refine Aa (Af ?_)
 refine Ca ?_
 refine Aj (Bd rfl (Ag (Ad (Ap (Aa (Af ?_))))))
 refine Aq (Cz (fun n env S'=>∃(i:Nat) (u12 u13:D),2≤i∧i≤24∧n=24-i∧S'=⟨H3,0⟩∧env=[.bool false,.sl 6 [[.int .u8 1,.int .u8 2,.int .u8 0,.int .u8 1,.bool false,.bool false],[.int .u8 1,.int .u8 3,.int .u8 3,.int .u8 2,.bool true,.bool false]] (some 2),.ptr H'.length 0 0 0,.bool true,.sl 1 ([.str ⟨#[]⟩]::[.str ⟨#[32,32,65,32,49,50]⟩]::List.replicate 22 [.str ⟨#[]⟩]) (some 24),.int .i64 0,.msl go vs 0 1 (some 1),.int .i64 2,.int .i64 0,.int .i64 (i:Nat),.bool false,.bool false,u12,u13]) (22) (by omega) (⟨2,_,_,by omega,by omega,by omega,rfl,rfl⟩) ?_)
 rintro n env S' ⟨i,u12,u13,yY,hi,kV,rfl,rfl⟩
 refine Ag (Ad (Ac rfl (xo1 ?_)))
 refine Aa (Af ?_)
 refine Bv (by simp only[opd,zv]<;>exact rfl) (fun yG=>?_) (fun yG=>?_)
 ·
  have xu:i<24:=by have:=of_decide_eq_true yG;omega
  have hw:=Dx i (by omega)
  have hii:=zT i yY xu
  have h0:(0:Int)≤(i:Int):=by omega
  refine Aj (Bd rfl (Ag (Aq (Ad (Ac rfl (Ac rfl (Ab (by simp only[zl,zm,La,Int.toNat_natCast,hii,h0]<;>exact rfl) ?_)))))))
  refine xo3 ?_
  refine Qj ?_
  refine Aa (Af ?_)
  refine Ca ?_
  refine Aj (Eb (Bd rfl (Ar (Ac rfl (Ab (by simp only[zo,Bh,hw]<;>exact rfl) ?_)))))
  refine Ae rfl (Aa (Fb (by simp only[ze]<;>exact rfl) ?_))
  exact⟨24-(i+1),by omega,i+1,_,_,by omega,by omega,rfl,rfl,rfl⟩
 have xu:i=24:=by have:=of_decide_eq_false yG;omega
 subst xu
 refine Cf (E5 (Fp (Fa (Bd rfl (Ad (Ac rfl (Ab (by simp only[zl,zm,La,Int.toNat_zero,Int.le_refl]<;>exact rfl) ?_)))))))
 refine xo3 ?_
 refine Qj ?_
 refine Ae rfl (Ce 0 (b:=true) ?_)
 refine Ai rfl (Ac rfl (Ai rfl (Ab (by simp only[zl,zm,La]<;>exact rfl) ?_)))
 refine Ai rfl (xo3 ?_)
 refine Ai rfl (Qj ?_)
 refine xo0 ?_
 refine Ae rfl (Ce 0 (b:=true) ?_)
 refine Ai rfl (Ac rfl (Ai rfl (Ab (by simp only[zl,zm,Cq,Int.toNat_zero,Int.le_refl,yw]<;>exact rfl) ?_)))
 refine Ai rfl (xo2 ?_)
 refine Ai rfl (xo35 ?_)
 refine Ai rfl (Qj ?_)
 refine xo0 ?_
 refine Ae rfl (Ce 0 (b:=true) ?_)
 refine Ai rfl (Ac rfl (Ai rfl (Ab (by simp only[zl,zm,Cq,Int.toNat_zero,Int.le_refl,yw]<;>exact rfl) ?_)))
 refine Ai rfl (xo2 ?_)
 refine Ai rfl (xo35 ?_)
 refine Ai rfl (Ab (by simp only[zl,zm,Gn]<;>exact rfl) ?_)
 refine Ai rfl (Ab (by simp only[zo,Bh,Int.reduceToNat,yw]<;>exact rfl) ?_)
 refine xo0 ?_
 refine Ae rfl (Ce 0 (b:=true) ?_)
 refine Ai rfl (Ac rfl (Ai rfl (Ab (by simp only[zo,Bh,Int.reduceToNat,yw]<;>exact rfl) ?_)))
 refine xo0 ?_
 refine Ae rfl (Aa (Af ?_))
 refine Av ?_
 refine⟨_,by simp only[F8,Ak,Bb,Cb,zg]<;>exact rfl,?_⟩
 simp only[Dv,leave,zs,zf,zk]
def nmC:ByteArray:=⟨#[67]⟩
def cstep (r c:Nat) (acc:UInt8) (p:FM × List UInt8):UInt8:=if r+1=p.1.line∧p.1.column≤c+1∧c+1<p.1.column+p.1.size then prn (p.2.getD (c+1-p.1.column) 0) else acc
def cellT (P:List (FM × List UInt8)) (r c k:Nat):UInt8:=(P.take k).foldl (cstep r c) 32
def preG (P:List (FM × List UInt8)) (r j:Nat):List UInt8:=(List.range j).map (Ex P r)
def RLi (l:List U9) (q:Nat) (x:D) (rows:List (List D)):Prop:=(x=.Vu∧rows=[])∨∃vs,x=.msl q vs 0 rows.length none∧l[q]?=some ⟨9,1,rows,vs,1,true⟩
theorem RLi.app{l:List U9}{q lo:Nat}{x:D}{rows:List (List D)}{row:List D}(h:RLi l q x rows)(y5:lo≤q∨x=.Vu)(hl:rows.length<1000) :
  ∃x' l' q',Ci 9 1 16 1 x (.sl 1 [row] (some 1)) ⟨l,lo⟩=some (x',⟨l',lo⟩,true)∧RLi l' q' x' (rows++[row])∧(q'=q∨q'=l.length)∧l.length≤l'.length∧∀(k:Nat) (o:U9),l[k]?=some o→o.elem≠9→l'[k]?=some o:=by
 rcases h with⟨rfl,rfl⟩ | ⟨vs,rfl,ho⟩
 ·
  refine⟨.msl l.length 0 0 1 none,l++[⟨9,1,[row],0,1,true⟩],l.length,?_,.inr ⟨0,rfl,by simp⟩,.inr rfl,by simp,fun k o h _=>by rw[Cy (Br h)];exact h⟩
  simp[Ci,De,Bi,newAt]
 have vg:=Br ho
 have wT:lo≤q:=by
  rcases y5 with h | h
  ·
   exact h
  cases h
 refine⟨.msl q (vs+1) 0 (rows.length+1) none,l.set q ⟨9,1,rows++[row],vs+1,1,true⟩,q,?_,.inr ⟨vs+1,by simp,Gb vg _⟩,.inl rfl,by simp,fun k o h he=>?_⟩
 ·
  have hb:(rows.length+1)*16≤140737488355328:=by omega
  have xS:min lo q=lo:=by omega
  simp[Ci,De,Bi,rowsOf,ho,setAt,hb,xS]
 rw[Ln_ ?_]
 ·
  exact h
 intro e
 subst e
 rw[ho]at h
 cases h
 exact he rfl
theorem RLi.more{l:List U9}{q:Nat}{x:D}{rows:List (List D)}(h:RLi l q x rows)(m:List U9):RLi (l++m) q x rows:=by
 rcases h with h | ⟨vs,h1,h2⟩
 ·
  exact .inl h
 exact .inr ⟨vs,h1,by rw[Cy (Br h2)];exact h2⟩
theorem RLi.len{l:List U9}{q:Nat}{x:D}{rows:List (List D)}(h:RLi l q x rows):Im false x=some (.int .i64 (rows.length:Nat)):=by
 rcases h with⟨rfl,rfl⟩ | ⟨vs,rfl,_⟩<;>rfl
def orow (G:Jm) (i:Nat):List (List D):=(List.range i).map fun r=>[.str (trS G r)]
def RG (e kind:Nat) (l:List U9) (n0 q:Nat) (x:D) (rows:List (List D)):Prop:=(x=.Vu∧rows=[])∨∃vs,x=.msl (n0+q) vs 0 rows.length none∧l[q]?=some ⟨e,1,rows,vs,kind,true⟩
theorem RG.more{e kind n0 q:Nat}{l:List U9}{x:D}{rows:List (List D)}(h:RG e kind l n0 q x rows)(m:List U9):RG e kind (l++m) n0 q x rows:=by
 rcases h with h | ⟨vs,h1,h2⟩
 ·
  exact .inl h
 exact .inr ⟨vs,h1,by rw[Cy (Br h2)];exact h2⟩
theorem RG.keep{e kind n0 q:Nat}{l l':List U9}{x:D}{rows:List (List D)}(h:RG e kind l n0 q x rows)(hk:∀(k:Nat) (o:U9),l[k]?=some o→o.elem=e→l'[k]?=some o):RG e kind l' n0 q x rows:=by
 rcases h with h | ⟨vs,h1,h2⟩
 ·
  exact .inl h
 exact .inr ⟨vs,h1,hk _ _ h2 rfl⟩
def atN (l:List FM) (i:Nat):Nat:=((l.take i).map FM.size).sum
def plB (raw:List UInt8) (a n:Nat):List UInt8:=(List.range n).map fun k=>raw.getD (a+k) 97
def plR (l:List FM) (raw:List UInt8) (i:Nat):List ByteArray:=(List.range i).map fun j=>mkS (plB raw (atN l j) ((l[j]?.map FM.size).getD 0))
def vlR (l:List FM) (raw:List UInt8) (i:Nat):List D:=(List.range i).map fun j=>.sl 1 (Bu (if (l[j]?.map FM.kind).getD 0=1∧atN l (j+1) % 2=0 then ⟨#[]⟩ else mkS (plB raw (atN l j) ((l[j]?.map FM.size).getD 0)))) none
def PLs (l:List FM) (raw:List UInt8):List (FM × List UInt8):=l.mapIdx fun i f=>(f,if f.kind=1 then f.text.data.toList else plB raw (atN l i) f.size)
theorem SrcV.nil(H:List U9):SrcV H .Vu [] 0 0:=⟨rfl,rfl,fun _ _=>rfl,fun _ _ i h=>absurd h (by simp),fun _ _ i v h=>by simp at h⟩
theorem ext_of{H Z:List U9}(hl:H.length≤Z.length)(h:∀k,k<H.length→Z[k]?=H[k]?):∃l,Z=H++l:=by
 refine⟨Z.drop H.length,?_⟩
 refine List.ext_getElem? fun k=>?_
 by_cases hk:k<H.length
 ·
  rw[h k hk,La_ hk]
 rw[Lr_ (by omega),List.getElem?_drop]
 congr 1;omega
def VZ (l2:List U9) (n0:Nat) (l:List FM) (i:Nat) (vals:List D):Prop:=vals.length=i∧∀j,j<i→∃(p:Nat) (f:FM),l[j]?=some f∧vals[j]?=some (.msl (n0+p) 0 0 f.size none)∧l2[p]?=some ⟨5,1,List.replicate f.size [.int .u8 0],0,1,false⟩
theorem VZ.keep{l2 l3:List U9}{n0 i:Nat}{l:List FM}{vals:List D}(h:VZ l2 n0 l i vals)(hk:∀(k:Nat) (o:U9),l2[k]?=some o→o.elem=5→l3[k]?=some o):VZ l3 n0 l i vals :=
 ⟨h.1,fun j hj=>by
  obtain⟨p,f,h1,h2,h3⟩:=h.2 j hj
  exact⟨p,f,h1,h2,hk p _ h3 rfl⟩⟩
theorem VZ.snoc{l2:List U9}{n0 i p:Nat}{l:List FM}{vals:List D}(h:VZ l2 n0 l i vals)(hi:i<l.length)(hp:l2[p]?=some ⟨5,1,List.replicate l[i].size [.int .u8 0],0,1,false⟩):VZ l2 n0 l (i+1) (vals++[.msl (n0+p) 0 0 l[i].size none]) :=
 ⟨by simp[h.1],fun j hj=>by
  by_cases hji:j<i
  ·
   obtain⟨p,f,h1,h2,h3⟩:=h.2 j hji
   exact⟨p,f,h1,by rw[La_ (by rw[h.1];exact hji)];exact h2,h3⟩
  have:j=i:=by omega
  subst this
  refine⟨p,l[j],Lg hi,?_,hp⟩
  rw[Lr_ (by rw[h.1];omega),h.1];simp⟩
theorem VZ.rdb{H l2:List U9}{l:List FM}{vals:List D}{i j:Nat}{w:D}{f:FM}(h:VZ l2 H.length l i vals)(hf:l[j]?=some f)(hj:j<i)(hw:vals[j]?=some w)(l3:List U9):RdB (H++(l2++l3)) w (List.replicate f.size 0):=by
 obtain⟨p,f',h1,h2,h3⟩:=h.2 j hj
 rw[hf]at h1
 cases h1
 rw[hw]at h2
 cases h2
 have ha:∀l,(H++(l2++(l3++l)))[H.length+p]?=some ⟨5,1,List.replicate f.size [.int .u8 0],0,1,false⟩:=fun l=>by
  rw[Dn,Cy (Br h3)];exact h3
 refine⟨by simp[Im],rfl,fun k b hb=>⟨.ptr (H.length+p) 0 k 0,fun l lo=>?_⟩⟩
 obtain⟨hk,hbe⟩:=List.getElem?_eq_some_iff.1 hb
 rw[List.length_replicate]at hk
 rw[List.getElem_replicate]at hbe
 subst hbe
 have hk':(k:Int)<(f.size:Int):=by omega
 refine⟨by simp[Gs,rowsOf,ha,hk'],by simp[H8,rowsOf,ha,Be,hk]⟩
section
variable (d:Nat) (S:St)
end
theorem Ht(z:Nat)(l:List UInt8)(k:Nat)(i:Int)(hi:i=k)(h:k≤l.length):pop (.slice true z true false false) [.str (mkS l),.int .i64 i]=some (.str (mkS (l.drop k))):=by
 subst hi
 simp only[pop,Cm,Dj,F3,Et,Cs]
 rw[if_pos (by omega)]
 simp only[Int.toNat_natCast]
 rw[if_pos ⟨h,Nat.le_refl _⟩]
 simp only[Option.map_some,Tz]
 rw[List.take_of_length_le (by simp)]
theorem Rw(z:Nat)(l:List UInt8)(k:Nat)(i:Int)(hi:i=k)(h:k≤l.length):pop (.slice true z false true false) [.str (mkS l),.int .i64 i]=some (.str (mkS (l.take k))):=by
 subst hi
 simp only[pop,Cm,Dj,F3,Et,Cs]
 rw[if_pos (by omega)]
 simp only[Int.toNat_natCast]
 rw[if_pos ⟨Nat.zero_le _,h⟩]
 simp only[Option.map_some,Tz,List.drop_zero,Nat.sub_zero]
theorem eqNil(l:List UInt8):(l==[])=true↔l=[]:=by simp
def D9 (b:UInt8) (l:List UInt8):List UInt8:=l.dropWhile (·==b)
def Es (b:UInt8) (l:List UInt8):List UInt8:=(l.reverse.dropWhile (·==b)).reverse
theorem Lx(b:UInt8)(l:List UInt8)(c:UInt8):Es b (l++[c])=if c==b then Es b l else l++[c]:=by
 unfold Es
 rw[List.reverse_append,List.reverse_singleton,List.singleton_append,List.dropWhile_cons]
 split
 ·
  rfl
 simp
theorem u8beq{c b:UInt8}(h:((c.toNat:Int)==(b.toNat:Int))=true):(c==b)=true:=by
 rw[beq_iff_eq]at h ⊢
 exact UInt8.toNat_inj.1 (by omega)
theorem u8bne{c b:UInt8}(h:((c.toNat:Int)==(b.toNat:Int))=false):¬(c==b)=true:=by
 rw[beq_eq_false_iff_ne]at h
 intro e
 rw[beq_iff_eq]at e
 subst e
 exact h rfl
theorem Ps{d:Nat}(hd:1≤d)(S:St)(b:UInt8)(l:List UInt8)(hl:l.length≤1000000):Az LP NN d 106 [.str (mkS l),.int .u8 (b.toNat:Nat)] S=some (.str (mkS (D9 b l)),S,false):=by
 refine run_pure (F:=F106) rfl (by simp only[LP,Al,zs]<;>exact rfl) rfl (by simp only[LP,zf,zm];try rfl) (by simp only[F106,zv]<;>exact rfl) (by omega) ?_
 rintro d rfl
 refine Ad (Ap (Aa (Af ?_)))
 refine Ag (Aq (Cz (fun n env S'=>∃(l':List UInt8) (u3:D),D9 b l'=D9 b l∧l'.length=n∧S'=⟨[],0⟩∧env=[.str (mkS l'),.int .u8 (b.toNat:Nat),.str ⟨#[]⟩,u3]) (l.length) (by omega) (⟨l,_,rfl,rfl,rfl,rfl⟩) ?_))
 rintro n env S' ⟨l',u3,hl',rfl,rfl,rfl⟩
 refine Ag (Ad (Ac rfl (Km ?_)))
 refine xo1 ?_
 refine Ae rfl ?_
 refine Dr 0 (by simp only[zv]<;>exact rfl) (by simp only[zn]<;>exact rfl) (by simp only[zn]<;>exact rfl) (fun hgA=>?_) (fun hgA=>?_)
 ·
  obtain⟨c,l'',rfl⟩:∃c l'',l'=c::l'':=by
   cases l' with
   | nil=>simp at hgA
   | cons c l=>exact⟨c,l,rfl⟩
  rename List UInt8=>l'
  refine Ai rfl (Ac rfl (Ai rfl (Ab (by simp only[zo,Ee,zm,Dp]<;>exact rfl) ?_)))
  refine Ai rfl (Ac rfl (Ai rfl (xo1 ?_)))
  refine xo0 ?_
  refine Aa (Af ?_)
  refine Bv (by simp only[opd,zv]<;>exact rfl) (fun yA=>?_) (fun yA=>?_)
  ·
   have h48:(c==b)=true:=u8beq yA
   refine Aj (Bd rfl (Aq (Ar (Ac rfl (Ab (by simp only[opd,zv,Ba,aop,LOp.loud,Bool.false_eq_true,if_false];rw[Ht _ _ 1 1 rfl (by simp)];exact rfl) ?_)))))
   refine Ae rfl (Aa (Eb (Fb (by simp only[ze]<;>exact rfl) ?_)))
   exact⟨l'.length,by simp,l',_,by rw[←hl',D9,D9,List.dropWhile_cons,if_pos h48],rfl,rfl,rfl⟩
  refine Cf (E5 (Fp (Fa (Bd rfl (Ad (Ac rfl (Ae rfl (Aa (Af ?_)))))))))
  refine Av ?_
  refine⟨_,by simp only[F106,Ak,Bb,Cb,zg]<;>exact rfl,?_⟩
  rw[←hl',show D9 b (c::l')=c::l' by rw[D9,List.dropWhile_cons,if_neg (u8bne yA)]];rfl
 obtain rfl:l'=[]:=by
  cases l' with
  | nil=>rfl
  | cons c l=>have:=of_decide_eq_false hgA;simp at this
 refine Ao rfl rfl (Ao rfl rfl (Ao rfl rfl (Ao rfl rfl (xo0 ?_))))
 refine Aa (Af ?_)
 refine Bz (by simp only[opd,zv]) ?_
 refine Cf (E5 (Fp (Fa (Bd rfl (Ad (Ac rfl (Ae rfl (Aa (Af ?_)))))))))
 refine Av ?_
 refine⟨_,by simp only[F106,Ak,Bb,Cb,zg]<;>exact rfl,?_⟩
 rw[←hl'];rfl
theorem trimLB_run{d:Nat}(hd:1≤d)(S:St)(l:List UInt8)(hl:l.length≤1000000):Az LP NN d 106 [.str (mkS l),.int .u8 48] S=some (.str (mkS (Cv l)),S,false):=Ps hd S 48 l hl
theorem trimRx_run{d:Nat}(hd:1≤d)(S:St)(b:UInt8)(l:List UInt8)(hl:l.length≤1000000):Az LP NN d 111 [.str (mkS l),.int .u8 (b.toNat:Nat)] S=some (.str (mkS (Es b l)),S,false):=by
 refine run_pure (F:=F111) rfl (by simp only[LP,Al,zs]<;>exact rfl) rfl (by simp only[LP,zf,zm];try rfl) (by simp only[F111,zv]<;>exact rfl) (by omega) ?_
 rintro d rfl
 refine Ad (Ap (Aa (Af ?_)))
 refine Ag (Aq (Cz (fun n env S'=>∃(l':List UInt8) (u3:D),Es b l'=Es b l∧l'.length=n∧n≤l.length∧S'=⟨[],0⟩∧env=[.str (mkS l'),.int .u8 (b.toNat:Nat),.str ⟨#[]⟩,u3]) (l.length) (by omega) (⟨l,_,rfl,rfl,by omega,rfl,rfl⟩) ?_))
 rintro n env S' ⟨l',u3,hl',rfl,yD,rfl,rfl⟩
 refine Ag (Ad (Ac rfl (Km ?_)))
 refine xo1 ?_
 refine Ae rfl ?_
 refine Dr 0 (by simp only[zv]<;>exact rfl) (by simp only[zn]<;>exact rfl) (by simp only[zn]<;>exact rfl) (fun hgA=>?_) (fun hgA=>?_)
 ·
  obtain⟨l'',c,rfl⟩:∃l'' c,l'=l''++[c]:=by
   rcases List.eq_nil_or_concat l' with h | ⟨a,b,h⟩
   ·
    subst h;simp at hgA
   exact⟨a,b,by simpa using h⟩
  rename List UInt8=>l'
  have hw:IntKind.i64.wrap (((l'++[c]).length:Nat)-1:Int)=(l'.length:Int):=by rw[IntKind.wrap_i64];simp at yD ⊢;omega
  have hix:(l'++[c])[l'.length]?=some c:=by simp
  have h0:(0:Int)≤(l'.length:Int):=by omega
  have yX:=aI hw (aI hix (aI h0 (@Int.toNat_natCast)))
  refine Ai rfl (Ac rfl (Ai rfl (Ac rfl (Ai rfl (Km ?_)))))
  refine Ai rfl (Ab (by simp only[zo,Bh,yX]<;>exact rfl) ?_)
  refine Ai rfl (Ab (by simp only[zo,Ee,zm,Dp,yX]<;>exact rfl) ?_)
  refine Ai rfl (Ac rfl (Ai rfl (xo1 ?_)))
  refine xo0 ?_
  refine Aa (Af ?_)
  refine Bv (by simp only[opd,zv]<;>exact rfl) (fun yA=>?_) (fun yA=>?_)
  ·
   have h48:(c==b)=true:=u8beq yA
   refine Aj (Bd rfl (Aq (Ar (Ac rfl (Ac rfl (Km ?_))))))
   refine Ab (by simp only[zo,Bh,yX]<;>exact rfl) ?_
   refine Ab (by simp only[opd,zv,Ba,aop,LOp.loud,Bool.false_eq_true,if_false];rw[Rw _ (l'++[c]) l'.length _ rfl (by simp),List.take_left];exact rfl) ?_
   refine Ae rfl (Aa (Eb (Fb (by simp only[ze]<;>exact rfl) ?_)))
   exact⟨l'.length,by simp,l',_,by rw[←hl',Lx,if_pos h48],rfl,by simp at yD;omega,rfl,rfl⟩
  refine Cf (E5 (Fp (Fa (Bd rfl (Ad (Ac rfl (Ae rfl (Aa (Af ?_)))))))))
  refine Av ?_
  refine⟨_,by simp only[F111,Ak,Bb,Cb,zg]<;>exact rfl,?_⟩
  rw[←hl',Lx,if_neg (u8bne yA)];rfl
 obtain rfl:l'=[]:=by
  cases l' with
  | nil=>rfl
  | cons c l=>have:=of_decide_eq_false hgA;simp at this
 refine Ao rfl rfl (Ao rfl rfl (Ao rfl rfl (Ao rfl rfl (Ao rfl rfl (Ao rfl rfl (Ao rfl rfl (xo0 ?_)))))))
 refine Aa (Af ?_)
 refine Bz (by simp only[opd,zv]) ?_
 refine Cf (E5 (Fp (Fa (Bd rfl (Ad (Ac rfl (Ae rfl (Aa (Af ?_)))))))))
 refine Av ?_
 refine⟨_,by simp only[F111,Ak,Bb,Cb,zg]<;>exact rfl,?_⟩
 rw[←hl'];rfl
theorem m48:(⟨#[48]⟩:ByteArray)=mkS [48]:=rfl
theorem trimL0_run{d:Nat}(hd:2≤d)(S:St)(l:List UInt8)(hl:l.length≤1000000):Az LP NN d 65 [.str (mkS l),.str ⟨#[48]⟩] S=some (.str (mkS (Cv l)),S,false):=by
 refine run_pure (F:=F65) rfl (by simp only[LP,Al,zs]<;>exact rfl) rfl (by simp only[LP,zf,zm];try rfl) (by simp only[F65,zv]<;>exact rfl) (by omega) ?_
 rintro d rfl
 refine Ad (Ap (Aa (Af ?_)))
 refine Ag (Ad (Ac rfl (Ab (by simp only[zo,Bh,Dy,Er,m48]<;>exact rfl) ?_)))
 refine Ae rfl ?_
 refine Dr 0 (by simp only[zv]<;>exact rfl) (by simp only[zn]<;>exact rfl) (by simp only[zn]<;>exact rfl) (fun hg=>?_) (fun hg=>?_)
 ·
  refine Ao rfl rfl (Ao rfl rfl (Ab (by simp only[zo,m48]<;>exact rfl) ?_))
  refine Aa (Af ?_)
  refine Em (by simp only[opd,zv,m48]) ?_
  refine Ad (Ac rfl (Ae rfl (Aa (Af ?_))))
  refine Av (D5 ?_)
  refine⟨_,by simp only[F65,Ak,Bb,Cb,zg]<;>exact rfl,?_⟩
  obtain rfl:=(eqNil l).1 hg
  rfl
 refine Ai rfl (Ac rfl (Ai rfl (Ab (by simp only[zo,Bh,Dy,Er,m48]<;>exact rfl) ?_)))
 refine Ab (by simp only[zo,m48]<;>exact rfl) ?_
 refine Aa (Af ?_)
 refine Bz (by simp only[opd,zv,m48]<;>rfl) ?_
 refine Aj (Bd rfl (Ag (Ad (Ac rfl (Ab (by simp only[zo,Eh,Cs,List.length_cons,List.length_nil,m48]<;>exact rfl) ?_)))))
 refine Ab (by simp only[zo,Bh,m48]<;>exact rfl) ?_
 refine Ae rfl (Ig 0 (b:=true) (by simp only[zv,m48]<;>rfl) (by simp only[zn]<;>exact rfl) ?_)
 refine Ai rfl (Ac rfl (Ai rfl (Ab (by simp only[zo,Ee,zm,Dp,m48]<;>exact rfl) ?_)))
 refine Ai rfl (Ab (by simp only[zo,Bh,m48]<;>exact rfl) ?_)
 refine Ab (by simp only[zo,m48]<;>exact rfl) ?_
 refine Aa (Af ?_)
 refine Em (by simp only[opd,zv,m48]<;>rfl) ?_
 refine Ad (Ac rfl (Ac rfl (Ab (by simp only[zo,Ee,Dp,m48]<;>exact rfl) ?_)))
 refine Ab (by simp only[zo,m48];exact trimLB_run (by omega) _ l hl) ?_
 refine Ae rfl (Aa (Af ?_))
 refine Av (D5 ?_)
 refine⟨_,by simp only[F65,Ak,Bb,Cb,zg]<;>exact rfl,?_⟩
 rfl
def digOb:U9:=⟨169,256,[digTab],0,0,false⟩
theorem c256(c:UInt8):(0:Int)≤(c.toNat:Int)∧(c.toNat:Int)<((256:Nat):Int):=by have:=c.toNat_lt;omega
theorem cont_run{d:Nat}(hd:1≤d)(S:St)(g:Nat)(xE:S.heap[g]?=some digOb)(c:UInt8):Az LP NN d 154 [.ptr g 0 0 0,.int .u8 c.toNat] S=some (.bool (Gi c),S,false):=by
 refine Du (F:=F154) rfl (by simp only[LP,Al,zs]<;>exact rfl) rfl (by simp only[LP,zf,zm];try rfl) (by simp only[F154,zv]<;>exact rfl) (by omega) ?_
 rintro d rfl
 refine Ad (Ap (Aa (Af ?_)))
 refine Ad (Ac rfl (Ac rfl (xo0 ?_)))
 refine Ab (by simp only[zo,Qh,zm,Int.toNat_natCast,Nat.mul_one,c256 c]<;>exact rfl) ?_
 refine Ab (by simp only[zl,zm,zd,Be,xE,digOb,digTab_at]<;>exact rfl) ?_
 refine Ae rfl (Aa (Af ?_))
 refine Av ?_
 refine⟨_,by simp only[F154,Ak,Bb,Cb,zg]<;>exact rfl,?_⟩
 simp[leave,LP,Vl,Vi,snap,D.Vk,D.Vj,D.free,D.Vo]
theorem trimLA_run{d:Nat}(hd:2≤d)(S:St)(g:Nat)(xE:S.heap[g]?=some digOb)(l:List UInt8)(hl:l.length≤1000000):Az LP NN d 108 [.str (mkS l),.ptr g 0 0 0] S=some (.str (mkS (l.dropWhile Gi)),S,false):=by
 refine Du (F:=F108) rfl (by simp only[LP,Al,zs]<;>exact rfl) rfl (by simp only[LP,zf,zm];try rfl) (by simp only[F108,zv]<;>exact rfl) (by omega) ?_
 rintro d rfl
 refine Ad (Ap (Aa (Af ?_)))
 refine Ag (Aq (Cz (fun n env S'=>∃(l':List UInt8) (u3 u4:D),l'.dropWhile Gi=l.dropWhile Gi∧l'.length=n∧S'=⟨S.heap,S.heap.length⟩∧env=[.str (mkS l'),.ptr g 0 0 0,.str ⟨#[]⟩,u3,u4]) (l.length) (by omega) (⟨l,_,_,rfl,rfl,rfl,rfl⟩) ?_))
 rintro n env S' ⟨l',u3,u4,hl',rfl,rfl,rfl⟩
 refine Ag (Ad (Ac rfl (Km ?_)))
 refine xo1 ?_
 refine Aa (Af ?_)
 refine Bv (by simp only[opd,zv]<;>exact rfl) (fun yG=>?_) (fun yG=>?_)
 ·
  obtain⟨c,l'',rfl⟩:∃c l'',l'=c::l'':=by
   cases l' with
   | nil=>simp at yG
   | cons c l=>exact⟨c,l,rfl⟩
  rename List UInt8=>l'
  refine Aj (Bd rfl (Aq (Ag (Ad (Ac rfl (Ac rfl (Ab (by simp only[zo,Ee,zm,Dp]<;>exact rfl) ?_)))))))
  refine Ab (by simp only[zo];exact cont_run (by omega) ⟨S.heap,S.heap.length⟩ g xE c) ?_
  refine xo9 ?_
  refine Aa (Af ?_)
  refine Bv (by simp only[opd,zv]<;>exact rfl) (fun yA=>?_) (fun yA=>?_)
  ·
   refine Cf (E5 (bk_o rfl (Fp (Fa (Bd rfl (Ad (Ac rfl (Ae rfl (Aa (Af ?_))))))))))
   refine Av ?_
   refine⟨_,by simp only[F108,Ak,Bb,Cb,zg,zm]<;>exact rfl,?_⟩
   rw[←hl',List.dropWhile_cons,if_neg (by simpa using yA)]
   simp[leave,LP,Vl,Vi,snap,D.Vk,D.Vj,D.free,D.Vo]
  refine Aj (Bd rfl (Ar (Ac rfl (Ab (by simp only[opd,zv,Ba,aop,LOp.loud,Bool.false_eq_true,if_false];rw[Ht _ _ 1 1 rfl (by simp)];exact rfl) ?_))))
  refine Ae rfl (Aa (Eb (Fb (by simp only[ze]<;>exact rfl) ?_)))
  exact⟨l'.length,by simp,l',_,_,by rw[←hl',List.dropWhile_cons,if_pos (by simpa using yA)],rfl,rfl,rfl⟩
 obtain rfl:l'=[]:=by
  cases l' with
  | nil=>rfl
  | cons c l=>have:=of_decide_eq_false yG;simp at this
 refine Cf (E5 (Fp (Fa (Bd rfl (Ad (Ac rfl (Ae rfl (Aa (Af ?_)))))))))
 refine Av ?_
 refine⟨_,by simp only[F108,Ak,Bb,Cb,zg,zm]<;>exact rfl,?_⟩
 rw[←hl']
 simp[leave,LP,Vl,Vi,snap,D.Vk,D.Vj,D.free,D.Vo]
theorem trimRA_run{d:Nat}(hd:2≤d)(S:St)(g:Nat)(xE:S.heap[g]?=some digOb)(l:List UInt8)(hl:l.length≤1000000):Az LP NN d 112 [.str (mkS l),.ptr g 0 0 0] S=some (.str (mkS (M0 l)),S,false):=by
 refine Du (F:=F112) rfl (by simp only[LP,Al,zs]<;>exact rfl) rfl (by simp only[LP,zf,zm];try rfl) (by simp only[F112,zv]<;>exact rfl) (by omega) ?_
 rintro d rfl
 refine Ad (Ap (Aa (Af ?_)))
 refine Ag (Aq (Cz (fun n env S'=>∃(l':List UInt8) (u3 u4:D),M0 l'=M0 l∧l'.length=n∧n≤l.length∧S'=⟨S.heap,S.heap.length⟩∧env=[.str (mkS l'),.ptr g 0 0 0,.str ⟨#[]⟩,u3,u4]) (l.length) (by omega) (⟨l,_,_,rfl,rfl,by omega,rfl,rfl⟩) ?_))
 rintro n env S' ⟨l',u3,u4,hl',rfl,yD,rfl,rfl⟩
 refine Ag (Ad (Ac rfl (Km ?_)))
 refine xo1 ?_
 refine Aa (Af ?_)
 refine Bv (by simp only[opd,zv]<;>exact rfl) (fun yG=>?_) (fun yG=>?_)
 ·
  obtain⟨l'',c,rfl⟩:∃l'' c,l'=l''++[c]:=by
   rcases List.eq_nil_or_concat l' with h | ⟨a,b,h⟩
   ·
    subst h;simp at yG
   exact⟨a,b,by simpa using h⟩
  rename List UInt8=>l'
  have hw:IntKind.i64.wrap (((l'++[c]).length:Nat)-1:Int)=(l'.length:Int):=by rw[IntKind.wrap_i64];simp at yD ⊢;omega
  have hix:(l'++[c])[l'.length]?=some c:=by simp
  have h0:(0:Int)≤(l'.length:Int):=by omega
  have yw:=aI hw (aI hix (aI h0 (@Int.toNat_natCast)))
  refine Aj (Bd rfl (Aq (Ag (Ad (Ac rfl (Ac rfl (Ac rfl (Km ?_))))))))
  refine Qj ?_
  refine Ab (by simp only[zo,Ee,zm,Dp,yw]<;>exact rfl) ?_
  refine Ab (by simp only[zo];exact cont_run (by omega) ⟨S.heap,S.heap.length⟩ g xE c) ?_
  refine xo9 ?_
  refine Aa (Af ?_)
  refine Bv (by simp only[opd,zv]<;>exact rfl) (fun yA=>?_) (fun yA=>?_)
  ·
   refine Cf (E5 (bk_o rfl (Fp (Fa (Bd rfl (Ad (Ac rfl (Ae rfl (Aa (Af ?_))))))))))
   refine Av ?_
   refine⟨_,by simp only[F112,Ak,Bb,Cb,zg]<;>exact rfl,?_⟩
   rw[←hl',rtrim_snoc,if_neg (by simpa using yA)]
   simp[leave,LP,Vl,Vi,snap,D.Vk,D.Vj,D.free,D.Vo]
  refine Aj (Bd rfl (Ar (Ac rfl (Ac rfl (Km ?_)))))
  refine Qj ?_
  refine Ab (by simp only[opd,zv,Ba,aop,LOp.loud,Bool.false_eq_true,if_false];rw[Rw _ (l'++[c]) l'.length _ rfl (by simp),List.take_left];exact rfl) ?_
  refine Ae rfl (Aa (Eb (Fb (by simp only[ze]<;>exact rfl) ?_)))
  exact⟨l'.length,by simp,l',_,_,by rw[←hl',rtrim_snoc,if_pos (by simpa using yA)],rfl,by simp at yD;omega,rfl,rfl⟩
 obtain rfl:l'=[]:=by
  cases l' with
  | nil=>rfl
  | cons c l=>have:=of_decide_eq_false yG;simp at this
 refine Cf (E5 (Fp (Fa (Bd rfl (Ad (Ac rfl (Ae rfl (Aa (Af ?_)))))))))
 refine Av ?_
 refine⟨_,by simp only[F112,Ak,Bb,Cb,zg,zm]<;>exact rfl,?_⟩
 rw[←hl',show M0 []=[] from rfl]
 simp[leave,LP,Vl,Vi,snap,D.Vk,D.Vj,D.free,D.Vo]
theorem aset_run{d:Nat}(hd:1≤d)(S:St):Az LP NN d 107 [.str ⟨#[48,49,50,51,52,53,54,55,56,57]⟩] S=some (.tup [.agg digTab,.bool true],S,false):=by
 obtain⟨d,rfl⟩:∃d',d=d'+1:=⟨d-1,by omega⟩
 kernel_rfl
theorem Fy:(⟨#[48,49,50,51,52,53,54,55,56,57]⟩:ByteArray)=mkS [48,49,50,51,52,53,54,55,56,57]:=rfl
theorem trimDg_run{d:Nat}(hd:4≤d)(S:St)(l:List UInt8)(hl:l.length≤1000000):Az LP NN d 85 [.str (mkS l),.str ⟨#[48,49,50,51,52,53,54,55,56,57]⟩] S=some (.str (mkS (trimD l)),S,false):=by
 refine run_pure (F:=F85) rfl (by simp only[LP,Al,zs]<;>exact rfl) rfl (by simp only[LP,zf,zm];try rfl) (by simp only[F85,zv]<;>exact rfl) (by omega) ?_
 rintro d rfl
 refine Ad (Ap (Aa (Af ?_)))
 refine Ag (Ad (Ac rfl (Ab (by simp only[zo,Bh,Dy,Er,Fy]<;>exact rfl) ?_)))
 refine Ae rfl ?_
 refine Dr 0 (by simp only[zv]<;>exact rfl) (by simp only[zn]<;>exact rfl) (by simp only[zn]<;>exact rfl) (fun hg=>?_) (fun hg=>?_)
 ·
  refine Ao rfl rfl (Ao rfl rfl (Ab (by simp only[zo,Fy]<;>exact rfl) ?_))
  refine Aa (Af ?_)
  refine Em (by simp only[opd,zv,Fy]) ?_
  refine Ad (Ac rfl (Ae rfl (Aa (Af ?_))))
  refine Av (D5 ?_)
  refine⟨_,by simp only[F85,Ak,Bb,Cb,zg]<;>exact rfl,?_⟩
  obtain rfl:=(eqNil l).1 hg
  rfl
 refine Ai rfl (Ac rfl (Ai rfl (Ab (by simp only[zo,Bh,Dy,Er,Fy]<;>exact rfl) ?_)))
 refine Ab (by simp only[zo,Fy]<;>exact rfl) ?_
 refine Aa (Af ?_)
 refine Bz (by simp only[opd,zv,Fy]<;>rfl) ?_
 refine Aj (Bd rfl (Ag (Ad (Ac rfl (Ab (by simp only[zo,Eh,Fy]<;>exact rfl) ?_)))))
 refine Ab (by simp only[zo,Bh,Fy]<;>exact rfl) ?_
 refine Ae rfl (Ig 0 (b:=false) (by simp only[zv,Fy]<;>rfl) (by simp only[zn]<;>exact rfl) ?_)
 refine Ao rfl rfl (Ao rfl rfl (Ao rfl rfl (Ab (by simp only[zo,Fy]<;>exact rfl) ?_)))
 refine Aa (Af ?_)
 refine Bz (by simp only[opd,zv,Fy]) ?_
 refine Aj (Bd rfl (Ag (Ad (Ac rfl (Ab (by simp only[zo,Fy];exact aset_run (by omega) _) ?_)))))
 refine Ae rfl (Ab (by simp only[zo,Lz,Fy]<;>exact rfl) ?_)
 refine Ab (by simp only[zo,Lz,Ls_,Fy]<;>exact rfl) ?_
 refine Ab (show _=some (D.ptr 0 0 0 0,(⟨[⟨169,256,[List.replicate 256 (.bool false)],0,0,false⟩],0⟩:St),true) by kernel_rfl) ?_
 refine Ab (show _=some (D.undef,(⟨[digOb],0⟩:St),true) by kernel_rfl) ?_
 refine Ae rfl (Aa (Af ?_))
 refine Ad (Ac rfl (Aa (Af ?_)))
 refine Em (by simp only[opd,zv,Fy]<;>rfl) ?_
 refine Ad (Ac rfl (Ab (by simp only[zo,Fy];exact trimRA_run (by omega) ⟨[digOb],0⟩ 0 rfl l hl) ?_))
 refine Ab (by simp only[zo,Fy];exact trimLA_run (by omega) ⟨[digOb],0⟩ 0 rfl (M0 l) (by rw[M0,List.length_reverse];have:=(List.dropWhile_suffix Gi (l:=l.reverse)).length_le;rw[List.length_reverse]at this;omega)) ?_
 refine Ae rfl (Aa (Af ?_))
 refine Av (D5 ?_)
 refine⟨_,by simp only[F85,Ak,Bb,Cb,zg]<;>exact rfl,?_⟩
 rfl
def Ez (l:List UInt8):Bool:=!(l==[])&&l.all Gi
theorem Nt{d:Nat}(hd:5≤d)(S:St)(l:List UInt8)(hl:l.length≤1000000):Az LP NN d 127 [.str (mkS l)] S=some (.bool (Ez l),S,false):=by
 refine run_pure (F:=F127) rfl (by simp only[LP,Al,zs]<;>exact rfl) rfl (by simp only[LP,zf,zm];try rfl) (by simp only[F127,zv]<;>exact rfl) (by omega) ?_
 rintro d rfl
 refine Ad (Ap (Aa (Af ?_)))
 refine Ad (Ac rfl (xo37 ?_))
 refine Ae rfl ?_
 refine Dr 0 (by simp only[zv]<;>exact rfl) (by simp only[zn]<;>exact rfl) (by simp only[zn]<;>exact rfl) (fun hg=>?_) (fun hg=>?_)
 ·
  refine Ai rfl (Ac rfl (Ai rfl (Ab (by simp only[zo];exact trimDg_run (by omega) _ l hl) ?_)))
  refine Ai rfl (xo37 ?_)
  refine xo0 ?_
  refine Ae rfl (Aa (Af ?_))
  refine Av ?_
  refine⟨_,by simp only[F127,Ak,Bb,Cb,zg]<;>exact rfl,?_⟩
  rw[Ez,show (!(l==[]))=true from hg,Bool.true_and,trimD_nil];rfl
 refine Ao rfl rfl (Ao rfl rfl (Ao rfl rfl (xo0 ?_)))
 refine Ae rfl (Aa (Af ?_))
 refine Av ?_
 refine⟨_,by simp only[F127,Ak,Bb,Cb,zg]<;>exact rfl,?_⟩
 rw[Ez,show (!(l==[]))=false from hg];rfl
def decD (neg:Bool) (l:List UInt8):D:=.agg [.bool neg,.str (mkS l),.int .i64 0]
theorem Px{d:Nat}(hd:3≤d)(S:St)(neg:Bool)(l:List UInt8)(hl:l.length≤1000)(xg:(Cv l).length≤62):Az LP NN d 128 [.bool neg,.str (mkS l),.int .i64 0] S=some (.tup [.agg [.bool (neg&&nz l),.str (mkS (strip l)),.int .i64 0],.int .i64 0],S,false):=by
 refine run_pure (F:=F128) rfl (by simp only[LP,Al,zs]<;>exact rfl) rfl (by simp only[LP,zf,zm];try rfl) (by simp only[F128,zv]<;>exact rfl) (by omega) ?_
 rintro d rfl
 refine Ad (xo8 ?_)
 refine Ap (Aa (Af ?_))
 refine Ad (Ac rfl (Ab (by simp only[zo];exact trimL0_run (by omega) _ l (by omega)) ?_))
 refine Ae rfl (Aa (Af ?_))
 refine Ag (Ad (Ac rfl (xo37 ?_)))
 refine Aa (Af ?_)
 refine Bv (by simp only[opd,zv]<;>exact rfl) (fun hc=>?_) (fun hc=>?_)
 ·
  refine Ad (xo24 ?_)
  refine Kn ?_
  refine Ap (Aa (Af ?_))
  refine Av (D5 ?_)
  refine⟨_,by simp only[F128,Ak,Bb,Cb,zg,zd,rowsOf,Be,List.take,List.drop,zm]<;>exact rfl,?_⟩
  have h0:Cv l=[]:=(eqNil _).1 hc
  rw[nz,strip,if_pos h0,h0,bne_self_eq_false,Bool.and_false];rfl
 refine Aj (Bd rfl (Ag (Aq (Cz (fun n env S'=>∃u5 u6 u7 u8:D,S'=⟨[⟨145,3,[[.bool false,.str ⟨#[]⟩,.int .i64 0]],0,0,false⟩],0⟩∧env=[.bool neg,.str (mkS (Cv l)),.int .i64 0,.ptr 0 0 0 0,.int .i64 0,u5,u6,u7,u8]) (1) (by omega) (⟨_,_,_,_,rfl,rfl⟩) ?_))))
 rintro n env S' ⟨u5,u6,u7,u8,rfl,rfl⟩
 refine Ag (Ad (Ac rfl (xo1 ?_)))
 refine Ae rfl (Ce 0 (b:=false) ?_)
 refine Ao rfl rfl (Ao rfl rfl (xo0 ?_))
 refine Aa (Af ?_)
 refine Bz (by simp only[opd,zv]) ?_
 refine Cf (E5 (Fp (Fa (Bd rfl (Ag (Ad (Ac rfl (Ab (by simp only[zo,Bh,Int.reduceLT]<;>exact rfl) ?_))))))))
 refine Aa (Af ?_)
 refine Ca ?_
 refine Aj (Bd rfl (Ag (Ad (Ac rfl (Km ?_)))))
 refine Ac rfl (Ab (by simp only[zo,M5,maxD]<;>exact rfl) ?_)
 refine xo1 ?_
 refine Aa (Af ?_)
 refine Bz (by simp only[opd,zv]<;>(rw[decide_eq_false_iff_not.2];split<;>omega)) ?_
 refine Aj (Bd rfl (Ad (Ac rfl (Ac rfl (Ac rfl (xo24 ?_))))))
 refine Kn ?_
 refine Ap (Aa (Af ?_))
 refine Av ?_
 refine⟨_,by simp only[F128,Ak,Bb,Cb,zg,zd,rowsOf,Be,List.take,List.drop,zm]<;>exact rfl,?_⟩
 have h0:¬Cv l=[]:=fun h=>by rw[h]at hc;simp at hc
 rw[nz,strip,if_neg h0,show (Cv l != [])=true by simpa using h0,Bool.and_true];rfl
theorem normal_big{d:Nat}(hd:3≤d)(S:St)(neg:Bool)(l:List UInt8)(hl:l.length≤1000)(xg:62<(Cv l).length):Az LP NN d 128 [.bool neg,.str (mkS l),.int .i64 0] S=some (.tup [.agg [.bool false,.str ⟨#[]⟩,.int .i64 0],.int .i64 14],S,false):=by
 refine run_pure (F:=F128) rfl (by simp only[LP,Al,zs]<;>exact rfl) rfl (by simp only[LP,zf,zm];try rfl) (by simp only[F128,zv]<;>exact rfl) (by omega) ?_
 rintro d rfl
 refine Ad (xo8 ?_)
 refine Ap (Aa (Af ?_))
 refine Ad (Ac rfl (Ab (by simp only[zo];exact trimL0_run (by omega) _ l (by omega)) ?_))
 refine Ae rfl (Aa (Af ?_))
 refine Ag (Ad (Ac rfl (xo37 ?_)))
 refine Aa (Af ?_)
 refine Bv (by simp only[opd,zv]<;>exact rfl) (fun hc=>?_) (fun hc=>?_)
 ·
  refine Ad (xo24 ?_)
  refine Kn ?_
  refine Ap (Aa (Af ?_))
  refine Av (D5 ?_)
  refine⟨_,by simp only[F128,Ak,Bb,Cb,zg,zd,rowsOf,Be,List.take,List.drop,zm]<;>exact rfl,?_⟩
  have h0:Cv l=[]:=(eqNil _).1 hc
  rw[h0]at xg;simp at xg
 refine Aj (Bd rfl (Ag (Aq (Cz (fun n env S'=>∃u5 u6 u7 u8:D,S'=⟨[⟨145,3,[[.bool false,.str ⟨#[]⟩,.int .i64 0]],0,0,false⟩],0⟩∧env=[.bool neg,.str (mkS (Cv l)),.int .i64 0,.ptr 0 0 0 0,.int .i64 0,u5,u6,u7,u8]) (1) (by omega) (⟨_,_,_,_,rfl,rfl⟩) ?_))))
 rintro n env S' ⟨u5,u6,u7,u8,rfl,rfl⟩
 refine Ag (Ad (Ac rfl (xo1 ?_)))
 refine Ae rfl (Ce 0 (b:=false) ?_)
 refine Ao rfl rfl (Ao rfl rfl (xo0 ?_))
 refine Aa (Af ?_)
 refine Bz (by simp only[opd,zv]) ?_
 refine Cf (E5 (Fp (Fa (Bd rfl (Ag (Ad (Ac rfl (Ab (by simp only[zo,Bh,Int.reduceLT]<;>exact rfl) ?_))))))))
 refine Aa (Af ?_)
 refine Ca ?_
 refine Aj (Bd rfl (Ag (Ad (Ac rfl (Km ?_)))))
 refine Ac rfl (Ab (by simp only[zo,M5,maxD]<;>exact rfl) ?_)
 refine xo1 ?_
 refine Aa (Af ?_)
 refine Em (by simp only[opd,zv]<;>(rw[decide_eq_true_iff.2];split<;>omega)) ?_
 refine Ad (Ab (by simp only[zo,Hf,zm]<;>exact rfl) ?_)
 refine Kn ?_
 refine Ap (Aa (Af ?_))
 refine Av (D5 ?_)
 refine⟨_,by simp only[F128,Ak,Bb,Cb,zg,zd,rowsOf,Be,List.take,List.drop,zm]<;>exact rfl,?_⟩
 rfl
theorem Ox(l:List UInt8):(Cv l).length≤l.length:=by
 obtain⟨k,hk⟩:=Kl l
 have:=congrArg List.length hk
 simp at this
 omega
theorem big_len{l:List UInt8}(h:l.length≤62):decide ((l.length:Int)>1000)=false:=decide_eq_false (by omega)
theorem decNew_run{d:Nat}(hd:6≤d)(S:St)(neg:Bool)(l:List UInt8)(hl:l.length≤62)(w9:Ez l=true):Az LP NN d 167 [.bool neg,.str (mkS l),.int .i64 0] S=some (.tup [.agg [.bool (neg&&nz l),.str (mkS (strip l)),.int .i64 0],.int .i64 0],S,false):=by
 refine run_pure (F:=F167) rfl (by simp only[LP,Al,zs]<;>exact rfl) rfl (by simp only[LP,zf,zm];try rfl) (by simp only[F167,zv]<;>exact rfl) (by omega) ?_
 rintro d rfl
 refine Ad (xo8 ?_)
 refine Ap (Aa (Af ?_))
 refine Ag (Ad (Ac rfl (Ab (by simp only[zo];exact Nt (by omega) _ l (by omega)) ?_)))
 refine Ab (by simp only[zo,unD,w9,Bool.not_true]<;>exact rfl) ?_
 refine Ae rfl (Ig 0 (b:=false) (by simp only[zv,w9]<;>rfl) (by simp only[zn]<;>exact rfl) ?_)
 refine Ai rfl (Ac rfl (Ai rfl (Ab (by simp only[zo,Eh,Cs,w9]<;>exact rfl) ?_)))
 refine Ai rfl (Ab (by simp only[zo,Bh,w9,big_len hl]<;>exact rfl) ?_)
 refine Ab (by simp only[zo,w9]<;>exact rfl) ?_
 refine Ae rfl (Ig 0 (b:=false) (by simp only[zv,w9]<;>rfl) (by simp only[zn]<;>exact rfl) ?_)
 refine Ai rfl (Ac rfl (Ai rfl (Ab (by simp only[zo,Bh,Int.reduceLT,w9]<;>exact rfl) ?_)))
 refine Ab (by simp only[zo,w9]<;>exact rfl) ?_
 refine Ae rfl (Ig 0 (b:=false) (by simp only[zv,w9]<;>rfl) (by simp only[zn]<;>exact rfl) ?_)
 refine Ai rfl (Ac rfl (Ai rfl (Ab (by simp only[zo,Bh,w9]<;>exact rfl) ?_)))
 refine Ab (by simp only[zo,w9]<;>exact rfl) ?_
 refine Aa (Af ?_)
 refine Ca ?_
 refine Aj (Bd rfl (Ad (Ac rfl (Ac rfl (Ac rfl (Ab (by simp only[zo];exact Px (by omega) _ neg l (by omega) (Nat.le_trans (Ox l) hl)) ?_))))))
 refine xo7 ?_
 refine xo4 ?_
 refine Kn ?_
 refine Ae rfl (Aa (Af ?_))
 refine Av ?_
 refine⟨_,by simp only[F167,Ak,Bb,Cb,zg,zd,rowsOf,Be,List.take,List.drop,zm]<;>exact rfl,?_⟩
 simp only[Dv,leave,Al,Bw,zs,zf,zk]
structure Nrm (neg:Bool) (l:List UInt8):Prop where
 num:Ez l=true
 len:l.length≤62
 st:strip l=l
 sg:(neg&&nz l)=neg
theorem strip0_strip(l:List UInt8):Cv (strip l)=Cv l:=by
 unfold strip
 split
 ·
  rename_i h;rw[h];rfl
 exact Pm l
theorem Nrm.of(neg:Bool)(l:List UInt8)(h1:Ez l=true)(h2:(Cv l).length≤62):Nrm (neg&&nz l) (strip l):=by
 simp only[Ez,Bool.and_eq_true,Bool.not_eq_true',beq_eq_false_iff_ne,ne_eq]at h1
 obtain⟨a,b⟩:=Ow l h1.1
 refine⟨?_,(by unfold strip;split;exact (by decide:1≤62);exact h2),Ls l,?_⟩
 ·
  simp only[Ez,Bool.and_eq_true,Bool.not_eq_true',beq_eq_false_iff_ne,ne_eq]
  exact⟨fun e=>by rw[e]at b;simp at b,strip_dig l h1.2⟩
 unfold nz
 rw[strip0_strip]
 cases neg<;>simp
theorem ba_self2(s:ByteArray):(s==s)=true:=by
 first
  | exact beq_self_eq_true s
  | (cases s with | mk a=>show (a==a)=true;simp)
  | (cases s with | mk a=>show decide _=true;simp)
theorem big62{l:List UInt8}(h:l.length≤62):decide ((l.length:Int)>62)=false:=decide_eq_false (by omega)
theorem Ju{d:Nat}(hd:6≤d)(S:St)(neg:Bool)(l:List UInt8)(h:Nrm neg l):Az LP NN d 129 [.agg [.bool neg,.str (mkS l),.int .i64 0]] S=some (.int .i64 0,S,false):=by
 refine run_pure (F:=F129) rfl (by simp only[LP,Al,Bw,zs,zm]<;>exact rfl) rfl (by simp only[LP,zf,zm];try rfl) (by simp only[F129,zv]<;>exact rfl) (by omega) ?_
 rintro d rfl
 refine Ad (Jj ?_)
 refine Ap (Aa (Af ?_))
 refine Ag (Ad (xo5 ?_))
 refine xo3 ?_
 refine Ab (by simp only[zo];exact Nt (by omega) _ l (by have:=h.len;omega)) ?_
 refine Ab (by simp only[zo,unD,h.num,Bool.not_true]<;>exact rfl) ?_
 refine Ae rfl (Ig 0 (b:=false) (by simp only[zv,h.num]<;>rfl) (by simp only[zn]<;>exact rfl) ?_)
 refine Ai rfl (Ab (by simp only[zo,F5,zm,h.num]<;>exact rfl) ?_)
 refine Ai rfl (Ab (by simp only[zl,zm,zd,Be,List.take,List.drop,h.num]<;>exact rfl) ?_)
 refine Ai rfl (Ab (by simp only[zo,Eh,Cs,h.num]<;>exact rfl) ?_)
 refine Ai rfl (Ab (by simp only[zo,Bh,h.num,big62 h.len]<;>exact rfl) ?_)
 refine Ab (by simp only[zo,h.num]<;>exact rfl) ?_
 refine Ae rfl (Ig 0 (b:=false) (by simp only[zv,h.num]<;>rfl) (by simp only[zn]<;>exact rfl) ?_)
 refine Ai rfl (Ab (by simp only[zo,F5,zm,h.num]<;>exact rfl) ?_)
 refine Ai rfl (Ab (by simp only[zl,zm,zd,Be,List.take,List.drop,h.num]<;>exact rfl) ?_)
 refine Ai rfl (Ab (by simp only[zo,Bh,Int.reduceLT,h.num]<;>exact rfl) ?_)
 refine Ab (by simp only[zo,h.num]<;>exact rfl) ?_
 refine Ae rfl (Ig 0 (b:=false) (by simp only[zv,h.num]<;>rfl) (by simp only[zn]<;>exact rfl) ?_)
 refine Ai rfl (Ab (by simp only[zo,F5,zm,h.num]<;>exact rfl) ?_)
 refine Ai rfl (Ab (by simp only[zl,zm,zd,Be,List.take,List.drop,h.num]<;>exact rfl) ?_)
 refine Ai rfl (Ab (by simp only[zo,Bh,h.num]<;>exact rfl) ?_)
 refine Ab (by simp only[zo,h.num]<;>exact rfl) ?_
 refine Aa (Af ?_)
 refine Ca ?_
 refine Aj (Bd rfl (Ag (Ad (xo5 ?_))))
 refine xo3 ?_
 refine xo5 ?_
 refine xo3 ?_
 refine xo5 ?_
 refine xo3 ?_
 refine Ab (by simp only[zo];exact Px (by omega) _ neg l (by have:=h.len;omega) (Nat.le_trans (Ox l) h.len)) ?_
 refine Ae rfl (xo7 ?_)
 refine xo4 ?_
 refine xo8 ?_
 refine Kn ?_
 refine Ae rfl (Aa (Af ?_))
 refine Ad (Ac rfl (xo1 ?_))
 refine Ae rfl (Ce 0 (b:=false) ?_)
 refine Ai rfl (xo3 ?_)
 refine Ai rfl (xo3 ?_)
 refine Ai rfl (Ab (by simp only[zo,Db,Gj,isKey,h.sg,h.st,beq_self_eq_true,Bool.and_self,bne_self_eq_false,ba_self2]<;>exact rfl) ?_)
 refine xo0 ?_
 refine Aa (Af ?_)
 refine Ca ?_
 refine Aj (Bd rfl (Ad (Ap (Aa (Af ?_)))))
 refine Av ?_
 refine⟨_,by simp only[F129,Ak,Bb,Cb,zg]<;>exact rfl,?_⟩
 rfl
end Go.Proofs.YtkaedpmmopigkaaGreatDoor
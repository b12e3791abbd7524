/- Proved here: what functions of the program compute in an abstract machine; no condition. -/
import Derived.Test.YtlhdliikahebhaaGreatDoorM8
namespace Go.Proofs.YtlhdliikahebhaaGreatDoor
set_option linter.unusedVariables false
set_option linter.unusedSimpArgs false
def mkS (l:List UInt8):ByteArray:=⟨l.toArray⟩
theorem Ad(l:List UInt8):(mkS l).size=l.length:=by simp[mkS,ByteArray.size]
theorem size_data(b:ByteArray):b.size=b.data.toList.length:=rfl
theorem toList_go(b:ByteArray):∀(k i:Nat) (r:List UInt8),b.size-i=k→ByteArray.toList.loop b i r=r.reverse++b.data.toList.drop i
 | 0,i,r,h=>by
  rw[ByteArray.toList.loop,if_neg (by omega),List.drop_eq_nil_of_le (by rw[size_data]at h;omega)];simp
 | k+1,i,r,h=>by
  rw[ByteArray.toList.loop,if_pos (by omega),toList_go b k (i+1) _ (by omega)];have hi:i<b.data.toList.length:=by rw[size_data]at h;omega
  rw[List.drop_eq_getElem_cons hi];have zD:i<b.data.size:=hi;simp[ByteArray.get!,getElem!_pos b.data i zD]
theorem Ag(l:List UInt8):(mkS l).toList=l:=by
 have:=toList_go (mkS l) _ 0 [] rfl;simpa [ByteArray.toList,mkS] using this
theorem Fj(a b:List UInt8):mkS a++mkS b=mkS (a++b):=by
 apply ByteArray.ext;simp[mkS,ByteArray.data_append]
theorem Ib(l:List UInt8)(a b:Nat):(mkS l).extract a b=mkS ((l.drop a).take (b-a)):=by
 apply ByteArray.ext;apply Array.ext';simp only[mkS,ByteArray.data_extract,List.extract_toArray,List.extract_eq_take_drop]
theorem Gt(l:List UInt8)(i:Nat):(mkS l)[i]?=l[i]?:=by
 by_cases h:i<l.length
 ·
  rw[getElem?_pos (mkS l) i (by rw[Ad];exact h),getElem?_pos l i h];simp[mkS,ByteArray.getElem_eq_getElem_data]
 rw[getElem?_neg (mkS l) i (by rw[Ad];exact h),getElem?_neg l i h]
theorem Hd:(⟨#[]⟩:ByteArray)=mkS []:=rfl
theorem Ai:(⟨#[]⟩:ByteArray).toList=[]:=Ag []
theorem zx:(type_of% @Ag)∧(type_of% @Ai)∧(type_of% @Ad):=⟨@Ag,@Ai,@Ad⟩
def bR (l:List UInt8):List (List D):=l.map fun b=>[.int .u8 b.toNat]
theorem Ga(l:List UInt8):(bR l).length=l.length:=by simp[bR]
theorem bR_at{l:List UInt8}{i:Nat}{b:UInt8}(h:l[i]?=some b):(bR l)[i]?=some [.int .u8 b.toNat]:=by simp[bR,h]
theorem E8:∀l:List UInt8,bytesOf (bR l)=some l
 | []=>rfl
 | b::l=>by
  have:=E8 l;simp only[bR,List.map_cons]at this ⊢;simp only[bytesOf,this,Option.map_some,Int.toNat_natCast,UInt8.ofNat_toNat]
def Dw (c:UInt8):Bool:=decide (48≤c.toNat)&&decide (c.toNat≤57)
def digTab:List D:=(List.range 256).map fun i=>.bool (decide (48≤i)&&decide (i≤57))
theorem digTab_at(c:UInt8):digTab[c.toNat]?=some (.bool (Dw c)):=by
 have:c.toNat<256:=c.toNat_lt;simp[digTab,Dw,this]
def Oh (l:List UInt8):List UInt8:=(l.reverse.dropWhile Dw).reverse
def Ou (l:List UInt8):List UInt8:=(Oh l).dropWhile Dw
theorem rtrim_snoc(l:List UInt8)(c:UInt8):Oh (l++[c])=if Dw c then Oh l else l++[c]:=by
 simp only[Oh,List.reverse_append,List.reverse_cons,List.reverse_nil,List.nil_append,List.singleton_append,List.dropWhile_cons];split<;>simp
theorem Jj{α:Type}{p:α→Bool}:∀{l:List α},l.dropWhile p=[]↔l.all p=true
 | []=>by simp
 | a :: l => by
  rw[List.dropWhile_cons];by_cases h:p a=true
  ·
   simp[h,Jj (l:=l)]
  simp[h]
theorem G9(l:List UInt8):(Ou l==[])=l.all Dw:=by
 rw[Bool.eq_iff_iff];simp only[beq_iff_eq,Ou];rw[Jj];constructor
 ·
  intro h
  have h2:∀c∈l.reverse.dropWhile Dw,Dw c=true:=by
   intro c hc;exact List.all_eq_true.1 h c (by simpa [Oh] using hc)
  have h3:l.reverse.dropWhile Dw=[]:=by
   cases e:l.reverse.dropWhile Dw with
   | nil=>rfl
   | cons a r =>
    have h4:=List.head?_dropWhile_not Dw l.reverse;rw[e]at h4 h2;simp only[List.head?_cons]at h4;rw[h2 a List.mem_cons_self]at h4;simp at h4
  rw[Jj]at h3;simpa using h3
 intro h;have:l.reverse.dropWhile Dw=[]:=by rw[Jj];simpa using h
 simp[Oh,this]
def Bh (l:List UInt8):List UInt8:=l.dropWhile (·==48)
def strip (l:List UInt8):List UInt8:=if Bh l=[] then [48] else Bh l
def nz (l:List UInt8):Bool:=Bh l != []
theorem Lr(l:List UInt8):Bh (Bh l)=Bh l:=by
 unfold Bh
 cases e:l.dropWhile (·==48) with
 | nil=>rfl
 | cons a r =>
  have h4:=List.head?_dropWhile_not (fun x:UInt8=>x==48) l;rw[e]at h4;simp only[List.head?_cons]at h4;rw[List.dropWhile_cons,if_neg (by simpa using h4)]
theorem Rc(l:List UInt8):strip (strip l)=strip l:=by
 unfold strip;by_cases h:Bh l=[]
 ·
  rw[if_pos h];rfl
 rw[if_neg h,Lr,if_neg h]
theorem Gm(l:List UInt8):∃k,l=List.replicate k 48++Bh l:=by
 induction l with
 | nil=>exact⟨0,rfl⟩
 | cons a l ih =>
  unfold Bh at ih ⊢;rw[List.dropWhile_cons];by_cases h:(a==48)=true
  ·
   obtain⟨k,hk⟩:=ih;rw[if_pos h];have:a=48:=by simpa using h
   refine⟨k+1,?_⟩;rw[List.replicate_succ,List.cons_append,←hk,this]
  rw[if_neg h];exact⟨0,rfl⟩
theorem J8(l:List UInt8)(h:l≠[]):(strip l).length≤l.length∧0<(strip l).length:=by
 unfold strip;obtain⟨k,hk⟩:=Gm l;have hl:=congrArg List.length hk;simp at hl;have:0<l.length:=List.length_pos_iff.2 h;split
 ·
  simp;omega
 rename_i h0;have:=List.length_pos_iff.2 h0;omega
theorem strip_dig(l:List UInt8)(h:l.all Dw=true):(strip l).all Dw=true:=by
 unfold strip;split
 ·
  rfl
 obtain⟨k,hk⟩:=Gm l;rw[hk,List.all_append,Bool.and_eq_true]at h;exact h.2
def pad (n:Nat) (l:List UInt8):List UInt8:=List.replicate (n-l.length) 48++l
theorem pad_strip(l:List UInt8)(n:Nat)(h:l≠[])(h1:(strip l).length≤n)(h2:n≤l.length):l=List.replicate (l.length-n) 48++pad n (strip l):=by
 obtain⟨k,hk⟩:=Gm l;have hl:=congrArg List.length hk;simp at hl;unfold strip at h1 ⊢;unfold pad;by_cases h0:Bh l=[]
 ·
  rw[if_pos h0]at h1 ⊢;rw[h0,List.append_nil]at hk;rw[h0]at hl;simp at hl h1;rw[←Lo_,List.replicate_append_replicate,show ([48]:List UInt8)=List.replicate 1 48 from rfl,List.replicate_append_replicate];simp only[List.length_replicate];rw[show l.length-n+(n-1)+1=k by omega];exact hk
 rw[if_neg h0]at h1 ⊢;rw[←Lo_,List.replicate_append_replicate];rw[show l.length-n+(n-(Bh l).length)=k by omega];exact hk
set_option maxRecDepth 100000
theorem zxx:(type_of% @Bool.and_false)∧(type_of% @and_false)∧(type_of% @or_false)∧(type_of% @or_self)∧(type_of% @false_or)∧(type_of% @ite_false.{1})∧(type_of% @Bool.false_and)∧(type_of% @Bool.and_true)∧(type_of% @Bool.true_and)∧(type_of% @Nat.zero_le)∧(type_of% @Nat.le_refl):=⟨@Bool.and_false,@and_false,@or_false,@or_self,@false_or,@ite_false.{1},@Bool.false_and,@Bool.and_true,@Bool.true_and,@Nat.zero_le,@Nat.le_refl⟩
theorem g1{P Q:Prop}(h:(Unit→P)→Q:=by intro hh;(first | ((with_reducible show OW _ _ _ _ _ _);first | ((with_reducible apply ow_me);exact rfl) | ((with_reducible apply ow_ml);exact rfl) | (with_reducible apply ow_nil) | (with_reducible apply ow_mc) | ((with_reducible apply Aa (l:=.bin _));(first | (simp only[zo,Ec,zb,Int.reduceEq,Int.reduceLT,Nat.reduceAdd,Int.reduceToNat,zxx,zz]<;>exact rfl) | (simp only[zo,Ec,zb,Int.reduceEq,Int.reduceLT,Nat.reduceAdd,Int.reduceToNat,zxx]<;>exact rfl))) | ((with_reducible apply Aa (l:=.load _ _));(first | (simp only[zl,zm,zd,Ci,List.take,List.drop,Nat.reduceAdd,Int.reduceToNat,zxx,zz]<;>exact rfl) | (simp only[zl,zm,zd,Ci,List.take,List.drop,Nat.reduceAdd,Int.reduceToNat,zxx]<;>exact rfl))) | ((with_reducible apply Aa (l:=.X3 _));(first | (simp only[zo,zr,zm,Nat.reduceAdd,Int.reduceToNat,zxx,zz]<;>exact rfl) | (simp only[zo,zr,zm,Nat.reduceAdd,Int.reduceToNat,zxx]<;>exact rfl))) | ((with_reducible apply Aa (l:=.extract _));(first | (simp only[zo,Lz,Ls_,Nat.reduceAdd,Int.reduceToNat,zxx,zz]<;>exact rfl) | (simp only[zo,Lz,Ls_,Nat.reduceAdd,Int.reduceToNat,zxx]<;>exact rfl))) | ((with_reducible apply Aa (l:=.pick));(first | (simp only[zo,Nat.reduceAdd,Int.reduceToNat,zxx,zz]<;>exact rfl) | (simp only[zo,Nat.reduceAdd,Int.reduceToNat,zxx]<;>exact rfl))) | ((with_reducible apply Aa (l:=.len _));(first | (simp only[zo,Kq,I8,Nt,Kr,Nat.reduceAdd,Int.reduceToNat,zxx,zz]<;>exact rfl) | (simp only[zo,Kq,I8,Nt,Kr,Nat.reduceAdd,Int.reduceToNat,zxx]<;>exact rfl))) | ((with_reducible apply Aa (l:=.store _));(first | (simp only[zl,zm,I1,overlay,Ah,Bl,zs,zc,zf,List.take,List.drop,Nat.reduceAdd,Int.reduceToNat,zxx,zz]<;>exact rfl) | (simp only[zl,zm,I1,overlay,Ah,Bl,zs,zc,zf,List.take,List.drop,Nat.reduceAdd,Int.reduceToNat,zxx]<;>exact rfl))) | ((with_reducible apply Aa (l:=.alloc _ _));(first | (simp only[zl,zm,Nat.reduceAdd,Int.reduceToNat,zxx,zz]<;>exact rfl) | (simp only[zl,zm,Nat.reduceAdd,Int.reduceToNat,zxx]<;>exact rfl))) | ((with_reducible apply Aa (l:=.nilck));(first | (simp only[zo,Nat.reduceAdd,Int.reduceToNat,zxx,zz]<;>exact rfl) | (simp only[zo,Nat.reduceAdd,Int.reduceToNat,zxx]<;>exact rfl))) | ((with_reducible apply Aa (l:=.un _));(first | (simp only[zo,unD,Nat.reduceAdd,Int.reduceToNat,zxx,zz]<;>exact rfl) | (simp only[zo,unD,Nat.reduceAdd,Int.reduceToNat,zxx]<;>exact rfl))) | ((with_reducible apply Aa (l:=.aaddr _ _));(first | (simp only[zo,Lx,zm,Nat.reduceAdd,Int.reduceToNat,zxx,zz]<;>exact rfl) | (simp only[zo,Lx,zm,Nat.reduceAdd,Int.reduceToNat,zxx]<;>exact rfl))) | ((with_reducible apply Aa (l:=.append _ _ _ _));(first | (simp only[zl,zm,Bo,Av,D9,Ct,Ea,List.isEmpty_cons,List.isEmpty_nil,reduceIte,Nat.reduceAdd,Int.reduceToNat,zxx,zz]<;>exact rfl) | (simp only[zl,zm,Bo,Av,D9,Ct,Ea,List.isEmpty_cons,List.isEmpty_nil,reduceIte,Nat.reduceAdd,Int.reduceToNat,zxx]<;>exact rfl))) | ((with_reducible apply Aa (l:=.box _ _));(first | (simp only[zl,zm,zc,Nat.reduceAdd,Int.reduceToNat,zxx,zz]<;>exact rfl) | (simp only[zl,zm,zc,Nat.reduceAdd,Int.reduceToNat,zxx]<;>exact rfl))) | ((with_reducible apply Aa (l:=.boxc _));(first | (simp only[opd,zv,Al,LOp.loud,aop,lop,if_true,zm,zc,zf,beq_self_eq_true,Bool.and_self,Bool.and_true,Bool.true_and,List.all_cons,List.all_nil,Nat.reduceBEq,Nat.reduceAdd,Int.reduceToNat,zxx,zz]<;>exact rfl) | (simp only[opd,zv,Al,LOp.loud,aop,lop,if_true,zm,zc,zf,beq_self_eq_true,Bool.and_self,Bool.and_true,Bool.true_and,List.all_cons,List.all_nil,Nat.reduceBEq,Nat.reduceAdd,Int.reduceToNat,zxx]<;>exact rfl))) | ((with_reducible apply Aa (l:=.Xz _ _ _ _ _ _));(first | (simp only[zl,zm,Dm,List.replicate,Ah,Bl,zs,zc,zf,Nat.reduceAdd,Int.reduceToNat,zxx,zz]<;>exact rfl) | (simp only[zl,zm,Dm,List.replicate,Ah,Bl,zs,zc,zf,Nat.reduceAdd,Int.reduceToNat,zxx]<;>exact rfl))) | ((with_reducible apply Aa (l:=.bstr));(first | (simp only[zl,zm,D9,Ct,Ea,Nat.reduceAdd,Int.reduceToNat,zxx,zz]<;>exact rfl) | (simp only[zl,zm,D9,Ct,Ea,Nat.reduceAdd,Int.reduceToNat,zxx]<;>exact rfl))) | ((with_reducible apply Aa (l:=.build _ _));(first | (simp only[zo,M0,overlay,zc,List.take,List.drop,Nat.reduceLeDiff,Nat.reduceBEq,zm,Nat.reduceAdd,Int.reduceToNat,zxx,zz]<;>exact rfl) | (simp only[zo,M0,overlay,zc,List.take,List.drop,Nat.reduceLeDiff,Nat.reduceBEq,zm,Nat.reduceAdd,Int.reduceToNat,zxx]<;>exact rfl))) | ((with_reducible apply Aa (l:=.cap));(first | (simp only[zo,Qz,Xe,Tq,Nat.reduceAdd,Int.reduceToNat,zxx,zz]<;>exact rfl) | (simp only[zo,Qz,Xe,Tq,Nat.reduceAdd,Int.reduceToNat,zxx]<;>exact rfl))) | ((with_reducible apply Aa (l:=.conv _));(first | (simp only[zo,Nat.reduceAdd,Int.reduceToNat,zxx,zz]<;>exact rfl) | (simp only[zo,Nat.reduceAdd,Int.reduceToNat,zxx]<;>exact rfl))) | ((with_reducible apply Aa (l:=.copy _ _));(first | (simp only[opd,zv,Al,aop,LOp.loud,lop,rowsOf,readK,Bw,Dy,kW,setAt,zm,Nat.reduceAdd,Int.reduceToNat,zxx,zz]<;>exact rfl) | (simp only[opd,zv,Al,aop,LOp.loud,lop,rowsOf,readK,Bw,Dy,kW,setAt,zm,Nat.reduceAdd,Int.reduceToNat,zxx]<;>exact rfl))) | ((with_reducible apply Aa (l:=.eqnil _ _));(first | (simp only[zo,N9,Nat.reduceAdd,Int.reduceToNat,zxx,zz]<;>exact rfl) | (simp only[zo,N9,Nat.reduceAdd,Int.reduceToNat,zxx]<;>exact rfl))) | ((with_reducible apply Aa (l:=.eqp _));(first | (simp only[zl,zm,eqpD,Nat.reduceAdd,Int.reduceToNat,zxx,zz]<;>exact rfl) | (simp only[zl,zm,eqpD,Nat.reduceAdd,Int.reduceToNat,zxx]<;>exact rfl))) | ((with_reducible apply Aa (l:=.eqs _ _));(first | (simp only[zo,Cg,Eg,isKey,beq_self_eq_true,Bool.and_self,Option.map_some,bne_self_eq_false,Qb,Nat.reduceAdd,Int.reduceToNat,zxx,zz]<;>exact rfl) | (simp only[zo,Cg,Eg,isKey,beq_self_eq_true,Bool.and_self,Option.map_some,bne_self_eq_false,Qb,Nat.reduceAdd,Int.reduceToNat,zxx]<;>exact rfl))) | ((with_reducible apply Aa (l:=.field _ _ _));(first | (simp only[zo,Ci,List.take,List.drop,zm,Nat.reduceAdd,Int.reduceToNat,zxx,zz]<;>exact rfl) | (simp only[zo,Ci,List.take,List.drop,zm,Nat.reduceAdd,Int.reduceToNat,zxx]<;>exact rfl))) | ((with_reducible apply Aa (l:=.X0 _));(first | (simp only[zl,zm,Qv,Nv,Int.toNat_natCast,Int.toNat_zero,Lp_,Option.map_some,Int.le_refl,Nat.reduceAdd,Int.reduceToNat,zxx,zz]<;>exact rfl) | (simp only[zl,zm,Qv,Nv,Int.toNat_natCast,Int.toNat_zero,Lp_,Option.map_some,Int.le_refl,Nat.reduceAdd,Int.reduceToNat,zxx]<;>exact rfl))) | ((with_reducible apply Aa (l:=.idxb));(first | (simp only[zo,Nat.reduceAdd,Int.reduceToNat,zxx,zz]<;>exact rfl) | (simp only[zo,Nat.reduceAdd,Int.reduceToNat,zxx]<;>exact rfl))) | ((with_reducible apply Aa (l:=.index));(first | (simp only[zo,Nu,zm,Nat.reduceAdd,Int.reduceToNat,zxx,zz]<;>exact rfl) | (simp only[zo,Nu,zm,Nat.reduceAdd,Int.reduceToNat,zxx]<;>exact rfl))) | ((with_reducible apply Aa (l:=.mapget _ _ _));(first | (simp only[zl,zm,Jg,J5,isKey,kT,Nat.reduceAdd,Int.reduceToNat,zxx,zz]<;>exact rfl) | (simp only[zl,zm,Jg,J5,isKey,kT,Nat.reduceAdd,Int.reduceToNat,zxx]<;>exact rfl))) | ((with_reducible apply Aa (l:=.mapset _));(first | (simp only[zl,zm,Lf,isKey,Lh,Eg,Ah,Bl,zs,zc,zf,Nat.reduceAdd,Int.reduceToNat,zxx,zz]<;>exact rfl) | (simp only[zl,zm,Lf,isKey,Lh,Eg,Ah,Bl,zs,zc,zf,Nat.reduceAdd,Int.reduceToNat,zxx]<;>exact rfl))) | ((with_reducible apply Aa (l:=.max));(first | (simp only[zo,Jr,maxD,Nat.reduceAdd,Int.reduceToNat,zxx,zz]<;>exact rfl) | (simp only[zo,Jr,maxD,Nat.reduceAdd,Int.reduceToNat,zxx]<;>exact rfl))) | ((with_reducible apply Aa (l:=.min));(first | (simp only[zo,Jr,minD,Nat.reduceAdd,Int.reduceToNat,zxx,zz]<;>exact rfl) | (simp only[zo,Jr,minD,Nat.reduceAdd,Int.reduceToNat,zxx]<;>exact rfl))) | ((with_reducible apply Aa (l:=.mkfn _));(first | (simp only[zo,Nat.reduceAdd,Int.reduceToNat,zxx,zz]<;>exact rfl) | (simp only[zo,Nat.reduceAdd,Int.reduceToNat,zxx]<;>exact rfl))) | ((with_reducible apply Aa (l:=.mkif _));(first | (simp only[opd,zv,Al,LOp.loud,aop,pop,Bool.false_eq_true,Option.map_some,zc,zf,Nat.reduceAdd,Int.reduceToNat,zxx,zz]<;>exact rfl) | (simp only[opd,zv,Al,LOp.loud,aop,pop,Bool.false_eq_true,Option.map_some,zc,zf,Nat.reduceAdd,Int.reduceToNat,zxx]<;>exact rfl))) | ((with_reducible apply Aa (l:=.mkmap));(first | (simp only[zl,zm,Nat.reduceAdd,Int.reduceToNat,zxx,zz]<;>exact rfl) | (simp only[zl,zm,Nat.reduceAdd,Int.reduceToNat,zxx]<;>exact rfl))) | ((with_reducible apply Aa (l:=.mknz _));(first | (simp only[zl,zm,Nat.reduceAdd,Int.reduceToNat,zxx,zz]<;>exact rfl) | (simp only[zl,zm,Nat.reduceAdd,Int.reduceToNat,zxx]<;>exact rfl))) | ((with_reducible apply Aa (l:=.mkslice _ _ _ _ _));(first | (simp only[zl,zm,Nat.reduceAdd,Int.reduceToNat,zxx,zz]<;>exact rfl) | (simp only[zl,zm,Nat.reduceAdd,Int.reduceToNat,zxx]<;>exact rfl))) | ((with_reducible apply Aa (l:=.slice _ _ _ _ _));(first | (simp only[zl,zm,Bt,D5,Hy,Ch,Er,Dj,Nat.reduceAdd,Int.reduceToNat,zxx,zz]<;>exact rfl) | (simp only[zl,zm,Bt,D5,Hy,Ch,Er,Dj,Nat.reduceAdd,Int.reduceToNat,zxx]<;>exact rfl))) | ((with_reducible apply Aa (l:=.slice true _ _ _ _));(first | (simp only[zo,Bt,Ch,Er,Dj,zm,Nat.reduceAdd,Int.reduceToNat,zxx,zz]<;>exact rfl) | (simp only[zo,Bt,Ch,Er,Dj,zm,Nat.reduceAdd,Int.reduceToNat,zxx]<;>exact rfl))) | ((with_reducible apply Aa (l:=.strb));(first | (simp only[zl,zm,Nat.reduceAdd,Int.reduceToNat,zxx,zz]<;>exact rfl) | (simp only[zl,zm,Nat.reduceAdd,Int.reduceToNat,zxx]<;>exact rfl))) | ((with_reducible apply Aa (l:=.strsh));(first | (simp only[zl,zm,Nc,Nat.reduceAdd,Int.reduceToNat,zxx,zz]<;>exact rfl) | (simp only[zl,zm,Nc,Nat.reduceAdd,Int.reduceToNat,zxx]<;>exact rfl))) | ((with_reducible apply ow_on);exact rfl) | ((with_reducible apply ow_off);exact rfl;exact rfl) | ((with_reducible apply ow_gone);exact rfl)) | ((with_reducible show CW _ (Xi.body _) _ _ _);first | refine cw_seq ?_ | refine M4 ?_ | refine Gl ?_) | ((with_reducible show CW _ _ _ _ _);first | (with_reducible apply cw_seq) | (with_reducible apply M4) | (with_reducible apply cw_skip) | (with_reducible apply cw_ret) | (with_reducible apply Jk) | (with_reducible apply Gl) | ((with_reducible apply Au);(first | (simp only[opd,zv,zz]<;>(first | rfl | (simp;done))) | (simp only[opd,zv]<;>(first | rfl | (simp;done))))) | ((with_reducible apply Dn);(first | (simp only[opd,zv,zz]<;>(first | rfl | (simp;done))) | (simp only[opd,zv]<;>(first | rfl | (simp;done))))) | ((with_reducible apply cw_drawn);(simp only[Ex,zw,Nat.reduceAdd]<;>exact rfl);(simp only[zw,Gg,St.eta]<;>exact rfl))) | ((with_reducible show SeqK _ _ _ .normal _ _);first | ((with_reducible apply sk_n);(first | (simp only[ze]<;>exact rfl) | exact rfl))) | ((with_reducible show SeqK _ _ _ .ret _ _);first | (with_reducible apply sk_r)) | ((with_reducible show SeqK _ _ _ _ _ _);first | (with_reducible apply sk_e)) | ((with_reducible show Wt _ _ .normal _ _);first | (with_reducible apply bk_n)) | ((with_reducible show Wt _ _ .ret _ _);first | (with_reducible apply bk_r)) | ((with_reducible show Wt _ _ _ _ _);first | (with_reducible apply bk_e) | ((with_reducible apply bk_o);exact rfl)) | ((with_reducible show LoopK _ _ _ .normal _ _);first | ((with_reducible apply lk_n);(first | (simp only[ze]<;>exact rfl) | exact rfl))) | ((with_reducible show LoopK _ _ _ .ret _ _);first | (with_reducible apply lk_r)) | ((with_reducible show LoopK _ _ _ _ _ _);first | (with_reducible apply lk_e)) | ((with_reducible show DW _ _ _ _ _ _ _ _ _);first | ((with_reducible apply dw_me);exact rfl;exact rfl) | ((with_reducible apply dw_ml);exact rfl;exact rfl) | (with_reducible apply dw_nil) | ((with_reducible apply dw_mc);exact rfl) | ((with_reducible apply Co (l:=.bin _));(first | (simp only[zo,Ec,zb,Int.reduceEq,Int.reduceLT,Nat.reduceAdd,Int.reduceToNat,zxx,zz]<;>exact rfl) | (simp only[zo,Ec,zb,Int.reduceEq,Int.reduceLT,Nat.reduceAdd,Int.reduceToNat,zxx]<;>exact rfl));exact rfl;exact rfl) | ((with_reducible apply Ao (l:=.load _ _));(first | (simp only[zl,zm,zd,Ci,List.take,List.drop,Nat.reduceAdd,Int.reduceToNat,zxx,zz]<;>exact rfl) | (simp only[zl,zm,zd,Ci,List.take,List.drop,Nat.reduceAdd,Int.reduceToNat,zxx]<;>exact rfl));(first | (simp only[Ac,zo,zq,Bool.false_eq_true,if_false,if_true,zz]<;>exact rfl) | (simp only[Ac,zo,zq,Bool.false_eq_true,if_false,if_true]<;>exact rfl));(first | exact rfl | exact K6)) | ((with_reducible apply Co (l:=.X3 _));(first | (simp only[zo,zr,zm,Nat.reduceAdd,Int.reduceToNat,zxx,zz]<;>exact rfl) | (simp only[zo,zr,zm,Nat.reduceAdd,Int.reduceToNat,zxx]<;>exact rfl));exact rfl;exact rfl) | ((with_reducible apply Co (l:=.extract _));(first | (simp only[zo,Lz,Ls_,Nat.reduceAdd,Int.reduceToNat,zxx,zz]<;>exact rfl) | (simp only[zo,Lz,Ls_,Nat.reduceAdd,Int.reduceToNat,zxx]<;>exact rfl));exact rfl;exact rfl) | ((with_reducible apply Co (l:=.pick));(first | (simp only[zo,Nat.reduceAdd,Int.reduceToNat,zxx,zz]<;>exact rfl) | (simp only[zo,Nat.reduceAdd,Int.reduceToNat,zxx]<;>exact rfl));exact rfl;exact rfl) | ((with_reducible apply Co (l:=.len _));(first | (simp only[zo,Kq,I8,Nt,Kr,Nat.reduceAdd,Int.reduceToNat,zxx,zz]<;>exact rfl) | (simp only[zo,Kq,I8,Nt,Kr,Nat.reduceAdd,Int.reduceToNat,zxx]<;>exact rfl));exact rfl;exact rfl) | ((with_reducible apply Ao (l:=.store _));(first | (simp only[zl,zm,I1,overlay,Ah,Bl,zs,zc,zf,List.take,List.drop,Nat.reduceAdd,Int.reduceToNat,zxx,zz]<;>exact rfl) | (simp only[zl,zm,I1,overlay,Ah,Bl,zs,zc,zf,List.take,List.drop,Nat.reduceAdd,Int.reduceToNat,zxx]<;>exact rfl));(first | (simp only[Ac,zo,zq,Bool.false_eq_true,if_false,if_true,zz]<;>exact rfl) | (simp only[Ac,zo,zq,Bool.false_eq_true,if_false,if_true]<;>exact rfl));(first | exact rfl | exact K6)) | ((with_reducible apply Ao (l:=.alloc _ _));(first | (simp only[zl,zm,Nat.reduceAdd,Int.reduceToNat,zxx,zz]<;>exact rfl) | (simp only[zl,zm,Nat.reduceAdd,Int.reduceToNat,zxx]<;>exact rfl));(first | (simp only[Ac,zo,zq,Bool.false_eq_true,if_false,if_true,zz]<;>exact rfl) | (simp only[Ac,zo,zq,Bool.false_eq_true,if_false,if_true]<;>exact rfl));(first | exact rfl | exact K6)) | ((with_reducible apply Co (l:=.nilck));(first | (simp only[zo,Nat.reduceAdd,Int.reduceToNat,zxx,zz]<;>exact rfl) | (simp only[zo,Nat.reduceAdd,Int.reduceToNat,zxx]<;>exact rfl));exact rfl;exact rfl) | ((with_reducible apply Co (l:=.un _));(first | (simp only[zo,unD,Nat.reduceAdd,Int.reduceToNat,zxx,zz]<;>exact rfl) | (simp only[zo,unD,Nat.reduceAdd,Int.reduceToNat,zxx]<;>exact rfl));exact rfl;exact rfl) | ((with_reducible apply Co (l:=.aaddr _ _));(first | (simp only[zo,Lx,zm,Nat.reduceAdd,Int.reduceToNat,zxx,zz]<;>exact rfl) | (simp only[zo,Lx,zm,Nat.reduceAdd,Int.reduceToNat,zxx]<;>exact rfl));exact rfl;exact rfl) | ((with_reducible apply Ao (l:=.append _ _ _ _));(first | (simp only[zl,zm,Bo,Av,D9,Ct,Ea,List.isEmpty_cons,List.isEmpty_nil,reduceIte,Nat.reduceAdd,Int.reduceToNat,zxx,zz]<;>exact rfl) | (simp only[zl,zm,Bo,Av,D9,Ct,Ea,List.isEmpty_cons,List.isEmpty_nil,reduceIte,Nat.reduceAdd,Int.reduceToNat,zxx]<;>exact rfl));(first | (simp only[Ac,zo,zq,Bool.false_eq_true,if_false,if_true,zz]<;>exact rfl) | (simp only[Ac,zo,zq,Bool.false_eq_true,if_false,if_true]<;>exact rfl));(first | exact rfl | exact K6)) | ((with_reducible apply Ao (l:=.box _ _));(first | (simp only[zl,zm,zc,Nat.reduceAdd,Int.reduceToNat,zxx,zz]<;>exact rfl) | (simp only[zl,zm,zc,Nat.reduceAdd,Int.reduceToNat,zxx]<;>exact rfl));(first | (simp only[Ac,zo,zq,Bool.false_eq_true,if_false,if_true,zz]<;>exact rfl) | (simp only[Ac,zo,zq,Bool.false_eq_true,if_false,if_true]<;>exact rfl));(first | exact rfl | exact K6)) | ((with_reducible apply Ao (l:=.boxc _));(first | (simp only[opd,zv,Al,LOp.loud,aop,lop,if_true,zm,zc,zf,beq_self_eq_true,Bool.and_self,Bool.and_true,Bool.true_and,List.all_cons,List.all_nil,Nat.reduceBEq,Nat.reduceAdd,Int.reduceToNat,zxx,zz]<;>exact rfl) | (simp only[opd,zv,Al,LOp.loud,aop,lop,if_true,zm,zc,zf,beq_self_eq_true,Bool.and_self,Bool.and_true,Bool.true_and,List.all_cons,List.all_nil,Nat.reduceBEq,Nat.reduceAdd,Int.reduceToNat,zxx]<;>exact rfl));(first | (simp only[Ac,zo,zq,Bool.false_eq_true,if_false,if_true,zz]<;>exact rfl) | (simp only[Ac,zo,zq,Bool.false_eq_true,if_false,if_true]<;>exact rfl));(first | exact rfl | exact K6)) | ((with_reducible apply Ao (l:=.Xz _ _ _ _ _ _));(first | (simp only[zl,zm,Dm,List.replicate,Ah,Bl,zs,zc,zf,Nat.reduceAdd,Int.reduceToNat,zxx,zz]<;>exact rfl) | (simp only[zl,zm,Dm,List.replicate,Ah,Bl,zs,zc,zf,Nat.reduceAdd,Int.reduceToNat,zxx]<;>exact rfl));(first | (simp only[Ac,zo,zq,Bool.false_eq_true,if_false,if_true,zz]<;>exact rfl) | (simp only[Ac,zo,zq,Bool.false_eq_true,if_false,if_true]<;>exact rfl));(first | exact rfl | exact K6)) | ((with_reducible apply Ao (l:=.bstr));(first | (simp only[zl,zm,D9,Ct,Ea,Nat.reduceAdd,Int.reduceToNat,zxx,zz]<;>exact rfl) | (simp only[zl,zm,D9,Ct,Ea,Nat.reduceAdd,Int.reduceToNat,zxx]<;>exact rfl));(first | (simp only[Ac,zo,zq,Bool.false_eq_true,if_false,if_true,zz]<;>exact rfl) | (simp only[Ac,zo,zq,Bool.false_eq_true,if_false,if_true]<;>exact rfl));(first | exact rfl | exact K6)) | ((with_reducible apply Co (l:=.build _ _));(first | (simp only[zo,M0,overlay,zc,List.take,List.drop,Nat.reduceLeDiff,Nat.reduceBEq,zm,Nat.reduceAdd,Int.reduceToNat,zxx,zz]<;>exact rfl) | (simp only[zo,M0,overlay,zc,List.take,List.drop,Nat.reduceLeDiff,Nat.reduceBEq,zm,Nat.reduceAdd,Int.reduceToNat,zxx]<;>exact rfl));exact rfl;exact rfl) | ((with_reducible apply Co (l:=.cap));(first | (simp only[zo,Qz,Xe,Tq,Nat.reduceAdd,Int.reduceToNat,zxx,zz]<;>exact rfl) | (simp only[zo,Qz,Xe,Tq,Nat.reduceAdd,Int.reduceToNat,zxx]<;>exact rfl));exact rfl;exact rfl) | ((with_reducible apply Co (l:=.conv _));(first | (simp only[zo,Nat.reduceAdd,Int.reduceToNat,zxx,zz]<;>exact rfl) | (simp only[zo,Nat.reduceAdd,Int.reduceToNat,zxx]<;>exact rfl));exact rfl;exact rfl) | ((with_reducible apply Ao (l:=.copy _ _));(first | (simp only[opd,zv,Al,aop,LOp.loud,lop,rowsOf,readK,Bw,Dy,kW,setAt,zm,Nat.reduceAdd,Int.reduceToNat,zxx,zz]<;>exact rfl) | (simp only[opd,zv,Al,aop,LOp.loud,lop,rowsOf,readK,Bw,Dy,kW,setAt,zm,Nat.reduceAdd,Int.reduceToNat,zxx]<;>exact rfl));(first | (simp only[Ac,zo,zq,Bool.false_eq_true,if_false,if_true,zz]<;>exact rfl) | (simp only[Ac,zo,zq,Bool.false_eq_true,if_false,if_true]<;>exact rfl));(first | exact rfl | exact K6)) | ((with_reducible apply Co (l:=.eqnil _ _));(first | (simp only[zo,N9,Nat.reduceAdd,Int.reduceToNat,zxx,zz]<;>exact rfl) | (simp only[zo,N9,Nat.reduceAdd,Int.reduceToNat,zxx]<;>exact rfl));exact rfl;exact rfl) | ((with_reducible apply Ao (l:=.eqp _));(first | (simp only[zl,zm,eqpD,Nat.reduceAdd,Int.reduceToNat,zxx,zz]<;>exact rfl) | (simp only[zl,zm,eqpD,Nat.reduceAdd,Int.reduceToNat,zxx]<;>exact rfl));(first | (simp only[Ac,zo,zq,Bool.false_eq_true,if_false,if_true,zz]<;>exact rfl) | (simp only[Ac,zo,zq,Bool.false_eq_true,if_false,if_true]<;>exact rfl));(first | exact rfl | exact K6)) | ((with_reducible apply Co (l:=.eqs _ _));(first | (simp only[zo,Cg,Eg,isKey,beq_self_eq_true,Bool.and_self,Option.map_some,bne_self_eq_false,Qb,Nat.reduceAdd,Int.reduceToNat,zxx,zz]<;>exact rfl) | (simp only[zo,Cg,Eg,isKey,beq_self_eq_true,Bool.and_self,Option.map_some,bne_self_eq_false,Qb,Nat.reduceAdd,Int.reduceToNat,zxx]<;>exact rfl));exact rfl;exact rfl) | ((with_reducible apply Co (l:=.field _ _ _));(first | (simp only[zo,Ci,List.take,List.drop,zm,Nat.reduceAdd,Int.reduceToNat,zxx,zz]<;>exact rfl) | (simp only[zo,Ci,List.take,List.drop,zm,Nat.reduceAdd,Int.reduceToNat,zxx]<;>exact rfl));exact rfl;exact rfl) | ((with_reducible apply Ao (l:=.X0 _));(first | (simp only[zl,zm,Qv,Nv,Int.toNat_natCast,Int.toNat_zero,Lp_,Option.map_some,Int.le_refl,Nat.reduceAdd,Int.reduceToNat,zxx,zz]<;>exact rfl) | (simp only[zl,zm,Qv,Nv,Int.toNat_natCast,Int.toNat_zero,Lp_,Option.map_some,Int.le_refl,Nat.reduceAdd,Int.reduceToNat,zxx]<;>exact rfl));(first | (simp only[Ac,zo,zq,Bool.false_eq_true,if_false,if_true,zz]<;>exact rfl) | (simp only[Ac,zo,zq,Bool.false_eq_true,if_false,if_true]<;>exact rfl));(first | exact rfl | exact K6)) | ((with_reducible apply Co (l:=.idxb));(first | (simp only[zo,Nat.reduceAdd,Int.reduceToNat,zxx,zz]<;>exact rfl) | (simp only[zo,Nat.reduceAdd,Int.reduceToNat,zxx]<;>exact rfl));exact rfl;exact rfl) | ((with_reducible apply Co (l:=.index));(first | (simp only[zo,Nu,zm,Nat.reduceAdd,Int.reduceToNat,zxx,zz]<;>exact rfl) | (simp only[zo,Nu,zm,Nat.reduceAdd,Int.reduceToNat,zxx]<;>exact rfl));exact rfl;exact rfl) | ((with_reducible apply Ao (l:=.mapget _ _ _));(first | (simp only[zl,zm,Jg,J5,isKey,kT,Nat.reduceAdd,Int.reduceToNat,zxx,zz]<;>exact rfl) | (simp only[zl,zm,Jg,J5,isKey,kT,Nat.reduceAdd,Int.reduceToNat,zxx]<;>exact rfl));(first | (simp only[Ac,zo,zq,Bool.false_eq_true,if_false,if_true,zz]<;>exact rfl) | (simp only[Ac,zo,zq,Bool.false_eq_true,if_false,if_true]<;>exact rfl));(first | exact rfl | exact K6)) | ((with_reducible apply Ao (l:=.mapset _));(first | (simp only[zl,zm,Lf,isKey,Lh,Eg,Ah,Bl,zs,zc,zf,Nat.reduceAdd,Int.reduceToNat,zxx,zz]<;>exact rfl) | (simp only[zl,zm,Lf,isKey,Lh,Eg,Ah,Bl,zs,zc,zf,Nat.reduceAdd,Int.reduceToNat,zxx]<;>exact rfl));(first | (simp only[Ac,zo,zq,Bool.false_eq_true,if_false,if_true,zz]<;>exact rfl) | (simp only[Ac,zo,zq,Bool.false_eq_true,if_false,if_true]<;>exact rfl));(first | exact rfl | exact K6)) | ((with_reducible apply Co (l:=.max));(first | (simp only[zo,Jr,maxD,Nat.reduceAdd,Int.reduceToNat,zxx,zz]<;>exact rfl) | (simp only[zo,Jr,maxD,Nat.reduceAdd,Int.reduceToNat,zxx]<;>exact rfl));exact rfl;exact rfl) | ((with_reducible apply Co (l:=.min));(first | (simp only[zo,Jr,minD,Nat.reduceAdd,Int.reduceToNat,zxx,zz]<;>exact rfl) | (simp only[zo,Jr,minD,Nat.reduceAdd,Int.reduceToNat,zxx]<;>exact rfl));exact rfl;exact rfl) | ((with_reducible apply Co (l:=.mkfn _));(first | (simp only[zo,Nat.reduceAdd,Int.reduceToNat,zxx,zz]<;>exact rfl) | (simp only[zo,Nat.reduceAdd,Int.reduceToNat,zxx]<;>exact rfl));exact rfl;exact rfl) | ((with_reducible apply Ao (l:=.mkif _));(first | (simp only[opd,zv,Al,LOp.loud,aop,pop,Bool.false_eq_true,Option.map_some,zc,zf,Nat.reduceAdd,Int.reduceToNat,zxx,zz]<;>exact rfl) | (simp only[opd,zv,Al,LOp.loud,aop,pop,Bool.false_eq_true,Option.map_some,zc,zf,Nat.reduceAdd,Int.reduceToNat,zxx]<;>exact rfl));(first | (simp only[Ac,zo,zq,Bool.false_eq_true,if_false,if_true,zz]<;>exact rfl) | (simp only[Ac,zo,zq,Bool.false_eq_true,if_false,if_true]<;>exact rfl));(first | exact rfl | exact K6)) | ((with_reducible apply Ao (l:=.mkmap));(first | (simp only[zl,zm,Nat.reduceAdd,Int.reduceToNat,zxx,zz]<;>exact rfl) | (simp only[zl,zm,Nat.reduceAdd,Int.reduceToNat,zxx]<;>exact rfl));(first | (simp only[Ac,zo,zq,Bool.false_eq_true,if_false,if_true,zz]<;>exact rfl) | (simp only[Ac,zo,zq,Bool.false_eq_true,if_false,if_true]<;>exact rfl));(first | exact rfl | exact K6)) | ((with_reducible apply Ao (l:=.mknz _));(first | (simp only[zl,zm,Nat.reduceAdd,Int.reduceToNat,zxx,zz]<;>exact rfl) | (simp only[zl,zm,Nat.reduceAdd,Int.reduceToNat,zxx]<;>exact rfl));(first | (simp only[Ac,zo,zq,Bool.false_eq_true,if_false,if_true,zz]<;>exact rfl) | (simp only[Ac,zo,zq,Bool.false_eq_true,if_false,if_true]<;>exact rfl));(first | exact rfl | exact K6)) | ((with_reducible apply Ao (l:=.mkslice _ _ _ _ _));(first | (simp only[zl,zm,Nat.reduceAdd,Int.reduceToNat,zxx,zz]<;>exact rfl) | (simp only[zl,zm,Nat.reduceAdd,Int.reduceToNat,zxx]<;>exact rfl));(first | (simp only[Ac,zo,zq,Bool.false_eq_true,if_false,if_true,zz]<;>exact rfl) | (simp only[Ac,zo,zq,Bool.false_eq_true,if_false,if_true]<;>exact rfl));(first | exact rfl | exact K6)) | ((with_reducible apply Ao (l:=.slice _ _ _ _ _));(first | (simp only[zl,zm,Bt,D5,Hy,Ch,Er,Dj,Nat.reduceAdd,Int.reduceToNat,zxx,zz]<;>exact rfl) | (simp only[zl,zm,Bt,D5,Hy,Ch,Er,Dj,Nat.reduceAdd,Int.reduceToNat,zxx]<;>exact rfl));(first | (simp only[Ac,zo,zq,Bool.false_eq_true,if_false,if_true,zz]<;>exact rfl) | (simp only[Ac,zo,zq,Bool.false_eq_true,if_false,if_true]<;>exact rfl));(first | exact rfl | exact K6)) | ((with_reducible apply Co (l:=.slice true _ _ _ _));(first | (simp only[zo,Bt,Ch,Er,Dj,zm,Nat.reduceAdd,Int.reduceToNat,zxx,zz]<;>exact rfl) | (simp only[zo,Bt,Ch,Er,Dj,zm,Nat.reduceAdd,Int.reduceToNat,zxx]<;>exact rfl));exact rfl;exact rfl) | ((with_reducible apply Ao (l:=.strb));(first | (simp only[zl,zm,Nat.reduceAdd,Int.reduceToNat,zxx,zz]<;>exact rfl) | (simp only[zl,zm,Nat.reduceAdd,Int.reduceToNat,zxx]<;>exact rfl));(first | (simp only[Ac,zo,zq,Bool.false_eq_true,if_false,if_true,zz]<;>exact rfl) | (simp only[Ac,zo,zq,Bool.false_eq_true,if_false,if_true]<;>exact rfl));(first | exact rfl | exact K6)) | ((with_reducible apply Ao (l:=.strsh));(first | (simp only[zl,zm,Nc,Nat.reduceAdd,Int.reduceToNat,zxx,zz]<;>exact rfl) | (simp only[zl,zm,Nc,Nat.reduceAdd,Int.reduceToNat,zxx]<;>exact rfl));(first | (simp only[Ac,zo,zq,Bool.false_eq_true,if_false,if_true,zz]<;>exact rfl) | (simp only[Ac,zo,zq,Bool.false_eq_true,if_false,if_true]<;>exact rfl));(first | exact rfl | exact K6)) | ((with_reducible apply dw_on);exact rfl) | ((with_reducible apply dw_off);exact rfl;exact rfl) | ((with_reducible apply dw_gone);exact rfl)));exact hh ())(q:P):Q:=h fun _=>q
section
variable{P Q:Prop}
theorem g2(h:(Unit→P)→Q:=by intro hh;(iterate 2 refine g1 (q:=?_));exact hh ())(q:P):Q:=h fun _=>q
theorem g3(h:(Unit→P)→Q:=by intro hh;(iterate 3 refine g1 (q:=?_));exact hh ())(q:P):Q:=h fun _=>q
theorem g4(h:(Unit→P)→Q:=by intro hh;(iterate 4 refine g1 (q:=?_));exact hh ())(q:P):Q:=h fun _=>q
theorem g5(h:(Unit→P)→Q:=by intro hh;(iterate 5 refine g1 (q:=?_));exact hh ())(q:P):Q:=h fun _=>q
theorem g6(h:(Unit→P)→Q:=by intro hh;(iterate 6 refine g1 (q:=?_));exact hh ())(q:P):Q:=h fun _=>q
theorem g7(h:(Unit→P)→Q:=by intro hh;(iterate 7 refine g1 (q:=?_));exact hh ())(q:P):Q:=h fun _=>q
theorem g8(h:(Unit→P)→Q:=by intro hh;(iterate 8 refine g1 (q:=?_));exact hh ())(q:P):Q:=h fun _=>q
theorem g9(h:(Unit→P)→Q:=by intro hh;(iterate 9 refine g1 (q:=?_));exact hh ())(q:P):Q:=h fun _=>q
theorem g10(h:(Unit→P)→Q:=by intro hh;(iterate 10 refine g1 (q:=?_));exact hh ())(q:P):Q:=h fun _=>q
theorem g11(h:(Unit→P)→Q:=by intro hh;(iterate 11 refine g1 (q:=?_));exact hh ())(q:P):Q:=h fun _=>q
theorem g12(h:(Unit→P)→Q:=by intro hh;(iterate 12 refine g1 (q:=?_));exact hh ())(q:P):Q:=h fun _=>q
theorem g13(h:(Unit→P)→Q:=by intro hh;(iterate 13 refine g1 (q:=?_));exact hh ())(q:P):Q:=h fun _=>q
theorem g14(h:(Unit→P)→Q:=by intro hh;(iterate 14 refine g1 (q:=?_));exact hh ())(q:P):Q:=h fun _=>q
theorem g15(h:(Unit→P)→Q:=by intro hh;(iterate 15 refine g1 (q:=?_));exact hh ())(q:P):Q:=h fun _=>q
theorem g16(h:(Unit→P)→Q:=by intro hh;(iterate 16 refine g1 (q:=?_));exact hh ())(q:P):Q:=h fun _=>q
theorem g17(h:(Unit→P)→Q:=by intro hh;(iterate 17 refine g1 (q:=?_));exact hh ())(q:P):Q:=h fun _=>q
theorem g18(h:(Unit→P)→Q:=by intro hh;(iterate 18 refine g1 (q:=?_));exact hh ())(q:P):Q:=h fun _=>q
theorem g19(h:(Unit→P)→Q:=by intro hh;(iterate 19 refine g1 (q:=?_));exact hh ())(q:P):Q:=h fun _=>q
theorem g20(h:(Unit→P)→Q:=by intro hh;(iterate 20 refine g1 (q:=?_));exact hh ())(q:P):Q:=h fun _=>q
theorem g21(h:(Unit→P)→Q:=by intro hh;(iterate 21 refine g1 (q:=?_));exact hh ())(q:P):Q:=h fun _=>q
theorem g22(h:(Unit→P)→Q:=by intro hh;(iterate 22 refine g1 (q:=?_));exact hh ())(q:P):Q:=h fun _=>q
theorem g23(h:(Unit→P)→Q:=by intro hh;(iterate 23 refine g1 (q:=?_));exact hh ())(q:P):Q:=h fun _=>q
theorem g24(h:(Unit→P)→Q:=by intro hh;(iterate 24 refine g1 (q:=?_));exact hh ())(q:P):Q:=h fun _=>q
theorem g25(h:(Unit→P)→Q:=by intro hh;(iterate 25 refine g1 (q:=?_));exact hh ())(q:P):Q:=h fun _=>q
theorem g26(h:(Unit→P)→Q:=by intro hh;(iterate 26 refine g1 (q:=?_));exact hh ())(q:P):Q:=h fun _=>q
theorem g27(h:(Unit→P)→Q:=by intro hh;(iterate 27 refine g1 (q:=?_));exact hh ())(q:P):Q:=h fun _=>q
theorem g28(h:(Unit→P)→Q:=by intro hh;(iterate 28 refine g1 (q:=?_));exact hh ())(q:P):Q:=h fun _=>q
theorem g30(h:(Unit→P)→Q:=by intro hh;(iterate 30 refine g1 (q:=?_));exact hh ())(q:P):Q:=h fun _=>q
theorem g31(h:(Unit→P)→Q:=by intro hh;(iterate 31 refine g1 (q:=?_));exact hh ())(q:P):Q:=h fun _=>q
theorem g32(h:(Unit→P)→Q:=by intro hh;(iterate 32 refine g1 (q:=?_));exact hh ())(q:P):Q:=h fun _=>q
theorem g33(h:(Unit→P)→Q:=by intro hh;(iterate 33 refine g1 (q:=?_));exact hh ())(q:P):Q:=h fun _=>q
theorem g34(h:(Unit→P)→Q:=by intro hh;(iterate 34 refine g1 (q:=?_));exact hh ())(q:P):Q:=h fun _=>q
theorem g36(h:(Unit→P)→Q:=by intro hh;(iterate 36 refine g1 (q:=?_));exact hh ())(q:P):Q:=h fun _=>q
theorem g37(h:(Unit→P)→Q:=by intro hh;(iterate 37 refine g1 (q:=?_));exact hh ())(q:P):Q:=h fun _=>q
theorem g38(h:(Unit→P)→Q:=by intro hh;(iterate 38 refine g1 (q:=?_));exact hh ())(q:P):Q:=h fun _=>q
theorem g41(h:(Unit→P)→Q:=by intro hh;(iterate 41 refine g1 (q:=?_));exact hh ())(q:P):Q:=h fun _=>q
theorem g42(h:(Unit→P)→Q:=by intro hh;(iterate 42 refine g1 (q:=?_));exact hh ())(q:P):Q:=h fun _=>q
theorem g43(h:(Unit→P)→Q:=by intro hh;(iterate 43 refine g1 (q:=?_));exact hh ())(q:P):Q:=h fun _=>q
theorem g44(h:(Unit→P)→Q:=by intro hh;(iterate 44 refine g1 (q:=?_));exact hh ())(q:P):Q:=h fun _=>q
theorem g46(h:(Unit→P)→Q:=by intro hh;(iterate 46 refine g1 (q:=?_));exact hh ())(q:P):Q:=h fun _=>q
theorem g47(h:(Unit→P)→Q:=by intro hh;(iterate 47 refine g1 (q:=?_));exact hh ())(q:P):Q:=h fun _=>q
theorem g51(h:(Unit→P)→Q:=by intro hh;(iterate 51 refine g1 (q:=?_));exact hh ())(q:P):Q:=h fun _=>q
theorem g53(h:(Unit→P)→Q:=by intro hh;(iterate 53 refine g1 (q:=?_));exact hh ())(q:P):Q:=h fun _=>q
theorem g57(h:(Unit→P)→Q:=by intro hh;(iterate 57 refine g1 (q:=?_));exact hh ())(q:P):Q:=h fun _=>q
theorem g59(h:(Unit→P)→Q:=by intro hh;(iterate 59 refine g1 (q:=?_));exact hh ())(q:P):Q:=h fun _=>q
theorem g60(h:(Unit→P)→Q:=by intro hh;(iterate 60 refine g1 (q:=?_));exact hh ())(q:P):Q:=h fun _=>q
end
section
variable {call:Aq} {vals env:List D} {S S':St} {K:List D→St→Prop} {os:List Xj} {l:LOp} {args:List Xk} {od:List Bool} {ho:Option Nat} {r:D} {wr:Bool} {n:Nat} {news:List (TypeId × List D)} {fps:List FP} {fp:FP} {Q:Xm→List D→St→Prop} {env':List D}
theorem xo0(hx:Al call l (args.map (opd vals env)) S=some (r,S',wr):=by simp only[opd,zv,Al,aop,LOp.loud,lop,if_true,Bt,Option.map_some,zz]<;>exact rfl)(h:OW call os (r::vals) env S' K):OW call (⟨l,args,none,od,ho⟩::os) vals env S K:=Aa hx h
theorem xo1(hx:Al call l (args.map (opd vals env)) S=some (r,S',wr):=by simp only[opd,zv,Al,aop,LOp.loud,lop,if_true,Bt,Option.map_some,Nat.reduceAdd,zz]<;>exact rfl)(h:OW call os (r::vals) env S' K):OW call (⟨l,args,none,od,ho⟩::os) vals env S K:=Aa hx h
theorem xo2(hx:Al call l (args.map (opd vals env)) S=some (r,S',wr):=by simp only[zl,zm,Bt,D5,Hy,Ch,Er,Dj,zz,Dj,Dy]<;>exact rfl)(hf:Ac n ⟨l,args,none,od,ho⟩ (args.map (opd vals env)) r wr (chg S.heap S'.heap 0)=fp:=by simp only[Ac,zo,zq,Bool.false_eq_true,if_false,if_true]<;>exact rfl)(yS:Ar n news ⟨l,args,none,od,ho⟩ fps fp S'=true:=by first | exact rfl | exact K6)(h:DW call n news os (fp::fps) (r::vals) env S' K):DW call n news (⟨l,args,none,od,ho⟩::os) fps vals env S K:=Ao hx hf yS h
theorem xo3(hx:Al call l (args.map (opd vals env)) S=some (r,S',wr):=by simp only[zl,zm,Bo,Av,D9,Ct,Ea,List.isEmpty_cons,List.isEmpty_nil,reduceIte,or_true,false_or,and_false,or_false,or_self,ite_false,if_false,Bool.and_false,zz]<;>exact rfl)(h:OW call os (r::vals) env S' K):OW call (⟨l,args,none,od,ho⟩::os) vals env S K:=Aa hx h
theorem Bz{c:Xk}{a b:Xl}{t:Bool}(hc:opd [] env c=.bool t:=by simp only[opd,zv,zz]<;>exact rfl)(ht:t=true→CW call a Q env S)(hf:t=false→CW call b Q env S):CW call (.cond c a b) Q env S:=He hc ht hf
theorem cw_sr{b:Xl}{ops:List Xj}{exps:List (Nat × Nat)}(h:OW call ops [] env S (fun vals S'=>SeqK call b Q .normal (exports exps vals env) S')):CW call (.seq (.region ops exps) b) Q env S:=cw_seq (M4 h)
theorem Kz(hx:Al call l (args.map (opd vals env)) S=some (r,S',wr))(hf:Ac n ⟨l,args,none,od,ho⟩ (args.map (opd vals env)) r wr (chg S.heap S'.heap 0)=fp:=by simp only[Ac,zo,zq,Bool.false_eq_true,if_false,if_true,zz]<;>exact rfl)(yS:Ar n news ⟨l,args,none,od,ho⟩ fps fp S'=true:=by first | exact rfl | exact K6)(h:DW call n news os (fp::fps) (r::vals) env S' K):DW call n news (⟨l,args,none,od,ho⟩::os) fps vals env S K:=Ao hx hf yS h
theorem Bb{vt:List D}(d:Nat){b:Bool}(hg:vals.getD d .undef=.bool b:=by simp only[opd,zv,zz]<;>rfl)(ht:vals.set d (.bool b)=vt:=by simp only[zn]<;>exact rfl)(h:OW call os vt env S K):OW call os vals env S K:=Dh d hg ht h
theorem ow_kq{vt:List D}(d:Nat){b:Bool}(hg:vals.getD d .undef=.bool b:=by simp only[zv]<;>rfl)(ht:vals.set d (.bool b)=vt:=by simp only[zn]<;>exact rfl)(h:OW call os vt env S K):OW call os vals env S K:=Dh d hg ht h
theorem Fy{vt vf:List D}(d:Nat){b:Bool}(hg:vals.getD d .undef=.bool b:=by simp only[opd,zv]<;>exact rfl)(ht:vals.set d (.bool true)=vt:=by simp only[zn]<;>exact rfl)(hf:vals.set d (.bool false)=vf:=by simp only[zn]<;>exact rfl)(h:b=true→OW call os vt env S K)(k:b=false→OW call os vf env S K):OW call os vals env S K:=ow_split d hg ht hf h k
theorem dw_kz{vt:List D}(d:Nat){b:Bool}(hg:vals.getD d .undef=.bool b:=by simp only[opd,zv,zz]<;>rfl)(ht:vals.set d (.bool b)=vt:=by simp only[zn]<;>exact rfl)(h:DW call n news os fps vt env S K):DW call n news os fps vals env S K:=dw_know d hg ht h
theorem dw_kq{vt:List D}(d:Nat){b:Bool}(hg:vals.getD d .undef=.bool b:=by simp only[zv]<;>rfl)(ht:vals.set d (.bool b)=vt:=by simp only[zn]<;>exact rfl)(h:DW call n news os fps vt env S K):DW call n news os fps vals env S K:=dw_know d hg ht h
theorem dw_sq{vt vf:List D}(d:Nat){b:Bool}(hg:vals.getD d .undef=.bool b:=by simp only[opd,zv]<;>exact rfl)(ht:vals.set d (.bool true)=vt:=by simp only[zn]<;>exact rfl)(hf:vals.set d (.bool false)=vf:=by simp only[zn]<;>exact rfl)(h:b=true→DW call n news os fps vt env S K)(k:b=false→DW call n news os fps vf env S K):DW call n news os fps vals env S K:=dw_split d hg ht hf h k
theorem fq{env:List D}{S2:St}{rs rs':List LRes}{P:D→Prop}{r0:D}(hr:rs=rs':=by (conv=>lhs;whnf)<;>exact rfl)(hv:Ce env S2 rs'=some r0:=by simp only[Ce,En,I5,zg,zd,rowsOf,Ci,List.take,List.drop,zm]<;>exact rfl)(h:P r0):∃r0,Ce env S2 rs=some r0∧P r0:=⟨r0,hr▸hv,h⟩
end
set_option maxHeartbeats 4000000
structure FM where
 li:Nat
 co:Nat
 ki:Nat
 si:Nat
 nu:Bool
 lo:Bool
 h:li<256∧co<256∧ki<256∧si<256
def FM.row (f:FM):List D:=[.int .u8 (f.li:Nat),.int .u8 (f.co:Nat),.int .u8 (f.ki:Nat),.int .u8 (f.si:Nat),.bool f.nu,.bool f.lo]
def FM.kind (f:FM):Nat:=1+f.ki % 4
def FM.size (f:FM):Nat:=1+f.si % 6
def FM.line (f:FM):Nat:=1+f.li % 24
def FM.column (f:FM):Nat:=1+f.co % (81-f.size)
def FM.text (f:FM):ByteArray:=⟨(([65,66,67,68,69,70]:List UInt8).take f.size).toArray⟩
def FM.pic (f:FM):ByteArray:=if f.nu then ⟨(([90,90,90,90,90,57]:List UInt8).drop (6-f.size)).toArray⟩ else ⟨(List.replicate f.size 88).toArray⟩
section
variable (d:Nat) (S:St) (a b c:Int) (x y:Bool)
theorem size_tab:(List.range 256).map (fun k=>Bp LP NN (d+2) 35 [.agg [.int .u8 a,.int .u8 b,.int .u8 c,.int .u8 ((k:Nat):Int),.bool x,.bool y]] S)=(List.range 256).map (fun k=>some (.int .i64 ((1+k % 6:Nat):Int),S,false)):=by kernel_rfl
theorem kind_tab:(List.range 256).map (fun k=>Bp LP NN (d+2) 12 [.agg [.int .u8 a,.int .u8 b,.int .u8 ((k:Nat):Int),.int .u8 c,.bool x,.bool y]] S)=(List.range 256).map (fun k=>some (.int .u8 ((1+k % 4:Nat):Int),S,false)):=by kernel_rfl
theorem line_tab:(List.range 256).map (fun k=>Bp LP NN (d+2) 36 [.agg [.int .u8 ((k:Nat):Int),.int .u8 a,.int .u8 b,.int .u8 c,.bool x,.bool y]] S)=(List.range 256).map (fun k=>some (.int .i64 ((1+k % 24:Nat):Int),S,false)):=by kernel_rfl
theorem text_tab:(List.range 256).map (fun k=>Bp LP NN (d+3) 38 [.agg [.int .u8 a,.int .u8 b,.int .u8 c,.int .u8 ((k:Nat):Int),.bool x,.bool y]] S)=(List.range 256).map (fun k=>some (.str ⟨(([65,66,67,68,69,70]:List UInt8).take (1+k % 6)).toArray⟩,S,false)):=by kernel_rfl
theorem picT_tab:(List.range 256).map (fun k=>Bp LP NN (d+3) 114 [.agg [.int .u8 a,.int .u8 b,.int .u8 c,.int .u8 ((k:Nat):Int),.bool true,.bool y]] S)=(List.range 256).map (fun k=>some (.str ⟨(([90,90,90,90,90,57]:List UInt8).drop (6-(1+k % 6))).toArray⟩,S,false)):=by kernel_rfl
theorem picF_tab:(List.range 256).map (fun k=>Bp LP NN (d+3) 114 [.agg [.int .u8 a,.int .u8 b,.int .u8 c,.int .u8 ((k:Nat):Int),.bool false,.bool y]] S)=(List.range 256).map (fun k=>some (.str ⟨(List.replicate (1+k % 6) 88).toArray⟩,S,false)):=by kernel_rfl
end
def Fu (n:Nat):ByteArray:=⟨(if n<10 then [UInt8.ofNat (48+n)] else [UInt8.ofNat (48+n / 10),UInt8.ofNat (48+n % 10)]:List UInt8).toArray⟩
theorem digits_tab(d:Nat)(S:St):(List.range 100).map (fun k=>Bp LP NN (d+4) 9 [.int .i64 ((k:Nat):Int)] S)=(List.range 100).map (fun k=>some (.str (Fu k),S,false)):=by kernel_rfl
section
variable {d:Nat} (hd:6≤d) (S:St) (f:FM)
include hd
theorem Ii:Ae LP NN d 35 [.agg f.row] S=some (.int .i64 (f.size:Nat),S,false):=by
 obtain⟨d,rfl⟩:∃d',d=d'+2:=⟨d-2,by omega⟩;exact fast_ok (Kk (size_tab d S _ _ _ f.nu f.lo) f.si f.h.2.2.2)
theorem Ik:Ae LP NN d 12 [.agg f.row] S=some (.int .u8 (f.kind:Nat),S,false):=by
 obtain⟨d,rfl⟩:∃d',d=d'+2:=⟨d-2,by omega⟩;exact fast_ok (Kk (kind_tab d S _ _ _ f.nu f.lo) f.ki f.h.2.2.1)
theorem Sr:Ae LP NN d 36 [.agg f.row] S=some (.int .i64 (f.line:Nat),S,false):=by
 obtain⟨d,rfl⟩:∃d',d=d'+2:=⟨d-2,by omega⟩;exact fast_ok (Kk (line_tab d S _ _ _ f.nu f.lo) f.li f.h.1)
theorem L8:Ae LP NN d 38 [.agg f.row] S=some (.str f.text,S,false):=by
 obtain⟨d,rfl⟩:∃d',d=d'+3:=⟨d-3,by omega⟩;exact fast_ok (Kk (text_tab d S _ _ _ f.nu f.lo) f.si f.h.2.2.2)
theorem pic_run:Ae LP NN d 114 [.agg f.row] S=some (.str f.pic,S,false):=by
 obtain⟨d,rfl⟩:∃d',d=d'+3:=⟨d-3,by omega⟩;obtain⟨li,co,ki,si,nu,lo,h⟩:=f
 cases nu with
 | true=>exact fast_ok (Kk (picT_tab d S _ _ _ lo) si h.2.2.2)
 | false=>exact fast_ok (Kk (picF_tab d S _ _ _ lo) si h.2.2.2)
theorem digits_run(n:Nat)(hn:n<100):Ae LP NN d 9 [.int .i64 (n:Nat)] S=some (.str (Fu n),S,false):=by
 obtain⟨d,rfl⟩:∃d',d=d'+4:=⟨d-4,by omega⟩;exact fast_ok (Kk (digits_tab d S) n hn)
end
theorem FM.size_le(f:FM):1≤f.size∧f.size≤6:=by unfold FM.size;omega
theorem FM.line_le(f:FM):1≤f.line∧f.line≤24:=by unfold FM.line;omega
theorem FM.column_le(f:FM):1≤f.column∧f.column+f.size≤81:=by
 have:=f.size_le;unfold FM.column;have:=Nat.mod_lt f.co (show 0<81-f.size by omega);omega
theorem FM.kind_le(f:FM):1≤f.kind∧f.kind≤4:=by unfold FM.kind;omega
theorem Fv{d:Nat}(hd:8≤d)(S:St)(f:FM):Ae LP NN d 37 [.agg f.row] S=some (.int .i64 (f.column:Nat),S,false):=by
 have hl:=f.size_le;have hc:=f.column_le;have xC:(0:Nat)=0:=rfl;have kF:IntKind.i64.wrap (81-((f.size:Nat):Int))=((81-f.size:Nat):Int):=by rw[IntKind.wrap_i64];omega
 have hwc:IntKind.i64.wrap ((f.co:Nat):Int)=((f.co:Nat):Int):=by have:=f.h.2.1;rw[IntKind.wrap_i64];omega
 have xA:((((81-f.size:Nat):Int))=0)=False:=eq_false (by omega);have hmod:((f.co:Nat):Int).tmod ((81-f.size:Nat):Int)=((f.co % (81-f.size):Nat):Int):=tmod_nat _ _;have xD:IntKind.i64.wrap (1+((f.co % (81-f.size):Nat):Int))=((f.column:Nat):Int):=by unfold FM.column at hc ⊢;rw[IntKind.wrap_i64];omega
 have zz:=aI xC (aI kF (aI hwc (aI xA (aI hmod (aI xD @FM.row.eq_1)))));refine rpz (hb:=?_);rintro d rfl;refine g12 (q:=Ao (by simp only[zo,zz];exact Ii (by omega) _ f) (by simp only[Ac,zo,zq]<;>exact rfl) rfl (g7 (q:=fq (h:=?_))));simp only[Df,leave,Ah,Bl,zs,zf,zk]
def tkR (k:Nat) (s:ByteArray) (l c:Nat):List D:=[.int .u8 (k:Nat),.str s,.int .i64 (l:Nat),.int .i64 (c:Nat),.bool false]
theorem word_tab(d:Nat)(S:St)(s:ByteArray):Bp LP NN (d+1) 43 [.str s] S=some (.agg [.int .u8 1,.str s,.int .i64 0,.int .i64 0,.bool false],S,false):=by kernel_rfl
theorem number_tab(d:Nat)(S:St):(List.range 100).map (fun k=>Bp LP NN (d+5) 58 [.int .i64 ((k:Nat):Int)] S)=(List.range 100).map (fun k=>some (.agg [.int .u8 2,.str (Fu k),.int .i64 0,.int .i64 0,.bool false],S,false)):=by kernel_rfl
def kwB (k:Nat):ByteArray:=if k=2 then ⟨#[70,82,79,77]⟩ else if k=3 then ⟨#[84,79]⟩ else ⟨#[85,83,73,78,71]⟩
def J2 (f:FM):List (Nat × ByteArray):=(2,Fu 5) ::
 ((if f.lo then [(1,⟨#[70,73,76,76,69,82]⟩),(1,⟨#[76,73,78,69]⟩),(1,⟨#[78,85,77,66,69,82]⟩),(1,⟨#[73,83]⟩),(2,Fu f.line),(1,⟨#[67,79,76]⟩),(1,⟨#[73,83]⟩),(2,Fu f.column)]
  else [(1,⟨#[76,73,78,69]⟩),(2,Fu f.line),(1,⟨#[67,79,76,85,77,78]⟩),(2,Fu f.column)]) ++
 (if f.kind=1 then (if f.lo then [(1,⟨#[86,65,76,85,69]⟩),(1,⟨#[73,83]⟩),(3,f.text)] else [(1,⟨#[86,65,76,85,69]⟩),(3,f.text)])
  else [(1,⟨#[80,73,67]⟩),(4,f.pic),(1,kwB f.kind),(1,⟨#[78]⟩)]))
def K5 (l:List (Nat × ByteArray)):List (List D):=l.map fun p=>tkR p.1 p.2 0 0
section
variable {d:Nat} (hd:6≤d) (S:St)
include hd
theorem Cv(s:ByteArray):Ae LP NN d 43 [.str s] S=some (.agg [.int .u8 1,.str s,.int .i64 0,.int .i64 0,.bool false],S,false):=by
 obtain⟨d,rfl⟩:∃d',d=d'+1:=⟨d-1,by omega⟩;exact fast_ok (word_tab d S s)
theorem Ew(n:Nat)(hn:n<100):Ae LP NN d 58 [.int .i64 (n:Nat)] S=some (.agg [.int .u8 2,.str (Fu n),.int .i64 0,.int .i64 0,.bool false],S,false):=by
 obtain⟨d,rfl⟩:∃d',d=d'+5:=⟨d-5,by omega⟩;exact fast_ok (Kk (number_tab d S) n hn)
theorem Jo:Ae LP NN d 58 [.int .i64 5] S=some (.agg [.int .u8 2,.str (Fu 5),.int .i64 0,.int .i64 0,.bool false],S,false):=Ew hd S 5 (by omega)
end
theorem kw_at(k:Nat)(h1:2≤k)(h2:k≤4):([[.str ⟨#[]⟩],[.str ⟨#[]⟩],[.str ⟨#[70,82,79,77]⟩],[.str ⟨#[84,79]⟩],[.str ⟨#[85,83,73,78,71]⟩]]:List (List D))[k]?=some [.str (kwB k)]:=by
 match k,h1,h2 with
 | 2,_,_=>rfl
 | 3,_,_=>rfl
 | 4,_,_=>rfl
 | n+5,_,h=>omega
theorem M9{d:Nat}(hd:10≤d)(S:St)(f:FM):Ae LP NN d 59 [.agg f.row] S=some (.sl 5 (K5 (J2 f)) none,S,false):=by
 have hl:=f.size_le;have hc:=f.column_le;have hln:=f.line_le;have yO:=f.kind_le;have hkn:(0:Int)≤((f.kind:Nat):Int):=by omega
 have hkw:=fun (h:2≤f.kind)=>kw_at f.kind h yO.2;have zz:=aI hkw (aI hkn @FM.row.eq_1);refine rpz (hb:=?_);rintro d rfl;refine g8 (q:=?_)
 first
  | refine Aa (by simp only[zo,zz];exact Jo (by omega) _) ?_
  | refine Aa (by simp only[zo,zz];exact Ew (by omega) _ _ (by omega)) ?_
 refine g11 (q:=Bz (ht:=fun hc=>?_) (hf:=fun hc=>?_))
 ·
  refine g2 (q:=Ao (by simp only[zo,zz];exact Cv (by omega) _ _) (by simp only[Ac,zo,zq]<;>exact rfl) rfl (Ao (by simp only[zo,zz];exact Cv (by omega) _ _) (by simp only[Ac,zo,zq]<;>exact rfl) rfl (Ao (by simp only[zo,zz];exact Cv (by omega) _ _) (by simp only[Ac,zo,zq]<;>exact rfl) rfl (Ao (by simp only[zo,zz];exact Cv (by omega) _ _) (by simp only[Ac,zo,zq]<;>exact rfl) rfl (g1 (q:=Ao (by simp only[zo,zz];exact Sr (by omega) _ f) (by simp only[Ac,zo,zq]<;>exact rfl) rfl ?_))))))
  first
   | refine Ao (by simp only[zo,zz];exact Jo (by omega) _) (by simp only[Ac,zo,zq]<;>exact rfl) rfl ?_
   | refine Ao (by simp only[zo,zz];exact Ew (by omega) _ _ (by omega)) (by simp only[Ac,zo,zq]<;>exact rfl) rfl ?_
  refine Ao (by simp only[zo,zz];exact Cv (by omega) _ _) (by simp only[Ac,zo,zq]<;>exact rfl) rfl (Ao (by simp only[zo,zz];exact Cv (by omega) _ _) (by simp only[Ac,zo,zq]<;>exact rfl) rfl (g1 (q:=Ao (by simp only[zo,zz];exact Fv (by omega) _ f) (by simp only[Ac,zo,zq]<;>exact rfl) rfl ?_)))
  first
   | refine Ao (by simp only[zo,zz];exact Jo (by omega) _) (by simp only[Ac,zo,zq]<;>exact rfl) rfl ?_
   | refine Ao (by simp only[zo,zz];exact Ew (by omega) _ _ (by omega)) (by simp only[Ac,zo,zq]<;>exact rfl) rfl ?_
  refine g9 (q:=Aa (by simp only[zo,zz];exact Ik (by omega) _ f) (g3 (q:=Bz (ht:=fun hcT=>?_) (hf:=fun hcT=>?_))))
  ·
   have y7:f.kind=1:=by
    have h:=hcT;simp at h;omega
   refine g7 (q:=Bz (ht:=fun hcTT=>?_) (hf:=fun hcTT=>?_))
   ·
    refine g3 (q:=Ao (by simp only[zo,zz];exact Cv (by omega) _ _) (by simp only[Ac,zo,zq]<;>exact rfl) rfl (Ao (by simp only[zo,zz];exact Cv (by omega) _ _) (by simp only[Ac,zo,zq]<;>exact rfl) rfl (g1 (q:=Ao (by simp only[zo,zz];exact L8 (by omega) _ f) (by simp only[Ac,zo,zq]<;>exact rfl) rfl (g9 (q:=fq (h:=?_)))))));simp[Df,leave,Xt,Xp,snap,D.Xr,D.Xq,D.free,D.Xw,K5,J2,tkR,hc,y7]
   refine g5 (q:=Ao (by simp only[zo,zz];exact Cv (by omega) _ _) (by simp only[Ac,zo,zq]<;>exact rfl) rfl (g1 (q:=Ao (by simp only[zo,zz];exact L8 (by omega) _ f) (by simp only[Ac,zo,zq]<;>exact rfl) rfl (g8 (q:=?_)))));exact absurd hc (by rw[hcTT];simp)
  have y7:¬f.kind=1:=by
   have h:=hcT;simp at h;omega
  have wW:=hkw (by omega);have zz:=aI wW zz;refine g5 (q:=Ao (by simp only[zo,zz];exact Cv (by omega) _ _) (by simp only[Ac,zo,zq]<;>exact rfl) rfl (g1 (q:=Ao (by simp only[zo,zz];exact pic_run (by omega) _ f) (by simp only[Ac,zo,zq]<;>exact rfl) rfl (g11 (q:=Aa (by simp only[zo,zz];exact Ik (by omega) _ f) (g2 (q:=Aa (by simp only[zo,zz];exact Cv (by omega) _ _) (Aa (by simp only[zo,zz];exact Cv (by omega) _ _) (g6 (q:=fq (h:=?_)))))))))));simp[Df,leave,Xt,Xp,snap,D.Xr,D.Xq,D.free,D.Xw,K5,J2,tkR,hc,y7]
 refine g2 (q:=Ao (by simp only[zo,zz];exact Cv (by omega) _ _) (by simp only[Ac,zo,zq]<;>exact rfl) rfl (g1 (q:=Ao (by simp only[zo,zz];exact Sr (by omega) _ f) (by simp only[Ac,zo,zq]<;>exact rfl) rfl ?_)))
 first
  | refine Ao (by simp only[zo,zz];exact Jo (by omega) _) (by simp only[Ac,zo,zq]<;>exact rfl) rfl ?_
  | refine Ao (by simp only[zo,zz];exact Ew (by omega) _ _ (by omega)) (by simp only[Ac,zo,zq]<;>exact rfl) rfl ?_
 refine Ao (by simp only[zo,zz];exact Cv (by omega) _ _) (by simp only[Ac,zo,zq]<;>exact rfl) rfl (g1 (q:=Ao (by simp only[zo,zz];exact Fv (by omega) _ f) (by simp only[Ac,zo,zq]<;>exact rfl) rfl ?_))
 first
  | refine Ao (by simp only[zo,zz];exact Jo (by omega) _) (by simp only[Ac,zo,zq]<;>exact rfl) rfl ?_
  | refine Ao (by simp only[zo,zz];exact Ew (by omega) _ _ (by omega)) (by simp only[Ac,zo,zq]<;>exact rfl) rfl ?_
 refine g9 (q:=Aa (by simp only[zo,zz];exact Ik (by omega) _ f) (g3 (q:=Bz (ht:=fun hcF=>?_) (hf:=fun hcF=>?_))))
 ·
  have y7:f.kind=1:=by
   have h:=hcF;simp at h;omega
  refine g7 (q:=Bz (ht:=fun hcFT=>?_) (hf:=fun hcFT=>?_))
  ·
   refine g3 (q:=Ao (by simp only[zo,zz];exact Cv (by omega) _ _) (by simp only[Ac,zo,zq]<;>exact rfl) rfl (Ao (by simp only[zo,zz];exact Cv (by omega) _ _) (by simp only[Ac,zo,zq]<;>exact rfl) rfl (g1 (q:=Ao (by simp only[zo,zz];exact L8 (by omega) _ f) (by simp only[Ac,zo,zq]<;>exact rfl) rfl (g9 (q:=?_))))));exact absurd hcFT (by rw[hc];simp)
  refine g5 (q:=Ao (by simp only[zo,zz];exact Cv (by omega) _ _) (by simp only[Ac,zo,zq]<;>exact rfl) rfl (g1 (q:=Ao (by simp only[zo,zz];exact L8 (by omega) _ f) (by simp only[Ac,zo,zq]<;>exact rfl) rfl (g8 (q:=fq (h:=?_))))));simp[Df,leave,Xt,Xp,snap,D.Xr,D.Xq,D.free,D.Xw,K5,J2,tkR,hc,y7]
 have y7:¬f.kind=1:=by
  have h:=hcF;simp at h;omega
 have wW:=hkw (by omega);have zz:=aI wW zz;refine g5 (q:=Ao (by simp only[zo,zz];exact Cv (by omega) _ _) (by simp only[Ac,zo,zq]<;>exact rfl) rfl (g1 (q:=Ao (by simp only[zo,zz];exact pic_run (by omega) _ f) (by simp only[Ac,zo,zq]<;>exact rfl) rfl (g11 (q:=Aa (by simp only[zo,zz];exact Ik (by omega) _ f) (g2 (q:=Aa (by simp only[zo,zz];exact Cv (by omega) _ _) (Aa (by simp only[zo,zz];exact Cv (by omega) _ _) (g6 (q:=fq (h:=?_)))))))))));simp[Df,leave,Xt,Xp,snap,D.Xr,D.Xq,D.free,D.Xw,K5,J2,tkR,hc,y7]
theorem Q4{call:Aq}{H:List Xh}{g e sz v kind bytes n lo:Nat}{rows new:List (List D)}{gr:Bool}{x:D}(hg:H[g]?=some ⟨e,sz,rows,v,kind,gr⟩)(hk:kind=1∨kind=2)(hx:SlD sz new x)(hn:n=rows.length)(hb:(n+new.length)*bytes≤140737488355328) :
  Al call (.append e sz bytes kind) [.msl g v 0 n none,x] ⟨H,lo⟩=some (.msl g (v+1) 0 (n+new.length) none,⟨H.set g ⟨e,sz,rows++new,v+1,kind,true⟩,min lo g⟩,true):=by
 have vO:kind≠0:=by omega
 have hr:Bw ⟨H,lo⟩ sz x=some new:=hx.read _;simp only[Al,aop,LOp.loud,lop,if_true,Bo,vO,if_false,hr,Av,rowsOf,hg];rw[if_pos (by refine⟨?_,?_,?_,?_,?_,?_,?_⟩<;>first | trivial | assumption | rfl)];rfl
def Wo:Nat × ByteArray:=(6,⟨#[46]⟩)
def Hu (l:List FM):List (Nat × ByteArray):=l.flatMap fun f=>J2 f++[Wo]
def Ht (s:ByteArray):List (Nat × ByteArray):=[(2,Fu 1),(1,s),Wo]
theorem Ff(s:ByteArray):(Ht s).length=3:=rfl
theorem Ld{d:Nat}(hd:6≤d)(S:St):Ae LP NN d 58 [.int .i64 1] S=some (.agg [.int .u8 2,.str (Fu 1),.int .i64 0,.int .i64 0,.bool false],S,false):=Ew hd S 1 (by omega)
def Gb (a b:List FM):List (Nat × ByteArray):=Ht ⟨#[65]⟩++Hu a++Ht ⟨#[66]⟩++Hu b
def Eo (n:Nat) (l:List (Nat × ByteArray)):List (List D):=l.mapIdx fun i p=>tkR p.1 p.2 (n+i) 12
def Cr (l:List FM):List (List D):=l.map FM.row
theorem Jc{l:List FM}{i:Nat}(h:i<l.length):(Cr l)[i]?=some l[i].row:=by simp[Cr,h]
theorem Gh(l:List FM):(Cr l).length=l.length:=by simp[Cr]
theorem Cw(l:List (Nat × ByteArray)):(K5 l).length=l.length:=by simp[K5]
theorem Di(l m:List (Nat × ByteArray)):K5 (l++m)=K5 l++K5 m:=by simp[K5]
theorem Ov(f:FM):(J2 f).length≤14:=by
 unfold J2;split<;>split<;>(try split)<;>simp
theorem Ju:∀(l:List FM),(Hu l).length≤15*l.length
 | []=>by simp[Hu]
 | f::l=>by
  have h1:=Ju l;have h2:=Ov f;simp only[Hu,List.flatMap_cons,Ll_,List.length_cons,List.length_nil]at h1 ⊢;omega
theorem entL_take{l:List FM}{i:Nat}(h:i<l.length):Hu (l.take (i+1))=Hu (l.take i)++(J2 l[i]++[Wo]):=by
 unfold Hu;rw[List.take_succ_eq_append_getElem h,List.flatMap_append];simp
def Fb (p:List (Nat × ByteArray)) (l:List FM) (i:Nat):List (Nat × ByteArray):=p++Hu (l.take i)
theorem Ia{p:List (Nat × ByteArray)}{l:List FM}{i:Nat}(h:i<l.length):Fb p l (i+1)=Fb p l i++(J2 l[i]++[Wo]):=by
 unfold Fb;rw[entL_take h,Lo_]
theorem Gw(p:List (Nat × ByteArray))(l:List FM)(i:Nat):(Fb p l i).length≤p.length+15*l.length:=by
 have h1:=Ju (l.take i);simp only[Fb,Ll_,List.length_take]at h1 ⊢;omega
theorem secP_end(p:List (Nat × ByteArray))(l:List FM):Fb p l l.length=p++Hu l:=by unfold Fb;rw[List.take_length]
def preA:List (Nat × ByteArray):=Ht ⟨#[65]⟩
def preB (a:List FM):List (Nat × ByteArray):=Fb preA a a.length++Ht ⟨#[66]⟩
theorem Ww(a b:List FM):Gb a b=Fb (preB a) b b.length:=by
 unfold Gb preB preA;rw[secP_end,secP_end]
theorem Ko:preA.length=3:=rfl
theorem Si(a:List FM):(preB a).length≤6+15*a.length:=by
 have h:=Gw preA a a.length;rw[Ko]at h;simp only[preB,Ll_,Ff];omega
def posT (l:List (Nat × ByteArray)) (i:Nat):List (List D):=(Eo 1 l).take i++(K5 l).drop i
theorem Ed(n:Nat)(l:List (Nat × ByteArray)):(Eo n l).length=l.length:=by simp[Eo]
theorem posT_at{l:List (Nat × ByteArray)}{i:Nat}(h:i<l.length):(posT l i)[i]?=some (tkR l[i].1 l[i].2 0 0):=by
 unfold posT;rw[Lr_ (by simp[Ed];omega)];simp[Ed,K5,Nat.min_eq_left (Nat.le_of_lt h),h]
theorem posT_set{l:List (Nat × ByteArray)}{i:Nat}(h:i<l.length):(posT l i).set i (tkR l[i].1 l[i].2 (i+1) 12)=posT l (i+1):=by
 refine List.ext_getElem? fun j=>?_;rw[List.getElem?_set];unfold posT;by_cases hj:i=j
 ·
  subst hj;rw[if_pos rfl,if_pos (by simp[Ed,Cw,Ff];omega),La_ (by simp[Ed];omega)];rw[List.getElem?_take_of_lt (by omega)];simp[Eo,List.getElem?_mapIdx,h,Nat.add_comm]
 rw[if_neg hj];by_cases xq:j<i
 ·
  rw[La_ (by simp[Ed];omega),La_ (by simp[Ed];omega),List.getElem?_take_of_lt xq,List.getElem?_take_of_lt (by omega)]
 rw[Lr_ (by simp[Ed];omega),Lr_ (by simp[Ed];omega),List.getElem?_drop,List.getElem?_drop];congr 1;simp[Ed];omega
theorem posT_0(l:List (Nat × ByteArray)):posT l 0=K5 l:=by simp[posT]
theorem posT_end(l:List (Nat × ByteArray)):posT l l.length=Eo 1 l:=by
 unfold posT;rw[List.take_of_length_le (by simp[Ed]),List.drop_eq_nil_of_le (by simp[Cw])];simp
theorem take_posR(l:List (Nat × ByteArray)):List.take l.length (Eo 1 l)=Eo 1 l:=List.take_of_length_le (by simp[Ed])
def oPer:Xh:=⟨116,5,[tkR 6 ⟨#[46]⟩ 0 0],0,0,false⟩
theorem section_run{d:Nat}(hd:12≤d)(S:St){a b:List FM}{ax bx:D}(ha:SlD 6 (Cr a) ax)(hb:SlD 6 (Cr b) bx)(hla:a.length≤20)(hlb:b.length≤20):Ae LP NN d 20 [ax,bx] S=some (.sl 5 (Eo 1 (Gb a b)) none,S,false):=by
 have zu:(Gb a b).length≤700:=by
  have h1:=Ju a;have h2:=Ju b;simp only[Gb,Ht,Ll_,List.length_cons,List.length_nil];omega
 have zz:=aI ha.len (aI hb.len (aI @Gh (aI @oPer.eq_1 (aI @tkR.eq_1 (aI ha.Xp (aI hb.Xp (aI ha.Xq hb.Xq)))))));refine rpz (hb:=?_);rintro d rfl;refine g14 (q:=?_)
 first
  | refine Ao (by simp only[zo,zz];exact Ew (by omega) _ 1 (by omega)) (by simp only[Ac,zo,zq,ha.fpi,hb.fpi]<;>exact rfl) rfl ?_
  | refine Ao (by simp only[zo,zz];exact Ld (by omega) _) (by simp only[Ac,zo,zq,ha.fpi,hb.fpi]<;>exact rfl) rfl ?_
 apply Ao (by simp only[zo,zz];exact Cv (by omega) _ _) (by simp only[Ac,zo,zq,ha.fpi,hb.fpi]<;>exact rfl) rfl;have zz:=aI ha.fpi (aI hb.fpi zz);refine g12 (q:=Bq (fun n env S'=>∃(i v:Nat) (gr:Bool) (A6 A7 A8 A9 A10:D),S'=⟨[oPer,⟨116,5,K5 (Fb preA a i),v,2,gr⟩],0⟩∧env=[ax,bx,.X4,.ptr 0 0 0 0,.msl 1 v 0 (K5 (Fb preA a i)).length none,.int .i64 (i:Nat),A6,A7,A8,A9,A10]∧i≤a.length∧n=a.length-i) (a.length) (by omega) (⟨0,_,_,_,_,_,_,_,rfl,rfl,by omega,by omega⟩) ?_);rintro n env S' ⟨i,v,gr,A6,A7,A8,A9,A10,rfl,rfl,hi,rfl⟩;refine g9 (q:=Bz (ht:=fun xZ=>?_) (hf:=fun xZ=>?_))
 ·
  have xq:i<a.length:=by have:=of_decide_eq_true xZ;omega
  have yD:=fun (S:St)=>ha.iaddrN S .i64 (Jc xq);have hw:=Bu i (by omega);have zQ:=Ov a[i];have hsp:=Gw preA a i;have hsq:=Gw (preB a) b i;have hpa:=Ko;have hpb:=Si a;have zz:=aI hw (aI yD (aI @FM.row.eq_1 zz));refine g10 (q:=Ao (by simp only[zo,zz];exact M9 (by omega) _ a[i]) (by simp only[Ac,zo,zq,ha.fpi,hb.fpi]<;>exact rfl) rfl (Kz (by simp only[opd,zv];exact (Q4 (by first | rfl | exact hg0) (.inr rfl) (.of _ _ _) (by simp only[Ll_,List.length_cons,List.length_nil,Cw]) (by simp only[Ll_,List.length_cons,List.length_nil,Cw,Ff];omega)).trans (by simp only[List.set_cons_succ,List.set_cons_zero,Nat.zero_min]<;>exact rfl)) (h:=g2 (q:=Kz (by simp only[opd,zv];exact (Q4 (by first | rfl | exact hg0) (.inr rfl) (.of _ _ _) (by simp only[Ll_,List.length_cons,List.length_nil,Cw]) (by simp only[Ll_,List.length_cons,List.length_nil,Cw,Ff];omega)).trans (by simp only[List.set_cons_succ,List.set_cons_zero,Nat.zero_min]<;>exact rfl)) (h:=g10 (q:=?_))))));exact⟨a.length-(i+1),by omega,i+1,_,_,_,_,_,_,_,by rw[Ia xq,Di (Fb _ _ _),Di (J2 _)];simp only[Lo_];exact rfl,by rw[Ia xq,Di (Fb _ _ _),Di (J2 _)];simp only[Ll_,Nat.add_assoc];exact rfl,by omega,rfl⟩
 have hi':i=a.length:=by have:=of_decide_eq_false xZ;omega
 subst hi';have hsp:=Gw preA a a.length;have hpa:=Ko;refine g8 (q:=?_)
 first
  | refine Ao (by simp only[zo,zz];exact Ew (by omega) _ 1 (by omega)) (by simp only[Ac,zo,zq,ha.fpi,hb.fpi]<;>exact rfl) rfl ?_
  | refine Ao (by simp only[zo,zz];exact Ld (by omega) _) (by simp only[Ac,zo,zq,ha.fpi,hb.fpi]<;>exact rfl) rfl ?_
 refine Ao (by simp only[zo,zz];exact Cv (by omega) _ _) (by simp only[Ac,zo,zq,ha.fpi,hb.fpi]<;>exact rfl) rfl (g2 (q:=Kz (by simp only[opd,zv];exact (Q4 (by first | rfl | exact hg0) (.inr rfl) (.of _ _ _) (by simp only[Ll_,List.length_cons,List.length_nil,Cw]) (by simp only[Ll_,List.length_cons,List.length_nil,Cw,Ff];omega)).trans (by simp only[List.set_cons_succ,List.set_cons_zero,Nat.zero_min]<;>exact rfl)) (h:=g10 (q:=Bq (fun n env S'=>∃(i v:Nat) (B5 B7 B8 B9 B10:D),S'=⟨[oPer,⟨116,5,K5 (Fb (preB a) b i),v,2,true⟩],0⟩∧env=[ax,bx,.X4,.ptr 0 0 0 0,.msl 1 v 0 (K5 (Fb (preB a) b i)).length none,B5,.int .i64 (i:Nat),B7,B8,B9,B10]∧i≤b.length∧n=b.length-i) (b.length) (by omega) (⟨0,_,_,_,_,_,_,by rw[show Fb (preB a) b 0=Fb preA a a.length++Ht ⟨#[66]⟩ from by unfold Fb preB;simp[Hu,Fb],Di (Fb _ _ _)];exact rfl,by rw[show Fb (preB a) b 0=Fb preA a a.length++Ht ⟨#[66]⟩ from by unfold Fb preB;simp[Hu,Fb],Di (Fb _ _ _),Ll_];exact rfl,by omega,by omega⟩) ?_))));rintro n env S' ⟨i,v,B5,B7,B8,B9,B10,rfl,rfl,hi,rfl⟩;refine g9 (q:=Bz (ht:=fun zZ=>?_) (hf:=fun zZ=>?_))
 ·
  have xq:i<b.length:=by have:=of_decide_eq_true zZ;omega
  have yD:=fun (S:St)=>hb.iaddrN S .i64 (Jc xq);have hw:=Bu i (by omega);have zQ:=Ov b[i];have hsp:=Gw preA a i;have hsq:=Gw (preB a) b i;have hpa:=Ko;have hpb:=Si a;have zz:=aI hw (aI yD (aI @FM.row.eq_1 zz));refine g10 (q:=Ao (by simp only[zo,zz];exact M9 (by omega) _ b[i]) (by simp only[Ac,zo,zq,ha.fpi,hb.fpi]<;>exact rfl) rfl (Kz (by simp only[opd,zv];exact (Q4 (by first | rfl | exact hg0) (.inr rfl) (.of _ _ _) (by simp only[Ll_,List.length_cons,List.length_nil,Cw]) (by simp only[Ll_,List.length_cons,List.length_nil,Cw,Ff];omega)).trans (by simp only[List.set_cons_succ,List.set_cons_zero,Nat.zero_min]<;>exact rfl)) (h:=g2 (q:=Kz (by simp only[opd,zv];exact (Q4 (by first | rfl | exact hg0) (.inr rfl) (.of _ _ _) (by simp only[Ll_,List.length_cons,List.length_nil,Cw]) (by simp only[Ll_,List.length_cons,List.length_nil,Cw,Ff];omega)).trans (by simp only[List.set_cons_succ,List.set_cons_zero,Nat.zero_min]<;>exact rfl)) (h:=g10 (q:=?_))))));exact⟨b.length-(i+1),by omega,i+1,_,_,_,_,_,_,by rw[Ia xq,Di (Fb _ _ _),Di (J2 _)];simp only[Lo_];exact rfl,by rw[Ia xq,Di (Fb _ _ _),Di (J2 _)];simp only[Ll_,Nat.add_assoc];exact rfl,by omega,rfl⟩
 have hi':i=b.length:=by have:=of_decide_eq_false zZ;omega
 subst hi';refine g12 (q:=Bq (fun n env S'=>∃(i v:Nat) (C5 C6 C8 C9 C10:D),S'=⟨[oPer,⟨116,5,posT (Gb a b) i,v,2,true⟩],0⟩∧env=[ax,bx,.X4,.ptr 0 0 0 0,.msl 1 v 0 (Gb a b).length none,C5,C6,.int .i64 (i:Nat),C8,C9,C10]∧i≤(Gb a b).length∧n=(Gb a b).length-i) ((Gb a b).length) (by omega) (⟨0,_,_,_,_,_,_,by rw[posT_0,Ww];exact rfl,by rw[Ww,←Cw];exact rfl,by omega,by omega⟩) ?_);rintro n env S' ⟨i,v,C5,C6,C8,C9,C10,rfl,rfl,hi,rfl⟩;refine g9 (q:=Bz (ht:=fun yQ=>?_) (hf:=fun yQ=>?_))
 ·
  have xq:i<(Gb a b).length:=by have:=of_decide_eq_true yQ;omega
  have hw:=Bu i (by omega);have vH:=posT_at xq;have hi0:(0:Int)≤(i:Int):=by omega
  have wO:(i:Int)<((Gb a b).length:Int):=by omega
  have zz:=aI hw (aI vH (aI hi0 (aI wO (aI @Int.toNat_natCast zz))));refine g22 (q:=?_);exact⟨(Gb a b).length-(i+1),by omega,i+1,_,_,_,_,_,_,by rw[←posT_set xq];exact rfl,rfl,by omega,rfl⟩
 have hi':i=(Gb a b).length:=by have:=of_decide_eq_false yQ;omega
 subst hi';refine g12 (q:=fq (h:=?_));simp[Df,leave,Xt,Xp,snap,D.Xr,D.Xq,D.free,D.Xw,posT_end,Ed,take_posR]
theorem index_run{d:Nat}(hd:1≤d)(S:St){x:D}{l:List ByteArray}(hS:SlD 1 (Cx l) x)(s:ByteArray)(hl:l.length≤1000000) :
  Ae LP NN d 336 [x,.str s] S=some (.int .i64 (idxI (fun x=>s.toList==x.toList) l),S,false):=by
 have zz:=aI hS.len (aI @Fg (aI hS.Xp hS.Xq));refine rpz (hb:=?_);rintro d rfl;refine g14 (q:=Bq (fun n env S'=>∃(i:Nat) (u3 u6 u7:D),i≤l.length∧n=l.length-i∧((l.take i).any fun x=>s.toList==x.toList)=false∧S'=⟨[],0⟩∧env=[x,.str s,.int .i64 0,u3,.int .i64 l.length,.int .i64 i,u6,u7]) (l.length) (by omega) (⟨0,_,_,_,by omega,by omega,by simp,rfl,rfl⟩) ?_);rintro n env S' ⟨i,u3,u6,u7,hi,rfl,vI,rfl,rfl⟩;have h0:(0:Int)≤(i:Int):=by omega
 have zz:=aI h0 zz;refine g6 (q:=Bz (ht:=fun xZ=>?_) (hf:=fun xZ=>?_))
 ·
  have xq:i<l.length:=by have:=of_decide_eq_true xZ;omega
  have hw:=Bu i (by omega);have hx:=Lg xq;have yD:=fun (S:St)=>hS.iaddrN S .i64 (Iz xq);have zz:=aI hw (aI hx (aI yD zz));refine g20 (q:=Bz (ht:=fun yJ=>?_) (hf:=fun yJ=>?_))
  ·
   refine g12 (q:=fq (h:=?_));rw[idxI_at (p:=fun x=>s.toList==x.toList) xq yJ vI];rfl
  refine g8 (q:=?_);exact⟨l.length-(i+1),by omega,i+1,_,_,_,by omega,rfl,any_take_succ xq vI yJ,rfl,rfl⟩
 have yK:l.length≤i:=by have:=of_decide_eq_false xZ;omega
 refine g11 (q:=fq (h:=?_));rw[List.take_of_length_le yK]at vI;rw[Un vI];rfl
theorem contains_run{d:Nat}(hd:2≤d)(S:St){x:D}{l:List ByteArray}(hS:SlD 1 (Cx l) x)(s:ByteArray)(hl:l.length≤1000000) :
  Ae LP NN d 296 [x,.str s] S=some (.bool (l.any fun x=>s.toList==x.toList),S,false):=by
 have zz:=aI hS.Xp hS.Xq;refine rpz (hb:=?_);rintro d rfl;refine g9 (q:=Aa (by simp only[zo,zz];exact index_run (by omega) _ hS s hl) (g5 (q:=fq (h:=?_))));rw[idxI_nonneg];rfl
def PO (lx:D) (a c:Nat) (ox:D):Xh:=⟨137,4,[[lx,.int .i64 (a:Nat),.int .i64 (c:Nat),ox]],0,0,false⟩
theorem is_run{d:Nat}(hd:4≤d){H:List Xh}{g a c:Nat}{lx ox tx:D}{rest:List (List D)}{k l0 c0 kd:Nat}{s:ByteArray}{texts:List ByteArray}(hH:H[g]?=some (PO lx a c ox))(hL:SlD 5 (tkR k s l0 c0::rest) lx)(hX:SlD 1 (Cx texts) tx)(zi:texts.length≤1000000)(lo:Nat) :
  Ae LP NN d 245 [.ptr g 0 0 0,.int .u8 (kd:Nat),tx] ⟨H,lo⟩=some (.bool (((k:Int)==(kd:Int))&&(texts.isEmpty||texts.any fun x=>s.toList==x.toList)),⟨H,lo⟩,false):=by
 have xg:Hr false lx=some (.int .i64 ((rest.length+1:Nat):Int)):=hL.len;have yY:decide (((rest.length+1:Nat):Int)>0)=true:=decide_eq_true (by omega);have yD:=fun (S:St)=>hL.X0 S .i64 (i:=0) (r:=tkR k s l0 c0) (by omega) rfl;have zz:=aI hH (aI @PO.eq_1 (aI xg (aI hX.len (aI @Fg (aI yY (aI yD (aI @tkR.eq_1 (aI hX.Xp hX.Xq))))))));refine raz (hb:=?_);rintro d rfl;refine g14 (q:=Bb 0 (b:=true) (h:=g20 (q:=Fy 0 (h:=fun hg=>?_) (k:=fun hg=>?_))))
 ·
  refine g8 (q:=Fy 0 (h:=fun hgT=>?_) (k:=fun hgT=>?_))
  ·
   have htT:texts=[]:=by
    have h:=hgT;simp at h;exact h
   refine g16 (q:=fq (h:=?_));simp[leave,LP,Xt,Xp,snap,D.Xr,D.Xq,D.free,D.Xw,hg,htT]
  have htF:texts≠[]:=by
   have h:=hgT;intro e;rw[e]at h;simp at h
  refine g17 (q:=Aa (by simp only[zo,zz];exact contains_run (by omega) _ hX s zi) (g7 (q:=fq (h:=?_))));simp[leave,LP,Xt,Xp,snap,D.Xr,D.Xq,D.free,D.Xw,hg,htF]
 refine g19 (q:=fq (h:=?_));simp[leave,LP,Xt,Xp,snap,D.Xr,D.Xq,D.free,D.Xw,hg]
theorem Bj{H l:List Xh}{g:Nat}(h:g<H.length):(H++l)[g]?=H[g]?:=La_ h
theorem Em{H l:List Xh}{g:Nat}(h:g<H.length)(x:Xh):(H++l).set g x=H.set g x++l:=List.set_append_left g x h
theorem Aj{H:List Xh}{g:Nat}{o:Xh}(h:H[g]?=some o):g<H.length:=(List.getElem?_eq_some_iff.1 h).1
theorem Tv(H l:List Xh)(g:Nat)(x:Xh):(H.set g x++l)[H.length]?=l[0]?:=by
 rw[Lr_ (by simp)];simp
theorem at_S(H l:List Xh)(g k:Nat)(x:Xh):(H.set g x++l)[H.length+k]?=l[k]?:=by
 rw[Lr_ (by simp)];simp
theorem Re(H l:List Xh)(g:Nat)(x y:Xh):(H.set g x++l).set H.length y=H.set g x++l.set 0 y:=by
 rw[List.set_append_right _ _ (by simp)];simp
theorem set_S(H l:List Xh)(g k:Nat)(x y:Xh):(H.set g x++l).set (H.length+k) y=H.set g x++l.set k y:=by
 rw[List.set_append_right _ _ (by simp)];simp
theorem Et{H:List Xh}{g:Nat}(h:g<H.length)(x:Xh):(H.set g x)[g]?=some x:=List.getElem?_set_self h
structure Upd (H H':List Xh) (g:Nat) (o:Xh):Prop where
 at_:H'[g]?=some o
 len:H.length≤H'.length
 ne:∀k,k<H.length→k≠g→H'[k]?=H[k]?
theorem Upd.of{H:List Xh}{g:Nat}(h:g<H.length)(o:Xh)(l:List Xh):Upd H (H.set g o++l) g o :=
 ⟨by rw[Bj (by simpa using h)];exact Et h o,by simp,fun k hk hn=>by rw[Bj (by simpa using hk),Ln_ (Ne.symm hn)]⟩
theorem Upd.trans{H1 H2 H3:List Xh}{g:Nat}{o p:Xh}(h:Upd H1 H2 g o)(k:Upd H2 H3 g p):Upd H1 H3 g p :=
 ⟨k.at_,Nat.le_trans h.len k.len,fun q hq hn=>(k.ne q (Nat.lt_of_lt_of_le hq h.len) hn).trans (h.ne q hq hn)⟩
theorem Upd.refl{H:List Xh}{g:Nat}{o:Xh}(h:H[g]?=some o):Upd H H g o:=⟨h,Nat.le_refl _,fun _ _ _=>rfl⟩
theorem Upd.app{H H':List Xh}{g:Nat}{o:Xh}(h:Upd H H' g o)(l:List Xh):Upd H (H'++l) g o :=
 ⟨by rw[Bj (Aj h.at_)];exact h.at_,by rw[Ll_];have:=h.len;omega,fun k hk hn=>by rw[Bj (Nat.lt_of_lt_of_le hk h.len)];exact h.ne k hk hn⟩
def tkO (k:Nat) (s:ByteArray) (l c:Nat):Xh:=⟨116,5,[tkR k s l c],0,0,false⟩
def isB (k kd:Nat) (s:ByteArray) (texts:List ByteArray):Bool:=((k:Int)==(kd:Int))&&(texts.isEmpty||texts.any fun x=>s.toList==x.toList)
section
variable (d:Nat) (S:St)
theorem dig_tab:(List.range 100).map (fun k=>Bp LP NN (d+4) 179 [.str (Fu k)] S)=(List.range 100).map (fun _=>some (.bool true,S,false)):=by kernel_rfl
theorem atoi_tab:(List.range 100).map (fun k=>Bp LP NN (d+4) 180 [.str (Fu k)] S)=(List.range 100).map (fun k=>some (.tup [.int .i64 ((k:Nat):Int),.nili],S,false)):=by kernel_rfl
end
theorem dig_run{d:Nat}(hd:4≤d)(S:St)(n:Nat)(hn:n<100):Ae LP NN d 179 [.str (Fu n)] S=some (.bool true,S,false):=by
 obtain⟨d,rfl⟩:∃d',d=d'+4:=⟨d-4,by omega⟩;exact fast_ok (Kk (dig_tab d S) n hn)
theorem atoi_run{d:Nat}(hd:4≤d)(S:St)(n:Nat)(hn:n<100):Ae LP NN d 180 [.str (Fu n)] S=some (.tup [.int .i64 (n:Nat),.nili],S,false):=by
 obtain⟨d,rfl⟩:∃d',d=d'+4:=⟨d-4,by omega⟩;exact fast_ok (Kk (atoi_tab d S) n hn)
theorem skip_hit{d:Nat}(hd:5≤d){H:List Xh}{g a c:Nat}{lx ox tx:D}{rest:List (List D)}{k l0 c0:Nat}{s:ByteArray}{texts:List ByteArray}(hH:H[g]?=some (PO lx a c ox))(hL:SlD 5 (tkR k s l0 c0::rest) lx)(hX:SlD 1 (Cx texts) tx)(zi:texts.length≤1000000)(hb:isB k 1 s texts=true)(lo:Nat):Ae LP NN d 182 [.ptr g 0 0 0,tx] ⟨H,lo⟩=some (.bool true,⟨H.set g (PO (Cu 1 lx) a c ox),min lo g⟩,true):=by
 have hl:=Aj hH;have vH:=fun (x:Xh)=>Et hl x;have hla:∀(l:List Xh),H.length≤(H++l).length:=fun l=>by simp
 have zu:=fun (S:St)=>hL.slice_1 S (by simp);have yD:=fun (S:St)=>hL.X0 S .i64 (i:=0) (r:=tkR k s l0 c0) (by omega) rfl;have hD:=hL.drop 1;have xM:min H.length g=g:=by omega
 have wR:¬H.length≤g:=by omega
 have uF:min g H.length=g:=by omega
 have hmk:∀k:Nat,min g (H.length+k)=g:=fun k=>by omega
 have zz:=aI (fun l=>@Bj _ l _ hl) (aI (fun l=>@Em _ l _ hl) (aI @Tv (aI @at_S (aI @Re (aI @set_S (aI @List.getElem?_cons_zero.{0} (aI @List.getElem?_cons_succ.{0} (aI @List.length_set.{0} (aI @List.set_set.{0} (aI hH (aI vH (aI @PO.eq_1 (aI zu (aI hD.Xv (aI hD.val (aI hD.cells (aI hX.Xp hX.Xq)))))))))))))))));refine raz (hb:=?_);rintro d rfl;refine g9 (q:=Aa (by simp only[zo,Nat.reduceAdd,zz];exact (is_run (by omega) hH hL hX zi _).trans (congrArg (fun b=>some (D.bool b,_,false)) hb)) (g9 (q:=Dn (by simp only[opd,zv,Nat.reduceAdd,zz]<;>rfl) (g6 (q:=xo1 (h:=g12 (q:=fq (h:=?_))))))));simp[leave,LP,Xt,Xp,snap,D.Xr,D.Xq,D.free,D.Xw,xM,wR,uF,PO]
theorem Ue{d:Nat}(hd:5≤d){H:List Xh}{g a c:Nat}{lx ox tx:D}{rest:List (List D)}{k l0 c0:Nat}{s:ByteArray}{texts:List ByteArray}(hH:H[g]?=some (PO lx a c ox))(hL:SlD 5 (tkR k s l0 c0::rest) lx)(hX:SlD 1 (Cx texts) tx)(zi:texts.length≤1000000)(hb:isB k 1 s texts=false)(lo:Nat):Ae LP NN d 182 [.ptr g 0 0 0,tx] ⟨H,lo⟩=some (.bool false,⟨H,lo⟩,false):=by
 have hl:=Aj hH;have vH:=fun (x:Xh)=>Et hl x;have hla:∀(l:List Xh),H.length≤(H++l).length:=fun l=>by simp
 have zu:=fun (S:St)=>hL.slice_1 S (by simp);have yD:=fun (S:St)=>hL.X0 S .i64 (i:=0) (r:=tkR k s l0 c0) (by omega) rfl;have hD:=hL.drop 1;have xM:min H.length g=g:=by omega
 have wR:¬H.length≤g:=by omega
 have uF:min g H.length=g:=by omega
 have hmk:∀k:Nat,min g (H.length+k)=g:=fun k=>by omega
 have zz:=aI (fun l=>@Bj _ l _ hl) (aI (fun l=>@Em _ l _ hl) (aI @Tv (aI @at_S (aI @Re (aI @set_S (aI @List.getElem?_cons_zero.{0} (aI @List.getElem?_cons_succ.{0} (aI @List.length_set.{0} (aI @List.set_set.{0} (aI hH (aI vH (aI @PO.eq_1 (aI hX.Xp hX.Xq)))))))))))));refine raz (hb:=?_);rintro d rfl;refine g9 (q:=Aa (by simp only[zo,Nat.reduceAdd,zz];exact (is_run (by omega) hH hL hX zi _).trans (congrArg (fun b=>some (D.bool b,_,false)) hb)) (g9 (q:=Au (by simp only[opd,zv,Nat.reduceAdd,zz]<;>rfl) (g9 (q:=fq (h:=?_))))));simp[leave,LP,Xt,Xp,snap,D.Xr,D.Xq,D.free,D.Xw]
theorem Jl{d:Nat}(hd:5≤d){H:List Xh}{g a c:Nat}{lx ox tx:D}{rest:List (List D)}{k l0 c0 kd:Nat}{s:ByteArray}{texts:List ByteArray}(hH:H[g]?=some (PO lx a c ox))(hL:SlD 5 (tkR k s l0 c0::rest) lx)(hX:SlD 1 (Cx texts) tx)(zi:texts.length≤1000000)(hb:isB k kd s texts=true)(lo:Nat):Ae LP NN d 178 [.ptr g 0 0 0,.int .u8 (kd:Nat),tx] ⟨H,lo⟩=some (.agg (tkR k s l0 c0),⟨H.set g (PO (Cu 1 lx) a c ox)++[tkO k s l0 c0,tkO k s l0 c0],min lo g⟩,true):=by
 have hl:=Aj hH;have vH:=fun (x:Xh)=>Et hl x;have hla:∀(l:List Xh),H.length≤(H++l).length:=fun l=>by simp
 have zu:=fun (S:St)=>hL.slice_1 S (by simp);have yD:=fun (S:St)=>hL.X0 S .i64 (i:=0) (r:=tkR k s l0 c0) (by omega) rfl;have hD:=hL.drop 1;have xM:min H.length g=g:=by omega
 have wR:¬H.length≤g:=by omega
 have uF:min g H.length=g:=by omega
 have hmk:∀k:Nat,min g (H.length+k)=g:=fun k=>by omega
 have zz:=aI (fun l=>@Bj _ l _ hl) (aI (fun l=>@Em _ l _ hl) (aI @Tv (aI @at_S (aI @Re (aI @set_S (aI @List.getElem?_cons_zero.{0} (aI @List.getElem?_cons_succ.{0} (aI @List.length_set.{0} (aI @List.set_set.{0} (aI hH (aI vH (aI @PO.eq_1 (aI zu (aI yD (aI @tkR.eq_1 (aI @tkO.eq_1 (aI hD.Xv (aI hD.val (aI hD.cells (aI @Bd (aI @Bf (aI @Cb (aI @Ca (aI hX.Xp hX.Xq))))))))))))))))))))))));refine raz (hb:=?_);rintro d rfl;refine g11 (q:=Aa (by simp only[zo,Nat.reduceAdd,zz];exact (is_run (by omega) (by rw[Bj hl];exact hH) hL hX zi _).trans (congrArg (fun b=>some (D.bool b,_,false)) hb)) (g3 (q:=Au (by simp only[opd,zv,Nat.reduceAdd,zz]<;>rfl) (g21 (q:=xo1 (h:=g12 (q:=?_)))))));refine⟨_,by simp only[F178,P178,mkP,Ce,En,I5,zg,zd,rowsOf,Ci,List.take,List.drop,zm,Bj hl,Em hl,Tv,at_S,Re,set_S,Lz,Ls_,List.length_set,List.set_set,hH,vH,Nat.reduceAdd,tkR,tkO]<;>exact rfl,?_⟩;simp[leave,LP,Xt,Xp,snap,D.Xr,D.Xq,D.free,D.Xw,xM,wR,uF,tkR,tkO,Bl,PO]
theorem Sz(k:Nat)(s:ByteArray):isB k k s []=true:=by simp[isB]
theorem number_at{d:Nat}(hd:7≤d){H:List Xh}{g a c:Nat}{lx ox:D}{rest:List (List D)}{l0 c0 n:Nat}(hn:n<100)(hH:H[g]?=some (PO lx a c ox))(hL:SlD 5 (tkR 2 (Fu n) l0 c0::rest) lx)(lo:Nat) :
  Ae LP NN d 110 [.ptr g 0 0 0] ⟨H,lo⟩=some (.int .i64 (n:Nat),⟨H.set g (PO (Cu 1 lx) a c ox)++[tkO 2 (Fu n) l0 c0,tkO 2 (Fu n) l0 c0,tkO 2 (Fu n) l0 c0],min lo g⟩,true):=by
 have hl:=Aj hH;have vH:=fun (x:Xh)=>Et hl x;have hla:∀(l:List Xh),H.length≤(H++l).length:=fun l=>by simp
 have zu:=fun (S:St)=>hL.slice_1 S (by simp);have yD:=fun (S:St)=>hL.X0 S .i64 (i:=0) (r:=tkR 2 (Fu n) l0 c0) (by omega) rfl;have hD:=hL.drop 1;have xM:min H.length g=g:=by omega
 have wR:¬H.length≤g:=by omega
 have uF:min g H.length=g:=by omega
 have hmk:∀k:Nat,min g (H.length+k)=g:=fun k=>by omega
 have hnm:¬H.length≤min H.length g:=by omega
 have zz:=aI (fun l=>@Bj _ l _ hl) (aI (fun l=>@Em _ l _ hl) (aI @Tv (aI @at_S (aI @Re (aI @set_S (aI @List.getElem?_cons_zero.{0} (aI @List.getElem?_cons_succ.{0} (aI @List.length_set.{0} (aI @List.set_set.{0} (aI hH (aI vH (aI @PO.eq_1 (aI @tkR.eq_1 (aI @tkO.eq_1 (aI @Bd (aI @Bf (aI @Cb @Ca)))))))))))))))));refine raz (hb:=?_);rintro d rfl;refine g8 (q:=Aa (by simp only[zo,Nat.reduceAdd,zz];exact Jl (by omega) hH hL (texts:=[]) (.nil 1) (by simp) (Sz 2 _) _) (g9 (q:=Aa (by simp only[zo,Nat.reduceAdd,zz];exact dig_run (by omega) _ n hn) (g3 (q:=Au (by simp only[opd,zv,Nat.reduceAdd,zz]<;>rfl) (g6 (q:=Aa (by simp only[zo,Nat.reduceAdd,zz];exact atoi_run (by omega) _ n hn) (g14 (q:=Au (by simp only[opd,zv,Nat.reduceAdd,zz]<;>rfl) (g9 (q:=fq (h:=?_))))))))))));simp[leave,LP,Xt,Xp,snap,D.Xr,D.Xq,D.free,D.Xw,xM,wR,uF,hmk,tkR,tkO,PO]
theorem posR_cons(n:Nat)(p:Nat × ByteArray)(l:List (Nat × ByteArray)):Eo n (p::l)=tkR p.1 p.2 n 12::Eo (n+1) l:=by
 simp[Eo,List.mapIdx_cons,Nat.add_comm,Nat.add_left_comm]
theorem Gj{n:Nat}{p:Nat × ByteArray}{l:List (Nat × ByteArray)}{x:D}(h:SlD 5 (Eo n (p::l)) x):SlD 5 (Eo (n+1) l) (Cu 1 x):=by
 have:=h.drop 1;rw[posR_cons]at this;exact this
theorem Ey{n:Nat}{p:Nat × ByteArray}{l:List (Nat × ByteArray)}{x:D}(h:SlD 5 (Eo n (p::l)) x):SlD 5 (tkR p.1 p.2 n 12::Eo (n+1) l) x:=by rw[←posR_cons];exact h
theorem O3{d:Nat}(hd:5≤d){H:List Xh}{g a c m:Nat}{lx ox:D}(w:ByteArray)(b:Bool){t:Nat × ByteArray}{L:List (Nat × ByteArray)}(hH:H[g]?=some (PO lx a c ox))(hL:SlD 5 (Eo m ((if b then [(1,w)] else [])++t::L)) lx)(ht:isB t.1 1 t.2 [w]=false) :
  ∃H' lx' wr m',Ae LP NN d 182 [.ptr g 0 0 0,.sl 1 [[.str w]] (some 1)] ⟨H,g⟩=some (.bool b,⟨H',g⟩,wr)∧Upd H H' g (PO lx' a c ox)∧SlD 5 (Eo m' (t::L)) lx':=by
 cases b with
 | true =>
  have h1:=skip_hit (texts:=[w]) (tx:=.sl 1 [[.str w]] (some 1)) hd hH (Ey hL) (.of _ _ _) (by simp) (by simp[isB]) g;rw[Nat.min_self]at h1;exact⟨_,_,_,_,h1,by have:=Upd.of (Aj hH) (PO (Cu 1 lx) a c ox) [];rwa [List.append_nil]at this,Gj hL⟩
 | false =>
  have h1:=Ue (texts:=[w]) (tx:=.sl 1 [[.str w]] (some 1)) hd hH (Ey hL) (.of _ _ _) (by simp) ht g;exact⟨_,_,_,_,h1,Upd.refl hH,hL⟩
def kNUM:ByteArray:=⟨#[78,85,77,66,69,82]⟩
def kIS:ByteArray:=⟨#[73,83]⟩
theorem place_at{d:Nat}(hd:9≤d){H H2 H3 H4:List Xh}{g:Nat}{tx:D}{texts:List ByteArray}{x1:D}{b1 b2 w2 w3:Bool}{n:Nat}{H1:List Xh}(hX:SlD 1 (Cx texts) tx)(xJ:g<H.length)(hn4:¬H.length≤g)
  (h1:∀d',d=d'+1→∀lo,Ae LP NN d' 178 [.ptr g 0 0 0,.int .u8 1,tx] ⟨H,lo⟩=some (x1,⟨H1,min lo g⟩,true)) (h2:∀d',d=d'+1→Ae LP NN d' 182 [.ptr g 0 0 0,.sl 1 [[.str kNUM]] (some 1)] ⟨H1,g⟩=some (.bool b1,⟨H2,g⟩,w2))
  (h3:∀d',d=d'+1→Ae LP NN d' 182 [.ptr g 0 0 0,.sl 1 [[.str kIS]] (some 1)] ⟨H2,g⟩=some (.bool b2,⟨H3,g⟩,w3)) (h4:∀d',d=d'+1→Ae LP NN d' 110 [.ptr g 0 0 0] ⟨H3,g⟩=some (.int .i64 (n:Nat),⟨H4,g⟩,true)) (lo:Nat) :
  Ae LP NN d 183 [.ptr g 0 0 0,tx] ⟨H,lo⟩=some (.int .i64 (n:Nat),⟨H4,min lo g⟩,true):=by
 have xM:min H.length g=g:=by omega
 have wR:¬H.length≤g:=by omega
 have uF:min g H.length=g:=by omega
 have hmk:∀k:Nat,min g (H.length+k)=g:=fun k=>by omega
 have hh1:∀d',d=d'+1→Ae LP NN d' 178 [.ptr g 0 0 0,.int .u8 1,tx] ⟨H,H.length⟩=some (x1,⟨H1,g⟩,true):=fun d' e=>by rw[h1 d' e,xM]
 simp only[kNUM,kIS]at h2 h3;have zz:=aI xM (aI @kNUM.eq_1 (aI @kIS.eq_1 (aI hX.Xp hX.Xq)));refine raz (hb:=?_);rintro d rfl;refine g9 (q:=Aa (by simp only[zo,zz];exact hh1 d rfl) (g6 (q:=?_)))
 first
  | refine Aa (by simp only[zo,zz];exact h2 d rfl) ?_
  | refine Aa (by simp only[zo,zz];exact h3 d rfl) ?_
 refine g6 (q:=?_)
 first
  | refine Aa (by simp only[zo,zz];exact h2 d rfl) ?_
  | refine Aa (by simp only[zo,zz];exact h3 d rfl) ?_
 refine g5 (q:=Aa (by simp only[zo,zz];exact h4 d rfl) (g4 (q:=fq (h:=?_))));simp[leave,LP,Xt,Xp,snap,D.Xr,D.Xq,D.free,D.Xw,xM,wR,uF,hmk,hn4]
theorem place_run{d:Nat}(hd:9≤d){H:List Xh}{g a c m n:Nat}{lx ox tx:D}{texts:List ByteArray}(b1 b2:Bool){w:ByteArray}{L:List (Nat × ByteArray)}(hn:n<100)(hH:H[g]?=some (PO lx a c ox))(hX:SlD 1 (Cx texts) tx)(zi:texts.length≤1000000)(hb:isB 1 1 w texts=true)
  (hL:SlD 5 (Eo m ((1,w)::((if b1 then [(1,kNUM)] else [])++((if b2 then [(1,kIS)] else [])++(2,Fu n)::L)))) lx) :
  ∃H' lx' m',(∀lo,Ae LP NN d 183 [.ptr g 0 0 0,tx] ⟨H,lo⟩=some (.int .i64 (n:Nat),⟨H',min lo g⟩,true))∧Upd H H' g (PO lx' a c ox)∧SlD 5 (Eo m' L) lx':=by
 have xJ:=Aj hH;have h1:=Jl (d:=d-1) (by omega) hH (Ey hL) hX zi hb;have u1:=Upd.of xJ (PO (Cu 1 lx) a c ox) [tkO 1 w m 12,tkO 1 w m 12];have s1:=Gj hL
 have q2:∃H' lx' wr m',Ae LP NN (d-1) 182 [.ptr g 0 0 0,.sl 1 [[.str kNUM]] (some 1)] ⟨H.set g (PO (Cu 1 lx) a c ox)++[tkO 1 w m 12,tkO 1 w m 12],g⟩=some (.bool b1,⟨H',g⟩,wr)∧Upd (H.set g (PO (Cu 1 lx) a c ox)++[tkO 1 w m 12,tkO 1 w m 12]) H' g (PO lx' a c ox)∧SlD 5 (Eo m' ((if b2 then [(1,kIS)] else [])++(2,Fu n)::L)) lx':=by
  cases b2 with
  | true=>exact O3 (d:=d-1) (by omega) kNUM b1 (t:=(1,kIS)) u1.at_ s1 (by decide +kernel)
  | false=>exact O3 (d:=d-1) (by omega) kNUM b1 (t:=(2,Fu n)) u1.at_ s1 (by simp[isB])
 obtain⟨H2,lx2,w2,m2,h2,u2,s2⟩:=q2;obtain⟨H3,lx3,w3,m3,h3,u3,s3⟩:=O3 (d:=d-1) (by omega) kIS b2 (t:=(2,Fu n)) u2.at_ s2 (by simp[isB]);have h4:=number_at (d:=d-1) (by omega) hn u3.at_ (Ey s3) g;rw[Nat.min_self]at h4;have u4:=Upd.of (Aj u3.at_) (PO (Cu 1 lx3) a c ox) [tkO 2 (Fu n) m3 12,tkO 2 (Fu n) m3 12,tkO 2 (Fu n) m3 12];exact⟨_,_,_,fun lo=>place_at hd hX xJ (by omega) (fun d' e=>by subst e;exact h1) (fun d' e=>by subst e;exact h2) (fun d' e=>by subst e;exact h3) (fun d' e=>by subst e;exact h4) lo,u1.trans (u2.trans (u3.trans u4)),Gj s3⟩
def Dp (nu:Bool) (n:Nat):ByteArray:=if nu then ⟨(([90,90,90,90,90,57]:List UInt8).drop (6-n)).toArray⟩ else ⟨(List.replicate n 88).toArray⟩
theorem FM.pic_eq(f:FM):f.pic=Dp f.nu f.size:=rfl
def shpR (nu:Bool) (n:Nat):List D:=[.int .u8 (if nu then (if n=1 then 4 else 5) else 2),.int .u8 0,.str (Dp nu n),.int .i64 (if nu then (n:Nat) else 0),.int .i64 0,.bool false,.bool false,.bool false,.bool false,.bool false,.int .i64 (n:Nat)]
section
variable (d:Nat) (S:St)
theorem parse_T0:Bp LP NN (d+14) 68 [.str (Dp true 1)] S=some (.tup [.agg (shpR true 1),.int .i64 0],S,false):=by kernel_rfl
theorem parse_F0:Bp LP NN (d+14) 68 [.str (Dp false 1)] S=some (.tup [.agg (shpR false 1),.int .i64 0],S,false):=by kernel_rfl
theorem check_T0:Bp LP NN (d+16) 100 [.agg (shpR true 1)] S=some (.int .i64 0,S,false):=by kernel_rfl
theorem check_F0:Bp LP NN (d+16) 100 [.agg (shpR false 1)] S=some (.int .i64 0,S,false):=by kernel_rfl
theorem text_0:Bp LP NN (d+14) 105 [.int .i64 ((1:Nat):Int)] S=some (.agg (shpR false 1),S,false):=by kernel_rfl
theorem parse_T1:Bp LP NN (d+14) 68 [.str (Dp true 2)] S=some (.tup [.agg (shpR true 2),.int .i64 0],S,false):=by kernel_rfl
theorem parse_F1:Bp LP NN (d+14) 68 [.str (Dp false 2)] S=some (.tup [.agg (shpR false 2),.int .i64 0],S,false):=by kernel_rfl
theorem check_T1:Bp LP NN (d+16) 100 [.agg (shpR true 2)] S=some (.int .i64 0,S,false):=by kernel_rfl
theorem check_F1:Bp LP NN (d+16) 100 [.agg (shpR false 2)] S=some (.int .i64 0,S,false):=by kernel_rfl
theorem text_1:Bp LP NN (d+14) 105 [.int .i64 ((2:Nat):Int)] S=some (.agg (shpR false 2),S,false):=by kernel_rfl
theorem parse_T2:Bp LP NN (d+14) 68 [.str (Dp true 3)] S=some (.tup [.agg (shpR true 3),.int .i64 0],S,false):=by kernel_rfl
theorem parse_F2:Bp LP NN (d+14) 68 [.str (Dp false 3)] S=some (.tup [.agg (shpR false 3),.int .i64 0],S,false):=by kernel_rfl
theorem check_T2:Bp LP NN (d+16) 100 [.agg (shpR true 3)] S=some (.int .i64 0,S,false):=by kernel_rfl
theorem check_F2:Bp LP NN (d+16) 100 [.agg (shpR false 3)] S=some (.int .i64 0,S,false):=by kernel_rfl
theorem text_2:Bp LP NN (d+14) 105 [.int .i64 ((3:Nat):Int)] S=some (.agg (shpR false 3),S,false):=by kernel_rfl
theorem parse_T3:Bp LP NN (d+14) 68 [.str (Dp true 4)] S=some (.tup [.agg (shpR true 4),.int .i64 0],S,false):=by kernel_rfl
theorem parse_F3:Bp LP NN (d+14) 68 [.str (Dp false 4)] S=some (.tup [.agg (shpR false 4),.int .i64 0],S,false):=by kernel_rfl
theorem check_T3:Bp LP NN (d+16) 100 [.agg (shpR true 4)] S=some (.int .i64 0,S,false):=by kernel_rfl
theorem check_F3:Bp LP NN (d+16) 100 [.agg (shpR false 4)] S=some (.int .i64 0,S,false):=by kernel_rfl
theorem text_3:Bp LP NN (d+14) 105 [.int .i64 ((4:Nat):Int)] S=some (.agg (shpR false 4),S,false):=by kernel_rfl
theorem parse_T4:Bp LP NN (d+14) 68 [.str (Dp true 5)] S=some (.tup [.agg (shpR true 5),.int .i64 0],S,false):=by kernel_rfl
theorem parse_F4:Bp LP NN (d+14) 68 [.str (Dp false 5)] S=some (.tup [.agg (shpR false 5),.int .i64 0],S,false):=by kernel_rfl
theorem check_T4:Bp LP NN (d+16) 100 [.agg (shpR true 5)] S=some (.int .i64 0,S,false):=by kernel_rfl
theorem check_F4:Bp LP NN (d+16) 100 [.agg (shpR false 5)] S=some (.int .i64 0,S,false):=by kernel_rfl
theorem text_4:Bp LP NN (d+14) 105 [.int .i64 ((5:Nat):Int)] S=some (.agg (shpR false 5),S,false):=by kernel_rfl
theorem parse_T5:Bp LP NN (d+14) 68 [.str (Dp true 6)] S=some (.tup [.agg (shpR true 6),.int .i64 0],S,false):=by kernel_rfl
theorem parse_F5:Bp LP NN (d+14) 68 [.str (Dp false 6)] S=some (.tup [.agg (shpR false 6),.int .i64 0],S,false):=by kernel_rfl
theorem check_T5:Bp LP NN (d+16) 100 [.agg (shpR true 6)] S=some (.int .i64 0,S,false):=by kernel_rfl
theorem check_F5:Bp LP NN (d+16) 100 [.agg (shpR false 6)] S=some (.int .i64 0,S,false):=by kernel_rfl
theorem text_5:Bp LP NN (d+14) 105 [.int .i64 ((6:Nat):Int)] S=some (.agg (shpR false 6),S,false):=by kernel_rfl
theorem word_A:Bp LP NN (d+6) 181 [.str ⟨#[65]⟩] S=some (.int .u8 0,S,false):=by kernel_rfl
theorem word_B:Bp LP NN (d+6) 181 [.str ⟨#[66]⟩] S=some (.int .u8 0,S,false):=by kernel_rfl
end
section
variable {d:Nat} (hd:14≤d) (S:St)
include hd
theorem parse_run(f:FM):Ae LP NN d 68 [.str f.pic] S=some (.tup [.agg (shpR f.nu f.size),.int .i64 0],S,false):=by
 obtain⟨d,rfl⟩:∃d',d=d'+14:=⟨d-14,by omega⟩;have h:=f.size_le;rw[f.pic_eq];obtain⟨k,hk⟩:∃k,f.size=k+1:=⟨f.size-1,by omega⟩;rw[hk]
 cases f.nu with
 | true => match k, (show k < 6 by omega) with
   | 0,_=>exact fast_ok (parse_T0 d S)
   | 1,_=>exact fast_ok (parse_T1 d S)
   | 2,_=>exact fast_ok (parse_T2 d S)
   | 3,_=>exact fast_ok (parse_T3 d S)
   | 4,_=>exact fast_ok (parse_T4 d S)
   | 5,_=>exact fast_ok (parse_T5 d S)
 | false => match k, (show k < 6 by omega) with
   | 0,_=>exact fast_ok (parse_F0 d S)
   | 1,_=>exact fast_ok (parse_F1 d S)
   | 2,_=>exact fast_ok (parse_F2 d S)
   | 3,_=>exact fast_ok (parse_F3 d S)
   | 4,_=>exact fast_ok (parse_F4 d S)
   | 5,_=>exact fast_ok (parse_F5 d S)
theorem pcheck_run(hd:16≤d)(nu:Bool)(n:Nat)(h1:1≤n)(h6:n≤6):Ae LP NN d 100 [.agg (shpR nu n)] S=some (.int .i64 0,S,false):=by
 obtain⟨d,rfl⟩:∃d',d=d'+16:=⟨d-16,by omega⟩;obtain⟨k,rfl⟩:∃k,n=k+1:=⟨n-1,by omega⟩
 cases nu with
 | true => match k, (show k < 6 by omega) with
   | 0,_=>exact fast_ok (check_T0 d S)
   | 1,_=>exact fast_ok (check_T1 d S)
   | 2,_=>exact fast_ok (check_T2 d S)
   | 3,_=>exact fast_ok (check_T3 d S)
   | 4,_=>exact fast_ok (check_T4 d S)
   | 5,_=>exact fast_ok (check_T5 d S)
 | false => match k, (show k < 6 by omega) with
   | 0,_=>exact fast_ok (check_F0 d S)
   | 1,_=>exact fast_ok (check_F1 d S)
   | 2,_=>exact fast_ok (check_F2 d S)
   | 3,_=>exact fast_ok (check_F3 d S)
   | 4,_=>exact fast_ok (check_F4 d S)
   | 5,_=>exact fast_ok (check_F5 d S)
theorem stext_run(n:Nat)(h1:1≤n)(h6:n≤6):Ae LP NN d 105 [.int .i64 (n:Nat)] S=some (.agg (shpR false n),S,false):=by
 obtain⟨d,rfl⟩:∃d',d=d'+14:=⟨d-14,by omega⟩;obtain⟨k,rfl⟩:∃k,n=k+1:=⟨n-1,by omega⟩
 match k,(show k<6 by omega) with
  | 0,_=>exact fast_ok (text_0 d S)
  | 1,_=>exact fast_ok (text_1 d S)
  | 2,_=>exact fast_ok (text_2 d S)
  | 3,_=>exact fast_ok (text_3 d S)
  | 4,_=>exact fast_ok (text_4 d S)
  | 5,_=>exact fast_ok (text_5 d S)
theorem wordA_run:Ae LP NN d 181 [.str ⟨#[65]⟩] S=some (.int .u8 0,S,false):=by
 obtain⟨d,rfl⟩:∃d',d=d'+6:=⟨d-6,by omega⟩;exact fast_ok (word_A d S)
theorem wordB_run:Ae LP NN d 181 [.str ⟨#[66]⟩] S=some (.int .u8 0,S,false):=by
 obtain⟨d,rfl⟩:∃d',d=d'+6:=⟨d-6,by omega⟩;exact fast_ok (word_B d S)
end
theorem djl(x:Option (List Nat)):dj (some []) x=true:=by cases x<;>rfl
theorem djr(x:Option (List Nat)):dj x (some [])=true:=by
 rcases x with _ | l
 ·
  rfl
 cases l<;>rfl
theorem djs(l m:List Nat):dj (some l) (some m)=l.all fun g=>!(m.contains g):=by
 cases l with
 | nil=>rfl
 | cons a l=>cases m with
  | nil=>simp[djr]
  | cons b m=>rfl
theorem K6{m:Nat}{news:List (TypeId × List D)}{l:LOp}{args:List Xk}{g:Option (Nat × Bool)}{bs b0:List Bool}{ho:Option Nat}{fps:List FP}{fp:FP}{S':St}(hb:b0=bs:=by first | (conv=>lhs;cbv) | exact rfl)(h:Ar m news ⟨l,args,g,bs,ho⟩ fps fp S'=true:=by first | rfl | (simp[Xo,Ay,Ar,Cf,Ap,Bn,djl,djr,djs,Am,Af,Az,Ba,Cq,Bv,Cc,Aw];done) | (simp[Xo,Ay,Ar,Cf,Ap,Bn,djl,djr,djs,Am,Af,Az,Ba,Cq,Bv,Cc,Aw,zz];done) | (simp[Xo,Ay,Ar,Cf,Ap,Bn,djl,djr,djs,Am,Af,Az,Ba,Cq,Bv,Cc,Aw,Ej,E9,Fq,Ir,zz];done) | (simp[Xo,Ay,Ar,Cf,Ap,Bn,djl,djr,djs,Am,Af,Az,Ba,Cq,Bv,Cc,Aw,zz];omega)):Ar m news ⟨l,args,g,b0,ho⟩ fps fp S'=true:=by
 rw[hb];exact h
theorem chg_ge:∀(l m:List Xh) (k i:Nat),i∈chg l m k→k≤i
 | [],[],k,i,h=>by simp[chg]at h
 | [], b :: m, k, i, h => by
  rw[chg,List.mem_cons]at h;rcases h with rfl | h
  ·
   exact Nat.le_refl _
  have:=chg_ge [] m (k+1) i h;omega
 | a :: l, [], k, i, h => by
  rw[chg,List.mem_cons]at h;rcases h with rfl | h
  ·
   exact Nat.le_refl _
  have:=chg_ge l [] (k+1) i h;omega
 | a :: l, b :: m, k, i, h => by
  rw[chg]at h;split at h
  ·
   have:=chg_ge l m (k+1) i h;omega
  rw[List.mem_cons]at h;rcases h with rfl | h
  ·
   exact Nat.le_refl _
  have:=chg_ge l m (k+1) i h;omega
theorem chg_not:∀{l m:List Xh} {k g:Nat} {a b:Xh},l[g]?=some a→m[g]?=some b→a.eqb b=true→¬(k+g)∈chg l m k
 | [],m,k,g,a,b,h1,_,_=>by simp at h1
 | x::l,[],k,g,a,b,_,h2,_=>by simp at h2
 | x::l,y::m,k,0,a,b,h1,h2,he=>by
  simp only[Lz,Oi]at h1 h2;subst h1 h2;rw[chg,if_pos he];intro h;have:=chg_ge l m (k+1) _ h;omega
 | x :: l, y :: m, k, g + 1, a, b, h1, h2, he => by
  rw[Ls_]at h1 h2;have ih:=chg_not (k:=k+1) h1 h2 he;rw[show k+1+g=k+(g+1) by omega]at ih;rw[chg];split
  ·
   exact ih
  rw[List.mem_cons];rintro (h | h)
  ·
   omega
  exact ih h
theorem Tn{l m:List Xh}{g:Nat}{a b:Xh}(h1:l[g]?=some a)(h2:m[g]?=some b)(he:a.eqb b=true):¬g∈chg l m 0:=by
 have:=chg_not (k:=0) h1 h2 he;rwa [Nat.zero_add]at this
def FO (row:List D):Xh:=⟨125,16,[row],0,0,false⟩
def tok00:List D:=tkR 0 ⟨#[]⟩ 0 0
def Jy:ByteArray:=⟨#[86,65,76,85,69]⟩
def kPIC:ByteArray:=⟨#[80,73,67]⟩
def Sv:ByteArray:=⟨#[80,73,67,84,85,82,69]⟩
def kFROM:ByteArray:=⟨#[70,82,79,77]⟩
def kTO:ByteArray:=⟨#[84,79]⟩
def kUSING:ByteArray:=⟨#[85,83,73,78,71]⟩
structure Upd2 (H H':List Xh) (g:Nat) (o:Xh) (f:Nat) (p:Xh):Prop where
 at1:H'[g]?=some o
 at2:H'[f]?=some p
 len:H.length≤H'.length
 ne:∀k,k<H.length→k≠g→k≠f→H'[k]?=H[k]?
theorem Oc(s:ByteArray):(byteRows s).length=s.size:=by simp only[byteRows,List.length_map];exact Array.length_toList
def K4:Xh:=⟨116,5,[[.int .u8 0,.str ⟨#[]⟩,.int .i64 0,.int .i64 0,.bool false]],0,0,false⟩
theorem Qc{H l:List Xh}{g k:Nat}{x:Xh}(hk:k<H.length)(hn:k≠g):(H.set g x++l)[k]?=H[k]?:=by
 rw[Bj (by simpa using hk),Ln_ (Ne.symm hn)]
theorem set_same{H:List Xh}{g k:Nat}{x o:Xh}(h:H[k]?=some o)(hn:k≠g):(H.set g x).set k o=H.set g x:=by
 refine List.ext_getElem? fun j=>?_;rw[List.getElem?_set];by_cases hj:k=j
 ·
  subst hj;rw[if_pos rfl,if_pos (by simpa using Aj h),Ln_ (Ne.symm hn)];exact h.symm
 rw[if_neg hj]
theorem value_lit{d:Nat}(hd:16≤d){H H1 H2 H3:List Xh}{g gf n l0 c0:Nat}{a0 a1 a2 a3 a4 a5 a6 a7 a8 a9 a10 a11 a12 a13 a14 a15:D}{b2 w2:Bool}{s:ByteArray}(hgf:gf<H.length)(rH:g<gf)
  (h1:∀d',d=d'+1→Ae LP NN d' 182 [.ptr g 0 0 0,.sl 1 [[.str Jy]] (some 1)] ⟨H++[K4],H.length⟩=some (.bool true,⟨H1,g⟩,true))
  (h2:∀d',d=d'+1→Ae LP NN d' 182 [.ptr g 0 0 0,.sl 1 [[.str kIS]] (some 1)] ⟨H1,g⟩=some (.bool b2,⟨H2,g⟩,w2))
  (h3:∀d',d=d'+1→Ae LP NN d' 178 [.ptr g 0 0 0,.int .u8 3,.X4] ⟨H2,g⟩=some (.agg (tkR 3 s l0 c0),⟨H3,g⟩,true))
  (hF:H3[gf]?=some (FO [a0,a1,a2,a3,a4,a5,a6,a7,a8,a9,a10,a11,a12,a13,a14,a15])) (hZ:H3[H.length]?=some (K4)) (hs:s.size=n) (h1n:1≤n) (hn:n≤6) (lo:Nat) :
  Ae LP NN d 184 [.ptr g 0 0 0,.ptr gf 0 0 0] ⟨H,lo⟩=some (.agg tok00,⟨H3.set gf (FO ([a0,a1,.int .u8 1,.sl 1 (byteRows s) none]++shpR false n++[a15]))++[tkO 3 s l0 c0],min lo g⟩,true):=by
 have h3f:=Aj hF;have h3z:=Aj hZ;have hfz:¬gf=H.length:=by omega
 have hfz2:¬gf=H3.length:=by omega
 have hgfp:¬H3.length=gf:=by omega
 have hgf2:¬H.length=gf:=by omega
 have hA:∀l,(H3++l)[gf]?=some (FO [a0,a1,a2,a3,a4,a5,a6,a7,a8,a9,a10,a11,a12,a13,a14,a15]):=fun l=>by rw[Bj h3f];exact hF
 have hS1:∀l x,(H3++l).set gf x=H3.set gf x++l:=fun l x=>Em h3f x;have hA2:∀l x,(H3.set gf x++l)[gf]?=some x:=fun l x=>by rw[Bj (by simpa using h3f)];exact Et h3f x
 have hS2:∀l x y,(H3.set gf x++l).set gf y=H3.set gf y++l:=fun l x y=>by rw[Em (by simpa using h3f),List.set_set]
 have hZ1:∀l x,(H3.set gf x++l)[H.length]?=some (K4):=fun l x=>by rw[Qc h3z hgf2];exact hZ
 have hS3:∀l x,(H3.set gf x++l).set H.length (K4)=H3.set gf x++l:=fun l x=>by rw[Em (by simpa using h3z),set_same hZ hgf2]
 have hS4:∀l x,(H3.set gf x++l)[H3.length]?=l[0]?:=fun l x=>Tv H3 l gf x;have hS5:∀l,(H3++l)[H3.length]?=l[0]?:=fun l=>Bf H3 l;have hS6:∀l x,(H3++l).set H3.length x=H3++l.set 0 x:=fun l x=>Ca H3 l x;have hS7:(0:Nat)=0:=rfl;have wD:(byteRows s).length=n:=(Oc s).trans hs
 have xA:(s.toList==(⟨#[]⟩:ByteArray).toList)=false:=by
  rw[beq_eq_false_iff_ne];intro e;have:=(baeq s ⟨#[]⟩).1 e;rw[this]at hs;simp[ByteArray.size]at hs;omega
 have xM:min H.length g=g:=by omega
 have wR:¬H.length≤g:=by omega
 have hmins:min g (min H3.length (min gf H.length))=g:=by omega
 simp only[Jy,kIS]at h1 h2;simp only[K4]at h1;have hS3p:=hS3;have hZ1p:=hZ1;simp only[K4]at hS3p hZ1p;have zz:=aI hA (aI hA2 (aI hZ1p (aI hS1 (aI hS2 (aI hS3p (aI hS4 (aI hS5 (aI hS6 (aI hS7 (aI xA (aI wD (aI @tkO.eq_1 (aI @tkR.eq_1 (aI @tok00.eq_1 (aI @FO.eq_1 (aI @shpR.eq_1 xM))))))))))))))));refine raz (hb:=?_);rintro d rfl;refine g12 (q:=?_)
 first
  | refine Aa (by simp only[zo,zz];exact h1 d rfl) ?_
  | refine Aa (by simp only[zo,zz];exact h2 d rfl) ?_
 refine g9 (q:=?_)
 first
  | refine Aa (by simp only[zo,zz];exact h1 d rfl) ?_
  | refine Aa (by simp only[zo,zz];exact h2 d rfl) ?_
 refine g7 (q:=Aa (by simp only[zo,zz];exact h3 d rfl) (g24 (q:=?_)));have zz:=aI hfz (aI hfz2 (aI hgfp (aI hgf2 zz)));refine g14 (q:=Aa (by simp only[zo,zz];exact stext_run (by omega) _ _ h1n hn) (g13 (q:=?_)));refine⟨_,by simp only[F184,P184,mkP,Ce,En,I5,zg,zd,rowsOf,Ci,List.take,List.drop,zm,hZ1p]<;>exact rfl,?_⟩;simp[leave,LP,Xt,Xp,snap,D.Xr,D.Xq,D.free,D.Xw,hmins,wR,Bl,tok00,tkR,tkO,FO,shpR]
section
variable (d:Nat) (S:St) (k l c:Int) (s:ByteArray) (b:Bool) (cap:Option Nat)
theorem clone_one:Bp LP NN (d+2) 64 [.sl 5 [[.int .u8 k,.str s,.int .i64 l,.int .i64 c,.bool b]] cap] S=some (.sl 5 [[.int .u8 k,.str s,.int .i64 l,.int .i64 c,.bool b]] none,S,false):=by kernel_rfl
theorem clip_one:Bp LP NN (d+2) 63 [.sl 5 [[.int .u8 k,.str s,.int .i64 l,.int .i64 c,.bool b]] none] S=some (.sl 5 [[.int .u8 k,.str s,.int .i64 l,.int .i64 c,.bool b]] (some 1),S,false):=by kernel_rfl
end
theorem clone1_run{d:Nat}(hd:2≤d)(S:St)(k l c:Nat)(s:ByteArray)(cap:Option Nat):Ae LP NN d 64 [.sl 5 [tkR k s l c] cap] S=some (.sl 5 [tkR k s l c] none,S,false):=by
 obtain⟨d,rfl⟩:∃d',d=d'+2:=⟨d-2,by omega⟩;exact fast_ok (clone_one d S _ _ _ s false cap)
theorem clip1_run{d:Nat}(hd:2≤d)(S:St)(k l c:Nat)(s:ByteArray):Ae LP NN d 63 [.sl 5 [tkR k s l c] none] S=some (.sl 5 [tkR k s l c] (some 1),S,false):=by
 obtain⟨d,rfl⟩:∃d',d=d'+2:=⟨d-2,by omega⟩;exact fast_ok (clip_one d S _ _ _ s false)
def kwMap:List (List D):=[[.str ⟨#[70,82,79,77]⟩,.int .u8 2],[.str ⟨#[84,79]⟩,.int .u8 3],[.str ⟨#[85,83,73,78,71]⟩,.int .u8 4]]
theorem kw_find(k:Nat)(h1:2≤k)(h2:k≤4):Lh (.str (kwB k)) kwMap 0=some (some (k-2,.int .u8 (k:Nat))):=by
 match k,h1,h2 with
 | 2,_,_=>rfl
 | 3,_,_=>rfl
 | 4,_,_=>rfl
 | n+5,_,h=>omega
def mapO:Xh:=⟨0,2,kwMap,0,3,false⟩
theorem value_pic{d:Nat}(hd:16≤d){H H1 H2 H3 H4:List Xh}{g gf a c l0 c0 l1 c1 l2 c2 k kk:Nat}{a0 a1 a2 a3 a4 a5 a6 a7 a8 a9 a10 a11 a12 a13 a14 a15 x1 ox:D}{cap:Option Nat}{b2 w2:Bool}{s w s2:ByteArray}(hgf:gf<H.length)(rH:g<gf)
  (h1:∀d',d=d'+1→Ae LP NN d' 182 [.ptr g 0 0 0,.sl 1 [[.str Jy]] (some 1)] ⟨H++[K4],H.length⟩=some (.bool false,⟨H++[K4],H.length⟩,false))
  (h1b:∀d',d=d'+1→Ae LP NN d' 178 [.ptr g 0 0 0,.int .u8 1,.sl 1 [[.str kPIC],[.str Sv]] (some 2)] ⟨H++[K4],H.length⟩=some (x1,⟨H1,g⟩,true))
  (h2:∀d',d=d'+1→Ae LP NN d' 182 [.ptr g 0 0 0,.sl 1 [[.str kIS]] (some 1)] ⟨H1,g⟩=some (.bool b2,⟨H2,g⟩,w2))
  (h3:∀d',d=d'+1→Ae LP NN d' 178 [.ptr g 0 0 0,.int .u8 4,.X4] ⟨H2,g⟩=some (.agg (tkR 4 s l0 c0),⟨H3,g⟩,true))
  (h4:∀d',d=d'+1→Ae LP NN d' 178 [.ptr g 0 0 0,.int .u8 1,.sl 1 [[.str kFROM],[.str kTO],[.str kUSING]] (some 3)] ⟨H3++[tkO 4 s l0 c0,mapO],g⟩=some (.agg (tkR 1 w l1 c1),⟨H4,g⟩,true))
  (kT:Lh (.str w) [[.str ⟨#[70,82,79,77]⟩,.int .u8 2],[.str ⟨#[84,79]⟩,.int .u8 3],[.str ⟨#[85,83,73,78,71]⟩,.int .u8 4]] 0=some (some (kk,.int .u8 (k:Nat)))) (xg:H.length<H3.length)
  (kg:H4[g]?=some (PO (.sl 5 [tkR 1 s2 l2 c2] cap) a c ox)) (vS:H4[gf]?=some (FO [a0,a1,a2,a3,a4,a5,a6,a7,a8,a9,a10,a11,a12,a13,a14,a15])) (h4z:H4[H.length]?=some K4) (h4t:H4[H3.length]?=some (tkO 4 s l0 c0)) (h4m:H4[H3.length+1]?=some mapO) (lo:Nat) :
  Ae LP NN d 184 [.ptr g 0 0 0,.ptr gf 0 0 0] ⟨H,lo⟩=some (.agg (tkR 4 s l0 c0),⟨((H4.set gf (FO [a0,a1,.int .u8 (k:Nat),a3,a4,a5,a6,a7,a8,a9,a10,a11,a12,a13,a14,.sl 5 [tkR 1 s2 l2 c2] (some 1)])).set g (PO .X4 a c ox)).set H.length (tkO 4 s l0 c0),min lo g⟩,true):=by
 have hg4:=Aj kg;have hf4:=Aj vS;have hz4:=Aj h4z;have ht4:=Aj h4t;have hm4:=Aj h4m;have uE:(gf=g)=False:=eq_false (by omega);have qy:(g=H.length)=False:=eq_false (by omega);have hn3:(gf=H3.length)=False:=eq_false (by omega);have hn4:(g=H3.length)=False:=eq_false (by omega);have hn5:(gf=H3.length+1)=False:=eq_false (by omega);have hn6:(g=H3.length+1)=False:=eq_false (by omega);have hn7:(gf=H.length)=False:=eq_false (by omega);have hn8:(g=gf)=False:=eq_false (by omega);have hn9:(H.length=H3.length)=False:=eq_false (by omega);have r9:(gf<H4.length)=True:=eq_true hf4;have wu:(g<H4.length)=True:=eq_true hg4;have rW:(H.length<H4.length)=True:=eq_true hz4;have hl4:(H3.length<H4.length)=True:=eq_true ht4;have hl5:(H3.length+1<H4.length)=True:=eq_true hm4;have xM:min H.length g=g:=by omega
 have hmin3:min g H3.length=g:=by omega
 have hmin4:min g (H3.length+1)=g:=by omega
 have wR:¬H.length≤g:=by omega
 have hmins:min g (min gf H.length)=g:=by omega
 simp only[Jy,kIS,kPIC,Sv,kFROM,kTO,kUSING]at h1 h1b h2 h4;simp only[K4,tkO,tkR,PO,FO,mapO,kwMap]at h1 h1b h4 kg vS h4z h4t h4m;have zz:=aI @List.getElem?_set.{0} (aI @List.length_set.{0} (aI @List.set_set.{0} (aI kg (aI vS (aI h4z (aI h4t (aI h4m (aI uE (aI qy (aI hn3 (aI hn4 (aI hn5 (aI hn6 (aI hn7 (aI hn8 (aI hn9 (aI r9 (aI wu (aI rW (aI hl4 (aI hl5 (aI @tkO.eq_1 (aI @tkR.eq_1 (aI @PO.eq_1 (aI @FO.eq_1 (aI @mapO.eq_1 (aI @Bd (aI @Bf (aI @Cb (aI @Ca (aI hmin3 hmin4)))))))))))))))))))))))))))))));refine raz (hb:=?_);rintro d rfl;refine g12 (q:=?_)
 first
  | refine Aa (by simp only[zo,zz];exact h1 d rfl) ?_
  | refine Aa (by simp only[zo,zz];exact h2 d rfl) ?_
 refine g11 (q:=?_)
 first
  | refine Aa (by simp only[zo,zz];exact h1b d rfl) ?_
  | refine Aa (by simp only[zo,zz];exact h3 d rfl) ?_
  | refine Aa (by simp only[zo,zz];exact h4 d rfl) ?_
 refine g8 (q:=?_)
 first
  | refine Aa (by simp only[zo,zz];exact h1 d rfl) ?_
  | refine Aa (by simp only[zo,zz];exact h2 d rfl) ?_
 refine g7 (q:=?_)
 first
  | refine Aa (by simp only[zo,zz];exact h1b d rfl) ?_
  | refine Aa (by simp only[zo,zz];exact h3 d rfl) ?_
  | refine Aa (by simp only[zo,zz];exact h4 d rfl) ?_
 refine g22 (q:=?_)
 first
  | refine Aa (by simp only[zo,zz];exact h1b d rfl) ?_
  | refine Aa (by simp only[zo,zz];exact h3 d rfl) ?_
  | refine Aa (by simp only[zo,zz];exact h4 d rfl) ?_
 refine g15 (q:=Aa (by simp only[zo,zz];exact clone1_run (by omega) _ _ _ _ _ _) (Aa (by simp only[zo,zz];exact clip1_run (by omega) _ _ _ _ _) (g21 (q:=?_))));refine⟨_,by simp only[F184,P184,mkP,Ce,En,I5,zg,zd,rowsOf,Ci,List.take,List.drop,zm,List.getElem?_set,List.length_set,List.set_set,kg,vS,h4z,h4t,h4m,uE,qy,hn3,hn4,hn5,hn6,hn7,hn8,hn9,r9,wu,rW,hl4,hl5,tkO,tkR,PO,FO,mapO,Bd,Bf,Cb,Ca,hmin3,hmin4]<;>exact rfl,?_⟩;simp[leave,LP,Xt,Xp,snap,D.Xr,D.Xq,D.free,D.Xw,Bl,hmins,wR,tkR,tkO,FO,PO]
def tailL (f:FM):List (Nat × ByteArray):=if f.kind=1 then (if f.lo then [(1,Jy),(1,kIS),(3,f.text)] else [(1,Jy),(3,f.text)]) else [(1,kPIC),(4,f.pic),(1,kwB f.kind),(1,⟨#[78]⟩)]
def shp0:List D:=[.int .u8 0,.int .u8 0,.str ⟨#[]⟩,.int .i64 0,.int .i64 0,.bool false,.bool false,.bool false,.bool false,.bool false,.int .i64 0]
def row1 (f:FM):List D:=[.int .i64 (f.line:Nat),.int .i64 (f.column:Nat),.int .u8 0,.X4]++shp0++[.X4]
def row2 (f:FM) (p:Nat):List D:=if f.kind=1 then [.int .i64 (f.line:Nat),.int .i64 (f.column:Nat),.int .u8 1,.sl 1 (byteRows f.text) none]++shpR false f.size++[.X4]
 else [.int .i64 (f.line:Nat),.int .i64 (f.column:Nat),.int .u8 (f.kind:Nat),.X4]++shp0++[.sl 5 [tkR 1 ⟨#[78]⟩ p 12] (some 1)]
theorem Qj(f:FM):f.text.size=f.size:=by
 have h:=f.size_le;unfold FM.text;rw[show (⟨(([65,66,67,68,69,70]:List UInt8).take f.size).toArray⟩:ByteArray).size=(([65,66,67,68,69,70]:List UInt8).take f.size).toArray.size from rfl,List.size_toArray,List.length_take];simp;omega
theorem Upd.lt{H H':List Xh}{g k:Nat}{o x:Xh}(u:Upd H H' g o)(hn:k≠g)(h:H[k]?=some x):H'[k]?=some x:=(u.ne k (Aj h) hn).trans h
theorem kw_isB(k:Nat)(h1:2≤k)(h2:k≤4):isB 1 1 (kwB k) [kFROM,kTO,kUSING]=true:=by
 match k,h1,h2 with
 | 2,_,_=>decide +kernel
 | 3,_,_=>decide +kernel
 | 4,_,_=>decide +kernel
 | n+5,_,h=>omega
theorem value_run{d:Nat}(hd:16≤d){H:List Xh}{g gf a c m:Nat}{lx ox:D}(f:FM)(rH:g<gf)(hH:H[g]?=some (PO lx a c ox))(hF:H[gf]?=some (FO (row1 f)))(hL:SlD 5 (Eo m (tailL f)) lx) :
  ∃H' lx' p q,(∀lo,Ae LP NN d 184 [.ptr g 0 0 0,.ptr gf 0 0 0] ⟨H,lo⟩=some (.agg (if f.kind=1 then tok00 else tkR 4 f.pic q 12),⟨H',min lo g⟩,true))∧Upd2 H H' g (PO lx' a c ox) gf (FO (row2 f p))∧SlD 5 [] lx':=by
 have xJ:=Aj hH;have rz:=Aj hF;have hk:=f.kind_le;have xC:=f.size_le;have hz:(H++[K4])[H.length]?=some K4:=by simp
 have hH0:(H++[K4])[g]?=some (PO lx a c ox):=by rw[Bj xJ];exact hH
 have hF0:(H++[K4])[gf]?=some (FO (row1 f)):=by rw[Bj rz];exact hF
 have hn0:∀k,k<H.length→(H++[K4])[k]?=H[k]?:=fun k hk=>Bj hk;have xM:min H.length g=g:=by omega
 by_cases h1:f.kind=1
 ·
  -- a literal
  simp only[tailL,h1,if_true]at hL
  have q:∃H1 lx1 m1,Ae LP NN (d-1) 182 [.ptr g 0 0 0,.sl 1 [[.str Jy]] (some 1)] ⟨H++[K4],H.length⟩=some (.bool true,⟨H1,g⟩,true)∧Upd (H++[K4]) H1 g (PO lx1 a c ox)∧SlD 5 (Eo m1 ((if f.lo then [(1,kIS)] else [])++[(3,f.text)])) lx1:=by
   have hL':SlD 5 (Eo m ((1,Jy)::((if f.lo then [(1,kIS)] else [])++[(3,f.text)]))) lx:=by
    cases xU:f.lo<;>simp only[xU,if_true,if_false,Bool.false_eq_true]at hL ⊢<;>exact hL
   have s:=skip_hit (d:=d-1) (texts:=[Jy]) (tx:=.sl 1 [[.str Jy]] (some 1)) (by omega) hH0 (Ey hL') (.of _ _ _) (by simp) (by simp[isB]) H.length;rw[xM]at s;exact⟨_,_,_,s,by have:=Upd.of (Aj hH0) (PO (Cu 1 lx) a c ox) [];rwa [List.append_nil]at this,Gj hL'⟩
  obtain⟨H1,lx1,m1,r1,u1,s1⟩:=q;obtain⟨H2,lx2,w2,m2,r2,u2,s2⟩:=O3 (d:=d-1) (by omega) kIS f.lo (t:=(3,f.text)) (L:=[]) u1.at_ s1 (by simp[isB]);have r3:=Jl (d:=d-1) (kd:=3) (by omega) u2.at_ (Ey s2) (texts:=[]) (.nil 1) (by simp) (Sz 3 _) g;rw[Nat.min_self]at r3;have u3:=Upd.of (Aj u2.at_) (PO (Cu 1 lx2) a c ox) [tkO 3 f.text m2 12,tkO 3 f.text m2 12];have u:=u1.trans (u2.trans u3);have hf3:=u.lt (by omega) hF0;have hz3:=u.lt (by omega) hz;have e2:row2 f 0=[.int .i64 (f.line:Nat),.int .i64 (f.column:Nat),.int .u8 1,.sl 1 (byteRows f.text) none]++shpR false f.size++[.X4]:=if_pos h1;generalize hH3:(H2.set g (PO (Cu 1 lx2) a c ox)++[tkO 3 f.text m2 12,tkO 3 f.text m2 12])=H3 at r3 u3 u hf3 hz3;refine⟨H3.set gf (FO (row2 f 0))++[tkO 3 f.text m2 12],Cu 1 lx2,0,0,fun lo=>?_,?_,?_⟩
  ·
   rw[if_pos h1,e2];exact value_lit hd rz rH (fun d' e=>by subst e;exact r1) (fun d' e=>by subst e;exact r2) (fun d' e=>by subst e;exact r3) hf3 hz3 (Qj f) xC.1 xC.2 lo
  ·
   have xq:=u.len;rw[Ll_,List.length_cons,List.length_nil]at xq;refine⟨by rw[Qc (Aj u.at_) (by omega)];exact u.at_,?_,by rw[Ll_,List.length_set];omega,fun k hk h2 h3=>?_⟩
   ·
    rw[Bj (by rw[List.length_set];exact Aj hf3),Et (Aj hf3)]
   rw[Qc (by omega) h3,u.ne k (by rw[Ll_];omega) h2];exact hn0 k hk
  have:=Gj s2;exact this
 -- with a picture
 simp only[tailL,h1,if_false]at hL;have wW:=kw_isB f.kind (by omega) hk.2;have r0:=Ue (d:=d-1) (texts:=[Jy]) (tx:=.sl 1 [[.str Jy]] (some 1)) (by omega) hH0 (Ey hL) (.of _ _ _) (by simp) (by decide +kernel) H.length;have r1:=Jl (d:=d-1) (kd:=1) (by omega) hH0 (Ey hL) (texts:=[kPIC,Sv]) (tx:=.sl 1 [[.str kPIC],[.str Sv]] (some 2)) (.of _ _ _) (by simp) (by decide +kernel) H.length;rw[xM]at r1;have u1:=Upd.of (Aj hH0) (PO (Cu 1 lx) a c ox) [tkO 1 kPIC m 12,tkO 1 kPIC m 12];have s1:=Gj hL;obtain⟨H2,lx2,w2,m2,r2,u2,s2⟩:=O3 (d:=d-1) (by omega) kIS false (t:=(4,f.pic)) (L:=[(1,kwB f.kind),(1,⟨#[78]⟩)]) u1.at_ s1 (by simp[isB]);have r3:=Jl (d:=d-1) (kd:=4) (by omega) u2.at_ (Ey s2) (texts:=[]) (.nil 1) (by simp) (Sz 4 _) g;rw[Nat.min_self]at r3;have u3:=Upd.of (Aj u2.at_) (PO (Cu 1 lx2) a c ox) [tkO 4 f.pic m2 12,tkO 4 f.pic m2 12];have s3:=Gj s2;have u:=u1.trans (u2.trans u3);generalize hH3:(H2.set g (PO (Cu 1 lx2) a c ox)++[tkO 4 f.pic m2 12,tkO 4 f.pic m2 12])=H3 at r3 u u3;have h3g:(H3++[tkO 4 f.pic m2 12,mapO])[g]?=some (PO (Cu 1 lx2) a c ox):=by rw[Bj (Aj u.at_)];exact u.at_
 have r4:=Jl (d:=d-1) (kd:=1) (by omega) h3g (Ey s3) (texts:=[kFROM,kTO,kUSING]) (tx:=.sl 1 [[.str kFROM],[.str kTO],[.str kUSING]] (some 3)) (.of _ _ _) (by simp) wW g;rw[Nat.min_self]at r4;have s4:=Gj s3;have u4:=(u.app [tkO 4 f.pic m2 12,mapO]).trans (Upd.of (Aj h3g) (PO (Cu 1 (Cu 1 lx2)) a c ox) [tkO 1 (kwB f.kind) (m2+1) 12,tkO 1 (kwB f.kind) (m2+1) 12]);have u4':=Upd.of (Aj h3g) (PO (Cu 1 (Cu 1 lx2)) a c ox) [tkO 1 (kwB f.kind) (m2+1) 12,tkO 1 (kwB f.kind) (m2+1) 12];generalize hH4:((H3++[tkO 4 f.pic m2 12,mapO]).set g (PO (Cu 1 (Cu 1 lx2)) a c ox)++[tkO 1 (kwB f.kind) (m2+1) 12,tkO 1 (kwB f.kind) (m2+1) 12])=H4 at r4 u4 u4';have wN:H.length<H3.length:=by have:=u.len;rw[Ll_,List.length_cons,List.length_nil]at this;omega
 have h4t:H4[H3.length]?=some (tkO 4 f.pic m2 12):=u4'.lt (by omega) (Bf H3 _);have h4m:H4[H3.length+1]?=some mapO:=u4'.lt (by omega) (Bd H3 _ 1);have vS:=u4.lt (k:=gf) (by omega) hF0;have h4z:=u4.lt (k:=H.length) (by omega) hz;have kg:=u4.at_;rcases s4 with⟨_,hbad⟩ | ⟨cap,xB⟩
 ·
  simp[Eo]at hbad
 rw[show Eo (m2+1+1) [(1,⟨#[78]⟩)]=[tkR 1 ⟨#[78]⟩ (m2+2) 12] from rfl]at xB;rw[xB]at kg;have e2:row2 f (m2+2)=[.int .i64 (f.line:Nat),.int .i64 (f.column:Nat),.int .u8 (f.kind:Nat),.X4]++shp0++[.sl 5 [tkR 1 ⟨#[78]⟩ (m2+2) 12] (some 1)]:=if_neg h1;refine⟨((H4.set gf (FO (row2 f (m2+2)))).set g (PO .X4 a c ox)).set H.length (tkO 4 f.pic m2 12),.X4,m2+2,m2,fun lo=>?_,?_,.nil 5⟩
 ·
  rw[if_neg h1,e2];exact value_pic hd rz rH (fun d' e=>by subst e;exact r0) (fun d' e=>by subst e;exact r1) (fun d' e=>by subst e;exact r2) (fun d' e=>by subst e;exact r3) (fun d' e=>by subst e;exact r4) (kw_find f.kind (by omega) hk.2) wN kg vS h4z h4t h4m lo
 refine⟨?_,?_,?_,fun k hk h2 h3=>?_⟩
 ·
  rw[Ln_ (by omega),List.getElem?_set_self (by rw[List.length_set];exact Aj kg)]
 ·
  rw[Ln_ (by omega),Ln_ (by omega),List.getElem?_set_self (Aj vS)]
 ·
  rw[List.length_set,List.length_set,List.length_set];have:=Aj h4z;omega
 rw[Ln_ (by omega),Ln_ (Ne.symm h2),Ln_ (Ne.symm h3),u4.ne k (by rw[Ll_];omega) h2];exact hn0 k hk
theorem fits_run{d:Nat}(hd:2≤d)(S:St)(f:FM)(nu:Bool)(k:Nat){tx op:D}{r1 r2:List (List D)}(ht:SlD 1 r1 tx)(ho:SlD 5 r2 op) :
  Ae LP NN d 101 [.agg [.int .i64 (f.line:Nat),.int .i64 (f.column:Nat),.int .u8 (k:Nat),tx,.int .u8 (if nu then (if f.size=1 then 4 else 5) else 2),.int .u8 0,.str (Dp nu f.size),.int .i64 (if nu then (f.size:Nat) else 0),.int .i64 0,.bool false,.bool false,.bool false,.bool false,.bool false,.int .i64 (f.size:Nat),op]] S=some (.bool true,S,false):=by
 have hl:=f.line_le;have hc:=f.column_le;have hs:=f.size_le;have c1:decide (((f.line:Nat):Int)≥1)=true:=decide_eq_true (by omega);have c2:decide (((f.line:Nat):Int)≤24)=true:=decide_eq_true (by omega);have c3:decide (((f.column:Nat):Int)≥1)=true:=decide_eq_true (by omega);have c4:decide (((f.size:Nat):Int)≤80)=true:=decide_eq_true (by omega);have w1:IntKind.i64.wrap (80-((f.size:Nat):Int))=80-((f.size:Nat):Int):=by rw[IntKind.wrap_i64];omega
 have w2:IntKind.i64.wrap (80-((f.size:Nat):Int)+1)=80-((f.size:Nat):Int)+1:=by rw[IntKind.wrap_i64];omega
 have c5:decide (((f.column:Nat):Int)≤80-((f.size:Nat):Int)+1)=true:=decide_eq_true (by omega);have zz:=aI ht.Xv (aI ho.Xv (aI ht.cells (aI ho.cells (aI c1 (aI c2 (aI c3 (aI c4 (aI c5 (aI w1 (aI w2 (aI ht.snap (aI ho.snap (aI ht.free ho.free)))))))))))));refine rpz (hb:=?_);rintro d rfl;refine g12 (q:=Bb 0 (b:=true) (h:=g8 (q:=Bb 0 (b:=true) (h:=g8 (q:=Bb 0 (b:=true) (h:=g10 (q:=Bb 0 (b:=true) (h:=g21 (q:=fq (h:=?_))))))))));simp only[Df,leave,Ah,Bl,zs,zf,zk]
def Gs (f:FM) (p:Nat):List D:=if f.kind=1 then row2 f p else [.int .i64 (f.line:Nat),.int .i64 (f.column:Nat),.int .u8 (f.kind:Nat),.X4]++shpR f.nu f.size++[.sl 5 [tkR 1 ⟨#[78]⟩ p 12] (some 1)]
def row0:List D:=[.int .i64 0,.int .i64 0,.int .u8 0,.X4]++shp0++[.X4]
def GO (rs:List (List D)) (nm:ByteArray) (x:D) (l c v:Nat):Xh:=⟨32,4,rs++[[.str nm,x,.int .i64 (l:Nat),.int .i64 (c:Nat)]],v,0,true⟩
def Jh:ByteArray:=⟨#[70,73,76,76,69,82]⟩
def Sw:ByteArray:=⟨#[76,73,78,69]⟩
def Ji:ByteArray:=⟨#[67,79,76,85,77,78]⟩
def kCOL:ByteArray:=⟨#[67,79,76]⟩
theorem field_lit{d:Nat}(hd:18≤d){H H1 H2 H3 H4 HY:List Xh}{g go a c n v l0 c0 lo1:Nat}{f:FM}{x x' lx4:D}{rs:List (List D)}{nm:ByteArray}{b1 w1 cr:Bool}{rd wt:List Nat}(hgo:g<go)(zR:go<H1.length)(xJ:g<H.length)(qY:rs.length<100)(rE:min lo1 g=g)
  (h1:∀d',d=d'+1→Ae LP NN d' 182 [.ptr g 0 0 0,.sl 1 [[.str Jh]] (some 1)] ⟨H,H.length⟩=some (.bool b1,⟨H1,lo1⟩,w1))
  (h2:∀d',d=d'+1→∀lo,Ae LP NN d' 183 [.ptr g 0 0 0,.sl 1 [[.str Sw]] (some 1)] ⟨H1++[FO row0],lo⟩=some (.int .i64 (f.line:Nat),⟨H2,min lo g⟩,true))
  (h3:∀d',d=d'+1→∀lo,Ae LP NN d' 183 [.ptr g 0 0 0,.sl 1 [[.str Ji],[.str kCOL]] (some 2)] ⟨H2,lo⟩=some (.int .i64 (f.column:Nat),⟨H3,min lo g⟩,true))
  (wJ:H2[H1.length]?=some (FO row0)) (uh:H3[H1.length]?=some (FO row0))
  (h4:∀d',d=d'+1→∀lo,Ae LP NN d' 184 [.ptr g 0 0 0,.ptr H1.length 0 0 0] ⟨H3.set H1.length (FO (row1 f)),lo⟩=some (.agg tok00,⟨H4,min lo g⟩,true))
  (kg:H4[g]?=some (PO lx4 a c (.msl go v 0 (rs.length+1) none))) (zi:SlD 5 [] lx4) (vS:H4[H1.length]?=some (FO ([.int .i64 (f.line:Nat),.int .i64 (f.column:Nat),.int .u8 1,.sl 1 (byteRows f.text) none]++shpR false f.size++[.X4]))) (h4o:H4[go]?=some (GO rs nm x l0 c0 v))
  (rJ:∀d',d=d'+1→∀S,Ae LP NN d' 101 [.agg ([.int .i64 (f.line:Nat),.int .i64 (f.column:Nat),.int .u8 1,.sl 1 (byteRows f.text) none]++shpR false f.size++[.X4])] S=some (.bool true,S,false))
  (wE:Hr false x=some (.int .i64 (n:Nat))) (uw:decide (((n:Nat):Int)≥256)=false)
  (wm:Bo 125 16 128 0 x (.msl (H4.length+1) 0 0 1 none) ⟨H4++[K4,FO ([.int .i64 (f.line:Nat),.int .i64 (f.column:Nat),.int .u8 1,.sl 1 (byteRows f.text) none]++shpR false f.size++[.X4])],g⟩=some (x',⟨HY,g⟩,true)) (hxv:x'.val=true) (qG:Xo x'=false) (vU:x'.cells=[x']) (xX:Bv x (.msl (H4.length+1) 0 0 1 none) x' true=⟨true,some rd,some wt,cr,none⟩) (hYo:HY[go]?=some (GO rs nm x l0 c0 v)) (lo:Nat) :
  Ae LP NN d 112 [.ptr g 0 0 0] ⟨H,lo⟩=some (.tup [],⟨HY.set go (GO rs nm x' l0 c0 v),min lo g⟩,true):=by
 have hg4:=Aj kg;have ho4:=Aj h4o;have hf4:=Aj vS;have ieq1:¬go=H4.length:=by omega
 have ieq2:¬H4.length=go:=by omega
 have ieq3:¬go=H4.length+1:=by omega
 have ieq4:¬H4.length+1=go:=by omega
 have ieq:=aI ieq1 (aI ieq2 (aI ieq3 ieq4));have qV:¬H1.length∈chg (H1++[FO row0]) H2 0:=Tn (by rw[Lr_ (Nat.le_refl _),Nat.sub_self];rfl) wJ (by rfl);have qU:¬H1.length∈chg H2 H3 0:=Tn wJ uh (by rfl);simp only[FO,row0,shp0,List.cons_append,List.nil_append]at qV qU;have uN:min lo1 g=g:=rE;have qK:min g H1.length=g:=by omega
 have hmg3:min g H4.length=g:=by omega
 have hmg4:min g go=g:=by omega
 have wR:¬H.length≤g:=by omega
 have hw:IntKind.i64.wrap (((rs.length+1:Nat):Int)-1)=((rs.length:Nat):Int):=by rw[IntKind.wrap_i64];omega
 have hl4:=zi.len;have hlz:decide (((rs.length+1:Nat):Int)=0)=false:=decide_eq_false (by omega);have hia0:(0:Int)≤((rs.length:Nat):Int):=by omega
 have hia1:((rs.length:Nat):Int)<((rs.length+1:Nat):Int):=by omega
 simp only[Jh,Sw,Ji,kCOL]at h1 h2 h3;simp only[FO,row0,row1,shp0,shpR,List.cons_append,List.nil_append,PO,GO,tok00,K4,tkR]at h2 h4 wJ uh kg vS h4o wm hYo rJ;have zz:=aI (fun l=>@Bj _ l _ hg4) (aI (fun l=>@Bj _ l _ ho4) (aI (fun l=>@Bj _ l _ hf4) (aI (fun l=>@Em _ l _ ho4) (aI (fun l=>@Em _ l _ hf4) (aI kg (aI h4o (aI vS (aI hl4 (aI hlz (aI hw (aI wE (aI uw (aI hia0 (aI hia1 (aI @PO.eq_1 (aI @GO.eq_1 (aI @FO.eq_1 (aI @tok00.eq_1 (aI @tkR.eq_1 (aI @shpR.eq_1 (aI @shp0.eq_1 (aI @row0.eq_1 (aI @Bd (aI @Bf (aI @Cb (aI @Ca (aI uN (aI qK (aI hmg3 (aI hmg4 (aI hYo (aI uh (aI hxv vU)))))))))))))))))))))))))))))))));refine raz (hb:=?_);rintro d rfl;refine g6 (q:=Aa (by simp only[zo,zz];exact h1 d rfl) (g7 (q:=?_)));have zz:=aI xX (aI wJ (aI qV (aI qU (aI qG zz))));apply Ao (by simp only[zl,zm,Dm,List.replicate,Ah,Bl,zs,zc,zf,zz]<;>exact rfl) (by simp only[Ac,zo,zq,qG,Bool.false_eq_true,if_false]<;>exact rfl) (by first | rfl | (simp[show ob 0 3=[false,false,false] from rfl,Xo,Ay,Ar,Cf,Ap,Bn,djl,djr,djs,Am,Af,Az,Ba,Cq,xX,Cc,ieq];done) | (simp[show ob 0 3=[false,false,false] from rfl,Xo,Ay,Ar,Cf,Ap,Bn,djl,djr,djs,Am,Af,Az,Ba,Cq,xX,Cc,ieq,Ej,Aw,E9,Fq,Ir,wJ,uh,qV,qU];done))
 first
  | refine Ao (by simp only[zo,zz];exact (h2 d rfl _)) (by simp only[Ac,zo,zq,qG,Bool.false_eq_true,if_false]<;>exact rfl) (by first | rfl | (simp[show ob 15 4=[true,true,true,true] from rfl,Xo,Ay,Ar,Cf,Ap,Bn,djl,djr,djs,Am,Af,Az,Ba,Cq,xX,Cc,ieq];done) | (simp[show ob 15 4=[true,true,true,true] from rfl,Xo,Ay,Ar,Cf,Ap,Bn,djl,djr,djs,Am,Af,Az,Ba,Cq,xX,Cc,ieq,Ej,Aw,E9,Fq,Ir,wJ,uh,qV,qU];done)) ?_
  | refine Ao (by simp only[zo,zz];exact (h3 d rfl _)) (by simp only[Ac,zo,zq,qG,Bool.false_eq_true,if_false]<;>exact rfl) (by first | rfl | (simp[show ob 15 4=[true,true,true,true] from rfl,Xo,Ay,Ar,Cf,Ap,Bn,djl,djr,djs,Am,Af,Az,Ba,Cq,xX,Cc,ieq];done) | (simp[show ob 15 4=[true,true,true,true] from rfl,Xo,Ay,Ar,Cf,Ap,Bn,djl,djr,djs,Am,Af,Az,Ba,Cq,xX,Cc,ieq,Ej,Aw,E9,Fq,Ir,wJ,uh,qV,qU];done)) ?_
 refine g4 (q:=?_)
 first
  | refine Ao (by simp only[zo,zz];exact (h2 d rfl _)) (by simp only[Ac,zo,zq,qG,Bool.false_eq_true,if_false]<;>exact rfl) (by first | rfl | (simp[show ob 511 9=[true,true,true,true,true,true,true,true,true] from rfl,Xo,Ay,Ar,Cf,Ap,Bn,djl,djr,djs,Am,Af,Az,Ba,Cq,xX,Cc,ieq];done) | (simp[show ob 511 9=[true,true,true,true,true,true,true,true,true] from rfl,Xo,Ay,Ar,Cf,Ap,Bn,djl,djr,djs,Am,Af,Az,Ba,Cq,xX,Cc,ieq,Ej,Aw,E9,Fq,Ir,wJ,uh,qV,qU];done)) ?_
  | refine Ao (by simp only[zo,zz];exact (h3 d rfl _)) (by simp only[Ac,zo,zq,qG,Bool.false_eq_true,if_false]<;>exact rfl) (by first | rfl | (simp[show ob 511 9=[true,true,true,true,true,true,true,true,true] from rfl,Xo,Ay,Ar,Cf,Ap,Bn,djl,djr,djs,Am,Af,Az,Ba,Cq,xX,Cc,ieq];done) | (simp[show ob 511 9=[true,true,true,true,true,true,true,true,true] from rfl,Xo,Ay,Ar,Cf,Ap,Bn,djl,djr,djs,Am,Af,Az,Ba,Cq,xX,Cc,ieq,Ej,Aw,E9,Fq,Ir,wJ,uh,qV,qU];done)) ?_
 refine g1 (q:=Ao (by simp only[zo]<;>exact rfl) (by simp only[Ac,zo,zq,qG,Bool.false_eq_true,if_false]<;>exact rfl) (by first | rfl | (simp[show ob 0 11=[false,false,false,false,false,false,false,false,false,false,false] from rfl,Xo,Ay,Ar,Cf,Ap,Bn,djl,djr,djs,Am,Af,Az,Ba,Cq,xX,Cc,ieq];done) | (simp[show ob 0 11=[false,false,false,false,false,false,false,false,false,false,false] from rfl,Xo,Ay,Ar,Cf,Ap,Bn,djl,djr,djs,Am,Af,Az,Ba,Cq,xX,Cc,ieq,Ej,Aw,E9,Fq,Ir,wJ,uh,qV,qU];done)) (g6 (q:=Aa (by simp only[zo,zz];exact (h4 d rfl _)) (g15 (q:=Bb 0 (b:=false) (h:=g8 (q:=Bb 0 (b:=false) (h:=g57 (q:=Aa (by simp only[zo,zz];exact rJ d rfl _) (g28 (q:=Kz (by simp only[Al,aop,LOp.loud,lop,if_true,opd,zv];exact wm) (h:=g4 (q:=?_)))))))))))));simp only[ze];refine fq (h:=?_);simp[leave,LP,Xt,Xp,snap,D.Xr,D.Xq,D.free,D.Xw,wR,Ah,GO]
theorem field_pic{d:Nat}(hd:18≤d){H H1 H2 H3 H4 HY:List Xh}{g go a c n v l0 c0 lo1:Nat}{f:FM}{x x' lx4:D}{rs:List (List D)}{nm:ByteArray}{b1 w1 cr:Bool}{rd wt:List Nat}(hgo:g<go)(zR:go<H1.length)(xJ:g<H.length)(qY:rs.length<100)(rE:min lo1 g=g)
  (h1:∀d',d=d'+1→Ae LP NN d' 182 [.ptr g 0 0 0,.sl 1 [[.str Jh]] (some 1)] ⟨H,H.length⟩=some (.bool b1,⟨H1,lo1⟩,w1))
  (h2:∀d',d=d'+1→∀lo,Ae LP NN d' 183 [.ptr g 0 0 0,.sl 1 [[.str Sw]] (some 1)] ⟨H1++[FO row0],lo⟩=some (.int .i64 (f.line:Nat),⟨H2,min lo g⟩,true))
  (h3:∀d',d=d'+1→∀lo,Ae LP NN d' 183 [.ptr g 0 0 0,.sl 1 [[.str Ji],[.str kCOL]] (some 2)] ⟨H2,lo⟩=some (.int .i64 (f.column:Nat),⟨H3,min lo g⟩,true))
  (wJ:H2[H1.length]?=some (FO row0)) (uh:H3[H1.length]?=some (FO row0)) {p q:Nat} (hk:f.kind≠1)
  (h4:∀d',d=d'+1→∀lo,Ae LP NN d' 184 [.ptr g 0 0 0,.ptr H1.length 0 0 0] ⟨H3.set H1.length (FO (row1 f)),lo⟩=some (.agg (tkR 4 f.pic q 12),⟨H4,min lo g⟩,true))
  (kg:H4[g]?=some (PO lx4 a c (.msl go v 0 (rs.length+1) none))) (zi:SlD 5 [] lx4) (vS:H4[H1.length]?=some (FO ([.int .i64 (f.line:Nat),.int .i64 (f.column:Nat),.int .u8 (f.kind:Nat),.X4]++shp0++[.sl 5 [tkR 1 ⟨#[78]⟩ p 12] (some 1)]))) (h4o:H4[go]?=some (GO rs nm x l0 c0 v))
  (rJ:∀d',d=d'+1→∀S,Ae LP NN d' 101 [.agg ([.int .i64 (f.line:Nat),.int .i64 (f.column:Nat),.int .u8 (f.kind:Nat),.X4]++shpR f.nu f.size++[.sl 5 [tkR 1 ⟨#[78]⟩ p 12] (some 1)])] S=some (.bool true,S,false))
  (wE:Hr false x=some (.int .i64 (n:Nat))) (uw:decide (((n:Nat):Int)≥256)=false)
  (wm:Bo 125 16 128 0 x (.msl (H4.length+2) 0 0 1 none) ⟨H4.set H1.length (FO ([.int .i64 (f.line:Nat),.int .i64 (f.column:Nat),.int .u8 (f.kind:Nat),.X4]++shpR f.nu f.size++[.sl 5 [tkR 1 ⟨#[78]⟩ p 12] (some 1)]))++[tkO 4 f.pic q 12,⟨101,11,[shpR f.nu f.size],0,0,false⟩,FO ([.int .i64 (f.line:Nat),.int .i64 (f.column:Nat),.int .u8 (f.kind:Nat),.X4]++shpR f.nu f.size++[.sl 5 [tkR 1 ⟨#[78]⟩ p 12] (some 1)])],g⟩=some (x',⟨HY,g⟩,true)) (hxv:x'.val=true) (qG:Xo x'=false) (vU:x'.cells=[x']) (xX:Bv x (.msl (H4.length+2) 0 0 1 none) x' true=⟨true,some rd,some wt,cr,none⟩) (hYo:HY[go]?=some (GO rs nm x l0 c0 v)) (lo:Nat) :
  Ae LP NN d 112 [.ptr g 0 0 0] ⟨H,lo⟩=some (.tup [],⟨HY.set go (GO rs nm x' l0 c0 v),min lo g⟩,true):=by
 have hg4:=Aj kg;have ho4:=Aj h4o;have hf4:=Aj vS;have ieq1:¬go=H4.length:=by omega
 have ieq2:¬H4.length=go:=by omega
 have ieq3:¬go=H4.length+1:=by omega
 have ieq4:¬H4.length+1=go:=by omega
 have ieq5:¬go=H4.length+2:=by omega
 have ieq6:¬H4.length+2=go:=by omega
 have ieq:=aI ieq1 (aI ieq2 (aI ieq3 (aI ieq4 (aI ieq5 ieq6))));have qV:¬H1.length∈chg (H1++[FO row0]) H2 0:=Tn (by rw[Lr_ (Nat.le_refl _),Nat.sub_self];rfl) wJ (by rfl);have qU:¬H1.length∈chg H2 H3 0:=Tn wJ uh (by rfl);simp only[FO,row0,shp0,List.cons_append,List.nil_append]at qV qU;have uN:min lo1 g=g:=rE;have qK:min g H1.length=g:=by omega
 have hmg3:min g H4.length=g:=by omega
 have hmg4:min g go=g:=by omega
 have wR:¬H.length≤g:=by omega
 have hw:IntKind.i64.wrap (((rs.length+1:Nat):Int)-1)=((rs.length:Nat):Int):=by rw[IntKind.wrap_i64];omega
 have hl4:=zi.len;have hlz:decide (((rs.length+1:Nat):Int)=0)=false:=decide_eq_false (by omega);have hia0:(0:Int)≤((rs.length:Nat):Int):=by omega
 have hia1:((rs.length:Nat):Int)<((rs.length+1:Nat):Int):=by omega
 simp only[Jh,Sw,Ji,kCOL]at h1 h2 h3;have hmg5:min g (H4.length+1)=g:=by omega
 have y7:(((f.kind:Nat):Int) != 1)=true:=by rw[bne_iff_ne];omega
 have hA2:∀l x,(H4.set H1.length x++l)[H1.length]?=some x:=fun l x=>by rw[Bj (by simpa using hf4)];exact Et hf4 x
 have hS2:∀l x y,(H4.set H1.length x++l).set H1.length y=H4.set H1.length y++l:=fun l x y=>by rw[Em (by simpa using hf4),List.set_set]
 have hG2:∀l x,(H4.set H1.length x++l)[g]?=H4[g]?:=fun l x=>Qc hg4 (by omega);have hO2:∀l x,(H4.set H1.length x++l)[go]?=H4[go]?:=fun l x=>Qc ho4 (by omega);have hSO:∀l x y,(H4.set H1.length x++l).set go y=(H4.set H1.length x).set go y++l:=fun l x y=>Em (by simpa using ho4) y;simp only[FO,row0,row1,shp0,shpR,List.cons_append,List.nil_append,PO,GO,tok00,K4,tkR,tkO]at h2 h4 wJ uh kg vS h4o wm hYo rJ;have zz:=aI (fun l=>@Bj _ l _ hg4) (aI (fun l=>@Bj _ l _ ho4) (aI (fun l=>@Bj _ l _ hf4) (aI (fun l=>@Em _ l _ ho4) (aI (fun l=>@Em _ l _ hf4) (aI kg (aI h4o (aI vS (aI hl4 (aI hlz (aI hw (aI wE (aI uw (aI hia0 (aI hia1 (aI @PO.eq_1 (aI @GO.eq_1 (aI @FO.eq_1 (aI @tok00.eq_1 (aI @tkR.eq_1 (aI @shpR.eq_1 (aI @shp0.eq_1 (aI @row0.eq_1 (aI @Bd (aI @Bf (aI @Cb (aI @Ca (aI uN (aI qK (aI hmg3 (aI hmg4 (aI hYo (aI uh (aI hxv (aI vU (aI hA2 (aI hS2 (aI hG2 (aI hO2 (aI hSO (aI y7 (aI @List.length_set.{0} hmg5)))))))))))))))))))))))))))))))))))))))));refine raz (hb:=?_);rintro d rfl;refine g6 (q:=Aa (by simp only[zo,Nat.reduceAdd,zz];exact h1 d rfl) (g7 (q:=?_)));have zz:=aI xX (aI wJ (aI qV (aI qU (aI qG zz))));apply Ao (by simp only[zl,zm,Dm,List.replicate,Ah,Bl,zs,zc,zf,Nat.reduceAdd,zz]<;>exact rfl) (by simp only[Ac,zo,zq,qG,Bool.false_eq_true,if_false]<;>exact rfl) (by first | rfl | (simp[show ob 0 3=[false,false,false] from rfl,Xo,Ay,Ar,Cf,Ap,Bn,djl,djr,djs,Am,Af,Az,Ba,Cq,xX,Cc,ieq];done) | (simp[show ob 0 3=[false,false,false] from rfl,Xo,Ay,Ar,Cf,Ap,Bn,djl,djr,djs,Am,Af,Az,Ba,Cq,xX,Cc,ieq,Ej,Aw,E9,Fq,Ir,wJ,uh,qV,qU];done))
 first
  | refine Ao (by simp only[zo,Nat.reduceAdd,zz];exact (h2 d rfl _)) (by simp only[Ac,zo,zq,qG,Bool.false_eq_true,if_false]<;>exact rfl) (by first | rfl | (simp[show ob 15 4=[true,true,true,true] from rfl,Xo,Ay,Ar,Cf,Ap,Bn,djl,djr,djs,Am,Af,Az,Ba,Cq,xX,Cc,ieq];done) | (simp[show ob 15 4=[true,true,true,true] from rfl,Xo,Ay,Ar,Cf,Ap,Bn,djl,djr,djs,Am,Af,Az,Ba,Cq,xX,Cc,ieq,Ej,Aw,E9,Fq,Ir,wJ,uh,qV,qU];done)) ?_
  | refine Ao (by simp only[zo,Nat.reduceAdd,zz];exact (h3 d rfl _)) (by simp only[Ac,zo,zq,qG,Bool.false_eq_true,if_false]<;>exact rfl) (by first | rfl | (simp[show ob 15 4=[true,true,true,true] from rfl,Xo,Ay,Ar,Cf,Ap,Bn,djl,djr,djs,Am,Af,Az,Ba,Cq,xX,Cc,ieq];done) | (simp[show ob 15 4=[true,true,true,true] from rfl,Xo,Ay,Ar,Cf,Ap,Bn,djl,djr,djs,Am,Af,Az,Ba,Cq,xX,Cc,ieq,Ej,Aw,E9,Fq,Ir,wJ,uh,qV,qU];done)) ?_
 refine g4 (q:=?_)
 first
  | refine Ao (by simp only[zo,Nat.reduceAdd,zz];exact (h2 d rfl _)) (by simp only[Ac,zo,zq,qG,Bool.false_eq_true,if_false]<;>exact rfl) (by first | rfl | (simp[show ob 511 9=[true,true,true,true,true,true,true,true,true] from rfl,Xo,Ay,Ar,Cf,Ap,Bn,djl,djr,djs,Am,Af,Az,Ba,Cq,xX,Cc,ieq];done) | (simp[show ob 511 9=[true,true,true,true,true,true,true,true,true] from rfl,Xo,Ay,Ar,Cf,Ap,Bn,djl,djr,djs,Am,Af,Az,Ba,Cq,xX,Cc,ieq,Ej,Aw,E9,Fq,Ir,wJ,uh,qV,qU];done)) ?_
  | refine Ao (by simp only[zo,Nat.reduceAdd,zz];exact (h3 d rfl _)) (by simp only[Ac,zo,zq,qG,Bool.false_eq_true,if_false]<;>exact rfl) (by first | rfl | (simp[show ob 511 9=[true,true,true,true,true,true,true,true,true] from rfl,Xo,Ay,Ar,Cf,Ap,Bn,djl,djr,djs,Am,Af,Az,Ba,Cq,xX,Cc,ieq];done) | (simp[show ob 511 9=[true,true,true,true,true,true,true,true,true] from rfl,Xo,Ay,Ar,Cf,Ap,Bn,djl,djr,djs,Am,Af,Az,Ba,Cq,xX,Cc,ieq,Ej,Aw,E9,Fq,Ir,wJ,uh,qV,qU];done)) ?_
 refine g1 (q:=Ao (by simp only[zo]<;>exact rfl) (by simp only[Ac,zo,zq,qG,Bool.false_eq_true,if_false]<;>exact rfl) (by first | rfl | (simp[show ob 0 11=[false,false,false,false,false,false,false,false,false,false,false] from rfl,Xo,Ay,Ar,Cf,Ap,Bn,djl,djr,djs,Am,Af,Az,Ba,Cq,xX,Cc,ieq];done) | (simp[show ob 0 11=[false,false,false,false,false,false,false,false,false,false,false] from rfl,Xo,Ay,Ar,Cf,Ap,Bn,djl,djr,djs,Am,Af,Az,Ba,Cq,xX,Cc,ieq,Ej,Aw,E9,Fq,Ir,wJ,uh,qV,qU];done)) (g6 (q:=Aa (by simp only[zo,Nat.reduceAdd,zz];exact (h4 d rfl _)) (g15 (q:=Dh 0 (b:=false) (by simp only[opd,zv,Nat.reduceAdd,zz]<;>rfl) (by simp only[zn]<;>exact rfl) (g8 (q:=Dh 0 (b:=true) (by simp only[opd,zv,Nat.reduceAdd,zz]<;>rfl) (by simp only[zn]<;>exact rfl) (g13 (q:=Au (by simp only[opd,zv,Nat.reduceAdd,zz]<;>rfl) (g13 (q:=Au (by simp only[opd,zv,Nat.reduceAdd,zz]<;>rfl) (g10 (q:=Dn (by simp only[opd,zv,Nat.reduceAdd,zz]<;>rfl) (g4 (q:=Aa (by simp only[zo,Nat.reduceAdd,zz];exact parse_run (by omega) _ f) (g15 (q:=Au (by simp only[opd,zv,Nat.reduceAdd,zz]<;>rfl) (g28 (q:=Aa (by simp only[zo,Nat.reduceAdd,zz];exact rJ d rfl _) (g3 (q:=Au (by simp only[opd,zv,Nat.reduceAdd,zz]<;>rfl) (g13 (q:=Au (by simp only[opd,zv,Nat.reduceAdd,zz]<;>rfl) (g10 (q:=Kz (by simp only[Al,aop,LOp.loud,lop,if_true,opd,zv];exact wm) (h:=g4 (q:=?_)))))))))))))))))))))))))));simp only[ze];refine fq (h:=?_);simp[leave,LP,Xt,Xp,snap,D.Xr,D.Xq,D.free,D.Xw,wR,Ah,GO]
end Go.Proofs.YtlhdliikahebhaaGreatDoor
/- Proved here: parts of the proof, joined (Lo1, Lo2, Mem, Lo3, Lo4a, Lo4, Lo5, Lo6, Lo7, Lo8, Lo9, Lo9b, Lo9c): an abstract machine, its soundness, what functions of the program compute in it; no condition. -/
import Derived.Test.YtlhdliikahebhaaGreatDoorRows
import Derived.WalkKit
import Derived.Orders
import Derived.ProofKit
import Derived.OpenShut
import Derived.WalkSpells
import Derived.WalkLawsBesides
import Derived.Deep.QuietTactic
import Derived.BigQuiet
import Derived.Lib.Hide
import Derived.Laws.EntriesVeiled
import Derived.Deep.RegionHeld3
import Derived.Deep.RegionLaw
import Derived.Deep.AppendLies
import Derived.Deep.CutRange
import Derived.Deep.DeepCutAuto
import Derived.Deep.CutBlock
import Derived.Laws.Tables
import Derived.Great.BuildSlice
import Derived.Laws.BytesString
import Derived.Laws.MakeOwn
namespace Go.Proofs.YtlhdliikahebhaaGreatDoor
theorem aI {a b : Prop} (h : a) (k : b) : a ∧ b := ⟨h, k⟩
set_option linter.unusedVariables false
theorem Oi{α:Type _}(a b:α):(some a=some b)=(a=b):=Option.some.injEq a b
theorem Pi_{α:Type _}{β:Type _}(a:α)(b:β)(c:α)(d:β):((a,b)=(c,d))=(a=c∧b=d):=Prod.mk.injEq a b c d
theorem Om.{u,v}:type_of% @Option.map_eq_some_iff.{u,v}:=@Option.map_eq_some_iff
theorem Lg.{u}:type_of% @List.getElem?_eq_getElem.{u}:=@List.getElem?_eq_getElem
theorem La_.{u}:type_of% @List.getElem?_append_left.{u}:=@List.getElem?_append_left
theorem Lr_.{u}:type_of% @List.getElem?_append_right.{u}:=@List.getElem?_append_right
theorem Ln_.{u}:type_of% @List.getElem?_set_ne.{u}:=@List.getElem?_set_ne
theorem Lm.{u}:type_of% @List.mem_of_getElem?.{u}:=@List.mem_of_getElem?
theorem Ag_.{u}:type_of% @Array.getElem?_eq_some_iff.{u}:=@Array.getElem?_eq_some_iff
theorem Lz.{u}:type_of% @List.getElem?_cons_zero.{u}:=@List.getElem?_cons_zero
theorem Ls_.{u}:type_of% @List.getElem?_cons_succ.{u}:=@List.getElem?_cons_succ
theorem Ll_.{u}:type_of% @List.length_append.{u}:=@List.length_append
theorem Lo_.{u}:type_of% @List.append_assoc.{u}:=@List.append_assoc
theorem Lp_.{u,v}:type_of% @List.getElem?_map.{u,v}:=@List.getElem?_map
inductive D where
 | undef
 | skip
 | int (k:IntKind) (n:Int)
 | bool (b:Bool)
 | str (s:ByteArray)
 | agg (cs:List D)
 | tup (cs:List D)
 | nilp
 | ptr (g v i o:Nat)
 | X7 (row:List D) (o:Nat)
 | X4
 | sl (sz:Nat) (rows:List (List D)) (cap:Option Nat)
 | msl (g v lo n:Nat) (cap:Option Nat)
 | fn (f:FuncId) (caps:List D)
 | nilfn
 | mref (g v:Nat)
 | mp (rows:List (List D))
 | nilm
 | nili
 | ifc (t:TypeId) (d:D)
 | ifr (t:TypeId) (d:D)
 | iter (g v:Nat)
 | junk
 | yld (g:Nat)
 | bfn (f:FuncId) (cs:List D)
 deriving Inhabited
structure Xh where
 elem:TypeId
 sz:Nat
 rows:List (List D)
 ver:Nat
 kind:Nat
 grow:Bool
structure St where
 heap:List Xh
 low:Nat
def D.cells:D→List D
 | .agg cs=>cs
 | d=>[d]
def D.Xv:D→Bool
 | .agg _ | .tup _ | .undef | .skip=>false
 | _=>true
def D.val:D→Bool
 | .agg cs=>cs.all D.Xv
 | d=>d.Xv
inductive EqT where
 | prim
 | parts (l:List (Nat × Nat × Bool × EqT))
inductive LOp where
 | mv
 | pick
 | bin (op:BinOp)
 | eqb (neg:Bool)
 | eqs (neg:Bool) (X6:List Nat)
 | un (op:UnOp)
 | field (o sz:Nat) (agg:Bool)
 | alloc (e:TypeId) (z:List D)
 | box (e:TypeId) (sz:Nat)
 | boxc (sz:Nat)
 | build (z:List D) (ps:List (Nat × Nat))
 | Xz (e sz len:Nat) (z:List D) (ps:List Nat) (kind:Nat)
 | nilck
 | load (sz:Nat) (agg:Bool)
 | store (sz:Nat)
 | X3 (o:Nat)
 | X0 (sz:Nat)
 | aaddr (sz len:Nat)
 | index
 | aindex (sz len:Nat) (agg:Bool)
 | slice (str:Bool) (sz:Nat) (lo hi mx:Bool)
 | len (str:Bool)
 | lenc (n:Nat)
 | cap
 | append (e sz bytes:Nat) (kind:Nat)
 | max
 | min
 | mkfn (f:FuncId)
 | extract (i:Nat)
 | conv (k:IntKind)
 | sconv
 | mkslice (e sz bytes:Nat) (z:List D) (kind:Nat)
 | bstr
 | strb
 | eqnil (neg:Bool) (fam:Nat)
 | mkmap
 | mapset (kf:Nat)
 | mapget (kf:Nat) (z:D) (ok:Bool)
 | idxb
 | cntb
 | appstr (e bytes:Nat) (kind:Nat)
 | appmk (e sz bytes:Nat) (z:List D) (kind:Nat)
 | eqp (neg:Bool)
 | toU (t:TypeId) (n:Nat)
 | ofU (t:TypeId) (n:Nat)
 | sdata
 | ustr (e:TypeId)
 | strsh
 | rngs
 | nexts
 | copy (sz kind:Nat)
 | copys (kind:Nat)
 | mknz (e:TypeId)
 | mapsetS (X6:List Nat)
 | mapgetS (X6:List Nat) (z:D) (ok:Bool)
 | mkif (t:TypeId)
 | tass (t:TypeId) (z:D) (ok:Bool)
 | fail
 | call (f:FuncId)
 | callv
 | invoke (tab:List (TypeId × FuncId))
 | mkbf (f:FuncId)
inductive Xk where
 | env (j:Nat)
 | loc (d:Nat)
 | const (d:D)
def ob (n k:Nat):List Bool:=((List.range k).map fun j=>n.testBit j).reverse
structure Xj where
 op:LOp
 args:List Xk
 guard:Option (Nat × Bool)
 ord:List Bool
 hoist:Option Nat
inductive Xl where
 | skip
 | ret
 | exit (i:Nat)
 | region (ops:List Xj) (exps:List (Nat × Nat))
 | drawn (ops:List Xj) (exps:List (Nat × Nat)) (news:List (TypeId × List D))
 | seq (a b:Xl)
 | cond (c:Xk) (a b:Xl)
 | block (i:Nat) (c:Xl)
 | loop (c:Xl)
 | dfr (x:Xk)
 | rfunc (x:Xk) (n:Nat) (ps:List Nat) (a b:Xl)
 | fail
inductive LRes where
 | tmp (j:Nat)
 | cell (j sz:Nat) (agg:Bool)
structure Xi where
 slots:List Nat
 nargs:Nat
 body:Xl
 res:List LRes
def Ec:BinOp→D→D→Option D
 | .add,.int k a,.int k' b=>if k=k' then some (.int k (k.wrap (a+b))) else none
 | .sub,.int k a,.int k' b=>if k=k' then some (.int k (k.wrap (a-b))) else none
 | .mul,.int k a,.int k' b=>if k=k' then some (.int k (k.wrap (a*b))) else none
 | .quo,.int k a,.int k' b=>if k=k'∧b≠0 then some (.int k (k.wrap (a.tdiv b))) else none
 | .rem,.int k a,.int k' b=>if k=k'∧b≠0 then some (.int k (a.tmod b)) else none
 | .and,.int k a,.int k' b=>if k=k' then some (.int k (k.wrap ((BitVec.ofInt k.bits a &&& BitVec.ofInt k.bits b).toNat:Int))) else none
 | .or,.int k a,.int k' b=>if k=k' then some (.int k (k.wrap ((BitVec.ofInt k.bits a ||| BitVec.ofInt k.bits b).toNat:Int))) else none
 | .xor,.int k a,.int k' b=>if k=k' then some (.int k (k.wrap ((BitVec.ofInt k.bits a ^^^ BitVec.ofInt k.bits b).toNat:Int))) else none
 | .andNot,.int k a,.int k' b=>if k=k' then some (.int k (k.wrap ((BitVec.ofInt k.bits a &&& ~~~(BitVec.ofInt k.bits b)).toNat:Int))) else none
 | .shl,.int k a,.int _ b=>if b<0 then none else some (.int k (k.wrap (a*2 ^ (min b.toNat k.bits))))
 | .shr,.int k a,.int _ b=>if b<0 then none else some (.int k (a.fdiv (2 ^ (min b.toNat k.bits))))
 | .eql,.int k a,.int k' b=>if k=k' then some (.bool (a==b)) else none
 | .neq,.int k a,.int k' b=>if k=k' then some (.bool (a != b)) else none
 | .lss,.int k a,.int k' b=>if k=k' then some (.bool (decide (a<b))) else none
 | .leq,.int k a,.int k' b=>if k=k' then some (.bool (decide (a≤b))) else none
 | .gtr,.int k a,.int k' b=>if k=k' then some (.bool (decide (a>b))) else none
 | .geq,.int k a,.int k' b=>if k=k' then some (.bool (decide (a≥b))) else none
 | .add,.str a,.str b=>if ((a.size+b.size:Nat):Int)>IntKind.i64.max then none else some (.str (a++b))
 | .eql,.str a,.str b=>some (.bool (a.toList==b.toList))
 | .neq,.str a,.str b=>some (.bool !(a.toList==b.toList))
 | .lss,.str a,.str b=>some (.bool (Op.bytesLess a.toList b.toList))
 | .leq,.str a,.str b=>some (.bool (Op.bytesLess a.toList b.toList||a.toList==b.toList))
 | .gtr,.str a,.str b=>some (.bool !(Op.bytesLess a.toList b.toList||a.toList==b.toList))
 | .geq,.str a,.str b=>some (.bool !(Op.bytesLess a.toList b.toList))
 | _,_,_=>none
def Eg:D→D→Option Bool
 | .int k a,.int k' b=>if k=k' then some (a==b) else none
 | .str a,.str b=>some (a==b)
 | .bool a,.bool b=>some (a==b)
 | _,_=>none
def isKey:Nat→D→Bool
 | 0,.int .. | 1,.str _ | 2,.bool _=>true
 | _,_=>false
def Cg:List Nat→List D→List D→Option Bool
 | [],[],[]=>some true
 | f::fs,a::l,b::m=>if isKey f a&&isKey f b then (match Eg a b,Cg fs l m with
  | some x,some y=>some (x&&y)
  | _,_=>none) else none
 | _,_,_=>none
def unD:UnOp→D→Option D
 | .not,.bool b=>some (.bool !b)
 | .neg,.int k n=>some (.int k (k.wrap (0-n)))
 | .xor,.int k n=>some (.int k (k.wrap ((BitVec.ofInt k.bits (if k.signed then -1 else k.max) ^^^ BitVec.ofInt k.bits n).toNat:Int)))
 | _,_=>none
def D.Xw:D→Bool
 | .ptr .. | .msl .. | .undef | .skip | .mref .. | .iter .. | .ifr .. | .yld .. | .bfn ..=>false
 | .fn _ caps=>caps.isEmpty
 | .agg _ | .tup _=>false
 | _=>true
def D.free:D→Bool
 | .fn _ caps=>caps.all D.Xw
 | d=>d.Xw
def D.Xq:D→Bool
 | .agg cs=>cs.all D.free
 | d=>d.free
def D.Xr:D→Bool
 | .tup ds=>ds.all D.Xq
 | d=>d.Xq
def Ci (cs:List D) (o sz:Nat) (agg:Bool):Option D :=
 if agg then (if o+sz≤cs.length then some (.agg ((cs.drop o).take sz)) else none)
 else cs[o]?
def overlay (cs:List D) (o:Nat) (new:List D):List D:=cs.take o++(new++cs.drop (o+new.length))
def M0:List D→List (Nat × Nat)→List D→Option (List D)
 | cs,[],[]=>some cs
 | cs,(o,sz)::ps,x::xs =>
  if x.val&&x.cells.length==sz&&decide (o+sz≤cs.length) then M0 (overlay cs o x.cells) ps xs else none
 | _,_,_=>none
def Dm:List (List D)→Nat→List Nat→List D→Option (List (List D))
 | rs,_,[],[]=>some rs
 | rs,sz,i::ps,x::xs=>if x.val&&x.cells.all D.free&&x.cells.length==sz&&decide (i<rs.length) then Dm (rs.set i x.cells) sz ps xs else none
 | _,_,_,_=>none
def Dl:List (List D)→Nat→List Nat→List D→Option (List (List D))
 | rs,_,[],[]=>some rs
 | rs,sz,i::ps,x::xs=>if x.val&&x.cells.length==sz&&decide (i<rs.length) then Dl (rs.set i x.cells) sz ps xs else none
 | _,_,_,_=>none
def rowsOf (S:St) (g v:Nat):Option Xh :=
 match S.heap[g]? with
 | some o=>if o.ver=v then some o else none
 | none=>none
def snap (m:Nat) (H:List Xh):D→Option D
 | .msl g v lo n cap=>match H[g]? with
  | some o=>if o.ver=v∧(o.kind=1∨(m≤g∧o.kind=2)) then some (.sl o.sz ((o.rows.drop lo).take n) (match cap with | some c=>some c | none=>if o.grow then none else some (o.rows.length-lo))) else some (.msl g v lo n cap)
  | none=>none
 | .mref g v=>if m≤g then (match H[g]? with | some o=>if o.ver=v∧o.kind=3∧o.elem=0 then some (.mp o.rows) else some (.mref g v) | none=>none) else some (.mref g v)
 | d=>some d
def Bl (m:Nat) (H:List Xh):List D→Option (List D)
 | []=>some []
 | d::l=>match snap m H d,Bl m H l with
  | some x,some y=>some (x::y)
  | _,_=>none
def Xp (m:Nat) (H:List Xh):D→Option D
 | .agg cs=>(Bl m H cs).map .agg
 | d=>snap m H d
def Ah (m:Nat) (H:List Xh):List D→Option (List D)
 | []=>some []
 | d::l=>match Xp m H d,Ah m H l with
  | some x,some y=>some (x::y)
  | _,_=>none
def Xt (m:Nat) (H:List Xh):D→Option D
 | .tup ds=>(Ah m H ds).map .tup
 | d=>Xp m H d
def Dj:D→Option Nat
 | .int _ n=>if 0≤n then some n.toNat else none
 | _=>none
def Bt (lo hi mx:Bool) (xs:List D):Option (Option D × Option D × Option D) :=
 match lo,hi,mx,xs with
 | false,false,false,[]=>some (none,none,none)
 | true,false,false,[a]=>some (some a,none,none)
 | false,true,false,[b]=>some (none,some b,none)
 | true,true,false,[a,b]=>some (some a,some b,none)
 | true,true,true,[a,b,c]=>some (some a,some b,some c)
 | false,true,true,[b,c]=>some (none,some b,some c)
 | _,_,_,_=>none
def Er (n:Nat):Option D→Option Nat
 | some d=>Dj d
 | none=>some n
def Ch (n:Nat) (lo hi:Option D):Option (Nat × Nat) :=
 match Er n hi,Er 0 lo with
 | some h,some l=>if l≤h∧h≤n then some (l,h) else none
 | _,_=>none
def Hy (S:St) (g v sz n:Nat) (lo hi:Option D):Option (Nat × Nat) :=
 match rowsOf S g v with
 | some ob=>if ob.sz=sz then Ch n lo hi else none
 | none=>none
def D5 (S : St) (sz : Nat) (x : D) (lo hi mx : Option D) : Option D :=
 match x with
 | .X4=>match Ch 0 lo hi,mx with
  | some _,none=>some .X4
  | some _,some d=>if Dj d=some 0 then some .X4 else none
  | none,_=>none
 | .sl s rows cap => if s ≠ sz then none else
  match Ch rows.length lo hi with
  | none=>none
  | some (l, h) => match mx with
   | none=>some (.sl s ((rows.drop l).take (h-l)) (cap.map (·-l)))
   | some d=>match Dj d with
    | some m=>if h≤m∧m≤rows.length then some (.sl s ((rows.drop l).take (h-l)) (some (m-l))) else none
    | none=>none
 | .msl g v o n cap => match Hy S g v sz n lo hi with
  | none=>none
  | some (l, h) => match mx with
   | none=>some (.msl g v (o+l) (h-l) (cap.map (·-l)))
   | some d=>match Dj d with
    | some m=>if h≤m∧m≤n then some (.msl g v (o+l) (h-l) (some (m-l))) else none
    | none=>none
 | _=>none
def Bw (S:St) (sz:Nat):D→Option (List (List D))
 | .X4=>some []
 | .sl s rows _=>if s=sz then some rows else none
 | .msl g v lo n _=>match rowsOf S g v with
  | some o=>if o.sz=sz∧(o.kind=1∨o.kind=2) then some ((o.rows.drop lo).take n) else none
  | none=>none
 | _=>none
def Da (S:St) (sz:Nat):D→Option (List (List D))
 | .X4=>some []
 | .sl s rows _=>if s=sz then some rows else none
 | .msl g v lo n _=>match rowsOf S g v with
  | some o=>if o.sz=sz∧o.kind≠3 then some ((o.rows.drop lo).take n) else none
  | none=>none
 | _=>none
def kA (kind k:Nat):Bool:=if kind=0 then k==0 else (k==1||k==2)
def kW (kind k:Nat):Bool:=if kind=0 then k==0 else k==2
def readK (kind:Nat) (S:St) (sz:Nat) (x:D):Option (List (List D)):=if kind=0 then Da S sz x else Bw S sz x
def setAt (S:St) (g:Nat) (o:Xh):St:=⟨S.heap.set g o,min S.low g⟩
def newAt (S:St) (o:Xh):St:=⟨S.heap++[o],S.low⟩
def Av (e sz bytes kind : Nat) (s : D) (new : List (List D)) (S : St) : Option (D × St × Bool) :=
 match s with
 | .X4=>if new.isEmpty then some (.X4,S,false) else
  if new.length*bytes≤140737488355328 then some (.msl S.heap.length 0 0 new.length none,newAt S ⟨e,sz,new,0,kind,true⟩,true) else none
 | .sl s' rows cap => if new.isEmpty then some (.sl s' rows cap, S, false) else
  if s'=sz∧cap=some rows.length∧(rows.length+new.length)*bytes≤140737488355328 then
   some (.msl S.heap.length 0 0 (rows.length+new.length) none,newAt S ⟨e,sz,rows++new,0,kind,true⟩,true) else none
 | .msl g v lo n cap => match rowsOf S g v with
  | none=>none
  | some o =>
   if o.sz=sz∧o.elem=e∧lo=0∧n=o.rows.length∧cap=none∧(if kind=0 then o.kind=0 else (o.kind=1∨o.kind=2))∧(n+new.length)*bytes≤140737488355328 then
    some (.msl g (v+1) 0 (n+new.length) none,setAt S g { o with rows:=o.rows++new,ver:=v+1,grow:=true },true) else
   if o.sz=sz∧o.elem=e∧lo=0∧cap=none∧(if kind=0 then o.kind=0 else o.kind=2)∧n+new.length≤o.rows.length then
    some (.msl g v 0 (n+new.length) none,setAt S g { o with rows:=o.rows.take n++new++o.rows.drop (n+new.length) },true) else
   if o.sz=sz∧o.elem=e∧cap=some n∧(if kind=0 then o.kind=0 else (o.kind=1∨o.kind=2))∧(n+new.length)*bytes≤140737488355328 then
    (if new.isEmpty then some (.msl g v lo n cap,S,false) else
     some (.msl S.heap.length 0 0 (n+new.length) none,newAt S ⟨e,sz,(o.rows.drop lo).take n++new,0,kind,true⟩,true)) else none
 | _=>none
def Bo (e sz bytes kind:Nat) (s x:D) (S:St):Option (D × St × Bool) :=
 match (if kind=0 then Da S sz x else Bw S sz x) with
 | none=>none
 | some new=>Av e sz bytes kind s new S
def maxD:D→D→Option D
 | .int k a,.int k' b=>if k=k' then some (.int k (if b>a then b else a)) else none
 | _,_=>none
def minD:D→D→Option D
 | .int k a,.int k' b=>if k=k' then some (.int k (if b<a then b else a)) else none
 | _,_=>none
def Jr (f:D→D→Option D):D→List D→Option D
 | x,[]=>some x
 | x,y::l=>match f x y with
  | some z=>Jr f z l
  | none=>none
def Hr:Bool→D→Option D
 | true,.str s=>some (.int .i64 s.size)
 | false,.X4=>some (.int .i64 0)
 | false,.sl _ rows _=>some (.int .i64 rows.length)
 | false,.msl _ _ _ n _=>some (.int .i64 n)
 | _,_=>none
def capD:D→Option D
 | .X4=>some (.int .i64 0)
 | .sl _ _ (some c)=>some (.int .i64 c)
 | .msl _ _ _ _ (some c)=>some (.int .i64 c)
 | _=>none
def Nu:D→D→Option D
 | .str s,.int _ i=>if 0≤i then s[i.toNat]?.map (fun b=>.int .u8 b.toNat) else none
 | _,_=>none
def Fe (S:St) (sz:Nat):D→D→Option D
 | .sl s rows _,.int _ i=>if s=sz∧0≤i then rows[i.toNat]?.map (fun r=>.X7 r 0) else none
 | .msl g v lo n _,.int _ i=>match rowsOf S g v with
  | some ob=>if ob.sz=sz∧0≤i∧i<n then some (.ptr g v (lo+i.toNat) 0) else none
  | none=>none
 | _,_=>none
def Lx (sz len:Nat):D→D→Option D
 | .ptr g v i o,.int _ j=>if 0≤j∧j<len then some (.ptr g v i (o+j.toNat*sz)) else none
 | .X7 row o,.int _ j=>if 0≤j∧j<len then some (.X7 row (o+j.toNat*sz)) else none
 | _,_=>none
def Uu (f:Nat):D→Option D
 | .ptr g v i o=>some (.ptr g v i (o+f))
 | .X7 row o=>some (.X7 row (o+f))
 | _=>none
def G6 (sz:Nat) (agg:Bool) (S:St):D→Option D
 | .X7 row o=>Ci row o sz agg
 | .ptr g v i o => match rowsOf S g v with
  | some x=>match x.rows[i]? with
   | some row=>Ci row o sz agg
   | none=>none
  | none=>none
 | _=>none
def I1 (sz : Nat) (S : St) (a x : D) : Option St :=
 match a with
 | .ptr g v i o => match rowsOf S g v with
  | some ob => match ob.rows[i]? with
   | some row =>
    match (if ob.kind=0 then some x else Xp S.heap.length S.heap x) with
    | some y => if y.val && y.cells.length == sz && decide (o + sz ≤ row.length) && (decide (ob.kind = 0) || (decide (ob.kind = 2) && y.cells.all D.free)) then
      some (setAt S g { ob with rows:=ob.rows.set i (overlay row o y.cells) }) else none
    | none=>none
   | none=>none
  | none=>none
 | _=>none
def bytesOf:List (List D)→Option (List UInt8)
 | []=>some []
 | [.int .u8 n]::l=>(bytesOf l).map (UInt8.ofNat n.toNat::·)
 | _::_=>none
def Py:List (List D)→Option (List UInt8)
 | []=>some []
 | [.int .u8 n]::l=>if 0≤n∧n<256 then (Py l).map (UInt8.ofNat n.toNat::·) else none
 | _::_=>none
def byteRows (s:ByteArray):List (List D):=s.data.toList.map fun b=>[.int .u8 b.toNat]
def isNil:Nat→D→Option Bool
 | 0,.X4 | 1,.nilp | 2,.nilfn | 3,.nilm | 4,.nili=>some true
 | 0,.sl .. | 0,.msl .. | 1,.ptr .. | 1,.X7 .. | 2,.fn .. | 3,.mref .. | 3,.mp .. | 4,.ifc .. | 4,.ifr ..=>some false
 | _,_=>none
def N9 (fam:Nat) (x y:D):Option Bool :=
 match isNil fam x,isNil fam y with
 | some true,some b=>some b
 | some false,some true=>some false
 | _,_=>none
def pop:LOp→List D→Option D
 | .mv,[x]=>some x
 | .pick,[.bool c,a,b]=>some (if c then a else b)
 | .bin op,[x,y]=>Ec op x y
 | .eqb neg,[.bool a,.bool b]=>some (.bool ((a==b) != neg))
 | .eqs neg X6,[.agg a,.agg b]=>(Cg X6 a b).map fun r=>.bool (r != neg)
 | .un op,[x]=>unD op x
 | .field o sz agg,[.agg cs]=>Ci cs o sz agg
 | .build z ps,xs=>(M0 z ps xs).map .agg
 | .nilck,[.ptr g v i o]=>some (.ptr g v i o)
 | .nilck,[.X7 r o]=>some (.X7 r o)
 | .nilck,[.fn f c]=>some (.fn f c)
 | .X3 o,[a]=>Uu o a
 | .aaddr sz len,[x,i]=>Lx sz len x i
 | .index,[x,i]=>Nu x i
 | .aindex sz len agg,[.agg cs,.int _ i]=>if 0≤i∧i<len then Ci cs (i.toNat*sz) sz agg else none
 | .slice true _ lo hi mx,.str s::xs=>match Bt lo hi mx xs with
  | some (a,b,none)=>(Ch s.size a b).map fun (l,h)=>.str (s.extract l h)
  | _=>none
 | .len st,[x]=>Hr st x
 | .lenc n,[_]=>some (.int .i64 n)
 | .cap,[x]=>capD x
 | .max,x::l=>Jr maxD x l
 | .min,x::l=>Jr minD x l
 | .mkfn f,xs=>some (.fn f xs)
 | .mkbf f,xs=>some (.bfn f xs)
 | .extract i,[.tup ds]=>ds[i]?
 | .conv k,[.int _ n]=>some (.int k (k.wrap n))
 | .sconv,[.str s]=>some (.str s)
 | .idxb,[.str s,.int .u8 c]=>some (.int .i64 (match (List.range s.size).find? (fun i=>s[i]! == UInt8.ofNat c.toNat) with | some i=>(i:Int) | none=>-1))
 | .cntb,[.str s,.int .u8 c]=>some (.int .i64 (s.foldl (fun n x=>if x==UInt8.ofNat c.toNat then n+1 else n) (0:Nat)))
 | .eqnil neg fam,[x,y]=>(N9 fam x y).map fun b=>.bool (b != neg)
 | .mkif t,[x]=>if x.val then some (if x.Xq then .ifc t x else .ifr t x) else none
 | .tass t z ok,[.ifc t' d]=>if t'=t then some (if ok then .tup [d,.bool true] else d) else if ok then some (.tup [z,.bool false]) else none
 | .tass t z ok,[.ifr t' d]=>if t'=t then some (if ok then .tup [d,.bool true] else d) else if ok then some (.tup [z,.bool false]) else none
 | .tass _ z true,[.nili]=>some (.tup [z,.bool false])
 | _,_=>none
def Lh (k:D):List (List D)→Nat→Option (Option (Nat × D))
 | [],_=>some none
 | [a,v]::l,i=>match Eg k a with
  | some true=>some (some (i,v))
  | some false=>Lh k l (i+1)
  | none=>none
 | _::_,_=>none
def J5 (S:St):D→Option (List (List D))
 | .nilm=>some []
 | .mp rows=>some rows
 | .mref g v=>match rowsOf S g v with
  | some o=>if o.kind=3∧o.elem=0 then some o.rows else none
  | none=>none
 | _=>none
def Jg (S:St) (kf:Nat) (z:D) (ok:Bool) (m k:D):Option D :=
 match J5 S m with
 | some rows=>if isKey kf k then (match Lh k rows 0 with
  | some (some (_,v))=>some (if ok then .tup [v,.bool true] else v)
  | some none=>some (if ok then .tup [z,.bool false] else z)
  | none=>none) else none
 | none=>none
def Lf (S : St) (kf : Nat) (m k v : D) : Option St :=
 match m with
 | .mref g ver => match rowsOf S g ver with
  | some o => if o.kind = 3 ∧ o.elem = 0 ∧ isKey kf k = true then (match Xp S.heap.length S.heap v with
   | some v'=>if v'.Xq&&v'.val then (match Lh k o.rows 0 with
    | some (some (i,_))=>some (setAt S g { o with rows:=o.rows.set i [k,v'] })
    | some none=>some (setAt S g { o with rows:=o.rows++[[k,v']] })
    | none=>none) else none
   | none=>none) else none
  | none=>none
 | _=>none
def N7 (X6:List Nat) (k:D):List (List D)→Nat→Option (Option (Nat × D))
 | [],_=>some none
 | [a, v] :: l, i => match k, a with
  | .agg cs,.agg ds=>(match Cg X6 cs ds with
   | some true=>some (some (i,v))
   | some false=>N7 X6 k l (i+1)
   | none=>none)
  | _,_=>none
 | _::_,_=>none
def Rn (X6:List Nat):D→Bool
 | .agg cs=>cs.length==X6.length&&(cs.zip X6).all fun (c,f)=>isKey f c
 | _=>false
def Sn (S:St) (X6:List Nat) (z:D) (ok:Bool) (m k:D):Option D :=
 match J5 S m with
 | some rows=>if Rn X6 k then (match N7 X6 k rows 0 with
  | some (some (_,v))=>some (if ok then .tup [v,.bool true] else v)
  | some none=>some (if ok then .tup [z,.bool false] else z)
  | none=>none) else none
 | none=>none
def Sm (S : St) (X6 : List Nat) (m k v : D) : Option St :=
 match m with
 | .mref g ver => match rowsOf S g ver with
  | some o => if o.kind = 3 ∧ o.elem = 0 ∧ Rn X6 k = true then (match Xp S.heap.length S.heap v with
   | some v'=>if v'.Xq&&v'.val then (match N7 X6 k o.rows 0 with
    | some (some (i,_))=>some (setAt S g { o with rows:=o.rows.set i [k,v'] })
    | some none=>some (setAt S g { o with rows:=o.rows++[[k,v']] })
    | none=>none) else none
   | none=>none) else none
  | none=>none
 | _=>none
def Dy (sz kind : Nat) (d : D) (src : List (List D)) (S : St) : Option (D × St × Bool) :=
 match d with
 | .X4=>some (.int .i64 0,S,false)
 | .sl s rows _=>if s=sz∧(src.isEmpty∨rows.isEmpty) then some (.int .i64 0,S,false) else none
 | .msl g v lo n _=>match rowsOf S g v with
  | some o => if o.sz = sz ∧ kW kind o.kind = true then
    some (.int .i64 (min src.length n:Nat),setAt S g { o with rows:=o.rows.take lo++src.take (min src.length n)++o.rows.drop (lo+min src.length n) },true) else none
  | none=>none
 | _=>none
def eqpD (S:St):D→D→Option Bool
 | .nilp,.nilp=>some true
 | .nilp,.ptr .. | .ptr ..,.nilp | .nilp,.X7 .. | .X7 ..,.nilp=>some false
 | .ptr g v i o,.ptr g' v' i' o'=>match rowsOf S g v,rowsOf S g' v' with
  | some ob,some _=>if g=g' then some (decide (i*ob.sz+o=i'*ob.sz+o')) else none
  | _,_=>none
 | _,_=>none
def Ot (S:St) (t:TypeId) (n:Nat):D→Option D
 | .nilp=>some .nilp
 | .ptr g v 0 0=>match rowsOf S g v with
  | some ob=>if ob.kind=0∧ob.elem=t∧ob.sz=n∧ob.rows.length=1∧ob.grow=false then some (.ptr g v 0 0) else none
  | none=>none
 | _=>none
def sdataD (S:St):D→Option D
 | .X4=>some .nilp
 | .msl g v 0 (_+1) none=>match rowsOf S g v with
  | some ob=>if ob.kind=1∨ob.kind=2 then some (.ptr g v 0 0) else none
  | none=>none
 | _=>none
def ustrD (S : St) (e : TypeId) (p : D) (n : Int) : Option (D × St × Bool) :=
 match p with
 | .nilp=>if n=0 then some (.str ⟨#[]⟩,S,false) else none
 | .ptr g v 0 0=>match rowsOf S g v with
  | some ob => if (ob.kind = 1 ∨ ob.kind = 2) ∧ ob.sz = 1 ∧ ob.elem = e ∧ 0 ≤ n ∧ n.toNat ≤ ob.rows.length then
    (match Py (ob.rows.take n.toNat) with
    | some b=>some (.str ⟨b.toArray⟩,setAt S g { ob with ver:=v+1 },true)
    | none=>none) else none
  | none=>none
 | _=>none
def Nc (S:St):D→Option (D × St × Bool)
 | .msl g v 0 n none=>match rowsOf S g v with
  | some ob=>if ob.kind=2∧ob.sz=1∧n=ob.rows.length∧ob.grow=false then some (.sl 1 ob.rows (some n),setAt S g { ob with ver:=v+1 },true) else none
  | none=>none
 | _=>none
def nextsD (S : St) (g v : Nat) : Option (D × St × Bool) :=
 match rowsOf S g v with
 | some ob => if ob.kind = 3 ∧ ob.elem = 1 then (match ob.rows with
  | [[.str s, .int .i64 pos]] => if pos.toNat < s.size then
    some (.tup [.bool true,.int .i64 pos,.int .i32 (Utf8.decode s pos.toNat).1],setAt S g { ob with rows:=[[.str s,.int .i64 (pos.toNat+(Utf8.decode s pos.toNat).2:Nat)]] },true)
   else some (.tup [.bool false],S,false)
  | _=>none) else none
 | none=>none
def lop:LOp→List D→St→Option (D × St × Bool)
 | .alloc e z,[],S=>some (.ptr S.heap.length 0 0 0,newAt S ⟨e,z.length,[z],0,0,false⟩,true)
 | .box e sz,[x],S=>if x.val&&x.cells.length==sz then some (.ptr S.heap.length 0 0 0,newAt S ⟨e,sz,[x.cells],0,0,false⟩,true) else none
 | .boxc sz,[x],S=>if x.val&&x.cells.length==sz&&x.cells.all D.free then some (.X7 x.cells 0,S,false) else none
 | .Xz e sz len z ps kind, xs, S => if kind = 0 then (match Dl (List.replicate len z) sz ps xs with
  | some rs=>some (.msl S.heap.length 0 0 len none,newAt S ⟨e,sz,rs,0,0,false⟩,true)
  | none=>none) else match Ah S.heap.length S.heap xs with
  | some ys=>match Dm (List.replicate len z) sz ps ys with
   | some rs=>if kind=2 then some (.msl S.heap.length 0 0 len none,newAt S ⟨e,sz,rs,0,2,false⟩,true) else some (.sl sz rs (some len),S,false)
   | none=>none
  | none=>none
 | .load sz agg,[a],S=>(G6 sz agg S a).map fun r=>(r,S,false)
 | .store sz,[a,x],S=>(I1 sz S a x).map fun S'=>(.undef,S',true)
 | .X0 sz,[x,i],S=>(Fe S sz x i).map fun r=>(r,S,false)
 | .slice false sz lo hi mx,x::xs,S=>match Bt lo hi mx xs with
  | some (a,b,m)=>(D5 S sz x a b m).map fun r=>(r,S,false)
  | none=>none
 | .append e sz bytes kind,[s,x],S=>Bo e sz bytes kind s x S
 | .mkslice e sz bytes z kind, [.int _ l, .int _ c], S => if 0 ≤ l ∧ l ≤ c ∧ c.toNat * bytes ≤ 140737488355328 then
   some (.msl S.heap.length 0 0 l.toNat none,newAt S ⟨e,sz,List.replicate l.toNat z,0,kind,decide (l≠c)⟩,true) else none
 | .bstr,[x],S=>match Bw S 1 x with
  | some rows=>(bytesOf rows).map fun b=>(.str ⟨b.toArray⟩,S,false)
  | none=>none
 | .strb,[.str s],S=>some (.sl 1 (byteRows s) none,S,false)
 | .appstr e bytes kind,[s,.str t],S=>Av e 1 bytes kind s (byteRows t) S
 | .appmk e sz bytes z kind,[.X4,.int _ n],S=>if 0<n∧n.toNat*bytes≤140737488355328 then some (.msl S.heap.length 0 0 n.toNat none,newAt S ⟨e,sz,List.replicate n.toNat z,0,kind,true⟩,true) else none
 | .eqp neg,[x,y],S=>(eqpD S x y).map fun b=>(.bool (b != neg),S,false)
 | .toU t n,[x],S=>(Ot S t n x).map fun r=>(r,S,false)
 | .ofU t n,[x],S=>(Ot S t n x).map fun r=>(r,S,false)
 | .sdata,[x],S=>(sdataD S x).map fun r=>(r,S,false)
 | .ustr e,[p,.int .i64 n],S=>ustrD S e p n
 | .strsh,[x],S=>Nc S x
 | .rngs,[.str s],S=>some (.iter S.heap.length 0,newAt S ⟨1,2,[[.str s,.int .i64 0]],0,3,false⟩,true)
 | .nexts,[.iter g v],S=>nextsD S g v
 | .mkmap,[],S=>some (.mref S.heap.length 0,newAt S ⟨0,2,[],0,3,false⟩,true)
 | .mapset kf,[m,k,v],S=>(Lf S kf m k v).map fun S'=>(.undef,S',true)
 | .mapget kf z ok,[m,k],S=>(Jg S kf z ok m k).map fun r=>(r,S,false)
 | .mapsetS X6,[m,k,v],S=>(Sm S X6 m k v).map fun S'=>(.undef,S',true)
 | .mapgetS X6 z ok,[m,k],S=>(Sn S X6 z ok m k).map fun r=>(r,S,false)
 | .copy sz kind,[d,x],S=>match readK kind S sz x with
  | some src=>Dy sz kind d src S
  | none=>none
 | .copys kind,[d,.str s],S=>if kind=0 then none else Dy 1 kind d (byteRows s) S
 | .mknz e, [.int .i64 n], S => if 0 ≤ n ∧ n ≤ 140737488355328 then
   some (.msl S.heap.length 0 0 n.toNat none,newAt S ⟨e,1,List.replicate n.toNat [.junk],0,2,true⟩,true) else none
 | _,_,_=>none
def LOp.loud:LOp→Bool
 | .slice false .. | .X0 .. | .alloc .. | .box .. | .boxc .. | .Xz .. | .load .. | .store .. | .append .. | .appstr .. | .appmk .. | .eqp .. | .toU .. | .ofU .. | .sdata | .ustr .. | .strsh | .rngs | .nexts | .mkslice .. | .bstr | .strb | .mkmap | .mapset .. | .mapget .. | .mapsetS .. | .mapgetS .. | .copy .. | .copys .. | .mknz .. | .call .. | .callv | .invoke ..=>true
 | _=>false
def aop (l:LOp) (ds:List D) (S:St):Option (D × St × Bool) :=
 if l.loud then lop l ds S else (pop l ds).map fun r=>(r,S,false)
def opd (vals env:List D):Xk→D
 | .env j=>env.getD j .undef
 | .loc d=>vals.getD d .undef
 | .const d=>d
abbrev Aq:=FuncId→List D→St→Option (D × St × Bool)
def YB:Nat:=1000000000
def Al (call:Aq) (o:LOp) (xs:List D) (S:St):Option (D × St × Bool) :=
 match o with
 | .call f=>if YB≤f then none else call f xs S
 | .callv=>match xs with
  | .fn f caps::ys=>if YB≤f then none else call f (ys++caps) S
  | .bfn f cs::ys=>if YB≤f then none else call f (cs++ys) S
  | .yld g::ys=>call (YB+g) ys S
  | _=>none
 | .invoke tab => match xs with
  | .ifc t d::ys=>match tab.lookup t with
   | some f=>if YB≤f then none else call f (d::ys) S
   | none=>none
  | .ifr t d::ys=>match tab.lookup t with
   | some f=>if YB≤f then none else call f (d::ys) S
   | none=>none
  | _=>none
 | o=>aop o xs S
def onG (vals:List D):Option (Nat × Bool)→Option Bool
 | none=>some true
 | some (d,b)=>match vals.getD d .undef with
  | .bool b'=>some (b'==b)
  | .skip=>some false
  | _=>none
def Hg (call:Aq):List Xj→List D→List D→St→Option (List D × St)
 | [],vals,env,S=>some (vals,S)
 | o :: os, vals, env, S =>
  match onG vals o.guard with
  | none=>none
  | some false=>Hg call os (.skip::vals) env S
  | some true=>match Al call o.op (o.args.map (opd vals env)) S with
   | none=>none
   | some (r,S',wr)=>Hg call os (r::vals) env S'
def Qf {α:Type} (p:α→α→Bool):List α→List α→Bool
 | [],[]=>true
 | a::l,b::m=>p a b&&Qf p l m
 | _,_=>false
def Wq:Nat→D→D→Bool
 | 0,_,_=>false
 | n+1,a,b=>match a,b with
  | .int k i,.int k' i'=>decide (k=k')&&decide (i=i')
  | .bool x,.bool y=>x==y
  | .str x,.str y=>decide (x.data.toList=y.data.toList)
  | .agg l,.agg m | .tup l,.tup m=>Qf (Wq n) l m
  | .ptr g v i o,.ptr g' v' i' o'=>decide (g=g')&&decide (v=v')&&decide (i=i')&&decide (o=o')
  | .X7 r o,.X7 r' o'=>decide (o=o')&&Qf (Wq n) r r'
  | .sl z l c,.sl z' l' c'=>decide (z=z')&&decide (c=c')&&Qf (Qf (Wq n)) l l'
  | .msl g v i o c,.msl g' v' i' o' c'=>decide (g=g')&&decide (v=v')&&decide (i=i')&&decide (o=o')&&decide (c=c')
  | .fn f l,.fn f' m | .bfn f l,.bfn f' m=>decide (f=f')&&Qf (Wq n) l m
  | .mref g v,.mref g' v' | .iter g v,.iter g' v'=>decide (g=g')&&decide (v=v')
  | .mp l,.mp m=>Qf (Qf (Wq n)) l m
  | .ifc t x,.ifc t' y | .ifr t x,.ifr t' y=>decide (t=t')&&Wq n x y
  | .yld g,.yld g'=>decide (g=g')
  | .nilp,.nilp | .X4,.X4 | .nilfn,.nilfn | .nilm,.nilm | .nili,.nili | .junk,.junk | .undef,.undef | .skip,.skip=>true
  | _,_=>false
def Xh.eqb (a b:Xh):Bool:=decide (a.elem=b.elem)&&decide (a.sz=b.sz)&&decide (a.ver=b.ver)&&decide (a.kind=b.kind)&&(a.grow==b.grow)&&Qf (Qf (Wq 12)) a.rows b.rows
def chg:List Xh→List Xh→Nat→List Nat
 | [],[],_=>[]
 | [],_::m,k=>k::chg [] m (k+1)
 | _::l,[],k=>k::chg l [] (k+1)
 | a::l,b::m,k=>if a.eqb b then chg l m (k+1) else k::chg l m (k+1)
structure FP where
 loud:Bool
 reads:Option (List Nat)
 writes:Option (List Nat)
 creates:Bool
 hoist:Option Nat
def Ay:D→Bool
 | .msl .. | .mref ..=>false
 | _=>true
def Xo:D→Bool
 | .agg cs=>cs.all Ay
 | d=>Ay d
def Ba (wr:Bool):FP:=if wr then ⟨true,none,none,true,none⟩ else ⟨true,none,some [],false,none⟩
def Am (l:List Nat):FP:=⟨true,some l,some [],false,none⟩
def Af:FP:=⟨false,some [],some [],false,none⟩
def Cc:D→List Nat
 | .msl g _ _ _ _=>[g]
 | _=>[]
def Bv (s x r:D) (wr:Bool):FP :=
 if wr then (match r with
  | .msl g _ _ _ _=>if Cc s=[g] then ⟨true,some (Cc s++Cc x),some [g],false,none⟩ else ⟨true,some (Cc s++Cc x),some [g],true,none⟩
  | _=>Ba wr) else Am (Cc s++Cc x)
def Cq (r:D) (wr:Bool):FP:=match r with
 | .msl g _ _ _ _=>if wr then ⟨true,some [],some [g],true,none⟩ else Am []
 | .sl _ _ _=>if wr then Ba wr else Am []
 | _=>Ba wr
def refs1:D→List Nat
 | .msl g _ _ _ _ | .mref g _=>[g]
 | _=>[]
def refV:D→List Nat
 | .agg cs=>cs.flatMap refs1
 | d=>refs1 d
def Dx (l:LOp) (ds:List D) (r:D) (wr:Bool) (W:List Nat):FP :=
 match l with
 | .load ..=>match ds with
  | [.ptr g _ _ _]=>Am [g]
  | _=>Am []
 | .store ..=>match ds with
  | [.ptr g _ _ _,x]=>⟨true,some (g::refV x),some [g],false,none⟩
  | _=>Ba wr
 | .X0 ..=>match ds with
  | [.msl g _ _ _ _,_]=>Am [g]
  | _=>Am []
 | .slice false ..=>match ds with
  | .msl g _ _ _ _::_=>Am [g]
  | _=>Am []
 | .mapget ..=>match ds with
  | [.mref g _,_]=>Am [g]
  | _=>Am []
 | .box ..=>match r with
  | .ptr g _ _ _=>⟨true,some [],some [g],true,none⟩
  | _=>Ba wr
 | .mknz .. | .mkslice ..=>match r with
  | .msl g _ _ _ _=>⟨true,some [],some [g],true,none⟩
  | _=>Ba wr
 | .strb=>Am []
 | .boxc ..=>Am []
 | .Xz _ _ _ _ _ kind=>if kind=0||ds.all Xo then Cq r wr else Ba wr
 | .append ..=>match ds with
  | [s,x]=>Bv s x r wr
  | _=>Ba wr
 | .call _ | .callv | .invoke _=>if wr then ⟨true,none,some W,true,none⟩ else Ba false
 | l=>if l.loud then Ba wr else Af
def dj:Option (List Nat)→Option (List Nat)→Bool
 | some [],_=>true
 | _,some []=>true
 | some l,some m=>l.all fun g=>!(m.contains g)
 | _,_=>false
def Az (g:Nat):Option (List Nat)→Bool
 | some l=>!(l.contains g)
 | none=>true
def Bn (a b:FP):Bool :=
 !a.loud||!b.loud ||
  (dj a.writes b.reads&&dj a.writes b.writes&&dj b.writes a.reads&&!(a.creates&&b.creates)&&!(a.creates&&b.reads.isNone)&&!(b.creates&&a.reads.isNone))
def Ap (b:Bool) (f x:FP):Bool :=
 match f.hoist,x.hoist with
 | some _,some _=>true
 | some g,none=>b||Az g x.writes
 | none,some g=>Az g f.writes
 | none,none=>b||Bn f x
def Cf:List Bool→List FP→FP→Bool
 | b::bs,f::fs,x=>Ap b f x&&Cf bs fs x
 | [],[],_=>true
 | _,_,_=>false
def Ej:List Bool→List FP→List Nat
 | b::bs,f::fs=>match b,f.hoist with
  | true,some g=>g::Ej bs fs
  | _,_=>Ej bs fs
 | _,_=>[]
def Ir:D→D→Bool
 | .int k n,.int k' n'=>decide (k=k')&&decide (n=n')
 | .bool a,.bool b=>a==b
 | .str a,.str b=>decide (a=b)
 | .nilp,.nilp | .X4,.X4 | .nilfn,.nilfn | .nilm,.nilm=>true
 | _,_=>false
def Fq:List D→List D→Bool
 | [],[]=>true
 | a::l,b::m=>Ir a b&&Fq l m
 | _,_=>false
def E9 (p:TypeId × List D):Option Xh→Bool
 | some ⟨e,sz,[row],0,0,false⟩=>decide (e=p.1)&&decide (sz=p.2.length)&&Fq row p.2
 | _=>false
def Aw (n:Nat) (dn:List Nat) (H:List Xh):List (TypeId × List D)→Nat→Bool
 | [],_=>true
 | p::l,r=>(dn.contains (n+r)||E9 p H[n+r]?)&&Aw n dn H l (r+1)
def Ac (n:Nat) (o:Xj) (ds:List D) (r:D) (wr:Bool) (W:List Nat):FP :=
 match o.hoist with
 | some k=>⟨false,some [],some [],false,some (n+k)⟩
 | none=>Dx o.op ds r wr W
def Ar (n:Nat) (news:List (TypeId × List D)) (o:Xj) (fps:List FP) (fp:FP) (S:St):Bool :=
 Cf o.ord fps fp&&(fp.writes.isSome||Aw n (Ej o.ord fps) S.heap news 0)
def Im (call:Aq) (n:Nat) (news:List (TypeId × List D)):List Xj→List FP→List D→List D→St→Option (List D × St)
 | [],_,vals,env,S=>some (vals,S)
 | o :: os, fps, vals, env, S =>
  match onG vals o.guard with
  | none=>none
  | some false=>Im call n news os (Af::fps) (.skip::vals) env S
  | some true=>match Al call o.op (o.args.map (opd vals env)) S with
   | none=>none
   | some (r,S',wr)=>if Ar n news o fps (Ac n o (o.args.map (opd vals env)) r wr (chg S.heap S'.heap 0)) S' then Im call n news os (Ac n o (o.args.map (opd vals env)) r wr (chg S.heap S'.heap 0)::fps) (r::vals) env S' else none
def Gg (p:TypeId × List D):Xh:=⟨p.1,p.2.length,[p.2],0,0,false⟩
def Ex (n k:Nat):List D:=((List.range k).map fun r=>D.ptr (n+r) 0 0 0).reverse
def exports:List (Nat × Nat)→List D→List D→List D
 | [],vals,env=>env
 | (j,d)::es,vals,env=>exports es vals (env.set j (vals.getD d .undef))
inductive Xm where
 | normal | ret | exit (i:Nat)
def Gi (body:List D→St→Option (Xm × List D × St)):Nat→List D→St→Option (Xm × List D × St)
 | 0,_,_=>none
 | n+1,env,S=>match body env S with
  | some (.normal,env',S')=>Gi body n env' S'
  | r=>r
abbrev HF:=List D→St→Option (D × St × Bool)
def Jw (j:Nat):Xh:=⟨2,1,[[.int .i64 j]],0,3,false⟩
def lstO:Option Xh→Option Nat
 | some o=>match o.rows with
  | [[.int .i64 (.ofNat n)]]=>if o.elem=2∧o.sz=1∧o.ver=0∧o.kind=3∧o.grow=false then some n else none
  | _=>none
 | none=>none
def lst (S:St) (g:Nat):Option Nat:=lstO S.heap[g]?
def Oo (S:St) (g j:Nat):St:=setAt S g (Jw j)
def setPs:List Nat→List D→List D→List D
 | p::ps,y::ys,env=>setPs ps ys (env.set p y)
 | _,_,env=>env
def codeOf:Xm→Nat
 | .normal=>0
 | .ret=>3
 | .exit i=>i+4
def Pw:Nat→Option Xm
 | 0=>some .normal
 | 3=>some .ret
 | n+4=>some (.exit n)
 | _=>none
def rndH (ra rb : List D → St → Option (Xm × List D × St)) (g : Nat) (ps : List Nat) (env : List D) : HF := fun ys S1 =>
 match lst S1 g with
 | some 0 => if ys.length = ps.length then (match ra (setPs ps ys env) S1 with
  | some (.normal, env1, S2) => (match lst S2 g with
   | some 0 => (match rb env1 (Oo S2 g 1) with
    | some (e,_,S3)=>(match lst S3 g with
     | some 1=>some (.bool (codeOf e==0),Oo S3 g (codeOf e),true)
     | _=>none)
    | none=>none)
   | _=>none)
  | _=>none) else none
 | _=>none
def Bc (call : Aq) (inst : Nat → HF → Aq) (N : Nat) : Xl → List D → St → Option (Xm × List D × St)
 | .skip,env,S=>some (.normal,env,S)
 | .ret,env,S=>some (.ret,env,S)
 | .exit i,env,S=>some (.exit i,env,S)
 | .region ops exps,env,S=>match Hg call ops [] env S with
  | some (vals,S')=>some (.normal,exports exps vals env,S')
  | none=>none
 | .drawn ops exps news,env,S=>match Im call S.heap.length news ops [] (Ex S.heap.length news.length) env ⟨S.heap++news.map Gg,S.low⟩ with
  | some (vals,S')=>some (.normal,exports exps vals env,S')
  | none=>none
 | .seq a b,env,S=>match Bc call inst N a env S with
  | some (.normal,env',S')=>Bc call inst N b env' S'
  | r=>r
 | .cond c a b,env,S=>match opd [] env c with
  | .bool true=>Bc call inst N a env S
  | .bool false=>Bc call inst N b env S
  | _=>none
 | .block i c,env,S=>match Bc call inst N c env S with
  | some (.exit j,env',S')=>if j=i then some (.normal,env',S') else some (.exit j,env',S')
  | r=>r
 | .loop c,env,S=>Gi (Bc call inst N c) N env S
 | .dfr x,env,S=>match opd [] env x with
  | .fn f caps=>some (.normal,env++[.fn f caps],S)
  | _=>none
 | .rfunc x n ps a b, env, S => match opd [] env x with
  | .fn f caps => if YB ≤ f then none else match inst S.heap.length (rndH (Bc call inst N a) (Bc call inst N b) S.heap.length ps (env.take n)) f (.yld S.heap.length :: caps) (newAt S (Jw 0)) with
   | some (_, S5, _) => match lst S5 S.heap.length with
    | some j=>(match Pw j with
     | some e=>some (e,env++[.junk],Oo S5 S.heap.length 2)
     | none=>none)
    | none=>none
   | none=>none
  | _=>none
 | .fail,_,_=>none
def Ee:Xl→Bool
 | .dfr _=>false
 | .rfunc ..=>false
 | .seq a b=>Ee a&&Ee b
 | .cond _ a b=>Ee a&&Ee b
 | .block _ c=>Ee c
 | .loop c=>Ee c
 | _=>true
def Lu (tab : FuncId → Option Xi) (call : Aq) (inst : Nat → HF → Aq) (N : Nat) : List D → St → Option St
 | [],S=>some S
 | .fn f caps::l,S=>match tab f with
  | some F => if caps.length = F.nargs ∧ Ee F.body = true ∧ F.res = [] then (match Bc call inst N F.body (F.slots.map fun s => caps.getD s .undef) S with
    | some (.exit _,_,_) | none=>none
    | some (_,_,S')=>Lu tab call inst N l S') else none
  | none=>none
 | _::_,_=>none
def I5 (env:List D) (S:St):LRes→Option D
 | .tmp j=>some (env.getD j .undef)
 | .cell j sz agg=>G6 sz agg S (env.getD j .undef)
def En (env:List D) (S:St):List LRes→Option (List D)
 | []=>some []
 | r::l=>match I5 env S r,En env S l with
  | some x,some y=>some (x::y)
  | _,_=>none
def Ce (env:List D) (S:St) (l:List LRes):Option D :=
 match En env S l with
 | some [x]=>some x
 | some xs=>some (.tup xs)
 | none=>none
def Og (m : Nat) (H : List Xh) : Nat → D → Option D
 | 0,d=>snap m H d
 | k+1,.msl g v lo n cap=>match H[g]? with
  | some o => if o.ver = v ∧ m ≤ g ∧ o.kind = 0 then (match ((o.rows.drop lo).take n).mapM (fun r => r.mapM (Og m H k)) with
    | some rows=>if rows.all (fun r=>r.all D.free) then some (.sl o.sz rows (match cap with | some c=>some c | none=>if o.grow then none else some (o.rows.length-lo))) else none
    | none=>none) else snap m H (.msl g v lo n cap)
  | none=>none
 | _+1,d=>snap m H d
def snapDV (m:Nat) (H:List Xh):D→Option D
 | .agg cs=>(cs.mapM (Og m H 6)).map .agg
 | d=>Og m H 6 d
def snapDR (m:Nat) (H:List Xh):D→Option D
 | .tup ds=>(ds.mapM (snapDV m H)).map .tup
 | d=>snapDV m H d
def leave (raw:Bool) (S:St) (r:D) (S':St):Option (D × St × Bool) :=
 if raw then some (r,⟨S'.heap,min S.low S'.low⟩,true) else
 match (if S.heap.length≤S'.low then (match Xt S.heap.length S'.heap r with | some r'=>if r'.Xr then some r' else none | none=>none) else none) with
 | some r'=>some (r',S,false)
 | none=>match Xt S'.heap.length S'.heap r with
  | some r'=>if S.heap.length≤S'.low∧S'.heap.length=S.heap.length then some (r',S,false) else some (r',⟨S'.heap,min S.low S'.low⟩,true)
  | none=>none
structure Prg where
 fns:FuncId→Option Xi
 raw:FuncId→Bool
 pure:FuncId→Bool
 deep:FuncId→Bool:=fun _=>false
 ext:FuncId→List D→Option D:=fun _ _=>none
 dfs:FuncId→Bool:=fun _=>false
 dfn:FuncId→Option Xi:=fun _=>none
 mem:FuncId→List D→St→Option (D × St × Bool):=fun _ _ _=>none
def leaveD (S T:St) (r:D) (S':St):Option (D × St × Bool) :=
 if S.heap.length≤S'.low then (match snapDR S.heap.length S'.heap r with | some r'=>if r'.Xr then some (r',T,false) else none | none=>none) else none
def Df (S:St) (r:D) (S':St):Option (D × St × Bool) :=
 match leave false ⟨[],0⟩ r S' with
 | some (r',_,false)=>if r'.Xr then some (r',S,false) else none
 | _=>none
def Pk:D→Bool
 | .junk=>true
 | _=>false
def behind (L:Prg) (call:Aq) (inst:Nat→HF→Aq) (N:Nat) (f:FuncId) (F:Xi) (env':List D) (S':St):Option St :=
 if L.dfs f then (if (env'.drop F.slots.length).all Pk then some S' else Lu L.dfn call inst N (env'.drop F.slots.length).reverse S') else some S'
abbrev YF:=Nat→HF
def noY:YF:=fun _ _ _=>none
def M8 (Y:YF) (g:Nat) (h:HF):YF:=fun g'=>if g'=g then h else Y g'
def Dc (L : Prg) (N : Nat) : Nat → YF → Aq
  | 0,_,_,_,_=>none
  | d + 1, Y, f, args, S => if YB ≤ f then Y (f - YB) args S else match L.ext f args with
   | some r=>some (r,S,false)
   | none=>match L.mem f args S with
   | some x=>some x
   | none => match L.fns f with
    | none=>none
    | some F => match (if L.raw f then some args else Ah S.heap.length S.heap args) with
      | none=>none
      | some args' =>
        if args'.length≠F.nargs then none else
        if L.pure f&&args'.all D.Xq then
          match Bc (Dc L N d noY) (fun g h=>Dc L N d (M8 noY g h)) N F.body (F.slots.map fun s=>args'.getD s .undef) ⟨[],0⟩ with
          | some (.exit _,_,_) | none=>none
          | some (_, env', S1) => match behind L (Dc L N d noY) (fun g h => Dc L N d (M8 noY g h)) N f F env' S1 with
            | none=>none
            | some S' => match Ce env' S' F.res with
              | none=>none
              | some r=>if L.deep f then leaveD ⟨[],0⟩ S r S' else Df S r S'
        else
        match Bc (Dc L N d Y) (fun g h=>Dc L N d (M8 Y g h)) N F.body (F.slots.map fun s=>args'.getD s .undef) ⟨S.heap,S.heap.length⟩ with
        | some (.exit _,_,_) | none=>none
        | some (_, env', S1) => match behind L (Dc L N d Y) (fun g h => Dc L N d (M8 Y g h)) N f F env' S1 with
          | none=>none
          | some S' => match Ce env' S' F.res with
            | none=>none
            | some r=>if L.deep f then leaveD S S r S' else leave (L.raw f) S r S'
def Ae (L:Prg) (N d:Nat):Aq:=Dc L N d noY
def insF (L:Prg) (N d:Nat):Nat→HF→Aq:=fun g h=>Dc L N d (M8 noY g h)
def cellOf:Value→Option D
 | .int k n=>some (.int k n)
 | .bool b=>some (.bool b)
 | .string s=>some (.str s)
 | .pointer none=>some .nilp
 | .slice none 0 0=>some .X4
 | .nilFunc=>some .nilfn
 | .map none=>some .nilm
 | .nilIface=>some .nili
 | _=>none
def cellsOf:List Value→Option (List D)
 | []=>some []
 | v::l=>match cellOf v,cellsOf l with
  | some x,some y=>some (x::y)
  | _,_=>none
def Qy:Value→Option D
 | .agg cs=>(cellsOf cs.toList).map .agg
 | v=>cellOf v
def G5:List (Option Tmp)→Tmp→Option Nat
 | [],_=>none
 | o::l,t=>if o=some t then some 0 else (G5 l t).map (·+1)
def idxOf:List Nat→Nat→Option Nat
 | [],_=>none
 | s::l,t=>if s=t then some 0 else (idxOf l t).map (·+1)
structure Kd where
 kind:TypeId→Nat
 glob:Nat→Option (List D):=fun _=>none
 bx:Option Tmp→Bool:=fun _=>false
def Kd.of (kd:Kd) (e:TypeId):Nat:=if kd.kind e=0 then 0 else if kd.kind e=2 then 2 else 1
def Kd.lit (kd:Kd) (b:Bool):Kd:=if b then ⟨fun _=>2,kd.glob,kd.bx⟩ else kd
def bxL (l:List Nat):Option Tmp→Bool
 | some t=>l.contains t
 | none=>false
def Rk (gl:Nat→Option (List D)) (slots:List Nat) (prev:List (Option Tmp)):Operand→Option Xk
 | .tmp t=>match G5 prev t with
  | some d=>some (.loc d)
  | none=>(idxOf slots t).map .env
 | .const v=>some (.const ((Qy v).getD .undef))
 | .func f=>some (.const (.fn f []))
 | .global g=>some (.const (match gl g with | some row=>.X7 row 0 | none=>.undef))
section
variable (P:Program)
def Cj (t:TypeId):Option Nat:=match P.info? t,P.underlying t with
 | some i,some _=>if i.size=0 then none else some i.size
 | _,_=>none
def size0T (t:TypeId):Option Nat:=match P.info? t,P.underlying t with
 | some i,some _=>some i.size
 | _,_=>none
def Fw (t:TypeId):Bool:=match P.underlying t with
 | some (.struct _) | some (.array _ _)=>true
 | _=>false
def H8 (t:TypeId):Option (List D):=match P.info? t with
 | some i=>match i.zero with
  | some z=>cellsOf z.cells.toList
  | none=>none
 | none=>none
def Oq (t:TypeId):Option D:=match P.info? t with
 | some i=>match i.zero with
  | some z=>Qy z
  | none=>none
 | none=>none
def fieldT (s:TypeId) (f:Nat):Option Field:=match P.underlying s with
 | some (.struct fs)=>fs[f]?
 | _=>none
def boolT (t:TypeId):Bool:=match P.underlying t with | some .bool=>true | _=>false
def Um (t:TypeId):Option IntKind:=match P.underlying t with | some (.int k)=>some k | _=>none
def Ng (t:TypeId):Bool:=match P.underlying t with | some .string=>true | _=>false
def sliceT (t:TypeId):Option TypeId:=match P.underlying t with | some (.slice e)=>some e | _=>none
def arrayT (t:TypeId):Option (Nat × TypeId):=match P.underlying t with | some (.array n e)=>some (n,e) | _=>none
def nilT (t:TypeId):Option Nat:=match P.underlying t with | some (.slice _)=>some 0 | some (.pointer _)=>some 1 | some (.func _ _ _)=>some 2 | some (.map _ _)=>some 3 | some (.interface _)=>some 4 | _=>none
def keyT (t:TypeId):Option Nat:=match P.underlying t with | some (.int _)=>some 0 | some .string=>some 1 | some .bool=>some 2 | _=>none
def mapT (t:TypeId):Option (TypeId × TypeId):=match P.underlying t with | some (.map k e)=>some (k,e) | _=>none
def placeT (t:TypeId):Option (Nat→Option (Nat × Nat)):=match P.underlying t with
 | some (.array _ e)=>match P.info? e with
  | some ie=>some fun i=>some (i*ie.size,ie.size)
  | none=>none
 | some (.struct fields)=>match fields.toList.mapM (fun f=>(P.info? f.type).map fun i=>(f.offset,i.size)) with
  | some places=>some (places.toArray[·]?)
  | none=>none
 | _=>none
def Qm (pl:Nat→Option (Nat × Nat)):List (Nat × Operand)→Option (List (Nat × Nat))
 | []=>some []
 | (i,_)::l=>match pl i,Qm pl l with
  | some x,some y=>some (x::y)
  | _,_=>none
def eqFields (rec:TypeId→Option (List Nat)):List Field→Nat→Option (List Nat)
 | [],_=>some []
 | f :: l, o => if f.name = "_" ∨ f.offset ≠ o then none else match rec f.type, Cj P f.type with
  | some a,some m=>if a.length=m then (eqFields rec l (o+m)).map (a++·) else none
  | _,_=>none
def Ep:Nat→TypeId→Option (List Nat)
 | 0,_=>none
 | d+1,t=>match P.underlying t with
  | some (.int _)=>some [0]
  | some .string=>some [1]
  | some .bool=>some [2]
  | some (.struct fs)=>if P.stoodInHeld t||P.eqGuardType P.depth t then none else eqFields P (Ep d) fs.toList 0
  | _=>none
def opnds (l:List (Option Operand)):List Operand:=l.filterMap id
def isConst:Operand→Bool
 | .const _=>true
 | _=>false
def Li (s:String):Option LOp :=
 if s = "internal/bytealg.IndexByteString" then some .idxb
 else if s = "internal/bytealg.CountString" then some .cntb
 else if s = "internal/abi.NoEscape" then some .mv
 else none
def ptrT (t:TypeId):Option TypeId:=match P.underlying t with | some (.pointer e)=>some e | _=>none
def unsT (t:TypeId):Bool:=match P.underlying t with | some .unsafePointer=>true | _=>false
def O7 (t:TypeId):Bool:=match P.underlying t with | some (.pointer _)=>true | _=>false
def Sl (name:String):List (TypeId × FuncId):=(List.range P.types.size).filterMap fun t=>match P.info? t with
 | some i => match i.methods.find? (·.name == name) with
  | some m=>match m.func with
   | some (f,pr)=>if m.path.isEmpty&&(pr==O7 P t)&&(P.underlying t).isSome&&(match P.funcs[f]? with | some fn=>fn.body.isSome | none=>false) then some (t,f) else none
   | none=>none
  | none=>none
 | none=>none
def Oj (kd : Kd) (o : Oper) : Option (LOp × List Operand) :=
  match o.op with
  | .move x | .assign x=>some (.mv,[x])
  | .pick c a b=>some (.pick,[c,a,b])
  | .binOp op t x y _ =>
    if op = .eql ∨ op = .neq then
      (if boolT P t then some (.eqb (op = .neq), [x, y])
       else if (Um P t).isSome||Ng P t then some (.bin op,[x,y])
       else match nilT P t with
        | some fam=>if fam=1 then (match ptrT P t with
            | some e=>(Cj P e).map fun _=>(.eqp (op=.neq),[x,y])
            | none=>none) else if fam=4∧isConst x=false∧isConst y=false then none else some (.eqnil (op=.neq) fam,[x,y])
        | none => if Fw P t then (match Ep P 9 t with
          | some X6=>some (.eqs (op=.neq) X6,[x,y])
          | none=>none) else none)
    else some (.bin op,[x,y])
  | .unOp op _ x=>some (.un op,[x])
  | .alloc e => match H8 P e, Cj P e with
    | some z,some n=>if z.length=n then some (.alloc e z,[]) else none
    | _,_=>none
  | .box e x=>if kd.bx o.dst then (size0T P e).map fun n=>(.boxc n,[x]) else (Cj P e).map fun n=>(.box e n,[x])
  | .build t ps => match H8 P t, placeT P t with
    | some z, some pl => match Qm pl ps.toList with
      | some l=>some (.build z l,ps.toList.map (·.2))
      | none=>none
    | _,_=>none
  | .buildSlice t len ps => match sliceT P t with
    | some e => match H8 P e, Cj P e with
      | some z,some n=>if z.length=n∧len*n≤16777216 then some (.Xz e n len z (ps.toList.map (·.1)) (if kd.bx o.dst then 1 else kd.of e),ps.toList.map (·.2)) else none
      | _,_=>none
    | none=>none
  | .load t a=>(Cj P t).map fun n=>(.load n (Fw P t),[a])
  | .store t a v=>(Cj P t).map fun n=>(.store n,[a,v])
  | .nilCheck x=>some (.nilck,[x])
  | .fieldAddr s x f => match fieldT P s f with
    | some fd=>(Cj P fd.type).map fun _=>(.X3 fd.offset,[x])
    | none=>none
  | .field s x f => match fieldT P s f with
    | some fd=>(Cj P fd.type).map fun n=>(.field fd.offset n (Fw P fd.type),[x])
    | none=>none
  | .indexAddr t x i => match sliceT P t with
    | some e=>(Cj P e).map fun n=>(.X0 n,[x,i])
    | none => match arrayT P t with
      | some (len,e)=>(Cj P e).map fun n=>(.aaddr n len,[x,i])
      | none=>none
  | .index t x i => if Ng P t then some (.index, [x, i]) else match arrayT P t with
    | some (len,e)=>(Cj P e).map fun n=>(.aindex n len (Fw P e),[x,i])
    | none=>none
  | .slice t x lo hi mx => if Ng P t then some (.slice true 0 lo.isSome hi.isSome mx.isSome, x :: opnds [lo, hi, mx]) else match sliceT P t with
    | some e=>(Cj P e).map fun n=>(.slice false n lo.isSome hi.isSome mx.isSome,x::opnds [lo,hi,mx])
    | none=>none
  | .extract x i=>some (.extract i,[x])
  | .makeSlice t l c => match sliceT P t with
    | some e => match P.info? e, H8 P e, Cj P e with
      | some i,some z,some n=>if z.length=n∧0<i.bytes then some (.mkslice e n i.bytes z (kd.of e),[l,c]) else none
      | _,_,_=>none
    | none=>none
  | .makeMap t r=>if r.isNone then some (.mkmap,[]) else none
  | .insert t m k v | .mapUpdate t m k v => match mapT P t with
    | some (kt, _) => match keyT P kt with
      | some kf=>some (.mapset kf,[m,k,v])
      | none=>if Fw P kt then (Ep P 9 kt).map fun X6=>(.mapsetS X6,[m,k,v]) else none
    | none=>none
  | .lookup t m k ok => match mapT P t with
    | some (kt, e) => match Oq P e, keyT P kt with
      | some z,some kf=>some (.mapget kf z ok,[m,k])
      | some z,none=>if Fw P kt then (Ep P 9 kt).map fun X6=>(.mapgetS X6 z ok,[m,k]) else none
      | _,_=>none
    | none=>none
  | .makeFunc (.func f) first caps=>if first.isEmpty then some (.mkfn f,caps.toList) else if caps.isEmpty then some (.mkbf f,first.toList) else none
  | .convert s d x => match Um P s, Um P d with
    | some _,some k=>some (.conv k,[x])
    | _, _ => if Ng P s && Ng P d then some (.sconv, [x]) else
      if unsT P d then (match ptrT P s with | some t=>(Cj P t).map fun n=>(.toU t n,[x]) | none=>none) else
      if unsT P s then (match ptrT P d with | some t=>(Cj P t).map fun n=>(.ofU t n,[x]) | none=>none) else
      match sliceT P s,sliceT P d with
      | some e,some _=>if s=d∧Um P e=some .u8∧Cj P e=some 1 then some (.strsh,[x]) else none
      | some e,none=>if Um P e=some .u8&&Ng P d&&(Cj P e==some 1) then some (.bstr,[x]) else none
      | none,some e=>if Um P e=some .u8&&Ng P s&&(Cj P e==some 1) then some (.strb,[x]) else none
      | _,_=>none
  | .makeInterface t x => match P.underlying t with
    | some (.interface _) | none=>none
    | some _=>some (.mkif t,[x])
  | .typeAssert x _ t ok => match P.underlying t with
    | some (.interface _) | none=>none
    | some _=>(Oq P t).map fun z=>(.tass t z ok,[x])
  | .call c => match c.callee with
    | .invoke recv name=>some (.invoke (Sl P name),recv::c.args.toList)
    | .value (.func f) => match P.funcs[f]? with
      | some fn => if fn.body.isNone then (if fn.name = "internal/bytealg.MakeNoZero" ∧ fn.origin = "" then (match fn.resultTypes.toList with
          | [t] => (match sliceT P t with
            | some e=>if Um P e=some .u8∧Cj P e=some 1 then some (.mknz e,c.args.toList) else none
            | none=>none)
          | _ => none) else match (if fn.origin = "" then Li fn.name else none) with
        | some l=>some (l,c.args.toList)
        | none=>none) else some (.call f,c.args.toList)
      | none=>none
    | .value (.tmp t)=>some (.callv,.tmp t::c.args.toList)
    | .builtin .len => match c.args.toList, c.argTypes.toList with
      | [x], [t] => if Ng P t || (sliceT P t).isSome then some (.len (Ng P t), [x]) else match arrayT P t with
        | some (n,_)=>some (.lenc n,[x])
        | none=>none
      | _,_=>none
    | .builtin .cap => match c.args.toList, c.argTypes.toList with
      | [x],[t]=>if (sliceT P t).isSome then some (.cap,[x]) else none
      | _,_=>none
    | .builtin .append => match c.args.toList, c.argTypes.toList with
      | [s, x], [t, t'] => if Ng P t' then (match sliceT P t with
        | some e => match P.info? e, H8 P e with
          | some i,some z=>if Um P e=some .u8∧Cj P e=some 1∧z.length=1∧0<i.bytes then some (.appstr e i.bytes (kd.of e),[s,x]) else none
          | _,_=>none
        | none=>none) else if t=t' then (match sliceT P t with
        | some e => match P.info? e, Cj P e, H8 P e with
          | some i,some n,some z=>if z.length=n∧0<i.bytes then some (.append e n i.bytes (kd.of e),[s,x]) else none
          | _,_,_=>none
        | none=>none) else if (Um P t').isSome then (match sliceT P t with
        | some e => match P.info? e, Cj P e, H8 P e with
          | some i,some n,some z=>if z.length=n∧0<i.bytes then some (.appmk e n i.bytes z (if kd.of e=0 then 0 else 2),[s,x]) else none
          | _,_,_=>none
        | none=>none) else none
      | _,_=>none
    | .builtin .copy => match c.args.toList, c.argTypes.toList with
      | [d, x], [t, t'] => (match sliceT P t with
        | some e => match P.info? e, Cj P e with
          | some _,some n=>if n=1 then (if Ng P t' then (if Um P e=some .u8 then some (.copys (kd.of e),[d,x]) else none) else if t=t' then some (.copy 1 (kd.of e),[d,x]) else none) else none
          | _,_=>none
        | none=>none)
      | _,_=>none
    | .builtin .max=>some (.max,c.args.toList)
    | .builtin .min=>some (.min,c.args.toList)
    | .builtin .unsafeSliceData => match c.args.toList with
      | [x]=>some (.sdata,[x])
      | _=>none
    | .builtin .unsafeString => match c.args.toList, c.argTypes.toList with
      | [x, y], [t, _] => (match ptrT P t with
        | some e=>if Um P e=some .u8∧Cj P e=some 1 then some (.ustr e,[x,y]) else none
        | none=>none)
      | _,_=>none
    | _=>none
  | .range t x=>if Ng P t then some (.rngs,[x]) else none
  | .next it isString=>if isString then some (.nexts,[it]) else none
  | _=>none
def Pi (kd:Kd) (o:Oper):Option (LOp × List Operand):=match Oj P kd o with
 | some x=>some x
 | none=>some (.fail,[])
def Nr (gl:Nat→Option (List D)) (slots:List Nat) (prev:List (Option Tmp)):List Operand→Option (List Xk)
 | []=>some []
 | x::l=>match Rk gl slots prev x,Nr gl slots prev l with
  | some y,some m=>some (y::m)
  | _,_=>none
def ordered (bs:List Nat) (i j:Nat):Bool:=(bs.getD (Nat.max i j) 0).testBit (Nat.min i j)
def Pb (bs:List Nat) (i:Nat):List Bool:=((List.range i).map fun j=>(bs.getD i 0).testBit j).reverse
def Jp (prev:List (Option Tmp)):Option (Nat × Bool)→Option (Option (Nat × Bool))
 | none=>some none
 | some (j, b) =>
  if j<prev.length then
   match prev.getD (prev.length-1-j) none with
   | some t=>if G5 prev t=some (prev.length-1-j) then some (some (prev.length-1-j,b)) else none
   | none=>none
  else none
def Gu (nt:Nat):Option Tmp→Bool
 | some d=>decide (d<nt)
 | none=>true
def litOf (o:Oper) (os:List Oper):Bool:=match o.dst with
 | some d=>os.any fun o'=>match o'.op with
  | .convert s t (.tmp t')=>s==t&&t'==d
  | _=>false
 | none=>false
def Uj (kd:Kd) (nt:Nat) (slots:List Nat):List Oper→List (Option Tmp)→Option (List Xj)
 | [],_=>some []
 | o :: os, prev => match Pi P (kd.lit (litOf o os)) o with
  | none=>none
  | some (l,xs)=>match Nr kd.glob slots prev xs,Jp prev o.guard,Uj kd nt slots os (o.dst::prev) with
   | some args,some g,some rest=>if Gu nt o.dst then some (⟨l,args,g,[],none⟩::rest) else none
   | _,_,_=>none
def Le (o:Oper):Option (TypeId × List D) :=
 match o.op,o.guard with
 | .alloc e,none=>match H8 P e,Cj P e with
  | some z,some n=>if z.length=n then some (e,z) else none
  | _,_=>none
 | _,_=>none
def D7 (ops:List Oper):List (TypeId × List D):=ops.filterMap (Le P)
def Rm (kd : Kd) (nt : Nat) (slots : List Nat) (bs : List Nat) (k : Nat) : List Oper → List (Option Tmp) → Nat → Option (List Xj)
 | [],_,_=>some []
 | o :: os, prev, r => if Gu nt o.dst then (match Le P o with
  | some _=>match Rm kd nt slots bs k os (o.dst::prev) (r+1) with
   | some rest=>some (⟨.mv,[.loc (prev.length+(k-1-r))],none,Pb bs prev.length,some r⟩::rest)
   | none=>none
  | none => match Pi P (kd.lit (litOf o os)) o with
   | none=>none
   | some (l,xs)=>match Nr kd.glob slots prev xs,Jp prev o.guard,Rm kd nt slots bs k os (o.dst::prev) r with
    | some args,some g,some rest=>some (⟨l,args,g,Pb bs prev.length,none⟩::rest)
    | _,_,_=>none) else none
def dstsOf (ops:List Oper):List (Option Tmp):=(ops.map (·.dst)).reverse
def H6 (dsts:List (Option Tmp)):List Nat→Nat→List (Nat × Nat)
 | [],_=>[]
 | s::l,j=>match G5 dsts s with
  | some d=>(j,d)::H6 dsts l (j+1)
  | none=>H6 dsts l (j+1)
def drawOk (kd : Kd) (ops : Array Oper) (bs : List Nat) : Bool :=
 (List.range ops.size).all fun i=>match ops[i]? with
  | none=>true
  | some o =>
   (o.after.toList.all fun e=>!(Region.binds .any e)||decide (e.on<i)) &&
   ((List.range ops.size).all fun k=>match ops[k]? with
    | none=>true
    | some o' => match o'.dst with
     | none=>true
     | some d => k == i || (o.dst != some d &&
      (ordered bs i k||(((match Pi P (kd.lit true) o with | some (_,xs)=>xs.all (fun x=>match x with | .tmp t=>t != d | _=>true) | none=>false)&&(match Pi P (kd.lit false) o with | some (_,xs)=>xs.all (fun x=>match x with | .tmp t=>t != d | _=>true) | none=>false)) &&
       (match o.guard with | some (j,_)=>(match ops[j]? with | some oj=>oj.dst != some d | none=>true) | none=>true)))))
def Qo (kd:Kd) (nt:Nat) (slots:List Nat) (ops:Array Oper) (draw:Bool):Option Xl :=
 if draw then
  if drawOk P kd ops (Region.before ops).toList then
   (Rm P kd nt slots (Region.before ops).toList (D7 P ops.toList).length ops.toList [] 0).map fun l=>.drawn l (H6 (dstsOf ops.toList) slots 0) (D7 P ops.toList)
  else none
 else (Uj P kd nt slots ops.toList []).map fun l=>.region l (H6 (dstsOf ops.toList) slots 0)
def deferOf (ops:Array Oper):Option Tmp:=match ops.back? with
 | some o => match o.op, o.guard, o.dst with
  | .defer c,none,none=>match c.callee with
   | .value (.tmp t)=>if c.args.isEmpty then some t else none
   | _=>none
  | _,_,_=>none
 | none=>none
def Sq (slots:List Nat):List Tmp→Option (List Nat)
 | []=>some []
 | t::l=>match idxOf slots t,Sq slots l with
  | some j,some m=>some (j::m)
  | _,_=>none
def Cy (kd:Kd) (nt:Nat) (slots:List Nat):Code→Option Xl
 | .skip=>some .skip
 | .ret=>some .ret
 | .exit i=>some (.exit i)
 | .region _ ops draw => match deferOf ops with
  | some t=>if draw then none else match Qo P kd nt slots ops.pop false,idxOf slots t with
   | some l,some j=>some (.seq l (.dfr (.env j)))
   | _,_=>none
  | none=>Qo P kd nt slots ops draw
 | .seq a b=>match Cy kd nt slots a,Cy kd nt slots b with
  | some x,some y=>some (.seq x y)
  | _,_=>none
 | .cond c a b=>match Rk kd.glob slots [] c,Cy kd nt slots a,Cy kd nt slots b with
  | some z,some x,some y=>some (.cond z x y)
  | _,_,_=>none
 | .block i c=>(Cy kd nt slots c).map (.block i)
 | .loop c=>(Cy kd nt slots c).map .loop
 | .scope c=>Cy kd nt slots c
 | .label _=>some .skip
 | .rangeFunc f ps asg body=>match Rk kd.glob slots [] f,Sq slots ps.toList,Cy kd nt slots asg,Cy kd nt slots body with
  | some x,some js,some a,some b=>if Ee a&&Ee b then some (.rfunc x slots.length js a b) else some .fail
  | _,_,_,_=>some .fail
 | _=>some .fail
def Nq (slots:List Nat):List ResultVar→Option (List LRes)
 | []=>some []
 | .tmp t::l=>match idxOf slots t,Nq slots l with
  | some j,some m=>some (.tmp j::m)
  | _,_=>none
 | .cell a t::l=>match idxOf slots a,Cj P t,Nq slots l with
  | some j,some n,some m=>some (.cell j n (Fw P t)::m)
  | _,_,_=>none
def mvOf:Op→Option Tmp
 | .move (.tmp t)=>some t
 | .assign (.tmp t)=>some t
 | _=>none
def Uh (ops:Array Oper):Option (Tmp × Tmp):=match ops.toList with
 | [a, b] => match a.op, a.guard, a.dst, mvOf b.op, b.guard, b.dst with
  | .call c,none,some t,some t',none,some u=>(match c.callee with
   | .builtin .recover=>if t=t'∧t≠u then some (t,u) else none
   | _=>none)
  | _,_,_,_,_,_=>none
 | _=>none
def lowBodyD (kd:Kd) (nt:Nat) (slots:List Nat) (c:Code):Option Xl:=match c with
 | .seq (.region _ ops false) y => (match Uh ops with
  | some (t,u)=>match idxOf slots t,idxOf slots u,Cy P kd nt slots y with
   | none,some j,some ly=>if t<nt then some (.seq (.region [⟨.mv,[.const .nili],none,[],none⟩] [(j,0)]) ly) else none
   | _,_,_=>none
  | none=>Cy P kd nt slots c)
 | c=>Cy P kd nt slots c
def lowFnD (kd:Kd) (slots:List Nat) (fn:Func):Option Xi :=
 match fn.body with
 | none=>none
 | some c=>match lowBodyD P kd fn.ntmps slots c,Nq P slots fn.results.toList with
  | some b, some r => if fn.name = "runtime.NumGoroutine" then none else if slots.all (· < fn.ntmps) && decide (fn.params.size + fn.nfree ≤ fn.ntmps) then some ⟨slots, fn.params.size + fn.nfree, b, r⟩ else none
  | _,_=>none
def Be (kd:Kd) (slots:List Nat) (fn:Func):Option Xi :=
 match fn.body with
 | none=>none
 | some c=>match Cy P kd fn.ntmps slots c,Nq P slots fn.results.toList with
  | some b, some r => if fn.name = "runtime.NumGoroutine" then none else if slots.all (· < fn.ntmps) && decide (fn.params.size + fn.nfree ≤ fn.ntmps) then some ⟨slots, fn.params.size + fn.nfree, b, r⟩ else none
  | _,_=>none
end
open Go.ChangeShapes Go.WideShapes Go.ChangeAt Go.RowKit
set_option linter.unusedSectionVars false
theorem baeq(a b:ByteArray):a.toList=b.toList↔a=b:=by
 rw[ByteArray.toList_eq,ByteArray.toList_eq];constructor
 ·
  intro h;obtain⟨⟨x⟩⟩:=a;obtain⟨⟨y⟩⟩:=b;simp at h;rw[h]
 rintro rfl;rfl
theorem lt_of_some{α:Type}{l:List α}{j:Nat}{u:α}(h:l[j]?=some u):j<l.length:=(List.getElem?_eq_some_iff.1 h).1
theorem add_plain(b o q:Nat):(⟨b,o,none⟩:Addr).add q=⟨b,o+q,none⟩:=by unfold Addr.add;split<;>simp_all
abbrev Ext (w w':World):Prop:=Below w.heap.size w w'
theorem Ext.trans{a b c:World}(h:Ext a b)(k:Ext b c):Ext a c:=Below.trans h (k.mono h.size)
theorem Ext.refl_(w:World):Ext w w:=Below.refl _ _
def Blk (w:World) (g:Nat) (t:TypeId) (cs:Array Value):Prop:=w.heap[g]?=some (.cells cs t (0,0))
section
variable {w w':World} {g:Nat} {t:TypeId} {cs:Array Value}
theorem Blk.lt(h:Blk w g t cs):g<w.heap.size:=by
 rcases Nat.lt_or_ge g w.heap.size with h1 | h1
 ·
  exact h1
 unfold Blk at h;rw[Array.getElem?_eq_none h1]at h;cases h
theorem Blk.new(w:World)(t:TypeId)(cs:Array Value):Blk (w.alloc (.cells cs t)) w.heap.size t cs:=heap_alloc_new w _
theorem Blk.alloc(h:Blk w g t cs)(o:Obj):Blk (w.alloc o) g t cs:=(Below.heap_alloc w o g h.lt).trans h
theorem Blk.below{B:Nat}(h:Blk w g t cs)(hb:Below B w w')(hg:g<B):Blk w' g t cs:=(hb.block g hg).trans h
theorem Blk.ext(h:Blk w g t cs)(hb:Ext w w'):Blk w' g t cs:=(hb.block g h.lt).trans h
theorem Blk.cell(h:Blk w g t cs){j:Nat}{u:Value}(hu:cs[j]?=some u):w.cell? ⟨g,j,none⟩=some u:=by
 unfold Blk at h;simp[World.cell?,h,hu]
theorem Blk.far(h:Blk w g t cs){p:Addr}(hp:g≠p.block)(u:Value):Blk (w.setCell p u) g t cs:=(Below.heap_setCell w p u g hp).trans h
theorem Blk.frozen(h:Blk w g t cs)(i:Nat):w.frozen? ⟨g,i,none⟩=false:=by
 unfold Blk at h;simp[World.frozen?,h]
theorem Blk.drew(h:Blk w g t cs):Blk w.drew g t cs:=h
end
def Row (w:World) (B sz:Nat) (A:Option Addr) (xs:List (List Value)):Prop :=
 xs≠[]→∃b o,A=some ⟨b,o,none⟩∧b<B∧∀i x,xs[i]?=some x→∀j u,x[j]?=some u→w.cell? ⟨b,o+i*sz+j,none⟩=some u
section
variable {w w':World} {B B' sz:Nat} {A:Option Addr} {xs:List (List Value)}
theorem Row.below(h:Row w B sz A xs)(hb:Below B w w'):Row w' B sz A xs:=by
 intro hx;obtain⟨b,o,rfl,xq,hc⟩:=h hx;exact⟨b,o,rfl,xq,fun i x hi j u hu=>(hb.cell (p:=⟨b,o+i*sz+j,none⟩) xq).trans (hc i x hi j u hu)⟩
theorem Row.mono(h:Row w B sz A xs)(hb:B≤B'):Row w B' sz A xs:=by
 intro hx;obtain⟨b,o,rfl,xq,hc⟩:=h hx;exact⟨b,o,rfl,by omega,hc⟩
theorem Row.ext(h:Row w w.heap.size sz A xs)(hb:Ext w w'):Row w' w'.heap.size sz A xs:=(h.below hb).mono hb.size
theorem Row.nil:Row w B sz A []:=fun h=>absurd rfl h
theorem Row.get{α:Type}{l:List α}{enc:α→List Value}{k:Nat}(h:Row w B sz A (l.map enc))(hk:k<l.length) :
  ∃b o,A=some ⟨b,o,none⟩∧b<B∧∀j u,(enc l[k])[j]?=some u→w.cell? ⟨b,o+k*sz+j,none⟩=some u:=by
 obtain⟨b,o,rfl,xq,hc⟩:=h (by intro h;simp at h;subst h;simp at hk);exact⟨b,o,rfl,xq,hc k _ (by simp[hk])⟩
theorem Row.drop{b o k:Nat}(h:Row w B sz (some ⟨b,o,none⟩) xs):Row w B sz (some ⟨b,o+k*sz,none⟩) (xs.drop k):=by
 intro hx;obtain⟨b',o',hA,xq,hc⟩:=h (by rintro rfl;simp at hx);injection hA with hA;injection hA with h1 h2;subst h1 h2;refine⟨b,_,rfl,xq,fun i x hi j u hu=>?_⟩;rw[List.getElem?_drop]at hi;have:=hc (k+i) x hi j u hu;rw[Nat.add_mul]at this;rw[show o+k*sz+i*sz+j=o+(k*sz+i*sz)+j by omega];exact this
theorem Row.take(h:Row w B sz A xs)(k:Nat):Row w B sz A (xs.take k):=by
 intro hx;obtain⟨b,o,hA,xq,hc⟩:=h (by rintro rfl;simp at hx);refine⟨b,o,hA,xq,fun i x hi j u hu=>hc i x ?_ j u hu⟩;rw[List.getElem?_take]at hi;split at hi
 ·
  exact hi
 cases hi
end
theorem flatten_at{α:Type}{sz:Nat}:∀(xs:List (List α)) (i j:Nat) (x:List α) (u:α),(∀x∈xs,x.length=sz)→xs[i]?=some x→x[j]?=some u→xs.flatten[i*sz+j]?=some u
 | [],i,j,x,u,_,h,_=>by simp at h
 | y::xs,0,j,x,u,xw,h,hu=>by
  simp at h;subst h;rw[List.flatten_cons,Nat.zero_mul,Nat.zero_add,La_ (lt_of_some hu),hu]
 | y::xs,i+1,j,x,u,xw,h,hu=>by
  have hy:y.length=sz:=xw y (by simp);have ih:=flatten_at xs i j x u (fun x hx=>xw x (by simp[hx])) (by simpa using h) hu;rw[List.flatten_cons,Lr_ (by rw[hy,Nat.succ_mul];omega),hy,←ih];congr 1;rw[Nat.succ_mul];omega
theorem Tf{α:Type}{sz:Nat}(h0:0<sz):∀(xs:List (List α)) (q:Nat) (u:α),(∀x∈xs,x.length=sz)→xs.flatten[q]?=some u→∃x,xs[q / sz]?=some x∧x[q % sz]?=some u
 | [],q,u,_,h=>by simp at h
 | y :: xs, q, u, xw, h => by
  have hy:y.length=sz:=xw y (by simp);rw[List.flatten_cons]at h;rcases Nat.lt_or_ge q sz with hq | hq
  ·
   rw[La_ (by omega)]at h;rw[Nat.div_eq_of_lt hq,Nat.mod_eq_of_lt hq];exact⟨y,rfl,h⟩
  rw[Lr_ (by omega),hy]at h;obtain⟨x,h1,h2⟩:=Tf h0 xs (q-sz) u (fun x hx=>xw x (by simp[hx])) h;refine⟨x,?_,?_⟩
  ·
   rw[show q / sz=(q-sz) / sz+1 by rw[Nat.div_eq q sz,if_pos ⟨h0,hq⟩]];simpa using h1
  rw[show q % sz=(q-sz) % sz by rw[Nat.mod_eq_sub_mod hq]];exact h2
section
variable {w:World} {B sz:Nat} {xs:List (List Value)}
theorem Row.flat{b o:Nat}(xw:∀x∈xs,x.length=sz)(hb:b<B)(hc:∀j u,xs.flatten[j]?=some u→w.cell? ⟨b,o+j,none⟩=some u):Row w B sz (some ⟨b,o,none⟩) xs:=by
 intro _;refine⟨b,o,rfl,hb,fun i x hi j u hu=>?_⟩;rw[Nat.add_assoc];exact hc _ _ (flatten_at xs i j x u xw hi hu)
theorem Row.own{base e n c:Nat}{A:Option Addr}(h:w.ownsRow base e sz (.slice A n c) n xs.flatten)(hn:xs≠[]→0<n)(xw:∀x∈xs,x.length=sz):Row w w.heap.size sz A xs:=by
 intro hx;obtain⟨g,cap,hv,_,xq⟩:=h.form (hn hx);injection hv with hA;subst hA;refine Row.flat (o:=0) xw xq (fun j u hu=>?_) hx;have h1:=h.cells (g:=g) rfl j u hu;rwa [add_plain]at h1
end
section
variable {w w':World} {base:Nat} {e1 e2 s1 s2 n1 n2:Nat} {v1 v2:Value} {xs1 xs2:List Value}
end
def Elem (P:Program) (t e:TypeId) (size bytes:Nat):Prop :=
 P.underlying t=some (.slice e)∧(∃i z,P.info? e=some i∧i.zero=some z∧i.size=size∧i.bytes=bytes∧z.cells.size=size)∧0<size∧0<bytes
theorem Elem.mk{P:Program}{t e:TypeId}{z:Value}{size bytes:Nat}(ht:P.underlying t=some (.slice e))(h:(P.info? e).map (fun i=>(i.zero,i.size,i.bytes))=some (some z,size,bytes))(hz:z.cells.size=size)(hs:0<size)(hb:0<bytes):Elem P t e size bytes:=by
 obtain⟨i,h1,h2,h3,h4⟩:=info_parts h;exact⟨ht,⟨i,z,h1,h2,h3,h4,hz⟩,hs,hb⟩
def Src (w:World) (size:Nat) (A:Option Addr) (m:Nat) (news:List Value):Prop :=
 news.length=m*size∧(0<m→∃ad,A=some ad∧∀j u,news[j]?=some u→w.cell? (ad.add j)=some u)
section
variable {P:Program} {w:World} {t e:TypeId} {size bytes base:Nat}
theorem Src.own{A:Option Addr}{n c m:Nat}{xs:List Value}(h:w.ownsRow base e size (.slice A n c) n xs)(hm:m≤n):Src w size A m (xs.take (m*size)):=by
  refine⟨by rw[List.length_take,h.1];exact Nat.min_eq_left (Nat.mul_le_mul_right _ hm),fun h0=>?_⟩;obtain⟨g,cap,hv,_,_⟩:=h.form (by omega);injection hv with hA;subst hA
  exact ⟨_, rfl, fun j u hu => h.cells (g := g) rfl j u (by rw [List.getElem?_take] at hu; split at hu
                                                            · exact hu
                                                            cases hu)⟩
theorem Src.alloc{A:Option Addr}{m:Nat}{xs:List Value}(h:Src w size A m xs)(o:Obj):Src (w.alloc o) size A m xs :=
 ⟨h.1,fun h0=>by
  obtain⟨ad,e,hc⟩:=h.2 h0
  exact⟨ad,e,fun j u hu=>(World.cell?_alloc_lt _ _ _ (World.block_lt_of_cell? w _ (hc j u hu))).trans (hc j u hu)⟩⟩
theorem Src.row{α:Type}{B:Nat}{A:Option Addr}{l:List α}{enc:α→List Value}(h:Row w B size A (l.map enc))(hs:0<size)(hf:∀x,(enc x).length=size):Src w size A l.length (l.flatMap enc):=by
 have xw:∀x∈l.map enc,x.length=size:=fun x hx=>by obtain⟨y,_,rfl⟩:=List.mem_map.1 hx;exact hf y
 refine⟨?_,fun h0=>?_⟩
 ·
  clear h xw
  induction l with
  | nil=>simp
  | cons a l ih=>rw[List.flatMap_cons,Ll_,ih,hf,List.length_cons,Nat.succ_mul,Nat.add_comm]
 obtain⟨b,o,rfl,_,hc⟩:=h (by cases l<;>simp_all);refine⟨_,rfl,fun j u hu=>?_⟩;rw[List.flatMap_def]at hu;obtain⟨x,h1,h2⟩:=Tf hs _ j u xw hu;have:=hc _ _ h1 _ _ h2;rw[add_plain];rw[Nat.add_assoc,Nat.mul_comm,Nat.div_add_mod]at this;exact this
end
def TRow (w:World) (B e sz:Nat) (A:Option Addr) (xs:List (List Value)):Prop :=
 xs≠[]→∃b o cs fr,A=some ⟨b,o,none⟩∧b<B∧w.heap[b]?=some (.cells cs e fr)∧∀i x,xs[i]?=some x→∀j u,x[j]?=some u→cs[o+i*sz+j]?=some u
section
variable {w w':World} {B B' e sz:Nat} {A:Option Addr} {xs:List (List Value)}
theorem TRow.row(h:TRow w B e sz A xs):Row w B sz A xs:=by
 intro hx;obtain⟨b,o,cs,fr,rfl,hb,hh,hc⟩:=h hx;exact⟨b,o,rfl,hb,fun i x hi j u hu=>by rw[cell_of_row w b _ cs e fr hh];exact hc i x hi j u hu⟩
theorem TRow.nil:TRow w B e sz A []:=fun h=>absurd rfl h
theorem TRow.mono(h:TRow w B e sz A xs)(hb:B≤B'):TRow w B' e sz A xs:=by
 intro hx;obtain⟨b,o,cs,fr,rfl,xq,hh,hc⟩:=h hx;exact⟨b,o,cs,fr,rfl,by omega,hh,hc⟩
theorem TRow.below(h:TRow w B e sz A xs)(hb:Below B w w'):TRow w' B e sz A xs:=by
 intro hx;obtain⟨b,o,cs,fr,rfl,xq,hh,hc⟩:=h hx;exact⟨b,o,cs,fr,rfl,xq,(hb.block b xq).trans hh,hc⟩
theorem TRow.ext(h:TRow w w.heap.size e sz A xs)(hb:Ext w w'):TRow w' w'.heap.size e sz A xs:=(h.below hb).mono hb.size
theorem TRow.set{g i:Nat}{t:TypeId}{cs':Array Value}(h:TRow w B e sz A xs)(hb:Blk w g t cs')(xA:e≠t)(u:Value):TRow (w.setCell ⟨g,i,none⟩ u) B e sz A xs:=by
 intro hx;obtain⟨b,o,cs,fr,rfl,xq,hh,hc⟩:=h hx;refine⟨b,o,cs,fr,rfl,xq,?_,hc⟩;rw[Below.heap_setCell w _ u b ?_]
 ·
  exact hh
 rintro rfl;unfold Blk at hb;rw[hh]at hb;injection hb with h1;injection h1 with _ h1;exact xA h1
theorem TRow.drop{b o k:Nat}(h:TRow w B e sz (some ⟨b,o,none⟩) xs):TRow w B e sz (some ⟨b,o+k*sz,none⟩) (xs.drop k):=by
 intro hx;obtain⟨b',o',cs,fr,hA,xq,hh,hc⟩:=h (by rintro rfl;simp at hx);injection hA with hA;injection hA with h1 h2;subst h1 h2;refine⟨b,_,cs,fr,rfl,xq,hh,fun i x hi j u hu=>?_⟩;rw[List.getElem?_drop]at hi;have:=hc (k+i) x hi j u hu;rw[Nat.add_mul]at this;rw[show o+k*sz+i*sz+j=o+(k*sz+i*sz)+j by omega];exact this
end
open Go.RowKit
structure Fix where
 b:Nat
 fn:FuncId
 tmps:Array Value
 params:Array Tmp
 assign:Code
 body:Code
 defers:Nat
 nt:Nat
 sg:Nat→D
def stOf:Nat→LoopState
 | 0=>.ready
 | 1=>.busy
 | 2=>.exhausted
 | _=>.done
def pdOf:Nat→Option Code
 | 3=>some .ret
 | n+4=>some (.exit n)
 | _=>none
def Fix.rc (x:Fix) (j:Nat):Loop:={ state:=stOf j,pending:=pdOf j,fn:=x.fn,tmps:=x.tmps,params:=x.params,assign:=x.assign,body:=x.body,defers:=x.defers }
structure HX where
 P:Nat→Nat→Prop
 G:Nat→Option (List D)
 L:Nat→Option Fix
instance:CoeFun HX (fun _=>Nat→Nat→Prop):=⟨HX.P⟩
structure Xn where
 f:Nat→Option Nat
 X:HX
instance:CoeFun Xn (fun _=>Nat→Option Nat):=⟨Xn.f⟩
def Imm (w:World) (ρ:Xn) (H:List Xh) (b q:Nat):Prop :=
 b<w.heap.size∧¬ρ.X b q∧∀g,ρ g=some b→∃o,H[g]?=some o∧o.kind=1∧q<o.rows.length*o.sz
inductive VR (w:World) (ρ:Xn) (H:List Xh):D→Value→Prop
 | undef (v):VR w ρ H .undef v
 | skip:VR w ρ H .skip Go.undef
 | nili:VR w ρ H .nili .nilIface
 | junk (n:Int):VR w ρ H .junk (.int .u8 n)
 | ifc (t:TypeId) (d:D) (v:Value) (hf:d.Xq=true) (hv:d.val=true) (h:VR w ρ H d v):VR w ρ H (.ifc t d) (.iface t v)
 | ifr (t:TypeId) (d:D) (v:Value) (hv:d.val=true) (h:VR w ρ H d v):VR w ρ H (.ifr t d) (.iface t v)
 | iter (g v r:Nat) (ob:Xh) (hg:H[g]?=some ob) (hv:v≤ob.ver) (h:ob.ver=v→ρ g=some r):VR w ρ H (.iter g v) (.pointer (some ⟨r,0,none⟩))
 | int (k n):VR w ρ H (.int k n) (.int k n)
 | bool (b):VR w ρ H (.bool b) (.bool b)
 | str (s):VR w ρ H (.str s) (.string s)
 | agg (cs:List D) (vs:List Value) (hl:vs.length=cs.length) (hc:cs.all D.Xv=true) (h:∀(j:Nat) (d:D) (v:Value),cs[j]?=some d→vs[j]?=some v→VR w ρ H d v):VR w ρ H (.agg cs) (.agg vs.toArray)
 | tup (cs:List D) (vs:List Value) (hl:vs.length=cs.length) (h:∀(j:Nat) (d:D) (v:Value),cs[j]?=some d→vs[j]?=some v→VR w ρ H d v):VR w ρ H (.tup cs) (.tuple vs.toArray)
 | nilp:VR w ρ H .nilp (.pointer none)
 | ptr (g v i o:Nat) (a:Addr) (ob:Xh) (hg:H[g]?=some ob) (hv:v≤ob.ver) (xK:ob.kind≠3) (h:ob.ver=v→∃b,ρ g=some b∧a=⟨b,i*ob.sz+o,none⟩):VR w ρ H (.ptr g v i o) (.pointer (some a))
 | X7 (row : List D) (o b q : Nat) (f : Nat → Value) (hc : ∀ j d, row[j]? = some d → o ≤ j → w.cell? ⟨b, q + (j - o), none⟩ = some (f j) ∧ Imm w ρ H b (q + (j - o)) ∧ d.free = true)
   (h:∀j d,row[j]?=some d→o≤j→VR w ρ H d (f j)):VR w ρ H (.X7 row o) (.pointer (some ⟨b,q,none⟩))
 | X4:VR w ρ H .X4 (.slice none 0 0)
 | sl (sz : Nat) (rows : List (List D)) (cap : Option Nat) (A : Addr) (n c : Nat) (hn : n = rows.length) (xV : n ≤ c) (xB : ∀ k, cap = some k → c = k) (hz : ∀ r ∈ rows, r.length = sz)
   (b o:Nat) (f:Nat→Nat→Value) (hA:rows≠[]→A=⟨b,o,none⟩)
   (hc:∀i r j d,rows[i]?=some r→r[j]?=some d→w.cell? ⟨b,o+i*sz+j,none⟩=some (f i j)∧Imm w ρ H b (o+i*sz+j)∧d.free=true)
   (h:∀i r j d,rows[i]?=some r→r[j]?=some d→VR w ρ H d (f i j)):VR w ρ H (.sl sz rows cap) (.slice (some A) n c)
 | msl (g v lo n : Nat) (cap : Option Nat) (A : Addr) (c : Nat) (ob : Xh) (xV : n ≤ c) (xB : ∀ k, cap = some k → c = k) (hg : H[g]? = some ob) (hv : v ≤ ob.ver) (xK : ob.kind ≠ 3)
   (h:ob.ver=v→∃b,ρ g=some b∧lo+n≤ob.rows.length∧(n≠0∨lo=0→A=⟨b,lo*ob.sz,none⟩)∧(cap=none→∃cur,w.heap[b]?=some (.cells cur ob.elem (0,0))∧cur.size=(lo+c)*ob.sz)):VR w ρ H (.msl g v lo n cap) (.slice (some A) n c)
 | fn (f:FuncId) (cs:List D) (vs:List Value) (hl:vs.length=cs.length) (h:∀(j:Nat) (d:D) (v:Value),cs[j]?=some d→vs[j]?=some v→VR w ρ H d v):VR w ρ H (.fn f cs) (.func (.func f) #[] vs.toArray)
 | nilfn:VR w ρ H .nilfn .nilFunc
 | mref (g v r:Nat) (ob:Xh) (hg:H[g]?=some ob) (hv:v≤ob.ver) (h:ob.ver=v→ρ g=some r):VR w ρ H (.mref g v) (.map (some r))
 | nilm:VR w ρ H .nilm (.map none)
 | yld (g:Nat) (x:Fix) (ob:Xh) (hg:H[g]?=some ob) (hX:∀y,ρ.X.L g=some y→y=x):VR w ρ H (.yld g) (.func (.yield x.b) #[] #[])
 | bfn (f:FuncId) (cs:List D) (vs:List Value) (hl:vs.length=cs.length) (h:∀(j:Nat) (d:D) (v:Value),cs[j]?=some d→vs[j]?=some v→VR w ρ H d v):VR w ρ H (.bfn f cs) (.func (.func f) vs.toArray #[])
 | mp (rows : List (List D)) (b clock : Nat) (es : Array MapEntry) (f : Nat → Nat → Value) (hb : w.heap[b]? = some (.map es clock)) (hx : ¬ ρ.X b 0) (hf : ∀ g, ρ g ≠ some b) (hl : es.size = rows.length) (hz : ∀ r ∈ rows, r.length = 2)
   (he:∀i,i<rows.length→∃e,es[i]?=some e∧e.key=f i 0∧e.val=f i 1) (hc:∀(i:Nat) (r:List D) (j:Nat) (d:D),rows[i]?=some r→r[j]?=some d→d.Xq=true∧d.val=true) (h:∀(i:Nat) (r:List D) (j:Nat) (d:D),rows[i]?=some r→r[j]?=some d→VR w ρ H d (f i j)):VR w ρ H (.mp rows) (.map (some b))
def ObjOK (w:World) (ρ:Xn) (H:List Xh) (o:Xh) (b:Nat):Prop :=
 ∃cur,w.heap[b]?=some (.cells cur o.elem (0,0))∧0<o.sz∧(∃c,cur.size=c*o.sz∧o.rows.length≤c∧c≤maxLen∧(o.grow=false→c=o.rows.length)) ∧
  (∀r∈o.rows,r.length=o.sz)∧(o.kind=0∨o.kind=1∨o.kind=2) ∧
  ∀i r j d,o.rows[i]?=some r→r[j]?=some d→d.Xv=true∧(o.kind≠0→d.free=true)∧∃v,cur[i*o.sz+j]?=some v∧VR w ρ H d v
def MapOK (w:World) (ρ:Xn) (H:List Xh) (o:Xh) (b:Nat):Prop :=
 ∃(es:Array MapEntry) (clock:Nat),w.heap[b]?=some (.map es clock)∧es.size=o.rows.length∧(∀r∈o.rows,r.length=2) ∧
  ∀(i:Nat) (r:List D),o.rows[i]?=some r→∃(e:MapEntry) (k v:D),es[i]?=some e∧r=[k,v]∧(k.Xq=true∧k.val=true)∧(v.Xq=true∧v.val=true)∧VR w ρ H k e.key∧VR w ρ H v e.val
def IterOK (w:World) (o:Xh) (b:Nat):Prop:=∃(s:ByteArray) (pos:Nat),w.heap[b]?=some (.stringIter s pos)∧o.rows=[[.str s,.int .i64 pos]]
def LoopIn (w:World) (b:Nat):Prop:=∃r,w.heap[b]?=some (.loop r)
def NonOK (w:World) (ρ:Xn) (H:List Xh) (o:Xh) (b:Nat):Prop:=(o.elem=0→MapOK w ρ H o b)∧(o.elem=1→IterOK w o b)∧(o.elem≠0→o.elem≠1→LoopIn w b)
def AnyOK (w:World) (ρ:Xn) (H:List Xh) (o:Xh) (b:Nat):Prop:=(o.kind≠3→ObjOK w ρ H o b)∧(o.kind=3→NonOK w ρ H o b)
def GSz (w:World) (ρ:Xn) (g:Nat) (row:List D):Prop:=(∀k,ρ k≠some g)∧∃cs t z,w.heap[g]?=some (.cells cs t z)∧cs.size=row.length
def U5 (w:World) (H:List Xh) (g:Nat) (x:Fix):Prop:=∃j,H[g]?=some (Jw j)∧w.heap[x.b]?=some (.loop (x.rc j))
structure Rel (w:World) (ρ:Xn) (H:List Xh):Prop where
 inj:∀g g' b,ρ g=some b→ρ g'=some b→g=g'
 obj:∀g b,ρ g=some b→∃o,H[g]?=some o∧AnyOK w ρ H o b
 hid:∀b q,ρ.X b q→b<w.heap.size∧∀g,ρ g≠some b
 glob:∀g row,ρ.X.G g=some row→VR w ρ H (.X7 row 0) (.pointer (some ⟨g,0,none⟩))∧GSz w ρ g row
 lps:∀g x,ρ.X.L g=some x→ρ g=some x.b∧U5 w H g x∧∀t,t<x.nt→VR w ρ H (x.sg t) (x.tmps.getD t undef)
structure Stp (w:World) (ρ:Xn) (S:St) (w':World) (ρ':Xn) (S':St):Prop where
 hid:ρ'.X=ρ.X
 os:w'.os=w.os
 tape:w'.tape=w.tape
 output:w'.output=w.output
 size:w.heap.size≤w'.heap.size
 low:S'.low≤S.low
 out:∀b,b<w.heap.size→(∀g,ρ g≠some b)→w'.heap[b]?=w.heap[b]?∧∀g,ρ' g≠some b
 imm:∀b q,Imm w ρ S.heap b q→w'.cell? ⟨b,q,none⟩=w.cell? ⟨b,q,none⟩∧Imm w' ρ' S'.heap b q
 keep:∀g b o,S.heap[g]?=some o→g<S'.low→ρ g=some b→w'.heap[b]?=w.heap[b]?
 obj:∀g o,S.heap[g]?=some o→∃o',S'.heap[g]?=some o'∧(o.ver≤o'.ver∧o'.kind=o.kind)∧(g<S'.low→o'=o) ∧
  (o'.ver=o.ver→ρ' g=ρ g∧o'.sz=o.sz∧o'.elem=o.elem∧o.rows.length≤o'.rows.length∧∀b cur,ρ g=some b→w.heap[b]?=some (.cells cur o.elem (0,0))→∃cur',w'.heap[b]?=some (.cells cur' o.elem (0,0))∧cur'.size=cur.size)
 lp:∀g x,ρ.X.L g=some x→ρ g=some x.b→U5 w S.heap g x→U5 w' S'.heap g x
theorem Stp.refl(w:World)(ρ:Xn)(S:St):Stp w ρ S w ρ S :=
 ⟨rfl,rfl,rfl,rfl,Nat.le_refl _,Nat.le_refl _,fun b _ h=>⟨rfl,h⟩,fun b q h=>⟨rfl,h⟩,fun _ _ _ _ _ _=>rfl,fun g o h=>⟨o,h,⟨Nat.le_refl _,rfl⟩,fun _=>rfl,fun _=>⟨rfl,rfl,rfl,Nat.le_refl _,fun b cur _ h=>⟨cur,h,rfl⟩⟩⟩,fun _ _ _ _ h=>h⟩
theorem Stp.lpb{w w':World}{ρ ρ':Xn}{S S':St}(h:Stp w ρ S w' ρ' S'){g:Nat}{x:Fix}(hX:ρ.X.L g=some x)(hb:ρ g=some x.b)(hl:U5 w S.heap g x):ρ' g=some x.b:=by
 obtain⟨j',s1,s2⟩:=h.lp g x hX hb hl;obtain⟨j,q1,q2⟩:=hl;obtain⟨o',r1,_,_,r4⟩:=h.obj g _ q1;rw[s1]at r1;obtain rfl:=Option.some.inj r1;exact (r4 rfl).1.trans hb
theorem Stp.trans{w1 w2 w3:World}{ρ1 ρ2 ρ3:Xn}{S1 S2 S3:St}(h:Stp w1 ρ1 S1 w2 ρ2 S2)(k:Stp w2 ρ2 S2 w3 ρ3 S3):Stp w1 ρ1 S1 w3 ρ3 S3:=by
  refine⟨k.hid.trans h.hid,k.os.trans h.os,k.tape.trans h.tape,k.output.trans h.output,Nat.le_trans h.size k.size,Nat.le_trans k.low h.low,?_,?_,?_,?_,fun g x hX hb hl=>k.lp g x (by rw[h.hid];exact hX) (h.lpb hX hb hl) (h.lp g x hX hb hl)⟩
  · intro b hb hg;obtain⟨h1,h2⟩:=h.out b hb hg;obtain⟨k1,k2⟩:=k.out b (Nat.lt_of_lt_of_le hb h.size) h2;exact⟨k1.trans h1,k2⟩
  · intro b q hi;obtain⟨h1,h2⟩:=h.imm b q hi;obtain⟨k1,k2⟩:=k.imm b q h2;exact⟨k1.trans h1,k2⟩
  · intro g b o ho hg hr;have uW:=Nat.lt_of_lt_of_le hg k.low;have h1:=h.keep g b o ho uW hr;obtain⟨o',ho',_,he,hv⟩:=h.obj g o ho;have he:=he uW;subst he;exact (k.keep g b o' ho' hg (by rw[(hv rfl).1];exact hr)).trans h1
  intro g o ho;obtain⟨o2,ho2,vL,he2,hs2⟩:=h.obj g o ho;obtain⟨o3,ho3,hv3,he3,hs3⟩:=k.obj g o2 ho2;refine⟨o3,ho3,⟨Nat.le_trans vL.1 hv3.1,hv3.2.trans vL.2⟩,fun hg=>(he3 hg).trans (he2 (Nat.lt_of_lt_of_le hg k.low)),fun hv=>?_⟩;have e2:o2.ver=o.ver:=by omega
  have e3:o3.ver=o2.ver:=by omega
  obtain⟨a1,a2,a3,a4,a5⟩:=hs2 e2;obtain⟨b1,b2,b3,b4,b5⟩:=hs3 e3;refine⟨b1.trans a1,b2.trans a2,b3.trans a3,Nat.le_trans a4 b4,fun b cur hr hb=>?_⟩;obtain⟨cur2,w9,hz2⟩:=a5 b cur hr hb;obtain⟨cur3,hc3,hz3⟩:=b5 b cur2 (a1.trans hr) (by rw[a3];exact w9);exact⟨cur3,by rw[←a3];exact hc3,hz3.trans hz2⟩
structure Fwd (w:World) (ρ:Xn) (H:List Xh) (w':World) (ρ':Xn) (H':List Xh):Prop where
 hid:ρ'.X=ρ.X
 out:∀b,b<w.heap.size→(∀g,ρ g≠some b)→w'.heap[b]?=w.heap[b]?∧∀g,ρ' g≠some b
 imm:∀b q,Imm w ρ H b q→w'.cell? ⟨b,q,none⟩=w.cell? ⟨b,q,none⟩∧Imm w' ρ' H' b q
 obj:∀g o,H[g]?=some o→∃o',H'[g]?=some o'∧(o.ver≤o'.ver∧o'.kind=o.kind) ∧
  (o'.ver=o.ver→(∀b,ρ g=some b→ρ' g=some b)∧o'.sz=o.sz∧o'.elem=o.elem∧o.rows.length≤o'.rows.length∧∀b cur,ρ g=some b→w.heap[b]?=some (.cells cur o.elem (0,0))→∃cur',w'.heap[b]?=some (.cells cur' o.elem (0,0))∧cur'.size=cur.size)
theorem Stp.fwd{w w':World}{ρ ρ':Xn}{S S':St}(h:Stp w ρ S w' ρ' S'):Fwd w ρ S.heap w' ρ' S'.heap :=
 ⟨h.hid,h.out,h.imm,fun g o ho=>by
  obtain⟨o',h1,h2,_,h4⟩:=h.obj g o ho;refine⟨o',h1,h2,fun hv=>?_⟩;obtain⟨a1,a2⟩:=h4 hv
  exact⟨fun b hb=>a1.trans hb,a2⟩⟩
theorem VR.fwd{w w':World}{ρ ρ':Xn}{H H':List Xh}(hs:Fwd w ρ H w' ρ' H'){d:D}{v:Value}(h:VR w ρ H d v):VR w' ρ' H' d v:=by
 induction h with
 | undef v=>exact .undef v
 | skip=>exact .skip
 | nili=>exact .nili
 | junk n=>exact .junk n
 | ifc t d v hf hv _ ih=>exact .ifc t d v hf hv ih
 | ifr t d v hv _ ih=>exact .ifr t d v hv ih
 | iter g v r ob hg hv h =>
  obtain⟨ob',hg',yh,hs'⟩:=hs.obj g ob hg;refine .iter g v r ob' hg' (by omega) fun e=>?_;exact (hs' (by omega)).1 _ (h (by omega))
 | int k n=>exact .int k n
 | bool b=>exact .bool b
 | str s=>exact .str s
 | agg cs vs hl hc _ ih=>exact .agg cs vs hl hc ih
 | tup cs vs hl _ ih=>exact .tup cs vs hl ih
 | nilp=>exact .nilp
 | ptr g v i o a ob hg hv xK h =>
  obtain⟨ob',hg',yh,hs'⟩:=hs.obj g ob hg;refine .ptr g v i o a ob' hg' (by omega) (by rw[yh.2];exact xK) fun e=>?_;have e1:ob.ver=v:=by omega
  obtain⟨b,hb,ha⟩:=h e1;obtain⟨a1,a2,_⟩:=hs' (by omega);exact⟨b,a1 b hb,by rw[a2];exact ha⟩
 | X7 row o b q f hc _ ih =>
  refine .X7 row o b q f (fun j d hj ho=>?_) ih;obtain⟨h1,h2,h3⟩:=hc j d hj ho;obtain⟨k1,k2⟩:=hs.imm _ _ h2;exact⟨k1.trans h1,k2,h3⟩
 | X4=>exact .X4
 | sl sz rows cap A n c hn xV xB hz b o f hA hc _ ih =>
  refine .sl sz rows cap A n c hn xV xB hz b o f hA (fun i r j d hi hj=>?_) ih;obtain⟨h1,h2,h3⟩:=hc i r j d hi hj;obtain⟨k1,k2⟩:=hs.imm _ _ h2;exact⟨k1.trans h1,k2,h3⟩
 | msl g v lo n cap A c ob xV xB hg hv xK h =>
  obtain⟨ob',hg',yh,hs'⟩:=hs.obj g ob hg;refine .msl g v lo n cap A c ob' xV xB hg' (by omega) (by rw[yh.2];exact xK) fun e=>?_;obtain⟨b,hb,xU,hA,hc⟩:=h (by omega);obtain⟨a1,a2,a3,a4,a5⟩:=hs' (by omega);refine⟨b,a1 b hb,by omega,by rw[a2];exact hA,fun hn=>?_⟩;obtain⟨cur,h1,h2⟩:=hc hn;obtain⟨cur',h3,h4⟩:=a5 b cur hb h1;exact⟨cur',by rw[a3];exact h3,by rw[h4,h2,a2]⟩
 | fn f cs vs hl _ ih=>exact .fn f cs vs hl ih
 | nilfn=>exact .nilfn
 | mref g v r ob hg hv h =>
  obtain⟨ob',hg',yh,hs'⟩:=hs.obj g ob hg;refine .mref g v r ob' hg' (by omega) fun e=>?_;exact (hs' (by omega)).1 _ (h (by omega))
 | nilm=>exact .nilm
 | yld g x ob hg hX =>
  obtain⟨ob',hg',_⟩:=hs.obj g ob hg;exact .yld g x ob' hg' (by rw[hs.hid];exact hX)
 | bfn f cs vs hl _ ih=>exact .bfn f cs vs hl ih
 | mp rows b clock es f hb hx hf hl hz he hc _ ih =>
  obtain⟨h1,h2⟩:=hs.out b (Array.getElem?_eq_some_iff.1 hb).1 hf;exact .mp rows b clock es f (h1.trans hb) (by rw[hs.hid];exact hx) h2 hl hz he hc ih
theorem VR.mono{w w':World}{ρ ρ':Xn}{S S':St}(hs:Stp w ρ S w' ρ' S'){d:D}{v:Value}(h:VR w ρ S.heap d v):VR w' ρ' S'.heap d v:=h.fwd hs.fwd
theorem free0_free{d:D}(h:d.Xw=true):d.free=true:=by
 cases d<;>first | exact h | skip
 rename_i f cs
 cases cs with
 | nil=>rfl
 | cons c cs=>simp[D.Xw]at h
theorem free_V{d:D}(h:d.free=true):d.Xq=true:=by
 cases d<;>first | exact h | (simp[D.free,D.Xw]at h;done)
theorem VR.freeV_mono{w w':World}{ρ ρ':Xn}{H H':List Xh}(hi:∀b q,Imm w ρ H b q→w'.cell? ⟨b,q,none⟩=w.cell? ⟨b,q,none⟩∧Imm w' ρ' H' b q)(ho:∀b es c,w.heap[b]?=some (.map es c)→(∀g,ρ g≠some b)→¬ρ.X b 0→w'.heap[b]?=w.heap[b]?∧(∀g,ρ' g≠some b)∧¬ρ'.X b 0){d:D}{v:Value}(h:VR w ρ H d v)(hf:d.Xq=true):VR w' ρ' H' d v:=by
 induction h with
 | undef v=>simp[D.Xq,D.free,D.Xw]at hf
 | skip=>simp[D.Xq,D.free,D.Xw]at hf
 | nili=>exact .nili
 | junk n=>exact .junk n
 | ifc t d v kT hv _ ih=>exact .ifc t d v kT hv (ih kT)
 | ifr t d v hv _ ih=>simp[D.Xq,D.free,D.Xw]at hf
 | iter g v r ob hg hv h=>simp[D.Xq,D.free,D.Xw]at hf
 | int k n=>exact .int k n
 | bool b=>exact .bool b
 | str s=>exact .str s
 | agg cs vs hl hc _ ih =>
  refine .agg cs vs hl hc fun j d v h1 h2=>ih j d v h1 h2 (free_V ?_);simp only[D.Xq,List.all_eq_true]at hf;exact hf d (Lm h1)
 | tup cs vs hl _ ih=>simp[D.Xq,D.free,D.Xw]at hf
 | nilp=>exact .nilp
 | ptr g v i o a ob hg hv xK h=>simp[D.Xq,D.free,D.Xw]at hf
 | X7 row o b q f hc _ ih =>
  refine .X7 row o b q f (fun j d hj ho'=>?_) (fun j d hj ho'=>ih j d hj ho' (free_V (hc j d hj ho').2.2));obtain⟨h1,h2,h3⟩:=hc j d hj ho';obtain⟨k1,k2⟩:=hi _ _ h2;exact⟨k1.trans h1,k2,h3⟩
 | X4=>exact .X4
 | sl sz rows cap A n c hn xV xB hz b o f hA hc _ ih =>
  refine .sl sz rows cap A n c hn xV xB hz b o f hA (fun i r j d hi' hj=>?_) (fun i r j d hi' hj=>ih i r j d hi' hj (free_V (hc i r j d hi' hj).2.2));obtain⟨h1,h2,h3⟩:=hc i r j d hi' hj;obtain⟨k1,k2⟩:=hi _ _ h2;exact⟨k1.trans h1,k2,h3⟩
 | msl g v lo n cap A c ob xV xB hg hv xK h=>simp[D.Xq,D.free,D.Xw]at hf
 | fn f cs vs hl _ ih =>
  refine .fn f cs vs hl fun j d v h1 h2=>ih j d v h1 h2 (free_V (free0_free ?_));simp only[D.Xq,D.free,List.all_eq_true]at hf;exact hf d (Lm h1)
 | nilfn=>exact .nilfn
 | mref g v r ob hg hv h=>simp[D.Xq,D.free,D.Xw]at hf
 | nilm=>exact .nilm
 | yld g x ob hg hX=>simp[D.Xq,D.free,D.Xw]at hf
 | bfn f cs vs hl _ ih=>simp[D.Xq,D.free,D.Xw]at hf
 | mp rows b clock es f hb hx hf' hl hz he hc _ ih =>
  obtain⟨h1,h2,h3⟩:=ho b es clock hb hf' hx;exact .mp rows b clock es f (h1.trans hb) h3 h2 hl hz he hc (fun i r j d hi' hj=>ih i r j d hi' hj (hc i r j d hi' hj).1)
theorem VR.free_mono{w w':World}{ρ ρ':Xn}{H H':List Xh}(hi:∀b q,Imm w ρ H b q→w'.cell? ⟨b,q,none⟩=w.cell? ⟨b,q,none⟩∧Imm w' ρ' H' b q)(ho:∀b es c,w.heap[b]?=some (.map es c)→(∀g,ρ g≠some b)→¬ρ.X b 0→w'.heap[b]?=w.heap[b]?∧(∀g,ρ' g≠some b)∧¬ρ'.X b 0){d:D}{v:Value}(h:VR w ρ H d v)(hf:d.free=true):VR w' ρ' H' d v:=h.freeV_mono hi ho (free_V hf)
theorem Rel.hids{w w':World}{ρ ρ':Xn}{S S':St}(hr:Rel w ρ S.heap)(hs:Stp w ρ S w' ρ' S'):∀b q,ρ'.X b q→b<w'.heap.size∧∀g,ρ' g≠some b:=by
 intro b q hx;rw[hs.hid]at hx;obtain⟨h1,h2⟩:=hr.hid b q hx;exact⟨Nat.lt_of_lt_of_le h1 hs.size,(hs.out b h1 h2).2⟩
theorem Rel.globs{w w':World}{ρ ρ':Xn}{S S':St}(hr:Rel w ρ S.heap)(hs:Stp w ρ S w' ρ' S'):∀g row,ρ'.X.G g=some row→VR w' ρ' S'.heap (.X7 row 0) (.pointer (some ⟨g,0,none⟩))∧GSz w' ρ' g row:=by
 intro g row hg;rw[hs.hid]at hg;obtain⟨h1,h2,cs,t,z,h3,h4⟩:=hr.glob g row hg;obtain⟨k1,k2⟩:=hs.out g (Array.getElem?_eq_some_iff.1 h3).1 h2;exact⟨h1.mono hs,k2,cs,t,z,k1.trans h3,h4⟩
theorem Rel.lpss{w w':World}{ρ ρ':Xn}{S S':St}(hr:Rel w ρ S.heap)(hs:Stp w ρ S w' ρ' S'):∀g x,ρ'.X.L g=some x→ρ' g=some x.b∧U5 w' S'.heap g x∧∀t,t<x.nt→VR w' ρ' S'.heap (x.sg t) (x.tmps.getD t undef):=by
 intro g x hX;rw[hs.hid]at hX;obtain⟨h1,h2,h3⟩:=hr.lps g x hX;exact⟨hs.lpb hX h1 h2,hs.lp g x hX h1 h2,fun t ht=>(h3 t ht).mono hs⟩
open Go.RowKit
structure Xx (w w':World) (o:Obj):Prop where
 os:w'.os=w.os
 tape:w'.tape=w.tape
 output:w'.output=w.output
 size:w'.heap.size=w.heap.size+1
 new:w'.heap[w.heap.size]?=some o
 old:∀k,k<w.heap.size→w'.heap[k]?=w.heap[k]?
structure Xy (w w':World) (b:Nat) (o:Obj):Prop where
 os:w'.os=w.os
 tape:w'.tape=w.tape
 output:w'.output=w.output
 size:w'.heap.size=w.heap.size
 new:w'.heap[b]?=some o
 old:∀k,k≠b→w'.heap[k]?=w.heap[k]?
theorem Xx.alloc(w:World)(o:Obj):Xx w (w.alloc o) o:=⟨rfl,rfl,rfl,by simp,heap_alloc_new w o,fun k h=>heap_alloc_old w o h⟩
theorem Xx.drewAlloc(w:World)(o:Obj):Xx w (w.drew.alloc o) o:=⟨rfl,rfl,rfl,by simp,heap_alloc_new w.drew o,fun k h=>heap_alloc_old w.drew o h⟩
theorem Xy.setRow{w:World}{b:Nat}{cur cs:Array Value}{t:TypeId}(h:w.heap[b]?=some (.cells cur t (0,0))):Xy w (w.setRow b cs) b (.cells cs t (0,0)) :=
 ⟨rfl,rfl,rfl,by simp[World.setRow],setRow_heap w b cur cs t (0,0) h,fun k hk=>setRow_other w b k cs hk⟩
theorem El{w w':World}{b:Nat}(h:w'.heap[b]?=w.heap[b]?)(q:Nat):w'.cell? ⟨b,q,none⟩=w.cell? ⟨b,q,none⟩:=by
 simp[World.cell?,h]
theorem lt_of_heap{w:World}{b:Nat}{o:Obj}(h:w.heap[b]?=some o):b<w.heap.size:=(Array.getElem?_eq_some_iff.1 h).1
theorem Rel.lt{w:World}{ρ:Xn}{H:List Xh}(h:Rel w ρ H){g b:Nat}(hb:ρ g=some b):b<w.heap.size:=by
 obtain⟨o,_,hk⟩:=h.obj g b hb;by_cases e:o.kind=3
 ·
  by_cases e0:o.elem=0
  ·
   obtain⟨es,clock,hc,_⟩:=(hk.2 e).1 e0;exact lt_of_heap hc
  by_cases e1:o.elem=1
  ·
   obtain⟨s,pos,hc,_⟩:=(hk.2 e).2.1 e1;exact lt_of_heap hc
  obtain⟨r,hc⟩:=(hk.2 e).2.2 e0 e1;exact lt_of_heap hc
 obtain⟨cur,hc,_⟩:=hk.1 e;exact lt_of_heap hc
theorem Rel.cel{w:World}{ρ:Xn}{H:List Xh}(h:Rel w ρ H){g b:Nat}{ob:Xh}(hb:ρ g=some b)(hg:H[g]?=some ob)(hk:ob.kind≠3):∃o,H[g]?=some o∧ObjOK w ρ H o b:=by
 obtain⟨o,ho,yS⟩:=h.obj g b hb;rw[hg]at ho;injection ho with ho;subst ho;exact⟨ob,hg,yS.1 hk⟩
theorem Rel.map{w:World}{ρ:Xn}{H:List Xh}(h:Rel w ρ H){g b:Nat}{ob:Xh}(hb:ρ g=some b)(hg:H[g]?=some ob)(hk:ob.kind=3)(he:ob.elem=0):MapOK w ρ H ob b:=by
 obtain⟨o,ho,yS⟩:=h.obj g b hb;rw[hg]at ho;injection ho with ho;subst ho;exact (yS.2 hk).1 he
theorem Rel.iter{w:World}{ρ:Xn}{H:List Xh}(h:Rel w ρ H){g b:Nat}{ob:Xh}(hb:ρ g=some b)(hg:H[g]?=some ob)(hk:ob.kind=3)(he:ob.elem=1):IterOK w ob b:=by
 obtain⟨o,ho,yS⟩:=h.obj g b hb;rw[hg]at ho;injection ho with ho;subst ho;exact (yS.2 hk).2.1 he
theorem Rel.in{w:World}{ρ:Xn}{H:List Xh}(h:Rel w ρ H){g b:Nat}(hb:ρ g=some b):g<H.length:=by
 obtain⟨o,ho,_⟩:=h.obj g b hb;exact lt_of_some ho
theorem ObjOK.fwd{w w':World}{ρ ρ':Xn}{H H':List Xh}(hs:Fwd w ρ H w' ρ' H'){o:Xh}{b:Nat}(h:ObjOK w ρ H o b)(hb:w'.heap[b]?=w.heap[b]?):ObjOK w' ρ' H' o b:=by
 obtain⟨cur,hc,hz,xB,hl,hk,hh⟩:=h;refine⟨cur,hb.trans hc,hz,xB,hl,hk,fun i r j d hi hj=>?_⟩;obtain⟨h1,h2,v,hv,wo⟩:=hh i r j d hi hj;exact⟨h1,h2,v,hv,wo.fwd hs⟩
theorem MapOK.fwd{w w':World}{ρ ρ':Xn}{H H':List Xh}(hs:Fwd w ρ H w' ρ' H'){o:Xh}{b:Nat}(h:MapOK w ρ H o b)(hb:w'.heap[b]?=w.heap[b]?):MapOK w' ρ' H' o b:=by
 obtain⟨es,clock,hc,hz,hl,hh⟩:=h;refine⟨es,clock,hb.trans hc,hz,hl,fun i r hi=>?_⟩;obtain⟨e,k,v,h1,h2,h3,h4,h5,h6⟩:=hh i r hi;exact⟨e,k,v,h1,h2,h3,h4,h5.fwd hs,h6.fwd hs⟩
theorem AnyOK.fwd{w w':World}{ρ ρ':Xn}{H H':List Xh}(hs:Fwd w ρ H w' ρ' H'){o:Xh}{b:Nat}(h:AnyOK w ρ H o b)(hb:w'.heap[b]?=w.heap[b]?):AnyOK w' ρ' H' o b :=
 ⟨fun hk=>(h.1 hk).fwd hs hb,fun hk=>⟨fun he=>((h.2 hk).1 he).fwd hs hb,fun he=>by
  obtain⟨s,pos,h1,h2⟩:=(h.2 hk).2.1 he
  exact⟨s,pos,hb.trans h1,h2⟩,fun uH he1=>by
  obtain⟨r,h1⟩:=(h.2 hk).2.2 uH he1
  exact⟨r,hb.trans h1⟩⟩⟩
theorem ObjOK.mono{w w':World}{ρ ρ':Xn}{S S':St}(hs:Stp w ρ S w' ρ' S'){o:Xh}{b:Nat}(h:ObjOK w ρ S.heap o b)(hb:w'.heap[b]?=w.heap[b]?):ObjOK w' ρ' S'.heap o b:=h.fwd hs.fwd hb
theorem MapOK.mono{w w':World}{ρ ρ':Xn}{S S':St}(hs:Stp w ρ S w' ρ' S'){o:Xh}{b:Nat}(h:MapOK w ρ S.heap o b)(hb:w'.heap[b]?=w.heap[b]?):MapOK w' ρ' S'.heap o b:=h.fwd hs.fwd hb
theorem AnyOK.mono{w w':World}{ρ ρ':Xn}{S S':St}(hs:Stp w ρ S w' ρ' S'){o:Xh}{b:Nat}(h:AnyOK w ρ S.heap o b)(hb:w'.heap[b]?=w.heap[b]?):AnyOK w' ρ' S'.heap o b:=h.fwd hs.fwd hb
def upd (ρ:Xn) (g b:Nat):Xn:=⟨fun k=>if k=g then some b else ρ k,ρ.X⟩
section
variable {w w':World} {ρ:Xn} {S:St}
theorem Gc{o:Obj}(hr:Rel w ρ S.heap)(h:Xx w w' o):Stp w ρ S w' ρ S:=by
 refine⟨rfl,h.os,h.tape,h.output,by have:=h.size;omega,Nat.le_refl _,fun b hb hg=>⟨h.old b hb,hg⟩,fun b q hi=>⟨El (h.old b hi.1) q,by have:=h.size;have:=hi.1;exact⟨by omega,hi.2.1,hi.2.2⟩⟩,fun g b o' ho hg hb=>h.old b (hr.lt hb),fun g o' ho=>⟨o',ho,⟨Nat.le_refl _,rfl⟩,fun _=>rfl,fun _=>⟨rfl,rfl,rfl,Nat.le_refl _,fun b cur hb hc=>⟨cur,(h.old b (hr.lt hb)).trans hc,rfl⟩⟩⟩,fun g x _ _ ⟨j,q1,q2⟩=>⟨j,q1,(h.old _ (lt_of_heap q2)).trans q2⟩⟩
theorem Lc{o:Obj}(hr:Rel w ρ S.heap)(h:Xx w w' o):Rel w' ρ S.heap :=
 ⟨hr.inj,fun g b hb=>by
  obtain⟨o',ho,hk⟩:=hr.obj g b hb
  exact⟨o',ho,hk.mono (Gc hr h) (h.old b (hr.lt hb))⟩,hr.hids (Gc hr h),hr.globs (Gc hr h),hr.lpss (Gc hr h)⟩
theorem ext_add{o:Obj}(h:Xx w w' o):Ext w w':=⟨h.os,h.tape,h.output,by have:=h.size;omega,h.old⟩
theorem Fh{o:Obj}{ob:Xh}(hr:Rel w ρ S.heap)(h:Xx w w' o):Stp w ρ S w' (upd ρ S.heap.length w.heap.size) (newAt S ob):=by
  have xA:∀g b,ρ g=some b→g≠S.heap.length:=fun g b hb e=>by have:=hr.in hb;omega
  refine⟨rfl,h.os,h.tape,h.output,by have:=h.size;omega,Nat.le_refl _,fun b hb hg=>⟨h.old b hb,fun g=>?_⟩,fun b q hi=>⟨El (h.old b hi.1) q,by have:=h.size;have:=hi.1;omega,hi.2.1,fun g hg=>?_⟩,fun g b o' ho hg hb=>h.old b (hr.lt hb),fun g o' ho=>?_,fun g x _ _ ⟨j,q1,q2⟩=>⟨j,by simp only[newAt];rw[La_ (lt_of_some q1)];exact q1,(h.old _ (lt_of_heap q2)).trans q2⟩⟩
  · simp only [upd];split
    · intro e;injection e with e;omega
    exact hg g
  · simp only [upd] at hg;split at hg
    · injection hg with hg;have:=hi.1;omega
    obtain⟨o',ho,hk⟩:=hi.2.2 g hg;exact⟨o',by simp only[newAt];rw[La_ (lt_of_some ho)];exact ho,hk⟩
  have xq:=lt_of_some ho;refine⟨o',by simp only[newAt];rw[La_ xq];exact ho,⟨Nat.le_refl _,rfl⟩,fun _=>rfl,fun _=>⟨by simp only[upd];rw[if_neg (by omega)],rfl,rfl,Nat.le_refl _,fun b cur hb hc=>⟨cur,(h.old b (hr.lt hb)).trans hc,rfl⟩⟩⟩
theorem J4{cur:Array Value}{ob:Xh}(hr:Rel w ρ S.heap)(h:Xx w w' (.cells cur ob.elem (0,0)))(hz:0<ob.sz)(xB:∃c,cur.size=c*ob.sz∧ob.rows.length≤c∧c≤maxLen∧(ob.grow=false→c=ob.rows.length))
  (hl:∀r∈ob.rows,r.length=ob.sz) (hk:ob.kind=0∨ob.kind=1∨ob.kind=2)
  (hh:∀i r j d,ob.rows[i]?=some r→r[j]?=some d→d.Xv=true∧(ob.kind≠0→d.free=true)∧∃v,cur[i*ob.sz+j]?=some v∧VR w ρ S.heap d v) :
  Rel w' (upd ρ S.heap.length w.heap.size) (newAt S ob).heap:=by
 have hs:=Fh (ob:=ob) hr h;refine⟨fun g g' b hg hg'=>?_,fun g b hb=>?_,hr.hids hs,hr.globs hs,hr.lpss hs⟩
 ·
  simp only[upd]at hg hg';split at hg<;>split at hg'
  ·
   omega
  ·
   injection hg with hg;have:=hr.lt hg';omega
  ·
   injection hg' with hg';have:=hr.lt hg;omega
  exact hr.inj g g' b hg hg'
 simp only[upd]at hb;split at hb
 ·
  rename_i wK;injection hb with hb;subst hb wK;refine⟨ob,by simp[newAt],fun _=>⟨cur,h.new,hz,xB,hl,hk,fun i r j d hi hj=>?_⟩,fun e=>by omega⟩;obtain⟨h1,h2,v,hv,wo⟩:=hh i r j d hi hj;exact⟨h1,h2,v,hv,wo.mono hs⟩
 obtain⟨o',ho,hk'⟩:=hr.obj g b hb;exact⟨o',by simp only[newAt];rw[La_ (lt_of_some ho)];exact ho,hk'.mono hs (h.old b (hr.lt hb))⟩
theorem La {g b : Nat} {cur cur' : Array Value} {o o' : Xh} (hr : Rel w ρ S.heap) (hb : ρ g = some b) (ho : S.heap[g]? = some o) (hc : w.heap[b]? = some (.cells cur o.elem (0, 0))) (h : Xy w w' b (.cells cur' o.elem (0, 0)))
    (xC:cur'.size=cur.size) (he:o'.sz=o.sz∧o'.elem=o.elem∧o'.kind=o.kind∧o.rows.length≤o'.rows.length∧o.ver≤o'.ver) (uK:o.kind=1→∀q,q<o.rows.length*o.sz→cur'[q]?=cur[q]?) :
    Stp w ρ S w' ρ ⟨S.heap.set g o',min S.low g⟩:=by
  have zA:=lt_of_some ho
  refine⟨rfl,h.os,h.tape,h.output,by have:=h.size;omega,Nat.min_le_left _ _,fun b' hb' hg=>⟨h.old b' (fun e=>hg g (e▸hb)),hg⟩,fun b' q hi=>?_,fun g' b' o'' ho' hg hb'=>h.old b' (fun e=>?_),fun g' o'' ho'=>?_,fun g' x hX hb' ⟨j,q1,q2⟩=>by
    have xA:x.b≠b:=fun e=>by rw[e,hc]at q2;cases q2
    have hg:g≠g':=fun e=>xA (by subst e;rw[hb]at hb';exact (Option.some.inj hb').symm)
    exact⟨j,by simp only;rw[Ln_ hg];exact q1,(h.old _ xA).trans q2⟩⟩
  · by_cases e : b' = b
    · subst e;obtain⟨o1,xG,y7,hq1⟩:=hi.2.2 g hb;rw[ho]at xG;injection xG with xG;subst xG;refine⟨?_,by rw[h.size];exact hi.1,hi.2.1,fun g' hg'=>?_⟩
      · simp only [World.cell?, h.new, hc];simpa using uK y7 q hq1
      have:=hr.inj g' g b' hg' hb;subst this;refine⟨o',by simp[zA],by rw[he.2.2.1];exact y7,?_⟩;rw[he.1];exact Nat.lt_of_lt_of_le hq1 (Nat.mul_le_mul_right _ he.2.2.2.1)
    refine⟨El (h.old b' e) q,by rw[h.size];exact hi.1,hi.2.1,fun g' hg'=>?_⟩;have xA:g≠g':=fun e'=>e (by subst e';rw[hb]at hg';injection hg' with hg';exact hg'.symm);obtain⟨o1,xG,y7⟩:=hi.2.2 g' hg';exact⟨o1,by simp only;rw[Ln_ xA];exact xG,y7⟩
  · subst e;have:=hr.inj g' g b' hb' hb;subst this;have:g'<min S.low g':=hg;exact absurd (Nat.min_le_right S.low g') (by omega)
  by_cases e:g=g'
  · subst e;rw[ho]at ho';injection ho' with ho';subst ho';refine⟨o',by simp[zA],⟨he.2.2.2.2,he.2.2.1⟩,fun hg=>?_,fun hv=>⟨rfl,he.1,he.2.1,he.2.2.2.1,fun b' cu hb' uL=>?_⟩⟩
    · exact absurd (Nat.min_le_right S.low g) (by have:g<min S.low g:=hg;omega)
    rw[hb]at hb';injection hb' with hb';subst hb';rw[hc]at uL;injection uL with uL;injection uL with uL;subst uL;exact⟨cur',h.new,xC⟩
  refine⟨o'',by simp only;rw[Ln_ e];exact ho',⟨Nat.le_refl _,rfl⟩,fun _=>rfl,fun _=>⟨rfl,rfl,rfl,Nat.le_refl _,fun b' cu hb' uL=>⟨cu,?_,rfl⟩⟩⟩;rw[h.old b' (fun e'=>e (by subst e';exact hr.inj g g' b' hb hb'))];exact uL
theorem Nn{g b:Nat}{cur cur':Array Value}{o o':Xh}(xK:o.kind≠3)(hr:Rel w ρ S.heap)(hb:ρ g=some b)(ho:S.heap[g]?=some o)(hc:w.heap[b]?=some (.cells cur o.elem (0,0)))(h:Xy w w' b (.cells cur' o.elem (0,0)))
  (xC:cur'.size=cur.size) (he:o'.sz=o.sz∧o'.elem=o.elem∧o'.kind=o.kind∧o.rows.length≤o'.rows.length∧o.ver≤o'.ver) (uK:o.kind=1→∀q,q<o.rows.length*o.sz→cur'[q]?=cur[q]?)
  (xB:∃c,cur'.size=c*o'.sz∧o'.rows.length≤c∧c≤maxLen∧(o'.grow=false→c=o'.rows.length)) (hl:∀r∈o'.rows,r.length=o'.sz)
  (hh:∀i r j d,o'.rows[i]?=some r→r[j]?=some d→d.Xv=true∧(o'.kind≠0→d.free=true)∧∃v,cur'[i*o'.sz+j]?=some v∧VR w ρ S.heap d v) :
  Rel w' ρ (S.heap.set g o'):=by
 have hs:=La hr hb ho hc h xC he uK;have zA:=lt_of_some ho;refine⟨hr.inj,fun g' b' hb'=>?_,hr.hids hs,hr.globs hs,hr.lpss hs⟩;by_cases e:g=g'
 ·
  subst e;rw[hb]at hb';injection hb' with hb';subst hb';obtain⟨o1,xG,cu,uL,hz,_,_,hk,_⟩:=hr.cel hb ho xK;rw[ho]at xG;injection xG with xG;subst xG;refine⟨o',by simp[zA],fun _=>⟨cur',by rw[he.2.1];exact h.new,by rw[he.1];exact hz,xB,hl,by rw[he.2.2.1];exact hk,fun i r j d hi hj=>?_⟩,fun e=>absurd (he.2.2.1.symm.trans e) xK⟩;obtain⟨h1,h2,v,hv,wo⟩:=hh i r j d hi hj;exact⟨h1,h2,v,hv,wo.mono hs⟩
 obtain⟨o1,xG,hk⟩:=hr.obj g' b' hb';refine⟨o1,by rw[Ln_ e];exact xG,hk.mono hs (h.old b' (fun e'=>e (by subst e';exact hr.inj g g' b' hb hb')))⟩
theorem stp_move{g b:Nat}{ob:Obj}{o o':Xh}(hr:Rel w ρ S.heap)(hb:ρ g=some b)(ho:S.heap[g]?=some o)(h:Xx w w' ob)(hv:o.ver<o'.ver)(yO:o'.kind=o.kind)(xK:o.kind≠3) :
    Stp w ρ S w' (upd ρ g w.heap.size) ⟨S.heap.set g o',min S.low g⟩:=by
  have zA:=lt_of_some ho
  refine⟨rfl,h.os,h.tape,h.output,by have:=h.size;omega,Nat.min_le_left _ _,fun b' hb' hg=>⟨h.old b' hb',fun g'=>?_⟩,fun b' q hi=>⟨El (h.old b' hi.1) q,by have:=h.size;have:=hi.1;omega,hi.2.1,fun g' hg'=>?_⟩,fun g' b' o'' ho' hg hb'=>h.old b' (hr.lt hb'),fun g' o'' ho'=>?_,fun g' x hX hb' ⟨j,q1,q2⟩=>by
    have hg:g≠g':=fun e=>by subst e;rw[ho]at q1;obtain rfl:=Option.some.inj q1;exact xK rfl
    exact⟨j,by simp only;rw[Ln_ hg];exact q1,(h.old _ (lt_of_heap q2)).trans q2⟩⟩
  · simp only [upd];split
    · intro e;injection e with e;omega
    exact hg g'
  · simp only [upd] at hg';split at hg'
    · injection hg' with hg';have:=hi.1;omega
    rename_i xA;obtain⟨o1,xG,hk⟩:=hi.2.2 g' hg';exact⟨o1,by simp only;rw[Ln_ (Ne.symm xA)];exact xG,hk⟩
  by_cases e:g=g'
  · subst e;rw[ho]at ho';injection ho' with ho';subst ho';refine⟨o',by simp[zA],⟨by omega,yO⟩,fun hg=>?_,fun hv'=>by omega⟩;exact absurd (Nat.min_le_right S.low g) (by have:g<min S.low g:=hg;omega)
  refine⟨o'',by simp only;rw[Ln_ e];exact ho',⟨Nat.le_refl _,rfl⟩,fun _=>rfl,fun _=>⟨by simp only[upd];rw[if_neg (Ne.symm e)],rfl,rfl,Nat.le_refl _,fun b' cu hb' uL=>⟨cu,(h.old b' (hr.lt hb')).trans uL,rfl⟩⟩⟩
theorem rel_move{g b:Nat}{cur':Array Value}{o o':Xh}(hr:Rel w ρ S.heap)(hb:ρ g=some b)(ho:S.heap[g]?=some o)(h:Xx w w' (.cells cur' o'.elem (0,0)))(hv:o.ver<o'.ver)(yO:o'.kind=o.kind)(hz:0<o'.sz)(hk:o'.kind=0∨o'.kind=1∨o'.kind=2)
  (xB:∃c,cur'.size=c*o'.sz∧o'.rows.length≤c∧c≤maxLen∧(o'.grow=false→c=o'.rows.length)) (hl:∀r∈o'.rows,r.length=o'.sz)
  (hh:∀i r j d,o'.rows[i]?=some r→r[j]?=some d→d.Xv=true∧(o'.kind≠0→d.free=true)∧∃v,cur'[i*o'.sz+j]?=some v∧VR w ρ S.heap d v) :
  Rel w' (upd ρ g w.heap.size) (S.heap.set g o'):=by
 have hs:=stp_move (o':=o') hr hb ho h hv yO (by rw[←yO];omega);have zA:=lt_of_some ho;refine⟨fun g1 g2 b' hg hg'=>?_,fun g' b' hb'=>?_,hr.hids hs,hr.globs hs,hr.lpss hs⟩
 ·
  simp only[upd]at hg hg';split at hg<;>split at hg'
  ·
   omega
  ·
   injection hg with hg;have:=hr.lt hg';omega
  ·
   injection hg' with hg';have:=hr.lt hg;omega
  exact hr.inj g1 g2 b' hg hg'
 simp only[upd]at hb';split at hb'
 ·
  rename_i wK;injection hb' with hb';subst hb' wK;refine⟨o',by simp[zA],fun _=>⟨cur',h.new,hz,xB,hl,hk,fun i r j d hi hj=>?_⟩,fun e=>by omega⟩;obtain⟨h1,h2,v,hv',wo⟩:=hh i r j d hi hj;exact⟨h1,h2,v,hv',wo.mono hs⟩
 rename_i xA;obtain⟨o1,xG,y7⟩:=hr.obj g' b' hb';exact⟨o1,by rw[Ln_ (Ne.symm xA)];exact xG,y7.mono hs (h.old b' (hr.lt hb'))⟩
theorem Lb{g b:Nat}{mo mo':Obj}{o o':Xh}(hr:Rel w ρ S.heap)(hb:ρ g=some b)(ho:S.heap[g]?=some o)(hk:o.kind=3)(hc:w.heap[b]?=some mo)(xV:(∀c e f,mo≠.cells c e f)∧∀r,mo≠.loop r)(h:Xy w w' b mo')(he:o'.sz=o.sz∧o'.elem=o.elem∧o'.kind=o.kind∧o.rows.length≤o'.rows.length∧o'.ver=o.ver) :
    Stp w ρ S w' ρ ⟨S.heap.set g o',min S.low g⟩:=by
  have zA:=lt_of_some ho
  refine⟨rfl,h.os,h.tape,h.output,by have:=h.size;omega,Nat.min_le_left _ _,fun b' hb' hg=>⟨h.old b' (fun e=>hg g (e▸hb)),hg⟩,fun b' q hi=>?_,fun g' b' o'' ho' hg hb'=>h.old b' (fun e=>?_),fun g' o'' ho'=>?_,fun g' x hX hb' ⟨j,q1,q2⟩=>by
    have xA:x.b≠b:=fun e=>by rw[e,hc]at q2;exact xV.2 _ (Option.some.inj q2)
    have hg:g≠g':=fun e=>xA (by subst e;rw[hb]at hb';exact (Option.some.inj hb').symm)
    exact⟨j,by simp only;rw[Ln_ hg];exact q1,(h.old _ xA).trans q2⟩⟩
  · by_cases e : b' = b
    · subst e;obtain⟨o1,xG,y7,hq1⟩:=hi.2.2 g hb;rw[ho]at xG;injection xG with xG;subst xG;omega
    refine⟨El (h.old b' e) q,by rw[h.size];exact hi.1,hi.2.1,fun g' hg'=>?_⟩;have xA:g≠g':=fun e'=>e (by subst e';rw[hb]at hg';injection hg' with hg';exact hg'.symm);obtain⟨o1,xG,y7⟩:=hi.2.2 g' hg';exact⟨o1,by simp only;rw[Ln_ xA];exact xG,y7⟩
  · subst e;have:=hr.inj g' g b' hb' hb;subst this;have:g'<min S.low g':=hg;exact absurd (Nat.min_le_right S.low g') (by omega)
  by_cases e:g=g'
  · subst e;rw[ho]at ho';injection ho' with ho';subst ho';refine⟨o',by simp[zA],⟨by omega,he.2.2.1⟩,fun hg=>?_,fun hv=>⟨rfl,he.1,he.2.1,he.2.2.2.1,fun b' cu hb' uL=>?_⟩⟩
    · exact absurd (Nat.min_le_right S.low g) (by have:g<min S.low g:=hg;omega)
    rw[hb]at hb';injection hb' with hb';subst hb';rw[hc]at uL;injection uL with uL;exact absurd uL (xV.1 _ _ _)
  refine⟨o'',by simp only;rw[Ln_ e];exact ho',⟨Nat.le_refl _,rfl⟩,fun _=>rfl,fun _=>⟨rfl,rfl,rfl,Nat.le_refl _,fun b' cu hb' uL=>⟨cu,?_,rfl⟩⟩⟩;rw[h.old b' (fun e'=>e (by subst e';exact hr.inj g g' b' hb hb'))];exact uL
theorem Wy{g b clock':Nat}{mo:Obj}{es':Array MapEntry}{o o':Xh}(hr:Rel w ρ S.heap)(hb:ρ g=some b)(ho:S.heap[g]?=some o)(hk:o.kind=3)(uH:o.elem=0)(hc:w.heap[b]?=some mo)(xV:(∀c e f,mo≠.cells c e f)∧∀r,mo≠.loop r)(h:Xy w w' b (.map es' clock'))(he:o'.sz=o.sz∧o'.elem=o.elem∧o'.kind=o.kind∧o.rows.length≤o'.rows.length∧o'.ver=o.ver)
  (hs:es'.size=o'.rows.length) (hl:∀r∈o'.rows,r.length=2) (hh:∀(i:Nat) (r:List D),o'.rows[i]?=some r→∃(e:MapEntry) (k v:D),es'[i]?=some e∧r=[k,v]∧(k.Xq=true∧k.val=true)∧(v.Xq=true∧v.val=true)∧VR w ρ S.heap k e.key∧VR w ρ S.heap v e.val) :
  Rel w' ρ (S.heap.set g o'):=by
 have xH:=Lb hr hb ho hk hc xV h he;have zA:=lt_of_some ho;refine⟨hr.inj,fun g' b' hb'=>?_,hr.hids xH,hr.globs xH,hr.lpss xH⟩;by_cases e:g=g'
 ·
  subst e;rw[hb]at hb';injection hb' with hb';subst hb';refine⟨o',by simp[zA],fun h3=>absurd (he.2.2.1.trans hk) h3,fun _=>⟨fun _=>⟨es',clock',h.new,hs,hl,fun i r hi=>?_⟩,fun h1=>absurd ((he.2.1.trans uH).symm.trans h1) (by decide),fun xA=>absurd (he.2.1.trans uH) xA⟩⟩;obtain⟨e,k,v,h1,h2,h3,h4,h5,h6⟩:=hh i r hi;exact⟨e,k,v,h1,h2,h3,h4,h5.mono xH,h6.mono xH⟩
 obtain⟨o1,xG,y7⟩:=hr.obj g' b' hb';refine⟨o1,by rw[Ln_ e];exact xG,y7.mono xH (h.old b' (fun e'=>e (by subst e';exact hr.inj g g' b' hb hb')))⟩
theorem rel_newmap{clock:Nat}{ob:Xh}(hr:Rel w ρ S.heap)(h:Xx w w' (.map #[] clock))(hk:ob.kind=3)(uH:ob.elem=0)(xE:ob.rows=[]):Rel w' (upd ρ S.heap.length w.heap.size) (newAt S ob).heap:=by
  have hs:=Fh (ob:=ob) hr h;refine⟨fun g g' b hg hg'=>?_,fun g b hb=>?_,hr.hids hs,hr.globs hs,hr.lpss hs⟩
  · simp only [upd] at hg hg';split at hg<;>split at hg'
    · omega
    · injection hg with hg;have:=hr.lt hg';omega
    · injection hg' with hg';have:=hr.lt hg;omega
    exact hr.inj g g' b hg hg'
  simp only[upd]at hb;split at hb
  · rename_i wK;injection hb with hb;subst hb wK;exact⟨ob,by simp[newAt],fun e=>absurd hk e,fun _=>⟨fun _=>⟨#[],clock,h.new,by simp[xE],by simp[xE],fun i r hi=>by simp[xE]at hi⟩,fun h1=>absurd (uH.symm.trans h1) (by decide),fun xA=>absurd uH xA⟩⟩
  obtain⟨o',ho,hk'⟩:=hr.obj g b hb;exact⟨o',by simp only[newAt];rw[La_ (lt_of_some ho)];exact ho,hk'.mono hs (h.old b (hr.lt hb))⟩
theorem rel_newiter{s:ByteArray}{pos:Nat}{ob:Xh}(hr:Rel w ρ S.heap)(h:Xx w w' (.stringIter s pos))(hk:ob.kind=3)(uH:ob.elem=1)(xE:ob.rows=[[.str s,.int .i64 pos]]):Rel w' (upd ρ S.heap.length w.heap.size) (newAt S ob).heap:=by
  have hs:=Fh (ob:=ob) hr h;refine⟨fun g g' b hg hg'=>?_,fun g b hb=>?_,hr.hids hs,hr.globs hs,hr.lpss hs⟩
  · simp only [upd] at hg hg';split at hg<;>split at hg'
    · omega
    · injection hg with hg;have:=hr.lt hg';omega
    · injection hg' with hg';have:=hr.lt hg;omega
    exact hr.inj g g' b hg hg'
  simp only[upd]at hb;split at hb
  · rename_i wK;injection hb with hb;subst hb wK;exact⟨ob,by simp[newAt],fun e=>absurd hk e,fun _=>⟨fun h0=>absurd (h0.symm.trans uH) (by decide),fun _=>⟨s,pos,h.new,xE⟩,fun _ h1=>absurd uH h1⟩⟩
  obtain⟨o',ho,hk'⟩:=hr.obj g b hb;exact⟨o',by simp only[newAt];rw[La_ (lt_of_some ho)];exact ho,hk'.mono hs (h.old b (hr.lt hb))⟩
theorem rel_iter{g b pos':Nat}{s:ByteArray}{mo:Obj}{o o':Xh}(hr:Rel w ρ S.heap)(hb:ρ g=some b)(ho:S.heap[g]?=some o)(hk:o.kind=3)(uH:o.elem=1)(hc:w.heap[b]?=some mo)(xV:(∀c e f,mo≠.cells c e f)∧∀r,mo≠.loop r)(h:Xy w w' b (.stringIter s pos'))(he:o'.sz=o.sz∧o'.elem=o.elem∧o'.kind=o.kind∧o.rows.length≤o'.rows.length∧o'.ver=o.ver)
    (xE:o'.rows=[[.str s,.int .i64 pos']]):Rel w' ρ (S.heap.set g o'):=by
  have xH:=Lb hr hb ho hk hc xV h he;have zA:=lt_of_some ho;refine⟨hr.inj,fun g' b' hb'=>?_,hr.hids xH,hr.globs xH,hr.lpss xH⟩;by_cases e:g=g'
  · subst e;rw[hb]at hb';injection hb' with hb';subst hb';exact⟨o',by simp[zA],fun h3=>absurd (he.2.2.1.trans hk) h3,fun _=>⟨fun h0=>absurd (h0.symm.trans (he.2.1.trans uH)) (by decide),fun _=>⟨s,pos',h.new,xE⟩,fun _ h1=>absurd (he.2.1.trans uH) h1⟩⟩
  obtain⟨o1,xG,y7⟩:=hr.obj g' b' hb';refine⟨o1,by rw[Ln_ e];exact xG,y7.mono xH (h.old b' (fun e'=>e (by subst e';exact hr.inj g g' b' hb hb')))⟩
def updN (ρ:Xn) (g:Nat):Xn:=⟨fun k=>if k=g then none else ρ k,ρ.X⟩
theorem Oy {g b : Nat} {cur : Array Value} {e : TypeId} {fz : Nat × Nat} {o o' : Xh} (hr : Rel w ρ S.heap) (hb : ρ g = some b) (ho : S.heap[g]? = some o) (hc : w.heap[b]? = some (.cells cur o.elem (0, 0))) (h : Xy w w' b (.cells cur e fz)) (hv : o.ver < o'.ver) (yO : o'.kind = o.kind) :
    Stp w ρ S w' (updN ρ g) ⟨S.heap.set g o',min S.low g⟩:=by
  have zA:=lt_of_some ho
  refine⟨rfl,h.os,h.tape,h.output,by have:=h.size;omega,Nat.min_le_left _ _,fun b' hb' hg=>⟨h.old b' (fun e=>hg g (e▸hb)),fun g'=>?_⟩,fun b' q hi=>?_,fun g' b' o'' ho' hg hb'=>h.old b' (fun e=>?_),fun g' o'' ho'=>?_,fun g' x hX hb' ⟨j,q1,q2⟩=>by
    have xA:x.b≠b:=fun e=>by rw[e,hc]at q2;cases q2
    have hg:g≠g':=fun e=>xA (by subst e;rw[hb]at hb';exact (Option.some.inj hb').symm)
    exact⟨j,by simp only;rw[Ln_ hg];exact q1,(h.old _ xA).trans q2⟩⟩
  · simp only [updN];split
    · simp
    exact hg g'
  · refine ⟨?_, by rw [h.size]; exact hi.1, hi.2.1, fun g' hg' => ?_⟩
    · by_cases e : b' = b
      · subst e;simp only[World.cell?,h.new,hc]
      exact El (h.old b' e) q
    simp only[updN]at hg';split at hg'
    · simp at hg'
    rename_i xA;obtain⟨o1,xG,hk⟩:=hi.2.2 g' hg';exact⟨o1,by simp only;rw[Ln_ (Ne.symm xA)];exact xG,hk⟩
  · subst e;have:=hr.inj g' g b' hb' hb;subst this;have:g'<min S.low g':=hg;exact absurd (Nat.min_le_right S.low g') (by omega)
  by_cases e:g=g'
  · subst e;rw[ho]at ho';injection ho' with ho';subst ho';refine⟨o',by simp[zA],⟨by omega,yO⟩,fun hg=>?_,fun hv'=>by omega⟩;exact absurd (Nat.min_le_right S.low g) (by have:g<min S.low g:=hg;omega)
  refine⟨o'',by simp only;rw[Ln_ e];exact ho',⟨Nat.le_refl _,rfl⟩,fun _=>rfl,fun _=>⟨by simp only[updN];rw[if_neg (Ne.symm e)],rfl,rfl,Nat.le_refl _,fun b' cu hb' uL=>⟨cu,?_,rfl⟩⟩⟩;rw[h.old b' (fun e'=>e (by subst e';exact hr.inj g g' b' hb hb'))];exact uL
theorem rel_drop{g b:Nat}{cur:Array Value}{e:TypeId}{fz:Nat × Nat}{o o':Xh}(hr:Rel w ρ S.heap)(hb:ρ g=some b)(ho:S.heap[g]?=some o)(hc:w.heap[b]?=some (.cells cur o.elem (0,0)))(h:Xy w w' b (.cells cur e fz))(hv:o.ver<o'.ver)(yO:o'.kind=o.kind) :
  Rel w' (updN ρ g) (S.heap.set g o'):=by
 have hs:=Oy (o':=o') hr hb ho hc h hv yO;refine⟨fun g1 g2 b' hg hg'=>?_,fun g' b' hb'=>?_,hr.hids hs,hr.globs hs,hr.lpss hs⟩
 ·
  simp only[updN]at hg hg';split at hg<;>split at hg'
  ·
   simp at hg
  ·
   simp at hg
  ·
   simp at hg'
  exact hr.inj g1 g2 b' hg hg'
 simp only[updN]at hb';split at hb'
 ·
  simp at hb'
 rename_i xA;obtain⟨o1,xG,y7⟩:=hr.obj g' b' hb';exact⟨o1,by rw[Ln_ (Ne.symm xA)];exact xG,y7.mono hs (h.old b' (fun e'=>xA (by subst e';exact hr.inj g' g b' hb' hb)))⟩
theorem fwd_fill{o:Obj}{g:Nat}(hr:Rel w ρ S.heap)(h:Xx w w' o)(hn:ρ g=none):Fwd w ρ S.heap w' (upd ρ g w.heap.size) S.heap:=by
  have xA:∀g' b,ρ g'=some b→g'≠g:=fun g' b hb e=>by subst e;rw[hn]at hb;cases hb
  refine⟨rfl,fun b hb hg=>⟨h.old b hb,fun g'=>?_⟩,fun b q hi=>⟨El (h.old b hi.1) q,by have:=h.size;have:=hi.1;omega,hi.2.1,fun g' hg=>?_⟩,fun g' o' ho=>?_⟩
  · simp only [upd];split
    · intro e;injection e with e;omega
    exact hg g'
  · simp only [upd] at hg;split at hg
    · injection hg with hg;have:=hi.1;omega
    exact hi.2.2 g' hg
  refine⟨o',ho,⟨Nat.le_refl _,rfl⟩,fun _=>⟨fun b hb=>by simp only[upd];rw[if_neg (xA g' b hb)];exact hb,rfl,rfl,Nat.le_refl _,fun b cur hb hc=>⟨cur,(h.old b (hr.lt hb)).trans hc,rfl⟩⟩⟩
theorem rel_fill{cur:Array Value}{ob:Xh}{g:Nat}(hr:Rel w ρ S.heap)(h:Xx w w' (.cells cur ob.elem (0,0)))(hn:ρ g=none)(hg:S.heap[g]?=some ob)(hz:0<ob.sz)(xB:∃c,cur.size=c*ob.sz∧ob.rows.length≤c∧c≤maxLen∧(ob.grow=false→c=ob.rows.length))
    (hl:∀r∈ob.rows,r.length=ob.sz) (hk:ob.kind=0∨ob.kind=1∨ob.kind=2)
    (hh:∀i r j d,ob.rows[i]?=some r→r[j]?=some d→d.Xv=true∧(ob.kind≠0→d.free=true)∧∃v,cur[i*ob.sz+j]?=some v∧VR w ρ S.heap d v) :
    Rel w' (upd ρ g w.heap.size) S.heap:=by
  have hs:=fwd_fill hr h hn
  refine⟨fun g1 g2 b zP uW=>?_,fun g' b hb=>?_,fun b q hx=>?_,fun g' row hG=>by
    obtain⟨q1,q2,cs,t,z,q3,q4⟩:=hr.glob g' row hG;have xq:=(Array.getElem?_eq_some_iff.1 q3).1;refine⟨q1.fwd hs,fun k hk=>?_,cs,t,z,(h.old g' xq).trans q3,q4⟩;simp only[upd]at hk;split at hk
    · injection hk with hk;omega
    · exact q2 k hk,fun g' x hX=>by
    obtain⟨q1,⟨j,q2,q3⟩,q4⟩:=hr.lps g' x hX;have xA:g'≠g:=fun e=>by subst e;rw[hn]at q1;cases q1
    exact⟨by simp only[upd];rw[if_neg xA];exact q1,⟨j,q2,(h.old _ (lt_of_heap q3)).trans q3⟩,fun t ht=>(q4 t ht).fwd hs⟩⟩
  · simp only [upd] at zP uW;split at zP<;>split at uW
    · omega
    · injection zP with zP;have:=hr.lt uW;omega
    · injection uW with uW;have:=hr.lt zP;omega
    exact hr.inj g1 g2 b zP uW
  · simp only [upd] at hb;split at hb
    · rename_i wK;injection hb with hb;subst hb wK;refine⟨ob,hg,fun _=>⟨cur,h.new,hz,xB,hl,hk,fun i r j d hi hj=>?_⟩,fun e=>by omega⟩;obtain⟨h1,h2,v,hv,wo⟩:=hh i r j d hi hj;exact⟨h1,h2,v,hv,wo.fwd hs⟩
    obtain⟨o',ho,hk'⟩:=hr.obj g' b hb;exact⟨o',ho,hk'.fwd hs (h.old b (hr.lt hb))⟩
  obtain⟨h1,h2⟩:=hr.hid b q hx;exact⟨by have:=h.size;omega,(hs.out b h1 h2).2⟩
theorem stp_fill{w0:World}{ρ0:Xn}{S0:St}{o:Obj}{g:Nat}(hs:Stp w0 ρ0 S0 w ρ S)(hr:Rel w ρ S.heap)(h:Xx w w' o)(hn:ρ g=none)(hg:S0.heap.length≤g):Stp w0 ρ0 S0 w' (upd ρ g w.heap.size) S:=by
 have hf:=fwd_fill hr h hn
 refine⟨hs.hid,h.os.trans hs.os,h.tape.trans hs.tape,h.output.trans hs.output,by have:=h.size;have:=hs.size;omega,hs.low,fun b hb hg'=>?_,fun b q hi=>?_,fun g' b o' ho hg' hb=>?_,fun g' o' ho=>?_,fun g' x hX hb hl=>by
  obtain⟨j,q1,q2⟩:=hs.lp g' x hX hb hl
  exact⟨j,q1,(h.old _ (lt_of_heap q2)).trans q2⟩⟩
 ·
  obtain⟨h1,h2⟩:=hs.out b hb hg';obtain⟨k1,k2⟩:=hf.out b (Nat.lt_of_lt_of_le hb hs.size) h2;exact⟨k1.trans h1,k2⟩
 ·
  obtain⟨h1,h2⟩:=hs.imm b q hi;obtain⟨k1,k2⟩:=hf.imm b q h2;exact⟨k1.trans h1,k2⟩
 ·
  obtain⟨o2,ho2,_,he,hv⟩:=hs.obj g' o' ho;have he:=he hg';subst he;exact (h.old b (hr.lt ((hv rfl).1.trans hb))).trans (hs.keep g' b o2 ho hg' hb)
 have xq:=lt_of_some ho;obtain⟨o2,ho2,h1,h2,h3⟩:=hs.obj g' o' ho;refine⟨o2,ho2,h1,h2,fun hv=>?_⟩;obtain⟨a1,a2,a3,a4,a5⟩:=h3 hv;refine⟨by simp only[upd];rw[if_neg (by omega)];exact a1,a2,a3,a4,fun b cur hb hc=>?_⟩;obtain⟨cur',h4,h5⟩:=a5 b cur hb hc;exact⟨cur',(h.old b (lt_of_heap h4)).trans h4,h5⟩
theorem stp_news(hr:Rel w ρ S.heap)(l:List Xh):Stp w ρ S w ρ ⟨S.heap++l,S.low⟩:=by
 have xA:∀g o,S.heap[g]?=some o→(S.heap++l)[g]?=some o:=fun g o ho=>by rw[La_ (lt_of_some ho)];exact ho
 refine⟨rfl,rfl,rfl,rfl,Nat.le_refl _,Nat.le_refl _,fun b _ h=>⟨rfl,h⟩,fun b q h=>⟨rfl,h.1,h.2.1,fun g hg=>?_⟩,fun _ _ _ _ _ _=>rfl,fun g o ho=>⟨o,xA g o ho,⟨Nat.le_refl _,rfl⟩,fun _=>rfl,fun _=>⟨rfl,rfl,rfl,Nat.le_refl _,fun b cur _ h=>⟨cur,h,rfl⟩⟩⟩,fun g x _ _ ⟨j,q1,q2⟩=>⟨j,xA g _ q1,q2⟩⟩;obtain⟨o,ho,hk⟩:=h.2.2 g hg;exact⟨o,xA g o ho,hk⟩
end
open Go.RowKit
set_option linter.unusedSimpArgs false
section
variable {P:Program} {w:World} {ρ:Xn} {H:List Xh}
theorem Ab{α β:Type}{s:Sem α}{f:α→Sem β}{a:α}{w':World}(h:s.run P w=.ok a w'):(s >>= f).run P w=(f a).run P w':=by
 rw[Sem.run_bind,h,Result.andThen_ok]
theorem bin_ok {op : BinOp} {d1 d2 r : D} {v1 v2 : Value} {t : TypeId} {x y : Operand} (h1 : VR w ρ H d1 v1) (h2 : VR w ρ H d2 v2) (h : Ec op d1 d2 = some r) :
    ∃v,(do eqGuard op t x y v1 v2;binOp op t v1 v2).run P w=.ok v w∧VR w ρ H r v:=by
  unfold Ec at h;split at h
  all_goals first
    | (cases h1;cases h2;split at h<;>first
        | (simp only[Oi]at h;subst h;rename_i hk;first
            | (subst hk;refine⟨_,?_,.int _ _⟩;simp[eqGuard,binOp,Op.intArith,Op.intBits,Op.shift,Sem.run_bind];done)
            | (subst hk;refine⟨_,?_,.bool _⟩;simp[eqGuard,binOp,Op.intCmp,Sem.run_bind];done)
            | (obtain⟨rfl,h0⟩:=hk;refine⟨_,?_,.int _ _⟩;simp[eqGuard,binOp,Op.intDiv,h0,Sem.run_bind];done)
            | (refine⟨_,?_,.int _ _⟩;simp[eqGuard,binOp,Op.shift,hk,Sem.run_bind];done)
            | (refine⟨_,?_,.str _⟩;simp[eqGuard,binOp,Op.stringOp,hk,Sem.run_bind];done))
        | (simp at h;done))
    | (cases h1;cases h2;simp only[Oi]at h;subst h;refine⟨_,?_,.bool _⟩;simp[eqGuard,binOp,Op.stringOp,Sem.run_bind];done)
    | (simp at h;done)
    | (cases h1;cases h2;split at h
       · simp at h
       rename_i hk;simp only[Oi]at h;subst h;refine⟨_,?_,.str _⟩;simp only[eqGuard,binOp,Op.stringOp,if_neg hk,Sem.run_bind]
       simp)
theorem un_ok{op:UnOp}{d r:D}{v1:Value}(h1:VR w ρ H d v1)(h:unD op d=some r):∃v,(Op.unary op v1).run P w=.ok v w∧VR w ρ H r v:=by
  unfold unD at h;split at h
  · cases h1;simp only[Oi]at h;subst h;exact⟨_,by simp[Op.unary],.bool _⟩
  · cases h1;simp only[Oi]at h;subst h;exact⟨_,by simp[Op.unary,Op.intArith],.int _ _⟩
  · cases h1;simp only[Oi]at h;subst h;exact⟨_,by simp[Op.unary,Op.intBits],.int _ _⟩
  simp at h
theorem strT_iff{t:TypeId}:Ng P t=true↔P.underlying t=some .string:=by
 unfold Ng;split
 ·
  rename_i h;simp[h]
 rename_i h;constructor
 ·
  intro h';simp at h'
 intro h';exact absurd h' h
theorem sliceT_iff{t e:TypeId}:sliceT P t=some e↔P.underlying t=some (.slice e):=by
 unfold sliceT;split
 ·
  rename_i e' h;simp[h]
 rename_i h;constructor
 ·
  intro h';simp at h'
 intro h';exact absurd h' (h e)
theorem arrayT_iff{t e:TypeId}{n:Nat}:arrayT P t=some (n,e)↔P.underlying t=some (.array n e):=by
 unfold arrayT;split
 ·
  rename_i e' h;simp[h]
 rename_i h;constructor
 ·
  intro h';simp at h'
 intro h';exact absurd h' (h n e)
theorem Cm{t:TypeId}{n:Nat}(h:Cj P t=some n):∃i d,P.info? t=some i∧P.underlying t=some d∧i.size=n∧0<n:=by
  unfold Cj at h;split at h
  · rename_i i d hi hd;split at h
    · simp at h
    rename_i h0;simp only[Oi]at h;exact⟨i,d,hi,hd,h,by omega⟩
  simp at h
theorem run_sizeOf{t:TypeId}{n:Nat}(h:Cj P t=some n):(sizeOf t).run P w=.ok n w:=by
 obtain⟨i,d,hi,hd,hs,_⟩:=Cm h;simp[sizeOf,typeInfo,hi,hs]
theorem Mh{t:TypeId}{n:Nat}(h:Cj P t=some n):(isAgg t).run P w=.ok (Fw P t) w:=by
 obtain⟨i,d,hi,hd,hs,_⟩:=Cm h;simp only[isAgg,Fw,Sem.run_bind,run_underlying hd,Result.andThen_ok,hd];cases d<;>rfl
theorem len_ok{st:Bool}{d r:D}{v1:Value}{t ty:TypeId}(ht:(st=true∧P.underlying t=some .string)∨(st=false∧∃e,P.underlying t=some (.slice e)))(h1:VR w ρ H d v1)(h:Hr st d=some r):∃v,(Builtin.len_ #[t] ty #[v1]).run P w=.ok v w∧VR w ρ H r v:=by
  rcases ht with⟨rfl,ht⟩ | ⟨rfl,e,ht⟩
  · unfold Hr at h
    split at h<;>first | (simp at h;done) | skip
    · cases h1;simp only[Oi]at h;subst h;exact⟨_,by simp[Builtin.len_,run_underlying ht,goInt],.int _ _⟩
    all_goals (rename_i hb;exact absurd hb (by simp))
  unfold Hr at h
  split at h<;>first | (simp at h;done) | skip
  · rename_i hb;exact absurd hb (by simp)
  all_goals
    cases h1;simp only[Oi]at h;subst h
    subst_vars
    exact⟨_,by simp[Builtin.len_,run_underlying ht,goInt],.int _ _⟩
theorem cap_ok{d r:D}{v1:Value}{t ty e:TypeId}(ht:P.underlying t=some (.slice e))(h1:VR w ρ H d v1)(h:capD d=some r):∃v,(Builtin.cap_ #[t] ty #[v1]).run P w=.ok v w∧VR w ρ H r v:=by
  unfold capD at h;split at h
  · cases h1;simp only[Oi]at h;subst h;exact⟨_,by simp[Builtin.cap_,run_underlying ht,goInt],.int _ _⟩
  · cases h1 with
    | sl _ _ _ A n c hn xV xB =>
      simp only[Oi]at h;subst h;have:=xB _ rfl;subst this;exact⟨_,by simp[Builtin.cap_,run_underlying ht,goInt],.int _ _⟩
  · cases h1 with
    | msl g v lo n _ A c ob xV xB =>
      simp only[Oi]at h;subst h;have:=xB _ rfl;subst this;exact⟨_,by simp[Builtin.cap_,run_underlying ht,goInt],.int _ _⟩
  simp at h
theorem extract_ok{ds:List D}{r:D}{v1:Value}{i:Nat}(h1:VR w ρ H (.tup ds) v1)(h:ds[i]?=some r):∃v,(Instr.extract v1 i).run P w=.ok v w∧VR w ρ H r v:=by
 cases h1 with
 | tup _ vs hl hh =>
  have hi:i<vs.length:=by rw[hl];exact lt_of_some h
  exact⟨vs[i],by simp[Instr.extract,hi],hh i r _ h (Lg hi)⟩
theorem index_ok{d1 d2 r:D}{v1 v2:Value}{t:TypeId}(ht:Ng P t=true)(h1:VR w ρ H d1 v1)(h2:VR w ρ H d2 v2)(h:Nu d1 d2=some r):∃v,(Instr.index t v1 v2).run P w=.ok v w∧VR w ρ H r v:=by
  have hu:P.underlying t=some .string:=strT_iff.1 ht;unfold Nu at h;split at h
  · cases h1; cases h2;split at h
    · rename_i hk;simp only[Om]at h;obtain⟨b,hb,rfl⟩:=h;exact⟨_,by simp[Instr.index,asIntOf,run_underlying hu,hk,hb],.int _ _⟩
    simp at h
  simp at h
end
open Go.RowKit
section
variable {P:Program} {w:World} {ρ:Xn} {H:List Xh}
inductive VO (w:World) (ρ:Xn) (H:List Xh):Option D→Option Value→Prop
 | none:VO w ρ H none none
 | some {d v} (h:VR w ρ H d v):VO w ρ H (some d) (some v)
theorem Gn{d:D}{v:Value}{k y:Nat}{code:BoundsCode}(h:VR w ρ H d v)(hn:Dj d=some k)(hk:k≤y):(Instr.sliceBound v y code).run P w=.ok k w:=by
 cases h<;>simp[Dj]at hn;obtain⟨h0,rfl⟩:=hn;rename_i n;have h1:0≤n∧n≤(y:Int):=⟨h0,by omega⟩;simp[Instr.sliceBound,asIntOf,h1]
theorem Q0{isS:Bool}{n c l h:Nat}{lo hi mx:Option D}{vlo vhi vmx:Option Value}(xU:VO w ρ H lo vlo)(hhi:VO w ρ H hi vhi)(hmx:VO w ρ H mx vmx)(hb:Ch n lo hi=some (l,h))(xV:n≤c)
  (hm:∀d,mx=some d→hi.isSome=true∧∃m,Dj d=some m∧h≤m∧m≤n) :
  l≤h∧h≤n∧∃m,(Instr.sliceBounds isS n c vlo vhi vmx).run P w=.ok (l,h,m) w∧h≤m∧m≤c∧(mx=none→m=c)∧(∀d,mx=some d→Dj d=some m):=by
 unfold Ch at hb
 cases hH:Er n hi with
 | none=>simp[hH]at hb
 | some h' =>
  cases hL:Er 0 lo with
  | none=>simp[hH,hL]at hb
  | some l' =>
   simp only[hH,hL]at hb;split at hb
   ·
    rename_i yh;simp only[Oi,Pi_]at hb;obtain⟨rfl,rfl⟩:=hb;refine⟨yh.1,yh.2,?_⟩
    cases hmx with
    | none =>
     refine⟨c,?_,by omega,Nat.le_refl _,fun _=>rfl,fun d hd=>by cases hd⟩
     cases hhi with
     | none =>
      simp only[Er,Oi]at hH;subst hH
      cases xU with
      | none =>
       simp only[Er,Oi]at hL;subst hL;simp[Instr.sliceBounds]
      | some hv=>simp[Instr.sliceBounds,Gn hv hL yh.1]
     | some hv =>
      have e1:=fun code=>Gn (P:=P) (code:=code) hv hH (show _≤c by omega)
      cases xU with
      | none =>
       simp only[Er,Oi]at hL;subst hL;cases isS<;>simp[Instr.sliceBounds,e1]
      | some hv'=>cases isS<;>simp[Instr.sliceBounds,e1,Gn hv' hL yh.1]
    | some hv =>
     obtain⟨hs,m,wS,hm2,hm3⟩:=hm _ rfl;have e0:=fun code=>Gn (P:=P) (code:=code) hv wS (show m≤c by omega);refine⟨m,?_,hm2,by omega,(fun h=>by cases h),fun d hd=>by injection hd with hd;subst hd;exact wS⟩
     cases hhi with
     | none=>simp at hs
     | some vL =>
      have e1:=fun code=>Gn (P:=P) (code:=code) vL hH hm2
      cases xU with
      | none =>
       simp only[Er,Oi]at hL;subst hL;cases isS<;>simp[Instr.sliceBounds,e0,e1]
      | some hv'=>cases isS<;>simp[Instr.sliceBounds,e0,e1,Gn hv' hL yh.1]
   simp at hb
theorem sliceStr_ok{s:ByteArray}{l h:Nat}{lo hi:Option D}{vlo vhi:Option Value}{t:TypeId}(ht:P.underlying t=some .string)(xU:VO w ρ H lo vlo)(hhi:VO w ρ H hi vhi)(hb:Ch s.size lo hi=some (l,h)) :
  (Instr.sliceAt t (.string s) vlo vhi none).run P w=.ok (.string (s.extract l h)) w:=by
 obtain⟨_,_,m,hr,_⟩:=Q0 (P:=P) (isS:=false) (c:=s.size) xU hhi .none hb (Nat.le_refl _) (fun d hd=>by cases hd);simp[Instr.sliceAt,Instr.slice,run_underlying ht,hr]
theorem Cz{α:Type}{l:List α}{a n i:Nat}{x:α}(h:((l.drop a).take n)[i]?=some x):l[a+i]?=some x∧i<n:=by
  rw[List.getElem?_take]at h;split at h
  · rw [List.getElem?_drop] at h;exact⟨h,by assumption⟩
  cases h
theorem Eb{α:Type}{l:List α}{a n:Nat}{x:α}(h:x∈(l.drop a).take n):x∈l:=List.mem_of_mem_drop (List.mem_of_mem_take h)
theorem slice_ok {S : St} {sz : Nat} {x r : D} {v : Value} {lo hi mx : Option D} {vlo vhi vmx : Option Value} {t e : TypeId} (ht : P.underlying t = some (.slice e)) (xC : Cj P e = some sz) (hx : VR w ρ S.heap x v) (xU : VO w ρ S.heap lo vlo) (hhi : VO w ρ S.heap hi vhi) (hmx : VO w ρ S.heap mx vmx)
    (hmh:mx.isSome=true→hi.isSome=true) (h:D5 S sz x lo hi mx=some r):∃v',(Instr.sliceAt t v vlo vhi vmx).run P w=.ok v' w∧VR w ρ S.heap r v':=by
  unfold D5 at h;split at h
  · -- nil
    cases hx
    cases hb:Ch 0 lo hi with
    | none=>simp[hb]at h
    | some p =>
      obtain⟨l,hh⟩:=p
      have key:(∀d,mx=some d→Dj d=some 0)→∃v',(Instr.sliceAt t (.slice none 0 0) vlo vhi vmx).run P w=.ok v' w∧VR w ρ S.heap .X4 v':=by
        intro hm
        obtain⟨h1,h2,m,hr,h3,h4,h5,h6⟩:=Q0 (P:=P) (isS:=true) (c:=0) xU hhi hmx hb (Nat.le_refl _) (fun d hd=>⟨hmh (by simp[hd]),0,hm d hd,by
          have:hh≤0:=by
            unfold Ch at hb;split at hb<;>try (simp at hb;done)
            split at hb
            · rename_i yh;simp only[Oi,Pi_]at hb;omega
            simp at hb
          exact this,Nat.le_refl _⟩)
        have zG:l=0:=by omega
        have hh0:hh=0:=by omega
        have hm0:m=0:=by omega
        subst zG hh0 hm0;exact⟨.slice none 0 0,by simp[Instr.sliceAt,Instr.slice,run_underlying ht,hr,run_sizeOf xC],.X4⟩
      cases mx with
      | none =>
        simp only[hb,Oi]at h;subst h;exact key (fun d hd=>by cases hd)
      | some d =>
        simp only[hb]at h;split at h
        · rename_i h0;simp only[Oi]at h;subst h;exact key (fun d' hd=>by injection hd with hd;subst hd;exact h0)
        simp at h
  · -- immutable
    rename_i s rows cap;split at h
    · simp at h
    rename_i hs;have hs:s=sz:=by simpa using hs
    subst hs
    cases hx with
    | sl _ _ _ A n c hn xV xB hz b o f hA hc hv =>
    cases hb:Ch rows.length lo hi with
    | none=>simp[hb]at h
    | some p =>
      obtain⟨l,hh⟩:=p;simp only[hb]at h
      have key:∀cap',(∀d,mx=some d→∃m,Dj d=some m∧hh≤m∧m≤rows.length)→(∀k,cap'=some k→(mx=none∧∃k',cap=some k'∧k=k'-l)∨(∃d m,mx=some d∧Dj d=some m∧k=m-l)) →
          ∃v',(Instr.sliceAt t (.slice (some A) n c) vlo vhi vmx).run P w=.ok v' w∧VR w ρ S.heap (.sl s ((rows.drop l).take (hh-l)) cap') v':=by
        intro cap' hm hk;subst hn;obtain⟨h1,h2,m,hr,h3,h4,h5,h6⟩:=Q0 (P:=P) (isS:=true) (c:=c) xU hhi hmx hb xV (fun d hd=>⟨hmh (by simp[hd]),hm d hd⟩);have xg:((rows.drop l).take (hh-l)).length=hh-l:=by simp;omega
        refine⟨.slice (some (if m=l then A else A.add (l*s))) (hh-l) (m-l),?_,?_⟩
        · simp only [Instr.sliceAt, Instr.slice, run_underlying ht, Sem.run_bind, Result.andThen_ok, hr, run_sizeOf xC, Sem.run_pure];split<;>rfl
        refine .sl s _ cap' _ _ _ xg.symm (by omega) (fun k hk'=>?_) (fun r hr'=>hz r (Eb hr')) b (o+l*s) (fun i j=>f (l+i) j) (fun xA=>?_) (fun i r' j d hi' hj=>?_) (fun i r' j d hi' hj=>?_)
        · rcases hk k hk' with ⟨hmn, k', y7, rfl⟩ | ⟨d, m', hd, hm', rfl⟩
          · rw[h5 hmn,xB k' y7]
          have:=h6 d hd;rw[hm']at this;injection this with this;rw[this]
        · have yY : 0 < hh - l := by
            rcases Nat.eq_zero_or_pos (hh-l) with h0 | h0
            · exact absurd (List.eq_nil_of_length_eq_zero (xg.trans h0)) xA
            exact h0
          rw[if_neg (by omega),hA (by rintro rfl;simp at h2;omega),add_plain]
        · obtain ⟨h7, h8⟩ := Cz hi';have:=hc (l+i) r' j d h7 hj;rw[show o+l*s+i*s+j=o+(l+i)*s+j by rw[Nat.add_mul];omega];exact this
        obtain⟨h7,h8⟩:=Cz hi';exact hv (l+i) r' j d h7 hj
      cases mx with
      | none =>
        simp only[Oi]at h;subst h;refine key _ (fun d hd=>by cases hd) (fun k hk=>.inl ⟨rfl,?_⟩)
        cases cap with
        | none=>simp at hk
        | some k'=>simp at hk;exact⟨k',rfl,hk.symm⟩
      | some d =>
        simp only at h;split at h
        · rename_i m hm;split at h
          · rename_i yh;simp only[Oi]at h;subst h;exact key _ (fun d' hd=>by injection hd with hd;subst hd;exact⟨m,hm,yh.1,yh.2⟩) (fun k hk=>.inr ⟨d,m,rfl,hm,by injection hk with hk;exact hk.symm⟩)
          simp at h
        simp at h
  · -- of the heap
    rename_i g ver o n cap
    cases hx with
    | msl _ _ _ _ _ A c ob xV xB hg yV xK xI =>
    cases hq:Hy S g ver sz n lo hi with
    | none=>simp[hq]at h
    | some p =>
      obtain⟨l,hh⟩:=p;simp only[hq]at h
      obtain⟨hvo,yH,hb⟩:ob.ver=ver∧ob.sz=sz∧Ch n lo hi=some (l,hh):=by
        unfold Hy rowsOf at hq;simp only[hg]at hq;by_cases hv':ob.ver=ver
        · simp only [hv', if_true] at hq;split at hq
          · rename_i hz';exact⟨hv',hz',hq⟩
          simp at hq
        simp[hv']at hq
      obtain⟨b,hρ,uT,hA,rP⟩:=xI hvo
      have key:∀cap',(∀d,mx=some d→∃m,Dj d=some m∧hh≤m∧m≤n)→(∀k,cap'=some k→(mx=none∧∃k',cap=some k'∧k=k'-l)∨(∃d m,mx=some d∧Dj d=some m∧k=m-l))→(cap'=none→mx=none∧cap=none) →
          ∃v',(Instr.sliceAt t (.slice (some A) n c) vlo vhi vmx).run P w=.ok v' w∧VR w ρ S.heap (.msl g ver (o+l) (hh-l) cap') v':=by
        intro cap' hm hk uz;obtain⟨h1,h2,m,hr,h3,h4,h5,h6⟩:=Q0 (P:=P) (isS:=true) (c:=c) xU hhi hmx hb xV (fun d hd=>⟨hmh (by simp[hd]),hm d hd⟩);refine⟨.slice (some (if m=l then A else A.add (l*sz))) (hh-l) (m-l),?_,?_⟩
        · simp only [Instr.sliceAt, Instr.slice, run_underlying ht, Sem.run_bind, Result.andThen_ok, hr, run_sizeOf xC, Sem.run_pure];split<;>rfl
        refine .msl g ver (o+l) (hh-l) cap' _ _ ob (by omega) (fun k hk'=>?_) hg yV xK (fun _=>⟨b,hρ,by omega,fun xA=>?_,fun hc'=>?_⟩)
        · rcases hk k hk' with ⟨hmn, k', y7, rfl⟩ | ⟨d, m', hd, hm', rfl⟩
          · rw[h5 hmn,xB k' y7]
          have:=h6 d hd;rw[hm']at this;injection this with this;rw[this]
        · by_cases zG : l = 0
          · subst zG;have:=hA (by omega);split
            · simpa using this
            rw[this,add_plain];simp
          rw[if_neg (by omega),hA (by omega),add_plain,yH,Nat.add_mul]
        obtain⟨hm0,hc0⟩:=uz hc';obtain⟨cur,hcur1,hcur2⟩:=rP hc0;refine⟨cur,hcur1,?_⟩;have:=h5 hm0;subst this;rw[hcur2];congr 1;omega
      cases mx with
      | none =>
        simp only[Oi]at h;subst h;refine key _ (fun d hd=>by cases hd) (fun k hk=>.inl ⟨rfl,?_⟩) (fun hc'=>⟨rfl,by cases cap<;>simp_all⟩)
        cases cap with
        | none=>simp at hk
        | some k'=>simp at hk;exact⟨k',rfl,hk.symm⟩
      | some d =>
        simp only at h;split at h
        · rename_i m hm;split at h
          · rename_i yh;simp only[Oi]at h;subst h;exact key _ (fun d' hd=>by injection hd with hd;subst hd;exact⟨m,hm,yh.1,yh.2⟩) (fun k hk=>.inr ⟨d,m,rfl,hm,by injection hk with hk;exact hk.symm⟩) (fun hc'=>by cases hc')
          simp at h
        simp at h
  simp at h
end
open Go.RowKit
def CR (w:World) (ρ:Xn) (H:List Xh) (cs:List D) (vs:Array Value):Prop :=
 vs.size=cs.length∧∀(j:Nat) (d:D) (v:Value),cs[j]?=some d→vs[j]?=some v→VR w ρ H d v
section
variable {P:Program} {w:World} {ρ:Xn} {H:List Xh}
theorem VR.oneCell{d:D}{v:Value}(h:VR w ρ H d v)(hc:d.Xv=true):v.oneCell'=true∧v.cells=#[v]:=by
 cases h<;>simp[D.Xv]at hc<;>exact⟨rfl,rfl⟩
theorem VR.cells{d:D}{v:Value}(h:VR w ρ H d v)(hv:d.val=true):CR w ρ H d.cells v.cells∧(∀x∈d.cells,x.Xv=true)∧∀u∈v.cells.toList,u.oneCell'=true:=by
 have one:d.Xv=true→d.cells=[d]→CR w ρ H d.cells v.cells∧(∀x∈d.cells,x.Xv=true)∧∀u∈v.cells.toList,u.oneCell'=true:=by
  intro hc hd;obtain⟨h1,h2⟩:=h.oneCell hc;rw[hd,h2];refine⟨⟨rfl,fun j d' v' h3 h4=>?_⟩,by simpa using hc,by simpa using h1⟩
  cases j with
  | zero=>simp at h3 h4;subst h3 h4;exact h
  | succ j=>simp at h3
 cases d with
 | agg cs =>
  cases h with
  | agg _ vs hl hc hh =>
   simp only[D.val]at hv;refine⟨⟨by simpa [Value.cells,D.cells] using hl,fun j d v h1 h2=>hh j d v h1 (by simpa [Value.cells] using h2)⟩,fun x hx=>List.all_eq_true.1 hv x hx,fun u hu=>?_⟩;simp only[Value.cells]at hu;obtain⟨j,hj,rfl⟩:=List.mem_iff_getElem.1 hu;have hjc:j<cs.length:=by rw[←hl];exact hj
   exact ((hh j cs[j] vs[j] (Lg hjc) (Lg hj)).oneCell (List.all_eq_true.1 hv _ (List.getElem_mem hjc))).1
 | undef=>simp[D.val,D.Xv]at hv
 | tup cs=>simp[D.val,D.Xv]at hv
 | _=>exact one hv rfl
theorem CR.get{cs:List D}{vs:Array Value}(h:CR w ρ H cs vs){j:Nat}{d:D}(hd:cs[j]?=some d):∃v,vs[j]?=some v∧VR w ρ H d v:=by
 have hj:j<vs.size:=by rw[h.1];exact lt_of_some hd
 exact⟨vs[j],Array.getElem?_eq_getElem hj,h.2 j d _ hd (Array.getElem?_eq_getElem hj)⟩
theorem CR.agg{cs:List D}{vs:Array Value}(h:CR w ρ H cs vs)(hc:cs.all D.Xv=true):VR w ρ H (.agg cs) (.agg vs):=by
 have:=VR.agg (w:=w) (ρ:=ρ) (H:=H) cs vs.toList (by simpa using h.1) hc (fun j d v h1 h2=>h.2 j d v h1 (by simpa using h2));simpa using this
theorem part_cells{row:List D}{o sz:Nat}{agg:Bool}{r:D}{b q:Nat}{f:Nat→Value}(xk:row.all D.Xv=true)(hc:∀j d,row[o+j]?=some d→w.cell? ⟨b,q+j,none⟩=some (f (o+j))∧VR w ρ H d (f (o+j)))(h:Ci row o sz agg=some r)
  {t:TypeId} (xC:Cj P t=some sz) (ug:Fw P t=agg):∃v,(Instr.loadAt t (.pointer (some ⟨b,q,none⟩))).run P w=.ok v w∧VR w ρ H r v:=by
 have xu:(Instr.loadAt t (.pointer (some ⟨b,q,none⟩))).run P w=(loadVar t ⟨b,q,none⟩).run P w:=by simp[Instr.loadAt,Instr.sureAddr]
 rw[xu];unfold Ci at h
 cases agg with
 | true =>
  simp only[if_true]at h;split at h
  ·
   rename_i yh;simp only[Oi]at h;subst h
   have hl:=run_loadCells (P:=P) w ⟨b,q,none⟩ sz (fun j=>f (o+j)) (fun j hj=>by
    have hj':o+j<row.length:=by omega
    have:=(hc j row[o+j] (Lg hj')).1
    rwa [add_plain])
   refine⟨_,by simp only[loadVar,Sem.run_bind,Mh xC,ug,Result.andThen_ok,if_true,run_sizeOf xC,hl,Sem.run_pure];rfl,?_⟩;refine .agg _ _ (by simp;omega) (List.all_eq_true.2 fun x hx=>List.all_eq_true.1 xk x (Eb hx)) (fun j d v h1 h2=>?_);obtain⟨h3,h4⟩:=Cz h1;simp only[Lp_,List.getElem?_range h4,Option.map_some,Oi]at h2;subst h2;exact (hc j d h3).2
  simp at h
 | false =>
  simp only[Bool.false_eq_true,if_false]at h;obtain⟨h1,h2⟩:=hc 0 r (by simpa using h);simp only[Nat.add_zero]at h1 h2;exact⟨f o,by simp[loadVar,Mh xC,ug,h1],h2⟩
theorem O8{cs:List D}{vs:List Value}{o sz:Nat}{agg:Bool}{r:D}(hl:vs.length=cs.length)(xk:cs.all D.Xv=true)(hv:∀(j:Nat) (d:D) (v:Value),cs[j]?=some d→vs[j]?=some v→VR w ρ H d v)(h:Ci cs o sz agg=some r)
  {t:TypeId} (xC:Cj P t=some sz) (ug:Fw P t=agg):∃v,(part t vs.toArray o).run P w=.ok v w∧VR w ρ H r v:=by
 unfold Ci at h
 cases agg with
 | true =>
  simp only[if_true]at h;split at h
  ·
   rename_i yh;simp only[Oi]at h;subst h;refine⟨.agg ((vs.drop o).take sz).toArray,by simp[part,Mh xC,ug,run_sizeOf xC,List.extract_eq_take_drop,Nat.add_sub_cancel_left],.agg _ _ (by simp;omega) (List.all_eq_true.2 fun x hx=>List.all_eq_true.1 xk x (Eb hx)) (fun j d v h1 h2=>?_)⟩;exact hv _ d v (Cz h1).1 (Cz h2).1
  simp at h
 | false =>
  simp only[Bool.false_eq_true,if_false]at h;have ho:o<vs.length:=by rw[hl];exact lt_of_some h
  exact⟨vs[o],by simp[part,Mh xC,ug,ho],hv o r _ h (Lg ho)⟩
theorem load_ok {S : St} (hr : Rel w ρ S.heap) {a r : D} {v : Value} {sz : Nat} {agg : Bool} (ha : VR w ρ S.heap a v) (h : G6 sz agg S a = some r) {t : TypeId} (xC : Cj P t = some sz) (ug : Fw P t = agg) :
    ∃v',(Instr.loadAt t v).run P w=.ok v' w∧VR w ρ S.heap r v':=by
  unfold G6 at h;split at h
  · rename_i row o
    cases ha with
    | X7 _ _ b q f hc hv =>
      have h0:row.drop o=row.drop o:=rfl
      -- only the cells from o on are known: the earlier ones are no part of the load
      unfold Ci at h
      cases agg with
      | true =>
        simp only[if_true]at h;split at h
        · rename_i yh;simp only[Oi]at h;subst h
          have hp:Ci (row.drop o) 0 sz true=some (.agg ((row.drop o).take sz)):=by
            simp only[Ci,if_true,List.drop_zero];rw[if_pos (by simp;omega)]
          refine part_cells (f:=fun j=>f (o+j)) ?_ (fun j d hj=>?_) hp xC ug
          · refine List.all_eq_true.2 fun x hx => ?_;obtain⟨j,hj,rfl⟩:=List.mem_iff_getElem.1 hx;have h1:row[o+j]?=some (row.drop o)[j]:=by rw[←List.getElem?_drop,Lg hj]
            have h2:=(hc (o+j) _ h1 (by omega)).2.2;generalize (row.drop o)[j]=x at h2;cases x<;>simp[D.free,D.Xw,D.Xv]at h2 ⊢
          simp only[Nat.zero_add,List.getElem?_drop]at hj;have h1:=hc (o+j) d hj (by omega);have h2:=hv (o+j) d hj (by omega);simp only[Nat.zero_add];rw[show o+j-o=j by omega]at h1;exact⟨h1.1,h2⟩
        simp at h
      | false =>
        simp only[Bool.false_eq_true,if_false]at h;have h1:=hc o r h (Nat.le_refl _);rw[Nat.sub_self,Nat.add_zero]at h1;exact⟨f o,by simp[Instr.loadAt,Instr.sureAddr,loadVar,Mh xC,ug,h1.1],hv o r h (Nat.le_refl _)⟩
  · rename_i g ver i o
    cases ha with
    | ptr _ _ _ _ ad ob hg yV xK xI =>
      unfold rowsOf at h;simp only[hg]at h;by_cases hv:ob.ver=ver
      · simp only [hv, if_true] at h
        cases xO:ob.rows[i]? with
        | none=>simp[xO]at h
        | some row =>
          simp only[xO]at h;obtain⟨b,hρ,rfl⟩:=xI hv;obtain⟨o1,xG,cur,hc,hz,xB,hl,hk,hh⟩:=hr.cel hρ hg xK;rw[hg]at xG;injection xG with xG;subst xG;refine part_cells (f:=fun j=>cur.getD (i*ob.sz+j) undef) (List.all_eq_true.2 fun x hx=>?_) (fun j d hj=>?_) h xC ug
          · obtain ⟨j, hj, rfl⟩ := List.mem_iff_getElem.1 hx;exact (hh i row j _ xO (Lg hj)).1
          obtain⟨_,_,v,uy,vL⟩:=hh i row (o+j) d xO hj
          have zP:cur.getD (i*ob.sz+(o+j)) undef=v:=by
            obtain⟨h3,h4⟩:=Array.getElem?_eq_some_iff.1 uy;simp[Array.getD,h3,h4]
          refine⟨?_,by rw[zP];exact vL⟩;rw[zP,cell_of_row w b _ cur ob.elem (0,0) hc,Nat.add_assoc];exact uy
      simp[hv]at h
  simp at h
theorem faddr_ok{a r:D}{v:Value}{f:Field}{s:TypeId}{fs:Array Field}{k n:Nat}(hu:P.underlying s=some (.struct fs))(hf:fs[k]?=some f)(xC:Cj P f.type=some n)(ha:VR w ρ H a v)(h:Uu f.offset a=some r) :
    ∃v',(Instr.fieldAt s v k).run P w=.ok v' w∧VR w ρ H r v':=by
  have hn:n≠0:=by obtain⟨_,_,_,_,_,h0⟩:=Cm xC;omega
  have xu:∀ad:Addr,(Instr.fieldAt s (.pointer (some ad)) k).run P w=.ok (.pointer (some (ad.add f.offset))) w:=by
    intro ad;simp[Instr.fieldAt,run_underlying hu,hf,Instr.sureAddr,fieldPlace,run_sizeOf xC,hn]
  unfold Uu at h;split at h
  · rename_i g ver i o;simp only[Oi]at h;subst h
    cases ha with
    | ptr _ _ _ _ ad ob hg yV xK xI =>
      refine⟨_,xu ad,.ptr g ver i _ _ ob hg yV xK fun e=>?_⟩;obtain⟨b,hρ,rfl⟩:=xI e;exact⟨b,hρ,by rw[add_plain,Nat.add_assoc]⟩
  · rename_i row o;simp only[Oi]at h;subst h
    cases ha with
    | X7 _ _ b q g hc hv =>
      refine⟨_,xu _,?_⟩;rw[add_plain];refine .X7 row _ b _ g (fun j d hj ho=>?_) (fun j d hj ho=>hv j d hj (by omega));have:=hc j d hj (by omega);rw[show q+f.offset+(j-(o+f.offset))=q+(j-o) by omega];exact this
  simp at h
theorem iaddr_ok {S : St} {x i r : D} {vx vi : Value} {t e : TypeId} {sz : Nat} (hu : P.underlying t = some (.slice e)) (xC : Cj P e = some sz) (hx : VR w ρ S.heap x vx) (hi : VR w ρ S.heap i vi) (h : Fe S sz x i = some r) :
    ∃v',(Instr.indexAt t vx vi).run P w=.ok v' w∧VR w ρ S.heap r v':=by
  have xu:∀(ad:Addr) (n c:Nat) (k:IntKind) (j:Int),0≤j→j<n→(Instr.indexAt t (.slice (some ad) n c) (.int k j)).run P w=.ok (.pointer (some (ad.add (j.toNat*sz)))) w:=by
    intro ad n c k j h0 h1;simp[Instr.indexAt,asIntOf,run_underlying hu,h0,h1,run_sizeOf xC]
  unfold Fe at h;split at h
  · rename_i s rows cap k j;cases hi;split at h
    · rename_i hs;obtain⟨rfl,h0⟩:=hs;simp only[Om]at h;obtain⟨row,xO,rfl⟩:=h
      cases hx with
      | sl _ _ _ A n c hn xV xB hz b o f hA hc hv =>
        have xq:=lt_of_some xO;refine⟨_,xu A n c _ j h0 (by omega),?_⟩;rw[hA (by rintro rfl;simp at xO),add_plain];refine .X7 row 0 b _ (fun jj=>f j.toNat jj) (fun jj d hj _=>?_) (fun jj d hj _=>hv _ row jj d xO hj);have:=hc _ row jj d xO hj;simpa using this
    simp at h
  · rename_i g ver lo n cap k j;cases hi
    cases hx with
    | msl _ _ _ _ _ A c ob xV xB hg yV xK xI =>
      unfold rowsOf at h;simp only[hg]at h;by_cases hv:ob.ver=ver
      · simp only [hv, if_true] at h;split at h
        · rename_i hj;simp only[Oi]at h;subst h;obtain⟨b,hρ,xU,hA,_⟩:=xI hv;refine⟨_,xu A n c _ j hj.2.1 hj.2.2,?_⟩;refine .ptr g ver _ 0 _ ob hg yV xK fun _=>⟨b,hρ,?_⟩;rw[hA (.inl (by omega)),add_plain,hj.1,Nat.add_mul,Nat.add_zero]
        simp at h
      simp[hv]at h
  simp at h
theorem aaddr_ok {x i r : D} {vx vi : Value} {t e : TypeId} {sz len : Nat} (hu : P.underlying t = some (.array len e)) (xC : Cj P e = some sz) (hx : VR w ρ H x vx) (hi : VR w ρ H i vi) (h : Lx sz len x i = some r) :
    ∃v',(Instr.indexAt t vx vi).run P w=.ok v' w∧VR w ρ H r v':=by
  have xu:∀(ad:Addr) (k:IntKind) (j:Int),0≤j→j<len→(Instr.indexAt t (.pointer (some ad)) (.int k j)).run P w=.ok (.pointer (some (ad.add (j.toNat*sz)))) w:=by
    intro ad k j h0 h1;simp[Instr.indexAt,asIntOf,run_underlying hu,Instr.sureAddr,h0,h1,run_sizeOf xC]
  unfold Lx at h;split at h
  · rename_i g ver i o k jx;cases hi;split at h
    · rename_i hj;simp only[Oi]at h;subst h
      cases hx with
      | ptr _ _ _ _ ad ob hg yV xK xI =>
        refine⟨_,xu ad _ _ hj.1 hj.2,.ptr g ver i _ _ ob hg yV xK fun e=>?_⟩;obtain⟨b,hρ,rfl⟩:=xI e;exact⟨b,hρ,by rw[add_plain,Nat.add_assoc]⟩
    simp at h
  · rename_i row o k jx;cases hi;split at h
    · rename_i hj;simp only[Oi]at h;subst h
      cases hx with
      | X7 _ _ b q g hc hv =>
        refine⟨_,xu _ _ _ hj.1 hj.2,?_⟩;rw[add_plain];refine .X7 row _ b _ g (fun jj d hjj ho=>?_) (fun jj d hjj ho=>hv jj d hjj (by omega));have:=hc jj d hjj (by omega);rw[show q+jx.toNat*sz+(jj-(o+jx.toNat*sz))=q+(jj-o) by omega];exact this
    simp at h
  simp at h
end
open Go.RowKit
inductive VL (w:World) (ρ:Xn) (H:List Xh):List D→List Value→Prop
 | nil:VL w ρ H [] []
 | cons {d v ds vs} (h:VR w ρ H d v) (t:VL w ρ H ds vs):VL w ρ H (d::ds) (v::vs)
section
variable {P:Program} {w:World} {ρ:Xn} {H:List Xh}
theorem VL.mono{w':World}{ρ':Xn}{S S':St}(hs:Stp w ρ S w' ρ' S'){ds:List D}{vs:List Value}(h:VL w ρ S.heap ds vs):VL w' ρ' S'.heap ds vs:=by
 induction h with
 | nil=>exact .nil
 | cons h _ ih=>exact .cons (h.mono hs) ih
theorem VL.len{ds:List D}{vs:List Value}(h:VL w ρ H ds vs):vs.length=ds.length:=by
 induction h with
 | nil=>rfl
 | cons _ _ ih=>simp[ih]
theorem VL.get{ds:List D}{vs:List Value}(h:VL w ρ H ds vs):∀{j:Nat} {d:D} {v:Value},ds[j]?=some d→vs[j]?=some v→VR w ρ H d v:=by
 induction h with
 | nil=>intro j d v h1;simp at h1
 | cons h _ ih =>
  intro j d v h1 h2
  cases j with
  | zero=>simp at h1 h2;subst h1 h2;exact h
  | succ j=>simp at h1 h2;exact ih h1 h2
theorem VL.append{ds es:List D}{vs us:List Value}(h:VL w ρ H ds vs)(k:VL w ρ H es us):VL w ρ H (ds++es) (vs++us):=by
 induction h with
 | nil=>exact k
 | cons h _ ih=>exact .cons h ih
theorem VL.of{ds:List D}:∀{vs:List Value},vs.length=ds.length→(∀(j:Nat) (d:D) (v:Value),ds[j]?=some d→vs[j]?=some v→VR w ρ H d v)→VL w ρ H ds vs:=by
 induction ds with
 | nil=>intro vs hl _;simp at hl;subst hl;exact .nil
 | cons d ds ih =>
  intro vs hl h
  cases vs with
  | nil=>simp at hl
  | cons v vs=>exact .cons (h 0 d v rfl rfl) (ih (by simpa using hl) fun j d v h1 h2=>h (j+1) d v (by simpa using h1) (by simpa using h2))
theorem snap_ok {m : Nat} (hr : Rel w ρ H) (hm : H.length ≤ m) {d r : D} {v : Value} (h : VR w ρ H d v) (hs : snap m H d = some r) : VR w ρ H r v ∧ (d.Xv = true → r.Xv = true) := by
  unfold snap at hs;split at hs
  · rename_i g ver lo n cap
    cases h with
    | msl _ _ _ _ _ A c ob xV xB hg yV xK xI =>
      simp only[hg]at hs;split at hs
      · rename_i hk;simp only[Oi]at hs;subst hs
        have y7:ob.kind=1:=by
          rcases hk.2 with h1 | h1
          · exact h1
          have:=lt_of_some hg;omega
        obtain⟨b,hρ,xU,hA,rP⟩:=xI hk.1;obtain⟨o1,xG,cur,hc,hz,⟨cc,yB,yw,uY,vQ⟩,hl,yO,hh⟩:=hr.cel hρ hg xK;rw[hg]at xG;injection xG with xG;subst xG;have xg:((ob.rows.drop lo).take n).length=n:=by simp;omega
        refine⟨.sl ob.sz _ _ A n c xg.symm xV (fun k hk'=>?_) (fun r hr'=>hl r (Eb hr')) b (lo*ob.sz) (fun i j=>cur.getD ((lo+i)*ob.sz+j) undef) (fun xA=>hA ?_) (fun i r' j d hi hj=>?_) (fun i r' j d hi hj=>?_),fun _=>rfl⟩
        · cases cap with
          | some c'=>simp only[Oi]at hk';subst hk';exact xB _ rfl
          | none =>
            simp only at hk';split at hk'
            · simp at hk'
            rename_i hgr;simp only[Oi]at hk';obtain⟨cur',y8,w9⟩:=rP rfl;rw[hc]at y8;injection y8 with y8;injection y8 with y8;subst y8;have h1:=vQ (by simpa using hgr);rw[yB]at w9;have:=Nat.eq_of_mul_eq_mul_right hz w9;omega
        · left;intro h0;subst h0;simp at xA
        · obtain ⟨h1, h2⟩ := Cz hi;obtain⟨h3,h4,v,uy,vL⟩:=hh _ r' j d h1 hj;obtain⟨h5,h6⟩:=Array.getElem?_eq_some_iff.1 uy;have zP:cur.getD ((lo+i)*ob.sz+j) undef=v:=by simp[Array.getD,h5,h6]
          refine⟨?_,⟨lt_of_heap hc,fun hx=>(hr.hid _ _ hx).2 g hρ,fun g' hg'=>?_⟩,h4 (by omega)⟩
          · rw [zP, cell_of_row w b _ cur ob.elem (0, 0) hc, ← uy];congr 1;rw[Nat.add_mul]
          have:=hr.inj g' g b hg' hρ;subst this;refine⟨ob,hg,y7,?_⟩;have h7:j<ob.sz:=by rw[←hl r' (Lm h1)];exact lt_of_some hj
          have h8:lo+i<ob.rows.length:=lt_of_some h1
          calc lo*ob.sz+i*ob.sz+j=(lo+i)*ob.sz+j:=by rw[Nat.add_mul]
            _<(lo+i)*ob.sz+ob.sz:=by omega
            _=(lo+i+1)*ob.sz:=by rw[Nat.add_mul (lo+i) 1,Nat.one_mul]
            _≤ob.rows.length*ob.sz:=Nat.mul_le_mul_right _ h8
        obtain⟨h1,h2⟩:=Cz hi;obtain⟨h3,h4,v,uy,vL⟩:=hh _ r' j d h1 hj;obtain⟨h5,h6⟩:=Array.getElem?_eq_some_iff.1 uy;have zP:cur.getD ((lo+i)*ob.sz+j) undef=v:=by simp[Array.getD,h5,h6]
        rw[zP];exact vL
      simp only[Oi]at hs;subst hs;exact⟨.msl _ _ _ _ _ A c ob xV xB hg yV xK xI,id⟩
  · split at hs
    · rename_i g v uN
      cases h with
      | mref _ _ r ob hg hv hh =>
        have:=lt_of_some hg;omega
    simp only[Oi]at hs;subst hs;exact⟨h,id⟩
  simp only[Oi]at hs;subst hs;exact⟨h,id⟩
theorem snaps_ok{m:Nat}(hr:Rel w ρ H)(hm:H.length≤m):∀{ds rs:List D} {vs:List Value},VL w ρ H ds vs→Bl m H ds=some rs→VL w ρ H rs vs∧(ds.all D.Xv=true→rs.all D.Xv=true)
 | [],rs,_,.nil,hs=>by simp only[Bl,Oi]at hs;subst hs;exact⟨.nil,id⟩
 | d :: ds, rs, _, .cons h t, hs => by
  unfold Bl at hs;split at hs
  ·
   rename_i x y hx hy;simp only[Oi]at hs;subst hs;obtain⟨h1,h2⟩:=snap_ok hr hm h hx;obtain⟨h3,h4⟩:=snaps_ok hr hm t hy;refine⟨.cons h1 h3,fun ha=>?_⟩;simp only[List.all_cons,Bool.and_eq_true]at ha ⊢;exact⟨h2 ha.1,h4 ha.2⟩
  simp at hs
theorem Oz{m:Nat}(hr:Rel w ρ H)(hm:H.length≤m){d r:D}{v:Value}(h:VR w ρ H d v)(hs:Xp m H d=some r):VR w ρ H r v:=by
 unfold Xp at hs;split at hs
 ·
  rename_i cs;simp only[Om]at hs;obtain⟨rs,qY,rfl⟩:=hs
  cases h with
  | agg _ vs hl hc hh =>
   obtain⟨h1,h2⟩:=snaps_ok hr hm (VL.of hl hh) qY;exact .agg rs vs h1.len (h2 hc) (fun j d v=>h1.get)
 exact (snap_ok hr hm h hs).1
theorem Qk{m:Nat}(hr:Rel w ρ H)(hm:H.length≤m):∀{ds rs:List D} {vs:List Value},VL w ρ H ds vs→Ah m H ds=some rs→VL w ρ H rs vs
 | [],rs,_,.nil,hs=>by simp only[Ah,Oi]at hs;subst hs;exact .nil
 | d :: ds, rs, _, .cons h t, hs => by
  unfold Ah at hs;split at hs
  ·
   rename_i x y hx hy;simp only[Oi]at hs;subst hs;exact .cons (Oz hr hm h hx) (Qk hr hm t hy)
  simp at hs
theorem snapR_ok{m:Nat}(hr:Rel w ρ H)(hm:H.length≤m){d r:D}{v:Value}(h:VR w ρ H d v)(hs:Xt m H d=some r):VR w ρ H r v:=by
 unfold Xt at hs;split at hs
 ·
  simp only[Om]at hs;obtain⟨rs,qY,rfl⟩:=hs
  cases h with
  | tup _ vs hl hh =>
   have h1:=Qk hr hm (VL.of hl hh) qY;exact .tup rs vs h1.len (fun j d v=>h1.get)
 exact Oz hr hm h hs
theorem Vk{cs new:List D}{o:Nat}(h:o+new.length≤cs.length):(overlay cs o new).length=cs.length:=by
 simp[overlay];omega
theorem Vl{cs new:List D}{o:Nat}(h:o+new.length≤cs.length)(j:Nat):(overlay cs o new)[j]?=if o≤j∧j<o+new.length then new[j-o]? else cs[j]?:=by
  unfold overlay;have ht:(cs.take o).length=o:=by simp;omega
  by_cases h1:j<o
  · rw[La_ (by omega),if_neg (by omega),List.getElem?_take,if_pos h1]
  rw[Lr_ (by omega),ht];by_cases h2:j<o+new.length
  · rw[La_ (by omega),if_pos (by omega)]
  rw[Lr_ (by omega),if_neg (by omega),List.getElem?_drop];congr 1;omega
theorem foldl_set(off:Nat):∀(new:List Value) (k:Nat) (cs:Array Value) (q:Nat),((new.zipIdx k).foldl (fun cs (x:Value × Nat)=>cs.setIfInBounds (off+x.2) x.1) cs)[q]?=if off+k≤q∧q<off+k+new.length∧q<cs.size then new[q-(off+k)]? else cs[q]?
 | [],k,cs,q=>by
  simp only[List.zipIdx_nil,List.foldl_nil,List.length_nil];rw[if_neg (by omega)]
 | v :: new, k, cs, q => by
  rw[List.zipIdx_cons,List.foldl_cons,foldl_set off new (k+1)];simp only[Array.size_setIfInBounds,Array.getElem?_setIfInBounds,List.length_cons];by_cases h1:off+(k+1)≤q∧q<off+(k+1)+new.length∧q<cs.size
  ·
   rw[if_pos h1,if_pos (by omega)];rw[show q-(off+k)=(q-(off+(k+1)))+1 by omega];simp
  rw[if_neg h1];by_cases h2:off+k=q
  ·
   subst h2;by_cases h3:off+k<cs.size
   ·
    simp[h3]
   simp[h3]
  rw[if_neg h2,if_neg (by omega)]
theorem foldl_size(off:Nat):∀(new:List (Value × Nat)) (cs:Array Value),(new.foldl (fun cs (x:Value × Nat)=>cs.setIfInBounds (off+x.2) x.1) cs).size=cs.size
 | [],cs=>rfl
 | x::new,cs=>by rw[List.foldl_cons,foldl_size off new];simp
theorem Ut{place:Nat→Option (Nat × Nat)}{cells:Array Value}{i o sz:Nat}{v:Value}{rest:List (Nat × Value)}(hp:place i=some (o,sz))(hs:v.cells.size=sz)(yh:o+sz≤cells.size) :
    ∃cells',Instr.fill place cells ((i,v)::rest)=Instr.fill place cells' rest∧cells'.size=cells.size∧∀q:Nat,cells'[q]?=if o≤q∧q<o+sz then v.cells[q-o]? else cells[q]?:=by
  refine⟨v.cells.zipIdx.foldl (fun cs (x:Value × Nat)=>cs.setIfInBounds (o+x.2) x.1) cells,?_,?_,fun q=>?_⟩
  · simp only [Instr.fill, hp];rw[if_neg (by simp;omega)]
  · rw [← Array.foldl_toList];exact foldl_size o _ _
  rw[←Array.foldl_toList,Array.toList_zipIdx,foldl_set];have:v.cells.toList.length=sz:=by simpa using hs
  by_cases h:o≤q∧q<o+sz
  · rw[if_pos (by omega),if_pos h];simp
  rw[if_neg (by omega),if_neg h]
theorem CR.overlay{cs:List D}{vs vs':Array Value}{x:D}{v:Value}{o:Nat}(h:CR w ρ H cs vs)(hx:CR w ρ H x.cells v.cells)(yh:o+x.cells.length≤cs.length)(hs:vs'.size=vs.size)
  (hq:∀q:Nat,vs'[q]?=if o≤q∧q<o+x.cells.length then v.cells[q-o]? else vs[q]?):CR w ρ H (overlay cs o x.cells) vs':=by
 refine⟨by rw[hs,h.1,Vk yh],fun j d u h1 h2=>?_⟩;rw[Vl yh]at h1;rw[hq]at h2;split at h1
 ·
  rename_i yC;rw[if_pos yC]at h2;exact hx.2 _ d u h1 h2
 rename_i q8;rw[if_neg q8]at h2;exact h.2 j d u h1 h2
theorem all_overlay{p:D→Bool}{cs new:List D}{o:Nat}(h:cs.all p=true)(hn:new.all p=true):(overlay cs o new).all p=true:=by
 refine List.all_eq_true.2 fun x hx=>?_;unfold overlay at hx;rcases List.mem_append.1 hx with hx | hx
 ·
  exact List.all_eq_true.1 h x (List.mem_of_mem_take hx)
 rcases List.mem_append.1 hx with hx | hx
 ·
  exact List.all_eq_true.1 hn x hx
 exact List.all_eq_true.1 h x (List.mem_of_mem_drop hx)
theorem fill_ok {pl : Nat → Option (Nat × Nat)} : ∀ {ps : List (Nat × Operand)} {places : List (Nat × Nat)} {cs r : List D} {ds : List D} {vs : List Value} {cells : Array Value}, Qm pl ps = some places → M0 cs places ds = some r → VL w ρ H ds vs → vs.length = ps.length → CR w ρ H cs cells → cs.all D.Xv = true →
    ∃cells',Instr.fill pl cells ((ps.map (·.1)).zip vs)=some cells'∧CR w ρ H r cells'∧r.all D.Xv=true
  | [], places, cs, r, ds, vs, cells, hp, hf, hv, hl, hc, ha => by
    simp only[Qm,Oi]at hp;subst hp;have:vs=[]:=by simpa using hl
    subst this;cases hv;simp only[M0,Oi]at hf;subst hf;exact⟨cells,by simp[Instr.fill],hc,ha⟩
  | (i, xo) :: ps, places, cs, r, ds, vs, cells, hp, hf, hv, hl, hc, ha => by
    unfold Qm at hp;split at hp
    · rename_i pq rest hpi rC;simp only[Oi]at hp;subst hp;obtain⟨o,sz⟩:=pq
      cases hv with
      | nil=>simp at hl
      | cons hd ht =>
        rename_i d v ds vs;unfold M0 at hf;split at hf
        · rename_i xY;simp only[Bool.and_eq_true,beq_iff_eq,decide_eq_true_eq]at xY;obtain⟨⟨h1,h2⟩,h3⟩:=xY;obtain⟨wz,xk,_⟩:=hd.cells h1;subst h2;have rT:v.cells.size=d.cells.length:=wz.1;obtain⟨cells',he,hs,hq⟩:=Ut (rest:=(ps.map (·.1)).zip vs) hpi rT (by rw[hc.1];exact h3);obtain⟨c2,h4,h5⟩:=fill_ok rC hf ht (by simpa using hl) (hc.overlay wz h3 hs hq) (all_overlay ha (List.all_eq_true.2 xk));exact⟨c2,by rw[List.map_cons,List.zip_cons_cons,he];exact h4,h5⟩
        simp at hf
    simp at hp
theorem cellOf_ok{v:Value}{d:D}(h:cellOf v=some d):VR w ρ H d v∧d.Xv=true∧d.free=true:=by
 unfold cellOf at h;split at h<;>simp only[Oi,reduceCtorEq]at h<;>subst h
 ·
  exact⟨.int _ _,rfl,rfl⟩
 ·
  exact⟨.bool _,rfl,rfl⟩
 ·
  exact⟨.str _,rfl,rfl⟩
 ·
  exact⟨.nilp,rfl,rfl⟩
 ·
  exact⟨.X4,rfl,rfl⟩
 ·
  exact⟨.nilfn,rfl,rfl⟩
 ·
  exact⟨.nilm,rfl,rfl⟩
 exact⟨.nili,rfl,rfl⟩
theorem Rz:∀{vs:List Value} {ds:List D},cellsOf vs=some ds→VL w ρ H ds vs∧ds.all D.Xv=true∧ds.all D.free=true
  | [],ds,h=>by simp only[cellsOf,Oi]at h;subst h;exact⟨.nil,rfl,rfl⟩
  | v :: vs, ds, h => by
    unfold cellsOf at h;split at h
    · rename_i x y hx hy;simp only[Oi]at h;subst h;obtain⟨h1,h2,h3⟩:=cellOf_ok (w:=w) (ρ:=ρ) (H:=H) hx;obtain⟨h4,h5,h6⟩:=Rz hy;exact⟨.cons h1 h4,by simp[h2,h5],by simp[h3,h6]⟩
    simp at h
theorem Ob{v:Value}{d:D}(h:Qy v=some d):VR w ρ H d v:=by
 unfold Qy at h;split at h
 ·
  rename_i cs;simp only[Om]at h;obtain⟨ds,zH,rfl⟩:=h;obtain⟨h1,h2,_⟩:=Rz (w:=w) (ρ:=ρ) (H:=H) zH;have:=VR.agg (w:=w) (ρ:=ρ) (H:=H) ds cs.toList h1.len h2 (fun j d v=>h1.get);simpa using this
 exact (cellOf_ok h).1
theorem VL.cr{ds:List D}{vs:Array Value}(h:VL w ρ H ds vs.toList):CR w ρ H ds vs:=⟨by simpa using h.len,fun j d v h1 h2=>h.get h1 (by simpa using h2)⟩
theorem Gd{t:TypeId}{z:List D}(h:H8 P t=some z):∃i zv,P.info? t=some i∧i.zero=some zv∧CR w ρ H z zv.cells∧z.all D.Xv=true∧z.all D.free=true:=by
 unfold H8 at h;split at h
 ·
  rename_i i hi;split at h
  ·
   rename_i zv hz;obtain⟨h1,h2,h3⟩:=Rz (w:=w) (ρ:=ρ) (H:=H) h;exact⟨i,zv,hi,hz,h1.cr,h2,h3⟩
  simp at h
 simp at h
theorem build_ok{t:TypeId}{ps:Array (Nat × Operand)}{z:List D}{pl:Nat→Option (Nat × Nat)}{places:List (Nat × Nat)}{ds cs:List D}{vs:List Value}(hz:H8 P t=some z)(wV:placeT P t=some pl)(hp:Qm pl ps.toList=some places)(hv:VL w ρ H ds vs)(hl:vs.length=ps.toList.length)
  (h:M0 z places ds=some cs):∃v,(Instr.build t ((ps.toList.map (·.1)).zip vs).toArray).run P w=.ok v w∧VR w ρ H (.agg cs) v:=by
 obtain⟨i,zv,hi,wQ,wz,xw,_⟩:=Gd (w:=w) (ρ:=ρ) (H:=H) hz;obtain⟨cells',h1,h2,h3⟩:=fill_ok hp h hv hl wz xw;refine⟨.agg cells',run_build w t _ cells' ?_,h2.agg h3⟩;unfold Program.built;unfold placeT at wV
 cases hu:P.underlying t with
 | none=>simp[hu]at wV
 | some d =>
  cases d<;>simp only[hu,reduceCtorEq]at wV
  ·
   rename_i n e
   cases hie:P.info? e with
   | none=>simp[hie]at wV
   | some ie =>
    simp only[hie,Oi]at wV;subst wV;simp only[hi,wQ,hie];exact h1
  rename_i fs
  cases hm:fs.toList.mapM (fun f=>(P.info? f.type).map fun i=>(f.offset,i.size)) with
  | none=>simp[hm]at wV
  | some pls =>
   simp only[hm,Oi]at wV;subst wV;simp only[hi,wQ,hm];exact h1
end
open Go.RowKit
def Xu (w:World) (ρ:Xn) (S:St) (r:D) (S':St) (wr:Bool) (v:Value) (w':World):Prop :=
 ∃ρ',Rel w' ρ' S'.heap∧Stp w ρ S w' ρ' S'∧VR w' ρ' S'.heap r v∧(wr=false→Ext w w'∧ρ'=ρ∧S'=S)
section
variable {P:Program} {w:World} {ρ:Xn} {S:St}
theorem Xu.pure{r:D}{v:Value}(hr:Rel w ρ S.heap)(h:VR w ρ S.heap r v):Xu w ρ S r S false v w:=⟨ρ,hr,Stp.refl _ _ _,h,fun _=>⟨Ext.refl_ _,rfl,rfl⟩⟩
theorem new_post{w':World}{cur:Array Value}{ob:Xh}(hr:Rel w ρ S.heap)(h:Xx w w' (.cells cur ob.elem (0,0)))(hz:0<ob.sz)(hv0:ob.ver=0)(hk:ob.kind=0)(xO:∃row,ob.rows=[row]∧row.length=ob.sz∧row.all D.Xv=true∧CR w ρ S.heap row cur) :
    Xu w ρ S (.ptr S.heap.length 0 0 0) (newAt S ob) true (.pointer (some ⟨w.heap.size,0,none⟩)) w':=by
  obtain⟨row,xE,xg,xw,wz⟩:=xO;refine⟨_,J4 hr h hz ⟨1,by rw[wz.1,xg,Nat.one_mul],by rw[xE];simp,by simp[maxLen],by rw[xE];simp⟩ (by rw[xE];simpa using xg) (.inl hk) (fun i r j d hi hj=>?_),Fh hr h,?_,by simp⟩
  · rw [xE] at hi
    cases i with
    | succ i=>simp at hi
    | zero =>
      simp at hi;subst hi;obtain⟨v,h1,h2⟩:=wz.get hj;exact⟨List.all_eq_true.1 xw d (Lm hj),fun h=>absurd hk h,v,by simpa using h1,h2⟩
  refine .ptr _ 0 0 0 _ ob (by simp[newAt]) (by omega) (by omega) fun _=>⟨w.heap.size,by simp[upd],by simp⟩
theorem alloc_ok{e:TypeId}{z:List D}{n:Nat}(hr:Rel w ρ S.heap)(hz:H8 P e=some z)(hn:Cj P e=some n)(hl:z.length=n) :
  ∃v w',(Instr.alloc e true (.tuple #[])).run P w=.ok v w'∧Xu w ρ S (.ptr S.heap.length 0 0 0) (newAt S ⟨e,z.length,[z],0,0,false⟩) true v w':=by
 obtain⟨i,zv,hi,wQ,wz,xw,_⟩:=Gd (w:=w) (ρ:=ρ) (H:=S.heap) hz;obtain⟨_,_,_,_,_,h0⟩:=Cm hn
 have xu:(Instr.alloc e true (.tuple #[])).run P w=.ok (.pointer (some ⟨w.heap.size,0,none⟩)) (w.alloc (.cells zv.cells e)):=by
  simp[Instr.alloc,zeroValue,typeInfo,hi,wQ,newVar,newRow]
 exact⟨_,_,xu,new_post (ob:=⟨e,z.length,[z],0,0,false⟩) hr (Xx.alloc w _) (by simp only;omega) rfl rfl ⟨z,rfl,rfl,xw,wz⟩⟩
theorem alloc_fill{e:TypeId}{z:List D}{n g:Nat}(hr:Rel w ρ S.heap)(hz:H8 P e=some z)(hn:Cj P e=some n)(hl:z.length=n)(hg:S.heap[g]?=some ⟨e,z.length,[z],0,0,false⟩)(uz:ρ g=none) :
    ∃v w' o,(Instr.alloc e true (.tuple #[])).run P w=.ok v w'∧Xx w w' o∧Rel w' (upd ρ g w.heap.size) S.heap∧VR w' (upd ρ g w.heap.size) S.heap (.ptr g 0 0 0) v:=by
  obtain⟨i,zv,hi,wQ,wz,xw,_⟩:=Gd (w:=w) (ρ:=ρ) (H:=S.heap) hz;obtain⟨_,_,_,_,_,h0⟩:=Cm hn
  have xu:(Instr.alloc e true (.tuple #[])).run P w=.ok (.pointer (some ⟨w.heap.size,0,none⟩)) (w.alloc (.cells zv.cells e)):=by
    simp[Instr.alloc,zeroValue,typeInfo,hi,wQ,newVar,newRow]
  refine⟨_,_,_,xu,Xx.alloc w _,rel_fill (ob:=⟨e,z.length,[z],0,0,false⟩) hr (Xx.alloc w _) uz hg (by simp only;omega) ⟨1,by rw[wz.1,Nat.one_mul],by simp,by simp[maxLen],by simp⟩ (by simp) (.inl rfl) (fun i r j d hi hj=>?_),?_⟩
  · cases i with
    | succ i=>simp at hi
    | zero =>
      simp at hi;subst hi;obtain⟨v,h1,h2⟩:=wz.get hj;exact⟨List.all_eq_true.1 xw d (Lm hj),fun h=>absurd rfl h,v,by simpa using h1,h2⟩
  exact .ptr _ 0 0 0 _ _ hg (Nat.le_refl _) (by simp) fun _=>⟨w.heap.size,by simp[upd],by simp⟩
theorem box_ok{e:TypeId}{x:D}{v:Value}{n:Nat}(hr:Rel w ρ S.heap)(hn:Cj P e=some n)(hx:VR w ρ S.heap x v)(h1:x.val=true)(h2:x.cells.length=n) :
  ∃v' w',(Instr.box e v).run P w=.ok v' w'∧Xu w ρ S (.ptr S.heap.length 0 0 0) (newAt S ⟨e,n,[x.cells],0,0,false⟩) true v' w':=by
 obtain⟨_,_,_,_,_,h0⟩:=Cm hn;obtain⟨wz,xk,_⟩:=hx.cells h1
 have xu:(Instr.box e v).run P w=.ok (.pointer (some ⟨w.heap.size,0,none⟩)) (w.alloc (.cells v.cells e)):=by
  simp[Instr.box,newVar,newRow]
 exact⟨_,_,xu,new_post (ob:=⟨e,n,[x.cells],0,0,false⟩) hr (Xx.alloc w _) h0 rfl rfl ⟨x.cells,rfl,h2,List.all_eq_true.2 xk,wz⟩⟩
def RowsIn (kk:Prop) (w:World) (ρ:Xn) (H:List Xh) (sz:Nat) (rows:List (List D)) (cur:Array Value):Prop :=
 (∀r∈rows,r.length=sz)∧∀i r j d,rows[i]?=some r→r[j]?=some d→d.Xv=true∧(kk→d.free=true)∧∃v,cur[i*sz+j]?=some v∧VR w ρ H d v
theorem RowsIn.set{kk:Prop}{H:List Xh}{sz i:Nat}{rows:List (List D)}{cur cur':Array Value}{x:D}{v:Value}(h:RowsIn kk w ρ H sz rows cur)(hx:CR w ρ H x.cells v.cells)(hl:x.cells.length=sz)(hc:∀d∈x.cells,d.Xv=true∧(kk→d.free=true))
  (hq:∀q:Nat,cur'[q]?=if i*sz≤q∧q<i*sz+sz then v.cells[q-i*sz]? else cur[q]?):RowsIn kk w ρ H sz (rows.set i x.cells) cur':=by
 refine⟨fun r hr=>?_,fun k r j d hk hj=>?_⟩
 ·
  rcases List.mem_or_eq_of_mem_set hr with hr | rfl
  ·
   exact h.1 r hr
  exact hl
 have zy:=lt_of_some hk;rw[List.length_set]at zy;by_cases e:i=k
 ·
  subst e;rw[List.getElem?_set_self zy]at hk;injection hk with hk;subst hk;obtain⟨u,h1,h2⟩:=hx.get hj;have yP:=lt_of_some hj;obtain⟨h3,h4⟩:=hc d (Lm hj);refine⟨h3,h4,u,?_,h2⟩;rw[hq,if_pos (by omega),show i*sz+j-i*sz=j by omega];exact h1
 rw[Ln_ e]at hk;obtain⟨h1,h2,u,h3,h4⟩:=h.2 k r j d hk hj;refine⟨h1,h2,u,?_,h4⟩;have yP:j<sz:=by rw[←h.1 r (Lm hk)];exact lt_of_some hj
 rw[hq,if_neg]
 ·
  exact h3
 rintro⟨h5,h6⟩;rcases Nat.lt_or_gt_of_ne e with xq | wX
 ·
  have:=Nat.mul_le_mul_right sz xq;rw[Nat.succ_mul]at this;omega
 have:=Nat.mul_le_mul_right sz wX;rw[Nat.succ_mul]at this;omega
theorem V7 {H : List Xh} {sz : Nat} : ∀ {is : List Nat} {rs r : List (List D)} {ds : List D} {vs : List Value} {cur : Array Value}, Dm rs sz is ds = some r → VL w ρ H ds vs → vs.length = is.length → RowsIn True w ρ H sz rs cur → cur.size = rs.length * sz →
    ∃cur',Instr.fill (fun i=>some (i*sz,sz)) cur (is.zip vs)=some cur'∧RowsIn True w ρ H sz r cur'∧cur'.size=cur.size∧r.length=rs.length
  | [], rs, r, ds, vs, cur, hf, hv, hl, yC, xC => by
    have:vs=[]:=by simpa using hl
    subst this;cases hv;simp only[Dm,Oi]at hf;subst hf;exact⟨cur,by simp[Instr.fill],yC,rfl,rfl⟩
  | i :: is, rs, r, ds, vs, cur, hf, hv, hl, yC, xC => by
    cases hv with
    | nil=>simp at hl
    | cons hd ht =>
      rename_i d v ds vs;unfold Dm at hf;split at hf
      · rename_i xY;simp only[Bool.and_eq_true,beq_iff_eq,decide_eq_true_eq]at xY;obtain⟨⟨⟨h1,vP⟩,h2⟩,h3⟩:=xY;obtain⟨wz,xk,_⟩:=hd.cells h1
        have yh:i*sz+sz≤cur.size:=by
          rw[xC,←Nat.succ_mul];exact Nat.mul_le_mul_right _ h3
        obtain⟨cells',he,hs,hq⟩:=Ut (place:=fun i=>some (i*sz,sz)) (rest:=is.zip vs) rfl (by rw[wz.1,h2]) yh;have hin2:=yC.set (i:=i) wz h2 (fun d' hd'=>⟨xk d' hd',fun _=>List.all_eq_true.1 vP d' hd'⟩) hq;obtain⟨c2,h4,h5,h6,h7⟩:=V7 hf ht (by simpa using hl) hin2 (by rw[hs,xC,List.length_set]);exact⟨c2,by rw[List.zip_cons_cons,he];exact h4,h5,h6.trans hs,by rw[h7,List.length_set]⟩
      simp at hf
theorem Tg {H : List Xh} {sz : Nat} : ∀ {is : List Nat} {rs r : List (List D)} {ds : List D} {vs : List Value} {cur : Array Value}, Dl rs sz is ds = some r → VL w ρ H ds vs → vs.length = is.length → RowsIn False w ρ H sz rs cur → cur.size = rs.length * sz →
    ∃cur',Instr.fill (fun i=>some (i*sz,sz)) cur (is.zip vs)=some cur'∧RowsIn False w ρ H sz r cur'∧cur'.size=cur.size∧r.length=rs.length
  | [], rs, r, ds, vs, cur, hf, hv, hl, yC, xC => by
    have:vs=[]:=by simpa using hl
    subst this;cases hv;simp only[Dl,Oi]at hf;subst hf;exact⟨cur,by simp[Instr.fill],yC,rfl,rfl⟩
  | i :: is, rs, r, ds, vs, cur, hf, hv, hl, yC, xC => by
    cases hv with
    | nil=>simp at hl
    | cons hd ht =>
      rename_i d v ds vs;unfold Dl at hf;split at hf
      · rename_i xY;simp only[Bool.and_eq_true,beq_iff_eq,decide_eq_true_eq]at xY;obtain⟨⟨h1,h2⟩,h3⟩:=xY;obtain⟨wz,xk,_⟩:=hd.cells h1
        have yh:i*sz+sz≤cur.size:=by
          rw[xC,←Nat.succ_mul];exact Nat.mul_le_mul_right _ h3
        obtain⟨cells',he,hs,hq⟩:=Ut (place:=fun i=>some (i*sz,sz)) (rest:=is.zip vs) rfl (by rw[wz.1,h2]) yh;have hin2:=yC.set (i:=i) wz h2 (fun d' hd'=>⟨xk d' hd',fun h=>h.elim⟩) hq;obtain⟨c2,h4,h5,h6,h7⟩:=Tg hf ht (by simpa using hl) hin2 (by rw[hs,xC,List.length_set]);exact⟨c2,by rw[List.zip_cons_cons,he];exact h4,h5,h6.trans hs,by rw[h7,List.length_set]⟩
      simp at hf
theorem RowsIn.replicate{kk:Prop}{H:List Xh}{z:List D}{zv:Array Value}(h:CR w ρ H z zv)(h1:z.all D.Xv=true)(h2:z.all D.free=true)(n:Nat)(h0:0<z.length) :
  RowsIn kk w ρ H z.length (List.replicate n z) ((Array.range (n*z.length)).map (zv[· % zv.size]!)):=by
 refine⟨fun r hr=>by rw[List.eq_of_mem_replicate hr],fun i r j d hi hj=>?_⟩;have hr:=List.eq_of_mem_replicate (Lm hi);subst hr;have zh:i<n:=by have:=lt_of_some hi;simpa using this
 have yP:=lt_of_some hj;obtain⟨v,h3,h4⟩:=h.get hj;refine⟨List.all_eq_true.1 h1 d (Lm hj),fun _=>List.all_eq_true.1 h2 d (Lm hj),v,?_,h4⟩
 have xq:i*r.length+j<n*r.length:=by
  calc i*r.length+j<i*r.length+r.length:=by omega
   _=(i+1)*r.length:=by rw[Nat.succ_mul]
   _≤n*r.length:=Nat.mul_le_mul_right _ zh
 have hm:(i*r.length+j) % zv.size=j:=by
  rw[h.1,Nat.mul_comm,Nat.mul_add_mod,Nat.mod_eq_of_lt yP]
 obtain⟨h5,h6⟩:=Array.getElem?_eq_some_iff.1 h3;rw[Array.getElem?_map,Array.getElem?_range,if_pos xq,Option.map_some,hm];simp[h5,h6]
theorem bslice_run{t e:TypeId}{len n:Nat}{z:List D}{ps:Array (Nat × Operand)}{vs:List Value}{i:TypeInfo}{zv:Value}{cur:Array Value}(hu:P.underlying t=some (.slice e))(hi:P.info? e=some i)(wQ:i.zero=some zv)(wC:zv.cells.size=z.length)(hn:Cj P e=some z.length)(hsm:len*z.length≤16777216)
  (uG:Instr.fill (fun i=>some (i*z.length,z.length)) ((Array.range (len*z.length)).map (zv.cells[· % zv.cells.size]!)) ((ps.toList.map (·.1)).zip vs)=some cur) :
  (Instr.buildSlice t len ((ps.toList.map (·.1)).zip vs).toArray).run P w=.ok (.slice (some ⟨w.heap.size,0,none⟩) len len) (w.alloc (.cells cur e)):=by
 obtain⟨i',d',hi',hd',hs',h0⟩:=Cm hn;rw[hi]at hi';injection hi' with hi';subst hi';by_cases yY:len*i.size=0
 ·
  have hlen0:len=0:=by
   rcases Nat.mul_eq_zero.1 yY with h | h
   ·
    exact h
   omega
  subst hlen0;have hA:∀f:Nat→Value,(Array.range (0*z.length)).map f=#[]:=fun f=>by apply Array.eq_empty_of_size_eq_zero;simp
  have hA':∀f:Nat→Value,(Array.range 0).map f=#[]:=fun f=>by apply Array.eq_empty_of_size_eq_zero;simp
  rw[hA]at uG;simp only[Instr.buildSlice,Sem.run_bind,run_underlying hu,Result.andThen_ok,run_sizeOf hn,Nat.zero_mul,hA',uG];simp[newRow,hA',uG]
 refine run_buildSlice w t e len _ cur i zv hu hi wQ (by rw[hs'];omega) yY ?_;rw[hs'];exact uG
theorem bslice_ok{t e:TypeId}{len n kind:Nat}{z:List D}{ps:Array (Nat × Operand)}{xs ys:List D}{rs:List (List D)}{vs:List Value}{r:D}{S':St}{wr:Bool}(hr:Rel w ρ S.heap)(hu:P.underlying t=some (.slice e))(hz:H8 P e=some z)(hn:Cj P e=some n)(hl:z.length=n)(hsm:len*n≤16777216)
    (hv:VL w ρ S.heap xs vs) (wU:vs.length=ps.toList.length) (qX:Ah S.heap.length S.heap xs=some ys) (hf:Dm (List.replicate len z) n (ps.toList.map (·.1)) ys=some rs)
    (h:(if kind=2 then some (D.msl S.heap.length 0 0 len none,newAt S ⟨e,n,rs,0,2,false⟩,true) else some (D.sl n rs (some len),S,false))=some (r,S',wr)) :
    ∃v w',(Instr.buildSlice t len ((ps.toList.map (·.1)).zip vs).toArray).run P w=.ok v w'∧Xu w ρ S r S' wr v w':=by
  obtain⟨i,zv,hi,wQ,wz,xw,yL⟩:=Gd (w:=w) (ρ:=ρ) (H:=S.heap) hz;obtain⟨_,_,_,_,_,h0⟩:=Cm hn;have vL:=Qk hr (Nat.le_refl _) hv qX;subst hl;obtain⟨cur,uG,yC,hcz,yI⟩:=V7 hf vL (by simpa using wU) (RowsIn.replicate wz xw yL len h0) (by simp);simp only[List.length_replicate]at yI;simp only[Array.size_map,Array.size_range]at hcz;have xu:=bslice_run (w:=w) (n:=z.length) hu hi wQ wz.1 hn hsm uG;refine⟨_,_,xu,?_⟩;have xD:=Xx.alloc w (.cells cur e);split at h
  · simp only [Oi, Pi_] at h;obtain⟨rfl,rfl,rfl⟩:=h;refine⟨_,J4 (ob:=⟨e,z.length,rs,0,2,false⟩) hr xD h0 ⟨len,hcz,by simp[yI],?_,by simp[yI]⟩ yC.1 (.inr (.inr rfl)) (fun i' r' j d zD hj=>?_),Fh hr xD,?_,by simp⟩
    · simp only [maxLen];have:len*1≤len*z.length:=Nat.mul_le_mul_left _ h0;omega
    · obtain ⟨h1, h2, h3⟩ := yC.2 i' r' j d zD hj;exact⟨h1,fun _=>h2 trivial,h3⟩
    refine .msl _ 0 0 len none _ len ⟨e,z.length,rs,0,2,false⟩ (Nat.le_refl _) (fun k hk=>by cases hk) (by simp[newAt]) (Nat.le_refl _) (by simp) fun _=>⟨w.heap.size,by simp[upd],by simp[yI],fun _=>by simp,fun _=>⟨cur,xD.new,by simpa using hcz⟩⟩
  simp only[Oi,Pi_]at h;obtain⟨rfl,rfl,rfl⟩:=h;have hstp:=Gc hr xD;refine⟨ρ,Lc hr xD,hstp,?_,fun _=>⟨ext_add xD,rfl,rfl⟩⟩;refine .sl z.length rs (some len) _ len len yI.symm (Nat.le_refl _) (fun k hk=>by injection hk) yC.1 w.heap.size 0 (fun i j=>cur.getD (i*z.length+j) undef) (fun _=>rfl) (fun i' r' j d zD hj=>?_) (fun i' r' j d zD hj=>?_)
  · obtain ⟨h1, h2, v, h3, h4⟩ := yC.2 i' r' j d zD hj;obtain⟨h5,h6⟩:=Array.getElem?_eq_some_iff.1 h3;refine⟨?_,⟨by rw[xD.size];omega,fun hx=>by have:=(hr.hid _ _ hx).1;omega,fun g hg=>by have:=hr.lt hg;omega⟩,h2 trivial⟩;rw[cell_of_row _ _ _ cur e (0,0) xD.new,Nat.zero_add,h3];simp[Array.getD,h5,h6]
  obtain⟨h1,h2,v,h3,h4⟩:=yC.2 i' r' j d zD hj;obtain⟨h5,h6⟩:=Array.getElem?_eq_some_iff.1 h3;have:cur.getD (i'*z.length+j) undef=v:=by simp[Array.getD,h5,h6]
  rw[this];exact h4.mono hstp
theorem bslice0_ok{t e:TypeId}{len n:Nat}{z:List D}{ps:Array (Nat × Operand)}{xs:List D}{rs:List (List D)}{vs:List Value}(hr:Rel w ρ S.heap)(hu:P.underlying t=some (.slice e))(hz:H8 P e=some z)(hn:Cj P e=some n)(hl:z.length=n)(hsm:len*n≤16777216)
    (hv:VL w ρ S.heap xs vs) (wU:vs.length=ps.toList.length) (hf:Dl (List.replicate len z) n (ps.toList.map (·.1)) xs=some rs) :
    ∃v w',(Instr.buildSlice t len ((ps.toList.map (·.1)).zip vs).toArray).run P w=.ok v w'∧Xu w ρ S (.msl S.heap.length 0 0 len none) (newAt S ⟨e,n,rs,0,0,false⟩) true v w':=by
  obtain⟨i,zv,hi,wQ,wz,xw,yL⟩:=Gd (w:=w) (ρ:=ρ) (H:=S.heap) hz;obtain⟨_,_,_,_,_,h0⟩:=Cm hn;subst hl;obtain⟨cur,uG,yC,hcz,yI⟩:=Tg hf hv (by simpa using wU) (RowsIn.replicate wz xw yL len h0) (by simp);simp only[List.length_replicate]at yI;simp only[Array.size_map,Array.size_range]at hcz;have xu:=bslice_run (w:=w) (n:=z.length) hu hi wQ wz.1 hn hsm uG;refine⟨_,_,xu,?_⟩;have xD:=Xx.alloc w (.cells cur e);refine⟨_,J4 (ob:=⟨e,z.length,rs,0,0,false⟩) hr xD h0 ⟨len,hcz,by simp[yI],?_,by simp[yI]⟩ yC.1 (.inl rfl) (fun i' r' j d zD hj=>?_),Fh hr xD,?_,by simp⟩
  · simp only [maxLen];have:len*1≤len*z.length:=Nat.mul_le_mul_left _ h0;omega
  · obtain ⟨h1, h2, h3⟩ := yC.2 i' r' j d zD hj;exact⟨h1,fun h=>absurd rfl h,h3⟩
  refine .msl _ 0 0 len none _ len ⟨e,z.length,rs,0,0,false⟩ (Nat.le_refl _) (fun k hk=>by cases hk) (by simp[newAt]) (Nat.le_refl _) (by simp) fun _=>⟨w.heap.size,by simp[upd],by simp[yI],fun _=>by simp,fun _=>⟨cur,xD.new,by simpa using hcz⟩⟩
theorem boxc_ok{e:TypeId}{x:D}{v:Value}(hr:Rel w ρ S.heap)(hx:VR w ρ S.heap x v)(h1:x.val=true)(h3:x.cells.all D.free=true) :
  ∃v' w',(Instr.box e v).run P w=.ok v' w'∧Xu w ρ S (.X7 x.cells 0) S false v' w':=by
 obtain⟨wz,xk,_⟩:=hx.cells h1
 have xu:(Instr.box e v).run P w=.ok (.pointer (some ⟨w.heap.size,0,none⟩)) (w.alloc (.cells v.cells e)):=by
  simp[Instr.box,newVar,newRow]
 have xD:=Xx.alloc w (.cells v.cells e);have hstp:=Gc hr xD;refine⟨_,_,xu,ρ,Lc hr xD,hstp,?_,fun _=>⟨ext_add xD,rfl,rfl⟩⟩;refine .X7 x.cells 0 w.heap.size 0 (fun j=>v.cells.getD j undef) (fun j d hj _=>?_) (fun j d hj _=>?_)
 ·
  obtain⟨v',h5,h6⟩:=wz.get hj;obtain⟨h7,h8⟩:=Array.getElem?_eq_some_iff.1 h5;refine⟨?_,⟨by rw[xD.size];omega,fun hx=>by have:=(hr.hid _ _ hx).1;omega,fun g hg=>by have:=hr.lt hg;omega⟩,List.all_eq_true.1 h3 d (Lm hj)⟩;rw[cell_of_row _ _ _ v.cells e (0,0) xD.new,Nat.zero_add,Nat.sub_zero,h5];simp[Array.getD,h7,h8]
 obtain⟨v',h5,h6⟩:=wz.get hj;obtain⟨h7,h8⟩:=Array.getElem?_eq_some_iff.1 h5;have:v.cells.getD j undef=v':=by simp[Array.getD,h7,h8]
 rw[this];exact h6.mono hstp
end
open Go.RowKit
section
variable {P:Program} {w:World} {ρ:Xn} {S:St}
theorem Nh{cur vs:List Value}{o:Nat}(h:o+vs.length≤cur.length)(q:Nat):(cur.take o++vs++cur.drop (o+vs.length))[q]?=if o≤q∧q<o+vs.length then vs[q-o]? else cur[q]?:=by
  have ht:(cur.take o).length=o:=by simp;omega
  rw[Lo_];by_cases h1:q<o
  · rw[La_ (by omega),if_neg (by omega),List.getElem?_take,if_pos h1]
  rw[Lr_ (by omega),ht];by_cases h2:q<o+vs.length
  · rw[La_ (by omega),if_pos (by omega)]
  rw[Lr_ (by omega),if_neg (by omega),List.getElem?_drop];congr 1;omega
theorem row_apart{i k sz j o n:Nat}(xA:i≠k)(hj:j<sz)(ho:o+n≤sz):¬(i*sz+o≤k*sz+j∧k*sz+j<i*sz+o+n):=by
 rintro⟨h5,h6⟩;rcases Nat.lt_or_gt_of_ne xA with xq | wX
 ·
  have:=Nat.mul_le_mul_right sz xq;rw[Nat.succ_mul]at this;omega
 have:=Nat.mul_le_mul_right sz wX;rw[Nat.succ_mul]at this;omega
theorem row_in{i n sz j:Nat}(hi:i<n)(hj:j<sz):i*sz+j<n*sz:=by
 have:=Nat.mul_le_mul_right sz hi;rw[Nat.succ_mul]at this;omega
theorem store_ok {a x : D} {va vx : Value} {sz : Nat} {S' : St} {t : TypeId} (hr : Rel w ρ S.heap) (ha : VR w ρ S.heap a va) (hx : VR w ρ S.heap x vx) (xC : Cj P t = some sz) (h : I1 sz S a x = some S') :
    ∃w',(Instr.storeAt t va vx).run P w=.ok () w'∧Xu w ρ S .undef S' true undef w':=by
  unfold I1 at h;split at h
  · rename_i g ver i o
    cases ha with
    | ptr _ _ _ _ ad ob hg yV xK xI =>
      unfold rowsOf at h;simp only[hg]at h;by_cases hv:ob.ver=ver
      · subst hv;simp only[if_true]at h
        cases xO:ob.rows[i]? with
        | none=>simp[xO]at h
        | some row =>
          simp only[xO]at h;obtain⟨b,hρ,rfl⟩:=xI rfl;obtain⟨o1,xG,cur,hc,hz,⟨cc,yB,yw,uY,vQ⟩,hl,hk,hh⟩:=hr.cel hρ hg xK;rw[hg]at xG;injection xG with xG;subst xG;split at h
          · rename_i y hy
            have hyv:VR w ρ S.heap y vx:=by
              split at hy
              · simp only[Oi]at hy;subst hy;exact hx
              exact Oz hr (Nat.le_refl _) hx hy
            split at h
            · rename_i xY;simp only[Bool.and_eq_true,beq_iff_eq,decide_eq_true_eq,Bool.or_eq_true]at xY;obtain⟨⟨⟨h1,h2⟩,h3⟩,h4⟩:=xY;simp only[Oi]at h;subst h;obtain⟨wz,xk,uS⟩:=hyv.cells h1;have yI:row.length=ob.sz:=hl row (Lm xO);have zh:=lt_of_some xO;have rT:vx.cells.toList.length=sz:=by rw[←h2,←wz.1];simp
              have hend:i*ob.sz+ob.sz≤cur.size:=by
                rw[yB,←Nat.succ_mul];exact Nat.mul_le_mul_right _ (by omega)
              have xH:=run_storeCells_at P b (i*ob.sz+o) ob.elem vx.cells.toList 0 cur w hc (by rw[rT];omega) uS;simp only[Nat.add_zero]at xH
              have xu:(Instr.storeAt t (.pointer (some ⟨b,i*ob.sz+o,none⟩)) vx).run P w=.ok () (w.setRow b (cur.toList.take (i*ob.sz+o)++vx.cells.toList++cur.toList.drop (i*ob.sz+o+vx.cells.toList.length)).toArray):=by
                have hsz2:vx.cells.size=sz:=by simpa using rT
                simp only[Instr.storeAt,Instr.sureAddr,storeVar,Sem.run_bind,Sem.run_pure,Result.andThen_ok,run_sizeOf xC,hsz2];simp[xH]
              refine⟨_,xu,?_⟩;have xL:=Xy.setRow (cs:=(cur.toList.take (i*ob.sz+o)++vx.cells.toList++cur.toList.drop (i*ob.sz+o+vx.cells.toList.length)).toArray) hc
              have yu:∀q:Nat,(cur.toList.take (i*ob.sz+o)++vx.cells.toList++cur.toList.drop (i*ob.sz+o+vx.cells.toList.length)).toArray[q]?=if i*ob.sz+o≤q∧q<i*ob.sz+o+sz then vx.cells[q-(i*ob.sz+o)]? else cur[q]?:=by
                intro q;have:=Nh (cur:=cur.toList) (vs:=vx.cells.toList) (o:=i*ob.sz+o) (by rw[rT];simp;omega) q;rw[rT]at this;simpa [rT] using this
              have yj:(cur.toList.take (i*ob.sz+o)++vx.cells.toList++cur.toList.drop (i*ob.sz+o+vx.cells.toList.length)).toArray.size=cur.size:=by
                have hvs2:vx.cells.size=sz:=by simpa using rT
                simp only[List.size_toArray,Ll_,List.length_take,List.length_drop,Array.length_toList];omega
              have hnk1:ob.kind≠1:=by
                rcases h4 with h4 | h4
                · omega
                omega
              generalize (cur.toList.take (i*ob.sz+o)++vx.cells.toList++cur.toList.drop (i*ob.sz+o+vx.cells.toList.length)).toArray=cur' at xL yu yj;have zR:(overlay row o y.cells).length=ob.sz:=by rw[Vk (by omega),yI]
              have he:({ ob with rows:=ob.rows.set i (overlay row o y.cells) }:Xh).sz=ob.sz∧({ ob with rows:=ob.rows.set i (overlay row o y.cells) }:Xh).elem=ob.elem∧({ ob with rows:=ob.rows.set i (overlay row o y.cells) }:Xh).kind=ob.kind∧ob.rows.length≤({ ob with rows:=ob.rows.set i (overlay row o y.cells) }:Xh).rows.length∧ob.ver≤({ ob with rows:=ob.rows.set i (overlay row o y.cells) }:Xh).ver :=
                ⟨rfl,rfl,rfl,by simp,Nat.le_refl _⟩
              refine⟨ρ,Nn xK hr hρ hg hc xL yj he (fun e=>absurd e hnk1) ⟨cc,by rw[yj,yB],by simpa using yw,uY,by simpa using vQ⟩ (fun r hr'=>?_) (fun i' r j d hi' hj=>?_),La hr hρ hg hc xL yj he (fun e=>absurd e hnk1),.undef _,by simp⟩
              · rcases List.mem_or_eq_of_mem_set hr' with hr' | rfl
                · exact hl r hr'
                exact zR
              by_cases e:i=i'
              · subst e;simp only[List.getElem?_set_self zh,Oi]at hi';subst hi';have yP:j<ob.sz:=by rw[←zR];exact lt_of_some hj
                rw[Vl (by omega)]at hj;split at hj
                · rename_i yC;obtain⟨u,qj,rV⟩:=wz.get hj;refine⟨xk d (Lm hj),fun vO=>?_,u,?_,rV⟩
                  · rcases h4 with h4 | h4
                    · exact absurd h4 vO
                    exact List.all_eq_true.1 h4.2 d (Lm hj)
                  rw[yu,if_pos (by simp only;omega)];rw[show i*ob.sz+j-(i*ob.sz+o)=j-o by omega];exact qj
                rename_i q8;obtain⟨k1,k2,u,qj,rV⟩:=hh i row j d xO hj;refine⟨k1,k2,u,?_,rV⟩;rw[yu,if_neg (by simp only;omega)];exact qj
              simp only[Ln_ e]at hi';obtain⟨k1,k2,u,qj,rV⟩:=hh i' r j d hi' hj;have yP:j<ob.sz:=by rw[←hl r (Lm hi')];exact lt_of_some hj
              refine⟨k1,k2,u,?_,rV⟩;rw[yu,if_neg (row_apart e yP (by omega))];exact qj
            simp at h
          simp at h
      simp[hv]at h
  simp at h
def flat (m sz:Nat) (f:Nat→Nat→Value):List Value:=(List.range (m*sz)).map fun q=>f (q / sz) (q % sz)
theorem Pn(m sz:Nat)(f:Nat→Nat→Value):(flat m sz f).length=m*sz:=by simp[flat]
theorem flat_get{m sz i j:Nat}{f:Nat→Nat→Value}(hi:i<m)(hj:j<sz):(flat m sz f)[i*sz+j]?=some (f i j):=by
 have h0:0<sz:=by omega
 simp only[flat,Lp_,List.getElem?_range (row_in hi hj),Option.map_some];rw[Nat.mul_comm,Nat.mul_add_div h0,Nat.div_eq_of_lt hj,Nat.mul_add_mod,Nat.mod_eq_of_lt hj,Nat.add_zero]
theorem flat_back{m sz q:Nat}{f:Nat→Nat→Value}{u:Value}(h0:0<sz)(h:(flat m sz f)[q]?=some u):q / sz<m∧q % sz<sz∧u=f (q / sz) (q % sz)∧q=q / sz*sz+q % sz:=by
 have hq:q<m*sz:=by rw[←Pn m sz f];exact lt_of_some h
 simp only[flat,Lp_,List.getElem?_range hq,Option.map_some,Oi]at h;refine⟨Nat.div_lt_of_lt_mul (by rwa [Nat.mul_comm]at hq),Nat.mod_lt _ h0,h.symm,?_⟩;rw[Nat.mul_comm];exact (Nat.div_add_mod q sz).symm
theorem kA_eq(kind k:Nat):(if kind=0 then k=0 else (k=1∨k=2))=(kA kind k=true):=by
 unfold kA;split<;>simp
theorem kW_eq(kind k:Nat):(if kind=0 then k=0 else k=2)=(kW kind k=true):=by
 unfold kW;split<;>simp
theorem kW_ok{kind k:Nat}(h:kW kind k=true):k≠1∧(k≠0→kind≠0)∧(kind≠0→k≠0):=by
 unfold kW at h;split at h<;>simp at h<;>omega
theorem kA_ok{kind k:Nat}(h:kA kind k=true):(k≠0→kind≠0)∧(kind≠0→k≠0):=by
 unfold kA at h;split at h<;>simp at h<;>omega
def SrcAt (kk:Prop) (w:World) (ρ:Xn) (H:List Xh) (sz:Nat) (rows:List (List D)) (v:Value):Prop :=
 ∃A c,v=.slice A rows.length c∧(∀r∈rows,r.length=sz)∧(rows≠[]→∃(b o:Nat) (f:Nat→Nat→Value),A=some ⟨b,o,none⟩∧∀i r j d,rows[i]?=some r→r[j]?=some d→w.cell? ⟨b,o+i*sz+j,none⟩=some (f i j)∧VR w ρ H d (f i j)∧d.Xv=true∧(kk→d.free=true))
theorem Mx{d:D}(h:d.free=true):d.Xv=true:=by cases d<;>simp[D.free,D.Xw,D.Xv]at h ⊢
theorem src_ok {kk : Prop} {sz : Nat} {x : D} {v : Value} {rows : List (List D)} (hr : Rel w ρ S.heap) (hx : VR w ρ S.heap x v) (h : Bw S sz x = some rows) : SrcAt kk w ρ S.heap sz rows v := by
  unfold Bw at h;split at h
  · cases hx;simp only[Oi]at h;subst h;exact⟨none,0,rfl,by simp,fun h=>absurd rfl h⟩
  · split at h
    · rename_i hs;subst hs;simp only[Oi]at h;subst h
      cases hx with
      | sl _ _ _ A n c hn xV xB hz b o f hA hc hv =>
        refine⟨some A,c,by rw[hn],hz,fun xA=>⟨b,o,f,by rw[hA xA],fun i r j d hi hj=>?_⟩⟩;obtain⟨h1,h2,h3⟩:=hc i r j d hi hj;exact⟨h1,hv i r j d hi hj,Mx h3,fun _=>h3⟩
    simp at h
  · rename_i g ver lo n cap
    cases hx with
    | msl _ _ _ _ _ A c ob xV xB hg yV xK xI =>
      unfold rowsOf at h;simp only[hg]at h;by_cases hv:ob.ver=ver
      · simp only [hv, if_true] at h;split at h
        · rename_i hs;simp only[Oi]at h;subst h;obtain⟨b,hρ,xU,hA,_⟩:=xI hv;obtain⟨o1,xG,cur,hc,hz,uZ,hl,hk,hh⟩:=hr.cel hρ hg xK;rw[hg]at xG;injection xG with xG;subst xG;have xg:((ob.rows.drop lo).take n).length=n:=by simp;omega
          refine⟨some A,c,by rw[xg],fun r hr'=>by rw[←hs.1];exact hl r (Eb hr'),fun xA=>⟨b,lo*ob.sz,fun i j=>cur.getD ((lo+i)*ob.sz+j) undef,?_,fun i r j d hi hj=>?_⟩⟩
          · rw [hA];left;intro h0;subst h0;simp at xA
          obtain⟨h1,h2⟩:=Cz hi;obtain⟨h3,h4,u,qj,rV⟩:=hh _ r j d h1 hj;obtain⟨h5,h6⟩:=Array.getElem?_eq_some_iff.1 qj;have zP:cur.getD ((lo+i)*ob.sz+j) undef=u:=by simp[Array.getD,h5,h6]
          simp only[zP];refine⟨?_,rV,h3,fun _=>h4 (by omega)⟩;rw[cell_of_row w b _ cur ob.elem (0,0) hc,←qj,←hs.1];congr 1;rw[Nat.add_mul]
        simp at h
      simp[hv]at h
  simp at h
theorem src0_ok {sz : Nat} {x : D} {v : Value} {rows : List (List D)} (hr : Rel w ρ S.heap) (hx : VR w ρ S.heap x v) (h : Da S sz x = some rows) : SrcAt False w ρ S.heap sz rows v := by
  unfold Da at h;split at h
  · cases hx;simp only[Oi]at h;subst h;exact⟨none,0,rfl,by simp,fun h=>absurd rfl h⟩
  · split at h
    · rename_i hs;subst hs;simp only[Oi]at h;subst h
      cases hx with
      | sl _ _ _ A n c hn xV xB hz b o f hA hc hv =>
        refine⟨some A,c,by rw[hn],hz,fun xA=>⟨b,o,f,by rw[hA xA],fun i r j d hi hj=>?_⟩⟩;obtain⟨h1,h2,h3⟩:=hc i r j d hi hj;exact⟨h1,hv i r j d hi hj,Mx h3,fun _=>h3⟩
    simp at h
  · rename_i g ver lo n cap
    cases hx with
    | msl _ _ _ _ _ A c ob xV xB hg yV xK xI =>
      unfold rowsOf at h;simp only[hg]at h;by_cases hv:ob.ver=ver
      · simp only [hv, if_true] at h;split at h
        · rename_i hs;simp only[Oi]at h;subst h;obtain⟨b,hρ,xU,hA,_⟩:=xI hv;obtain⟨o1,xG,cur,hc,hz,uZ,hl,hk,hh⟩:=hr.cel hρ hg xK;rw[hg]at xG;injection xG with xG;subst xG;have xg:((ob.rows.drop lo).take n).length=n:=by simp;omega
          refine⟨some A,c,by rw[xg],fun r hr'=>by rw[←hs.1];exact hl r (Eb hr'),fun xA=>⟨b,lo*ob.sz,fun i j=>cur.getD ((lo+i)*ob.sz+j) undef,?_,fun i r j d hi hj=>?_⟩⟩
          · rw [hA];left;intro h0;subst h0;simp at xA
          obtain⟨h1,h2⟩:=Cz hi;obtain⟨h3,h4,u,qj,rV⟩:=hh _ r j d h1 hj;obtain⟨h5,h6⟩:=Array.getElem?_eq_some_iff.1 qj;have zP:cur.getD ((lo+i)*ob.sz+j) undef=u:=by simp[Array.getD,h5,h6]
          simp only[zP];refine⟨?_,rV,h3,fun h=>h.elim⟩;rw[cell_of_row w b _ cur ob.elem (0,0) hc,←qj,←hs.1];congr 1;rw[Nat.add_mul]
        simp at h
      simp[hv]at h
  simp at h
theorem srcK_ok{kind sz:Nat}{x:D}{v:Value}{rows:List (List D)}(hr:Rel w ρ S.heap)(hx:VR w ρ S.heap x v)(h:readK kind S sz x=some rows):SrcAt (kind≠0) w ρ S.heap sz rows v:=by
 unfold readK at h;split at h
 ·
  rename_i h0;obtain⟨A,c,h1,h2,h3⟩:=src0_ok hr hx h
  exact⟨A,c,h1,h2,fun xA=>by
   obtain⟨b,o,f,k1,k2⟩:=h3 xA
   exact⟨b,o,f,k1,fun i r j d hi hj=>by
    obtain⟨q1,q2,q3,_⟩:=k2 i r j d hi hj
    exact⟨q1,q2,q3,fun hk=>absurd h0 hk⟩⟩⟩
 exact src_ok hr hx h
theorem Nl{kk:Prop}{H:List Xh}{sz n:Nat}{rows new:List (List D)}{olds news:List Value}{cur:Array Value}(hn:n=rows.length)
  (h1:∀r∈rows,r.length=sz) (h2:∀r∈new,r.length=sz)
  (ho:∀i r j d,rows[i]?=some r→r[j]?=some d→d.Xv=true∧(kk→d.free=true)∧∃v,olds[i*sz+j]?=some v∧VR w ρ H d v) (zR:olds.length=n*sz)
  (hw:∀i r j d,new[i]?=some r→r[j]?=some d→d.Xv=true∧(kk→d.free=true)∧∃v,news[i*sz+j]?=some v∧VR w ρ H d v)
  (hc:∀(q:Nat) (u:Value),(olds++news)[q]?=some u→cur[q]?=some u):RowsIn kk w ρ H sz (rows++new) cur:=by
 refine⟨fun r hr=>?_,fun i r j d hi hj=>?_⟩
 ·
  rcases List.mem_append.1 hr with h | h
  ·
   exact h1 r h
  exact h2 r h
 by_cases xq:i<rows.length
 ·
  rw[La_ xq]at hi;obtain⟨k1,k2,v,k3,k4⟩:=ho i r j d hi hj;refine⟨k1,k2,v,hc _ _ ?_,k4⟩;rw[La_ (lt_of_some k3)];exact k3
 rw[Lr_ (by omega)]at hi;obtain⟨k1,k2,v,k3,k4⟩:=hw _ r j d hi hj;refine⟨k1,k2,v,hc _ _ ?_,k4⟩
 have e:i*sz+j=n*sz+((i-rows.length)*sz+j):=by
  rw[hn,←Nat.add_assoc,←Nat.add_mul];congr 2;omega
 rw[e,Lr_ (by omega),zR,Nat.add_sub_cancel_left];exact k3
theorem appNone{t ty e:TypeId}{i:TypeInfo}(ht:P.underlying t=some (.slice e))(hi:P.info? e=some i){A B:Option Addr}{n c c':Nat}(xV:n≤c) :
  (Builtin.append_ #[t,t] ty #[.slice A n c,.slice B 0 c']).run P w=.ok (.slice A n c) w:=by
 cases A with
 | none=>cases B<;>simp[Builtin.append_,run_underlying ht,sizeOf,typeInfo,hi,Builtin.lenOf,Builtin.firstCells,xV,loadCells,loadCellsFrom]
 | some a=>cases B<;>simp[Builtin.append_,run_underlying ht,sizeOf,typeInfo,hi,Builtin.lenOf,Builtin.firstCells,xV,loadCells,loadCellsFrom,storeCells]
theorem append_over {t u ty e : TypeId} {i : TypeInfo} {n n' g kind : Nat} {vx : Value} {A' : Addr} {c' : Nat} {ob : Xh} {new : List (List D)} (hr : Rel w ρ S.heap) (xC : i.size = n)
    (qJ:n'≤c') (hg:S.heap[g]?=some ob) (xK:ob.kind≠3)
    (xI:∃b,ρ g=some b∧0+n'≤ob.rows.length∧(n'≠0∨0=0→A'=⟨b,0*ob.sz,none⟩)∧((none:Option Nat)=none→∃cur,w.heap[b]?=some (.cells cur ob.elem (0,0))∧cur.size=(0+c')*ob.sz))
    (yH:ob.sz=n) (hel:ob.elem=e) (yO:kW kind ob.kind=true) (hin':n'+new.length≤ob.rows.length)
    (yI:∀r∈new,r.length=n) (yE:new=[]→∀(A:Option Addr) (m c:Nat),m≤c→(Builtin.append_ #[t,u] ty #[.slice A m c,vx]).run P w=.ok (.slice A m c) w)
    (uQ:new≠[]→∃(news:List Value),news.length=new.length*n ∧
      (∀i r j d,new[i]?=some r→r[j]?=some d→d.Xv=true∧(kind≠0→d.free=true)∧∃v,news[i*n+j]?=some v∧VR w ρ S.heap d v) ∧
      (∀(g sLen sCap:Nat) (cur:Array Value),w.heap[g]?=some (.cells cur e (0,0))→sLen+new.length≤sCap→sLen*i.size+news.length≤cur.size →
        (Builtin.append_ #[t,u] ty #[.slice (some ⟨g,0,none⟩) sLen sCap,vx]).run P w=.ok (.slice (some ⟨g,0,none⟩) (sLen+new.length) sCap) (w.setRow g (cur.toList.take (sLen*i.size)++news++cur.toList.drop (sLen*i.size+news.length)).toArray))) :
    ∃v w',(Builtin.append_ #[t,u] ty #[.slice (some A') n' c',vx]).run P w=.ok v w'∧Xu w ρ S (.msl g ob.ver 0 (n'+new.length) none) (setAt S g { ob with rows:=ob.rows.take n'++new++ob.rows.drop (n'+new.length) }) true v w':=by
  obtain⟨b0,hρ,xU,hA',rP⟩:=xI;have rZ:=hA' (.inr rfl);simp only[Nat.zero_mul]at rZ;subst rZ;obtain⟨o1,xG,cur,hc,hz,⟨cc,yB,yw,uY,vQ⟩,hl,hkk',hh⟩:=hr.cel hρ hg xK;rw[hg]at xG;injection xG with xG;subst xG;obtain⟨cur1,y8,w9⟩:=rP rfl;rw[hc]at y8;injection y8 with y8;injection y8 with y8;subst y8
  have hcc':c'=cc:=by
    rw[yB,Nat.zero_add]at w9;exact (Nat.eq_of_mul_eq_mul_right hz w9).symm
  subst hcc'
  have hrl':(ob.rows.take n'++new++ob.rows.drop (n'+new.length)).length=ob.rows.length:=by
    simp only[Ll_,List.length_take,List.length_drop];omega
  have wG:({ ob with rows:=ob.rows.take n'++new++ob.rows.drop (n'+new.length) }:Xh).sz=ob.sz∧({ ob with rows:=ob.rows.take n'++new++ob.rows.drop (n'+new.length) }:Xh).elem=ob.elem∧({ ob with rows:=ob.rows.take n'++new++ob.rows.drop (n'+new.length) }:Xh).kind=ob.kind∧ob.rows.length≤({ ob with rows:=ob.rows.take n'++new++ob.rows.drop (n'+new.length) }:Xh).rows.length∧ob.ver≤({ ob with rows:=ob.rows.take n'++new++ob.rows.drop (n'+new.length) }:Xh).ver:=⟨rfl,rfl,rfl,by show ob.rows.length≤(ob.rows.take n'++new++ob.rows.drop (n'+new.length)).length;omega,Nat.le_refl _⟩;have wu:∀r∈ob.rows,r.length=n:=fun r hr'=>by rw[←yH];exact hl r hr'
  have wN:∀r∈ob.rows.take n'++new++ob.rows.drop (n'+new.length),r.length=ob.sz:=by
    intro r hr';rw[yH];rcases List.mem_append.1 hr' with h1 | h1
    · rcases List.mem_append.1 h1 with h2 | h2
      · exact wu r (List.mem_of_mem_take h2)
      exact yI r h2
    exact wu r (List.mem_of_mem_drop h1)
  by_cases he:new=[]
  · subst he;have xL:Xy w w b0 (.cells cur ob.elem (0,0)):=⟨rfl,rfl,rfl,rfl,hc,fun _ _=>rfl⟩;have yX:ob.rows.take n'++[]++ob.rows.drop (n'+([]:List (List D)).length)=ob.rows:=by simp
    refine⟨_,w,yE rfl _ _ _ qJ,ρ,Nn xK hr hρ hg hc xL rfl wG (fun _ _ _=>rfl) ⟨c',yB,by show _≤c';rw[yX];exact yw,uY,by intro h;show _=(_:List (List D)).length;rw[yX];exact vQ h⟩ wN (by rw[show ({ ob with rows:=ob.rows.take n'++[]++ob.rows.drop (n'+([]:List (List D)).length) }:Xh).rows=ob.rows from yX];exact hh),La hr hρ hg hc xL rfl wG (fun _ _ _=>rfl),?_,by simp⟩;refine .msl g _ 0 _ none _ _ { ob with rows:=ob.rows.take n'++[]++ob.rows.drop (n'+([]:List (List D)).length) } (by simpa using qJ) (fun k hk=>by cases hk) (by simp[setAt,lt_of_some hg]) (Nat.le_refl _) xK fun _=>⟨b0,hρ,by rw[show ({ ob with rows:=ob.rows.take n'++[]++ob.rows.drop (n'+([]:List (List D)).length) }:Xh).rows=ob.rows from yX];simpa using xU,fun _=>by simp,fun _=>⟨cur,hc,w9⟩⟩
  obtain⟨news,uD,hnr,uI⟩:=uQ he
  have xW:n'*n+news.length≤cur.size:=by
    rw[uD,yB,yH,←Nat.add_mul];exact Nat.mul_le_mul_right _ (by omega)
  have xu:=uI b0 n' c' cur (by rw[←hel];exact hc) (by omega) (by rw[xC];exact xW);rw[xC]at xu;have xL:=Xy.setRow (cs:=(cur.toList.take (n'*n)++news++cur.toList.drop (n'*n+news.length)).toArray) hc
  have yu:∀q:Nat,(cur.toList.take (n'*n)++news++cur.toList.drop (n'*n+news.length)).toArray[q]?=if n'*n≤q∧q<n'*n+news.length then news[q-n'*n]? else cur[q]?:=by
    intro q;have:=Nh (cur:=cur.toList) (vs:=news) (o:=n'*n) (by simpa using xW) q;simpa using this
  have yj:(cur.toList.take (n'*n)++news++cur.toList.drop (n'*n+news.length)).toArray.size=cur.size:=by
    simp only[List.size_toArray,Ll_,List.length_take,List.length_drop,Array.length_toList];omega
  generalize (cur.toList.take (n'*n)++news++cur.toList.drop (n'*n+news.length)).toArray=cur' at xL yu yj xu;obtain⟨hk01,hkf,hkf'⟩:=kW_ok yO;have uK:ob.kind=1→∀q,q<ob.rows.length*ob.sz→cur'[q]?=cur[q]?:=fun h=>absurd h hk01
  have uJ:∀(k:Nat) r j d,ob.rows[k]?=some r→r[j]?=some d→d.Xv=true∧(kind≠0→d.free=true)∧∃v,cur[k*n+j]?=some v∧VR w ρ S.heap d v:=by
    intro k r j d h1 h2;obtain⟨q1,q2,q3⟩:=hh k r j d h1 h2;rw[yH]at q3;exact⟨q1,fun h=>q2 (hkf' h),q3⟩
  have xE:∀i' r' j d,(ob.rows.take n'++new++ob.rows.drop (n'+new.length))[i']?=some r'→r'[j]?=some d→d.Xv=true∧(kind≠0→d.free=true)∧∃v,cur'[i'*n+j]?=some v∧VR w ρ S.heap d v:=by
    intro i' r' j d hi' hj
    have hjn:j<n:=by
      have:=wN r' (Lm hi');rw[←yH,←this];exact lt_of_some hj
    have zQ:(ob.rows.take n').length=n':=by rw[List.length_take];omega
    rw[Lo_]at hi';by_cases c1:i'<n'
    · rw [La_ (by omega), List.getElem?_take_of_lt c1] at hi';obtain⟨q1,q2,v,q3,q4⟩:=uJ i' r' j d hi' hj;refine⟨q1,q2,v,?_,q4⟩;rw[yu,if_neg (by have:=row_in c1 hjn;omega)];exact q3
    rw[Lr_ (by omega),zQ]at hi';by_cases c2:i'-n'<new.length
    · rw [La_ c2] at hi';obtain⟨q1,q2,v,q3,q4⟩:=hnr (i'-n') r' j d hi' hj;refine⟨q1,q2,v,?_,q4⟩
      have e1:i'*n+j-n'*n=(i'-n')*n+j:=by
        have:i'*n=n'*n+(i'-n')*n:=by rw[←Nat.add_mul];congr 1;omega
        omega
      have e2:=row_in c2 hjn;have e3:i'*n=n'*n+(i'-n')*n:=by rw[←Nat.add_mul];congr 1;omega
      rw[yu,if_pos ⟨by omega,by rw[uD];omega⟩,e1];exact q3
    rw[Lr_ (by omega),List.getElem?_drop]at hi';obtain⟨q1,q2,v,q3,q4⟩:=uJ _ r' j d hi' hj;have e0:n'+new.length+(i'-n'-new.length)=i':=by omega
    rw[e0]at q3;refine⟨q1,q2,v,?_,q4⟩;have e3:(n'+new.length)*n≤i'*n:=Nat.mul_le_mul_right _ (by omega);rw[Nat.add_mul]at e3;rw[yu,if_neg (by rw[uD];omega)];exact q3
  refine⟨_,_,xu,ρ,Nn xK hr hρ hg hc xL yj wG uK ⟨c',by rw[yj];exact yB,by show (ob.rows.take n'++new++ob.rows.drop (n'+new.length)).length≤c';omega,uY,fun h=>by show c'=(ob.rows.take n'++new++ob.rows.drop (n'+new.length)).length;rw[hrl'];exact vQ h⟩ wN (fun i' r' j d hi' hj=>?_),La hr hρ hg hc xL yj wG uK,?_,by simp⟩
  · obtain ⟨q1, q2, q3⟩ := xE i' r' j d hi' hj;exact⟨q1,fun h=>q2 (hkf h),by rw[←yH]at q3;exact q3⟩
  refine .msl g _ 0 _ none _ _ { ob with rows:=ob.rows.take n'++new++ob.rows.drop (n'+new.length) } (by omega) (fun k hk=>by cases hk) (by simp[setAt,lt_of_some hg]) (Nat.le_refl _) xK fun _=>⟨b0,hρ,by show 0+(n'+new.length)≤(ob.rows.take n'++new++ob.rows.drop (n'+new.length)).length;omega,fun _=>by simp,fun _=>⟨cur',xL.new,by rw[yj];exact w9⟩⟩
theorem Wl {t u ty e : TypeId} {i : TypeInfo} {n kind : Nat} {z : List D} {s r : D} {zv vs vx : Value} {S' : St} {wr : Bool} {new : List (List D)} (hr : Rel w ρ S.heap) (hi : P.info? e = some i) (hn : Cj P e = some n) (hzc : CR w ρ S.heap z zv.cells) (vT : z.length = n) (hb : 0 < i.bytes) (hk : kind = 0 ∨ kind = 1 ∨ kind = 2)
    (hs:VR w ρ S.heap s vs)
    (yI:∀r∈new,r.length=n) (yE:new=[]→∀(A:Option Addr) (m c:Nat),m≤c→(Builtin.append_ #[t,u] ty #[.slice A m c,vx]).run P w=.ok (.slice A m c) w)
    (uQ:new≠[]→∃(news:List Value),news.length=new.length*n∧(∀u∈news,u.oneCell'=true) ∧
      (∀i r j d,new[i]?=some r→r[j]?=some d→d.Xv=true∧(kind≠0→d.free=true)∧∃v,news[i*n+j]?=some v∧VR w ρ S.heap d v) ∧
      (0<new.length→((new.length:Nat):Int)≤9223372036854775807→new.length*i.bytes≤281474976710656→(Builtin.append_ #[t,u] ty #[.slice none 0 0,vx]).run P w=.ok (.slice (some ⟨w.heap.size,0,none⟩) new.length (grownCap w new.length 0 e)) (w.drew.alloc (.cells (news.toArray++Builtin.zeroCells zv.cells (grownCap w new.length 0 e-new.length)) e))) ∧
      (∀(b:Addr) (sLen sCap:Nat) (olds:List Value),olds.length=sLen*i.size→(∀j v,olds[j]?=some v→w.cell? (b.add j)=some v)→sCap<sLen+new.length→((sLen+new.length:Nat):Int)≤9223372036854775807→Builtin.nextslicecap (sLen+new.length) sCap*i.bytes≤281474976710656 →
        (Builtin.append_ #[t,u] ty #[.slice (some b) sLen sCap,vx]).run P w=.ok (.slice (some ⟨w.heap.size,0,none⟩) (sLen+new.length) (grownCap w (sLen+new.length) sCap e)) (w.drew.alloc (.cells (olds.toArray++news.toArray++Builtin.zeroCells zv.cells (grownCap w (sLen+new.length) sCap e-(sLen+new.length))) e))) ∧
      (∀(g sLen sCap:Nat) (cur:Array Value),w.heap[g]?=some (.cells cur e (0,0))→sLen+new.length≤sCap→sLen*i.size+news.length≤cur.size →
        (Builtin.append_ #[t,u] ty #[.slice (some ⟨g,0,none⟩) sLen sCap,vx]).run P w=.ok (.slice (some ⟨g,0,none⟩) (sLen+new.length) sCap) (w.setRow g (cur.toList.take (sLen*i.size)++news++cur.toList.drop (sLen*i.size+news.length)).toArray)))
    (h:Av e n i.bytes kind s new S=some (r,S',wr)) :
    ∃v w',(Builtin.append_ #[t,u] ty #[vs,vx]).run P w=.ok v w'∧Xu w ρ S r S' wr v w':=by
  obtain⟨i2,d2,zD,hd2,xC,h0⟩:=Cm hn;rw[hi]at zD;injection zD with zD;subst zD;have hzs:zv.cells.size=n:=by rw[hzc.1,vT]
  unfold Av at h;simp only[kA_eq,kW_eq]at h
  have hm63:∀m:Nat,m*i.bytes≤140737488355328→m≤9223372036854775807∧m≤maxLen:=by
    intro m hm;have:m*1≤m*i.bytes:=Nat.mul_le_mul_left _ hb;simp only[maxLen];omega
  split at h
  · -- onto nil
    cases hs;split at h
    · rename_i he;simp only[Oi,Pi_]at h;obtain⟨rfl,rfl,rfl⟩:=h;have he:new=[]:=by simpa using he
      subst he;exact⟨_,w,yE rfl none 0 0 (Nat.le_refl _),Xu.pure hr .X4⟩
    rename_i he;have he:new≠[]:=by simpa using he
    split at h
    · rename_i hby;simp only[Oi,Pi_]at h;obtain⟨rfl,rfl,rfl⟩:=h;obtain⟨news,uD,uE,hnr,hNil,qA,uI⟩:=uQ he;have yY:0<new.length:=List.length_pos_iff.2 he;obtain⟨k1,k2⟩:=hm63 _ hby;have xu:=hNil yY (by omega) (by omega);have xD:=Xx.drewAlloc w (.cells (news.toArray++Builtin.zeroCells zv.cells (grownCap w new.length 0 e-new.length)) e);have yK:=grownCap_ge w new.length 0 e;have uY:=grownCap_le_maxLen w new.length 0 e k2
      have yC:RowsIn (kind≠0) w ρ S.heap n new (news.toArray++Builtin.zeroCells zv.cells (grownCap w new.length 0 e-new.length)) :=
        ⟨yI,fun i' r' j d hi' hj=>by
          obtain⟨q1,q2,v,q3,q4⟩:=hnr i' r' j d hi' hj;refine⟨q1,q2,v,?_,q4⟩;rw[Array.getElem?_append_left (by have:=lt_of_some q3;simpa using this)]
          simpa using q3⟩
      have wC:(news.toArray++Builtin.zeroCells zv.cells (grownCap w new.length 0 e-new.length)).size=grownCap w new.length 0 e*n:=by
        simp only[Array.size_append,List.size_toArray,size_zeroCells,hzs,uD,←Nat.add_mul];congr 1;omega
      refine⟨_,_,xu,_,J4 (ob:=⟨e,n,new,0,kind,true⟩) hr xD h0 ⟨_,wC,yK,uY,by simp⟩ yI hk (fun i' r' j d hi' hj=>?_),Fh hr xD,?_,by simp⟩
      · obtain ⟨q1, q2, q3⟩ := yC.2 i' r' j d hi' hj;exact⟨q1,q2,q3⟩
      refine .msl _ 0 0 _ none _ _ ⟨e,n,new,0,kind,true⟩ yK (fun k hk=>by cases hk) (by simp[newAt]) (Nat.le_refl _) (by rcases hk with rfl | rfl | rfl<;>simp) fun _=>⟨w.heap.size,by simp[upd],by simp,fun _=>by simp,fun _=>⟨_,xD.new,by simpa using wC⟩⟩
    simp at h
  · -- onto an immutable slice
    rename_i s' rows cap
    cases hs with
    | sl _ _ _ A' n' c' hn' qJ uZ hz' b' o' f' hA' hc' hv' =>
    split at h
    · rename_i he;simp only[Oi,Pi_]at h;obtain⟨rfl,rfl,rfl⟩:=h;have he:new=[]:=by simpa using he
      subst he;exact⟨_,w,yE rfl _ _ _ qJ,Xu.pure hr (.sl _ _ _ A' n' c' hn' qJ uZ hz' b' o' f' hA' hc' hv')⟩
    rename_i he;have he:new≠[]:=by simpa using he
    split at h
    · rename_i xY;obtain⟨rfl,rP,hby⟩:=xY;simp only[Oi,Pi_]at h;obtain⟨rfl,rfl,rfl⟩:=h;obtain⟨news,uD,uE,hnr,hNil,qA,uI⟩:=uQ he;have yY:0<new.length:=List.length_pos_iff.2 he;obtain⟨k1,k2⟩:=hm63 _ hby;have yB:=uZ _ rP;subst yB hn'
      have holds:∀(q:Nat) (u:Value),(flat rows.length s' f')[q]?=some u→w.cell? (A'.add q)=some u:=by
        intro q u hq;obtain⟨h1,h2,h3,h4⟩:=flat_back h0 hq;have hr1:=hz' _ (List.getElem_mem h1);have:=(hc' _ _ _ _ (Lg h1) (Lg (show q % s'<(rows[q / s']).length by rw[hr1];exact h2))).1;rw[hA' (by rintro rfl;simp at h1),add_plain,h3];rw[Nat.add_assoc,←h4]at this;exact this
      have xu:=qA A' rows.length rows.length (flat rows.length s' f') (by rw[Pn,xC]) holds (by omega) (by omega) (growslice_fits (by omega) hby);have xD:=Xx.drewAlloc w (.cells ((flat rows.length s' f').toArray++news.toArray++Builtin.zeroCells zv.cells (grownCap w (rows.length+new.length) rows.length e-(rows.length+new.length))) e);have yK:=grownCap_ge w (rows.length+new.length) rows.length e;have uY:=grownCap_le_maxLen w (rows.length+new.length) rows.length e k2
      have yC:RowsIn (kind≠0) w ρ S.heap s' (rows++new) ((flat rows.length s' f').toArray++news.toArray++Builtin.zeroCells zv.cells (grownCap w (rows.length+new.length) rows.length e-(rows.length+new.length))):=by
        refine Nl (olds:=flat rows.length s' f') (news:=news) rfl hz' yI (fun i' r' j d hi' hj=>?_) (Pn _ _ _) hnr (fun q u hq=>?_)
        · have yP : j < s' := by rw [← hz' r' (Lm hi')]; exact lt_of_some hj
          have vP:=(hc' i' r' j d hi' hj).2.2;exact⟨Mx vP,fun _=>vP,_,flat_get (lt_of_some hi') yP,hv' i' r' j d hi' hj⟩
        have uM:=lt_of_some hq;rw[Array.getElem?_append_left (by simpa using uM)];simpa using hq
      have wC:((flat rows.length s' f').toArray++news.toArray++Builtin.zeroCells zv.cells (grownCap w (rows.length+new.length) rows.length e-(rows.length+new.length))).size=grownCap w (rows.length+new.length) rows.length e*s':=by
        simp only[Array.size_append,List.size_toArray,size_zeroCells,hzs,uD,Pn,←Nat.add_mul];congr 1;omega
      refine⟨_,_,xu,_,J4 (ob:=⟨e,s',rows++new,0,kind,true⟩) hr xD h0 ⟨_,wC,by simpa using yK,uY,by simp⟩ yC.1 hk (fun i' r' j d hi' hj=>?_),Fh hr xD,?_,by simp⟩
      · obtain ⟨q1, q2, q3⟩ := yC.2 i' r' j d hi' hj;exact⟨q1,q2,q3⟩
      refine .msl _ 0 0 _ none _ _ ⟨e,s',rows++new,0,kind,true⟩ yK (fun k hk=>by cases hk) (by simp[newAt]) (Nat.le_refl _) (by rcases hk with rfl | rfl | rfl<;>simp) fun _=>⟨w.heap.size,by simp[upd],by simp,fun _=>by simp,fun _=>⟨_,xD.new,by simpa using wC⟩⟩
    simp at h
  · -- onto rows of the heap
    rename_i g ver lo n' cap
    cases hs with
    | msl _ _ _ _ _ A' c' ob qJ uZ hg yV xK xI =>
    unfold rowsOf at h;simp only[hg]at h;by_cases hv:ob.ver=ver
    · subst hv;simp only[if_true]at h;split at h
      · rename_i xY;obtain⟨yH,rfl,rfl,rfl,rfl,yO,hby⟩:=xY;simp only[Oi,Pi_]at h;obtain⟨rfl,rfl,rfl⟩:=h;obtain⟨hkf,hkf'⟩:=kA_ok yO;obtain⟨b0,hρ,xU,hA',rP⟩:=xI rfl;have rZ:=hA' (.inr rfl);simp only[Nat.zero_mul]at rZ;subst rZ;obtain⟨o1,xG,cur,hc,hz,⟨cc,yB,yw,uY,vQ⟩,hl,hkk',hh⟩:=hr.cel hρ hg xK;rw[hg]at xG;injection xG with xG;subst xG;obtain⟨cur1,y8,w9⟩:=rP rfl;rw[hc]at y8;injection y8 with y8;injection y8 with y8;subst y8
        have hcc':c'=cc:=by
          rw[yB,Nat.zero_add]at w9;exact (Nat.eq_of_mul_eq_mul_right hz w9).symm
        subst hcc';obtain⟨k1,k2⟩:=hm63 _ hby
        have uJ:∀i r j d,ob.rows[i]?=some r→r[j]?=some d→d.Xv=true∧(kind≠0→d.free=true)∧∃v,(cur.toList.take (ob.rows.length*n))[i*n+j]?=some v∧VR w ρ S.heap d v:=by
          intro i' r' j d hi' hj;obtain⟨q1,q2,v,q3,q4⟩:=hh i' r' j d hi' hj;have yP:j<ob.sz:=by rw[←hl r' (Lm hi')];exact lt_of_some hj
          refine⟨q1,fun h=>q2 (hkf' h),v,?_,q4⟩;rw[←yH,List.getElem?_take,if_pos (row_in (lt_of_some hi') yP)];simpa using q3
        have zQ:(cur.toList.take (ob.rows.length*n)).length=ob.rows.length*n:=by
          rw[List.length_take,Array.length_toList,yB,yH];exact Nat.min_eq_left (Nat.mul_le_mul_right _ yw)
        have hprefix:∀q,q<ob.rows.length*n→(cur.toList.take (ob.rows.length*n))[q]?=cur[q]?:=fun q hq=>by
          rw[List.getElem?_take,if_pos hq];simp
        have wu:∀r∈ob.rows,r.length=n:=fun r hr'=>by rw[←yH];exact hl r hr'
        by_cases he:new=[]
        · subst he;have xL:Xy w w b0 (.cells cur ob.elem (0,0)):=⟨rfl,rfl,rfl,rfl,hc,fun _ _=>rfl⟩;have wG:({ ob with rows:=ob.rows++[],ver:=ob.ver+1,grow:=true }:Xh).sz=ob.sz∧({ ob with rows:=ob.rows++[],ver:=ob.ver+1,grow:=true }:Xh).elem=ob.elem∧({ ob with rows:=ob.rows++[],ver:=ob.ver+1,grow:=true }:Xh).kind=ob.kind∧ob.rows.length≤({ ob with rows:=ob.rows++[],ver:=ob.ver+1,grow:=true }:Xh).rows.length∧ob.ver≤({ ob with rows:=ob.rows++[],ver:=ob.ver+1,grow:=true }:Xh).ver:=⟨rfl,rfl,rfl,by simp,by simp⟩;refine⟨_,w,yE rfl _ _ _ qJ,ρ,Nn xK hr hρ hg hc xL rfl wG (fun _ _ _=>rfl) ⟨c',yB,by simpa using yw,uY,by simp⟩ (by simpa using hl) (by simpa using hh),La hr hρ hg hc xL rfl wG (fun _ _ _=>rfl),?_,by simp⟩;refine .msl g _ 0 _ none _ _ { ob with rows:=ob.rows++[],ver:=ob.ver+1,grow:=true } (by simpa using qJ) (fun k hk=>by cases hk) (by simp[setAt,lt_of_some hg]) (Nat.le_refl _) xK fun _=>⟨b0,hρ,by simp,fun _=>by simp,fun _=>⟨cur,hc,w9⟩⟩
        obtain⟨news,uD,uE,hnr,hNil,qA,uI⟩:=uQ he;have yY:0<new.length:=List.length_pos_iff.2 he;by_cases wL:ob.rows.length+new.length≤c'
        · have xW : ob.rows.length * n + news.length ≤ cur.size := by rw [uD, yB, yH, ← Nat.add_mul]; exact Nat.mul_le_mul_right _ wL
          have xu:=uI b0 ob.rows.length c' cur hc wL (by rw[xC];exact xW);rw[xC]at xu;have xL:=Xy.setRow (cs:=(cur.toList.take (ob.rows.length*n)++news++cur.toList.drop (ob.rows.length*n+news.length)).toArray) hc
          have yu:∀q:Nat,(cur.toList.take (ob.rows.length*n)++news++cur.toList.drop (ob.rows.length*n+news.length)).toArray[q]?=if ob.rows.length*n≤q∧q<ob.rows.length*n+news.length then news[q-ob.rows.length*n]? else cur[q]?:=by
            intro q;have:=Nh (cur:=cur.toList) (vs:=news) (o:=ob.rows.length*n) (by simpa using xW) q;simpa using this
          have yj:(cur.toList.take (ob.rows.length*n)++news++cur.toList.drop (ob.rows.length*n+news.length)).toArray.size=cur.size:=by
            simp only[List.size_toArray,Ll_,List.length_take,List.length_drop,Array.length_toList];omega
          generalize (cur.toList.take (ob.rows.length*n)++news++cur.toList.drop (ob.rows.length*n+news.length)).toArray=cur' at xL yu yj xu
          have yC:RowsIn (kind≠0) w ρ S.heap n (ob.rows++new) cur':=by
            refine Nl rfl wu yI uJ zQ hnr (fun q u hq=>?_);by_cases hq1:q<ob.rows.length*n
            · rw [La_ (by omega), hprefix q hq1] at hq;rw[yu,if_neg (by omega)];exact hq
            rw[Lr_ (by omega),zQ]at hq;rw[yu,if_pos ⟨by omega,by have:=lt_of_some hq;omega⟩];exact hq
          have wG:({ ob with rows:=ob.rows++new,ver:=ob.ver+1,grow:=true }:Xh).sz=ob.sz∧({ ob with rows:=ob.rows++new,ver:=ob.ver+1,grow:=true }:Xh).elem=ob.elem∧({ ob with rows:=ob.rows++new,ver:=ob.ver+1,grow:=true }:Xh).kind=ob.kind∧ob.rows.length≤({ ob with rows:=ob.rows++new,ver:=ob.ver+1,grow:=true }:Xh).rows.length∧ob.ver≤({ ob with rows:=ob.rows++new,ver:=ob.ver+1,grow:=true }:Xh).ver:=⟨rfl,rfl,rfl,by simp,by simp⟩;have uK:ob.kind=1→∀q,q<ob.rows.length*ob.sz→cur'[q]?=cur[q]?:=fun _ q hq=>by rw[yu,if_neg (by rw[yH]at hq;omega)]
          refine⟨_,_,xu,ρ,Nn xK hr hρ hg hc xL yj wG uK ⟨c',by rw[yj];exact yB,by simpa using wL,uY,by simp⟩ (by simpa [yH] using yC.1) (fun i' r' j d hi' hj=>?_),La hr hρ hg hc xL yj wG uK,?_,by simp⟩
          · obtain ⟨q1, q2, q3⟩ := yC.2 i' r' j d hi' hj;exact⟨q1,fun h=>q2 (hkf h),by simpa [yH] using q3⟩
          refine .msl g _ 0 _ none _ _ { ob with rows:=ob.rows++new,ver:=ob.ver+1,grow:=true } wL (fun k hk=>by cases hk) (by simp[setAt,lt_of_some hg]) (Nat.le_refl _) xK fun _=>⟨b0,hρ,by simp,fun _=>by simp,fun _=>⟨cur',xL.new,by rw[yj];exact w9⟩⟩
        have holds:∀(q:Nat) (u:Value),(cur.toList.take (ob.rows.length*n))[q]?=some u→w.cell? ((⟨b0,0,none⟩:Addr).add q)=some u:=by
          intro q u hq;have uM:=lt_of_some hq;rw[zQ]at uM;rw[hprefix q uM]at hq;rw[add_plain,Nat.zero_add,cell_of_row w b0 q cur ob.elem (0,0) hc];exact hq
        have xu:=qA ⟨b0,0,none⟩ ob.rows.length c' (cur.toList.take (ob.rows.length*n)) (by rw[zQ,xC]) holds (by omega) (by omega) (growslice_fits (by omega) hby);have xD:=Xx.drewAlloc w (.cells ((cur.toList.take (ob.rows.length*n)).toArray++news.toArray++Builtin.zeroCells zv.cells (grownCap w (ob.rows.length+new.length) c' ob.elem-(ob.rows.length+new.length))) ob.elem);have yK:=grownCap_ge w (ob.rows.length+new.length) c' ob.elem;have hcm':=grownCap_le_maxLen w (ob.rows.length+new.length) c' ob.elem k2
        have wC:((cur.toList.take (ob.rows.length*n)).toArray++news.toArray++Builtin.zeroCells zv.cells (grownCap w (ob.rows.length+new.length) c' ob.elem-(ob.rows.length+new.length))).size=grownCap w (ob.rows.length+new.length) c' ob.elem*n:=by
          simp only[Array.size_append,List.size_toArray,size_zeroCells,hzs,uD,zQ,←Nat.add_mul];congr 1;omega
        have yC:RowsIn (kind≠0) w ρ S.heap n (ob.rows++new) ((cur.toList.take (ob.rows.length*n)).toArray++news.toArray++Builtin.zeroCells zv.cells (grownCap w (ob.rows.length+new.length) c' ob.elem-(ob.rows.length+new.length))):=by
          refine Nl rfl wu yI uJ zQ hnr (fun q u hq=>?_);have uM:=lt_of_some hq;rw[Array.getElem?_append_left (by simpa using uM)];simpa using hq
        generalize ((cur.toList.take (ob.rows.length*n)).toArray++news.toArray++Builtin.zeroCells zv.cells (grownCap w (ob.rows.length+new.length) c' ob.elem-(ob.rows.length+new.length)))=cur' at xD yC wC xu;refine⟨_,_,xu,_,rel_move (o':={ ob with rows:=ob.rows++new,ver:=ob.ver+1,grow:=true }) hr hρ hg xD (by simp) rfl (by simpa [yH] using h0) hkk' ⟨_,by rw[wC,←yH],by simpa using yK,hcm',by simp⟩ (by simpa [yH] using yC.1) (fun i' r' j d hi' hj=>?_),stp_move (o':={ ob with rows:=ob.rows++new,ver:=ob.ver+1,grow:=true }) hr hρ hg xD (by simp) rfl xK,?_,by simp⟩
        · obtain ⟨q1, q2, q3⟩ := yC.2 i' r' j d hi' hj;exact⟨q1,fun h=>q2 (hkf h),by simpa [yH] using q3⟩
        refine .msl g _ 0 _ none _ _ { ob with rows:=ob.rows++new,ver:=ob.ver+1,grow:=true } yK (fun k hk=>by cases hk) (by simp[setAt,lt_of_some hg]) (Nat.le_refl _) xK fun _=>⟨w.heap.size,by simp[upd],by simp,fun _=>by simp,fun _=>⟨cur',xD.new,by rw[wC,yH];simp⟩⟩
      split at h
      · rename_i xY;obtain⟨yH,hel,rfl,rfl,yO,hin'⟩:=xY;simp only[Oi,Pi_]at h;obtain⟨rfl,rfl,rfl⟩:=h
        exact append_over hr xC qJ hg xK (xI rfl) yH hel yO hin' yI yE (fun he=>by
          obtain⟨news,uD,_,hnr,_,_,uI⟩:=uQ he
          exact⟨news,uD,hnr,uI⟩)
      split at h
      · rename_i xY;obtain⟨yH,rfl,rfl,yO,hby⟩:=xY;obtain⟨hkf,hkf'⟩:=kA_ok yO;have yB:=uZ _ rfl;subst yB;obtain⟨b0,hρ,xU,hA',_⟩:=xI rfl;obtain⟨o1,xG,cur,hc,hz,⟨cc,yB,yw,uY,vQ⟩,hl,hkk',hh⟩:=hr.cel hρ hg xK;rw[hg]at xG;injection xG with xG;subst xG;split at h
        · rename_i he;simp only[Oi,Pi_]at h;obtain⟨rfl,rfl,rfl⟩:=h;have he:new=[]:=by simpa using he
          subst he;exact⟨_,w,yE rfl _ _ _ (Nat.le_refl _),Xu.pure hr (.msl _ _ _ _ _ A' c' ob (Nat.le_refl _) uZ hg (Nat.le_refl _) xK xI)⟩
        rename_i he;have he:new≠[]:=by simpa using he
        simp only[Oi,Pi_]at h;obtain⟨rfl,rfl,rfl⟩:=h;obtain⟨news,uD,uE,hnr,hNil,qA,uI⟩:=uQ he;have yY:0<new.length:=List.length_pos_iff.2 he;obtain⟨k1,k2⟩:=hm63 _ hby;have wu:∀r∈(ob.rows.drop lo).take c',r.length=n:=fun r hr'=>by rw[←yH];exact hl r (Eb hr')
        have xE:((ob.rows.drop lo).take c').length=c':=by simp;omega
        have qI:((cur.toList.drop (lo*n)).take (c'*n)).length=c'*n:=by
          rw[List.length_take,List.length_drop,Array.length_toList,yB,yH,←Nat.sub_mul];exact Nat.min_eq_left (Nat.mul_le_mul_right _ (by omega))
        have yu:∀q,q<c'*n→((cur.toList.drop (lo*n)).take (c'*n))[q]?=cur[lo*n+q]?:=fun q hq=>by
          rw[List.getElem?_take,if_pos hq,List.getElem?_drop];simp
        have uJ:∀i r j d,((ob.rows.drop lo).take c')[i]?=some r→r[j]?=some d→d.Xv=true∧(kind≠0→d.free=true)∧∃v,((cur.toList.drop (lo*n)).take (c'*n))[i*n+j]?=some v∧VR w ρ S.heap d v:=by
          intro i' r' j d hi' hj;obtain⟨p1,p2⟩:=Cz hi';obtain⟨q1,q2,v,q3,q4⟩:=hh _ r' j d p1 hj;have yP:j<n:=by rw[←wu r' (Lm hi')];exact lt_of_some hj
          refine⟨q1,fun h=>q2 (hkf' h),v,?_,q4⟩;rw[yu _ (row_in p2 yP),←q3,yH];congr 1;rw[Nat.add_mul,Nat.add_assoc]
        have holds:∀(q:Nat) (u:Value),((cur.toList.drop (lo*n)).take (c'*n))[q]?=some u→w.cell? (A'.add q)=some u:=by
          intro q u hq;have uM:=lt_of_some hq;rw[qI]at uM;rw[yu q uM]at hq;have hn0:c'≠0:=by rintro rfl;simp at uM
          rw[hA' (.inl hn0),add_plain,cell_of_row w b0 _ cur ob.elem (0,0) hc,yH];exact hq
        have xu:=qA A' c' c' ((cur.toList.drop (lo*n)).take (c'*n)) (by rw[qI,xC]) holds (by omega) (by omega) (growslice_fits (by omega) hby);have xD:=Xx.drewAlloc w (.cells (((cur.toList.drop (lo*n)).take (c'*n)).toArray++news.toArray++Builtin.zeroCells zv.cells (grownCap w (c'+new.length) c' ob.elem-(c'+new.length))) ob.elem);have yK:=grownCap_ge w (c'+new.length) c' ob.elem;have hcm':=grownCap_le_maxLen w (c'+new.length) c' ob.elem k2
        have wC:(((cur.toList.drop (lo*n)).take (c'*n)).toArray++news.toArray++Builtin.zeroCells zv.cells (grownCap w (c'+new.length) c' ob.elem-(c'+new.length))).size=grownCap w (c'+new.length) c' ob.elem*n:=by
          simp only[Array.size_append,List.size_toArray,size_zeroCells,hzs,uD,qI,←Nat.add_mul];congr 1;omega
        have yC:RowsIn (kind≠0) w ρ S.heap n ((ob.rows.drop lo).take c'++new) (((cur.toList.drop (lo*n)).take (c'*n)).toArray++news.toArray++Builtin.zeroCells zv.cells (grownCap w (c'+new.length) c' ob.elem-(c'+new.length))):=by
          refine Nl xE.symm wu yI uJ qI hnr (fun q u hq=>?_);have uM:=lt_of_some hq;rw[Array.getElem?_append_left (by simpa using uM)];simpa using hq
        refine⟨_,_,xu,_,J4 (ob:=⟨ob.elem,n,(ob.rows.drop lo).take c'++new,0,kind,true⟩) hr xD h0 ⟨_,wC,by simp only[Ll_,xE];exact yK,hcm',by simp⟩ yC.1 hk (fun i' r' j d hi' hj=>?_),Fh hr xD,?_,by simp⟩
        · obtain ⟨q1, q2, q3⟩ := yC.2 i' r' j d hi' hj;exact⟨q1,q2,q3⟩
        refine .msl _ 0 0 _ none _ _ ⟨ob.elem,n,(ob.rows.drop lo).take c'++new,0,kind,true⟩ yK (fun k hk=>by cases hk) (by simp[newAt]) (Nat.le_refl _) (by rcases hk with rfl | rfl | rfl<;>simp) fun _=>⟨w.heap.size,by simp[upd],by simp only[Ll_,xE];omega,fun _=>by simp,fun _=>⟨_,xD.new,by simpa using wC⟩⟩
      simp at h
    simp[hv]at h
  simp at h
theorem append_ok{t ty e:TypeId}{i:TypeInfo}{n kind:Nat}{z:List D}{s x r:D}{vs vx:Value}{S':St}{wr:Bool}(hr:Rel w ρ S.heap)(ht:P.underlying t=some (.slice e))(hi:P.info? e=some i)(hn:Cj P e=some n)(hz:H8 P e=some z)(vT:z.length=n)(hb:0<i.bytes)(hk:kind=0∨kind=1∨kind=2)
    (hs:VR w ρ S.heap s vs) (hx:VR w ρ S.heap x vx) (h:Bo e n i.bytes kind s x S=some (r,S',wr)) :
    ∃v w',(Builtin.append_ #[t,t] ty #[vs,vx]).run P w=.ok v w'∧Xu w ρ S r S' wr v w':=by
  obtain⟨i1,zv,wO,wQ,hzc,_,_⟩:=Gd (w:=w) (ρ:=ρ) (H:=S.heap) hz;rw[hi]at wO;injection wO with wO;subst wO;obtain⟨i2,d2,zD,hd2,xC,h0⟩:=Cm hn;rw[hi]at zD;injection zD with zD;subst zD;unfold Bo at h;change (match readK kind S n x with | none=>none | some new=>Av e n i.bytes kind s new S)=_ at h
  cases hnew:readK kind S n x with
  | none=>simp[hnew]at h
  | some new =>
    simp only[hnew]at h;obtain⟨A,c,rfl,yI,qD⟩:=srcK_ok hr hx hnew;refine Wl hr hi hn hzc vT hb hk hs yI ?_ ?_ h
    · rintro rfl A' m c' hm;exact appNone ht hi hm
    intro xA;obtain⟨b,o,f,rfl,hf⟩:=qD xA
    have vH:∀(q:Nat) (u:Value),(flat new.length n f)[q]?=some u→∃(r:List D) (d:D),new[q / n]?=some r∧r[q % n]?=some d∧u=f (q / n) (q % n)∧q=q / n*n+q % n:=by
      intro q u hq;obtain⟨h1,h2,h3,h4⟩:=flat_back h0 hq;have hr1:=yI _ (List.getElem_mem h1);exact⟨new[q / n],(new[q / n])[q % n]'(by rw[hr1];exact h2),Lg h1,Lg _,h3,h4⟩
    have uD:(flat new.length n f).length=new.length*n:=Pn _ _ _
    have xV:∀j u,(flat new.length n f)[j]?=some u→w.cell? ((⟨b,o,none⟩:Addr).add j)=some u:=fun j u hj=>by
      obtain⟨r,d,h1,h2,h3,h4⟩:=vH j u hj;rw[add_plain,h3];have:=(hf _ r _ d h1 h2).1;rw[Nat.add_assoc,←h4]at this;exact this
    have uE:∀u∈flat new.length n f,u.oneCell'=true:=fun u hu=>by
      obtain⟨q,hq,rfl⟩:=List.mem_iff_getElem.1 hu;obtain⟨r,d,h1,h2,h3,h4⟩:=vH q _ (Lg hq);rw[h3];exact ((hf _ r _ d h1 h2).2.1.oneCell (hf _ r _ d h1 h2).2.2.1).1
    refine⟨flat new.length n f,uD,uE,fun i r j d hi' hj=>?_,fun yY k1 k2=>?_,fun bb sLen sCap olds xU holds hg k1 k2=>?_,fun g sLen sCap cur hg wL xW=>?_⟩
    · obtain ⟨h1, h2, h3, h4⟩ := hf i r j d hi' hj;have yP:j<n:=by rw[←yI r (Lm hi')];exact lt_of_some hj
      exact⟨h3,h4,_,flat_get (lt_of_some hi') yP,h2⟩
    · exact run_append_nil (P:=P) w t ty e i zv ht hi wQ ⟨b,o,none⟩ new.length c _ (by rw[xC];exact uD) xV yY k1 k2
    · exact run_append_grow (P:=P) w t ty e i zv ht hi wQ bb sLen sCap olds xU holds ⟨b,o,none⟩ new.length c _ (by rw[xC];exact uD) xV hg k1 k2
    exact run_append_room (P:=P) w t ty e i ht hi g sLen sCap cur hg ⟨b,o,none⟩ new.length c _ (by rw[xC];exact uD) xV uE wL xW
end
open Go.RowKit
section
variable {P:Program} {w:World} {ρ:Xn} {S:St}
def nilV:Nat→Value
 | 0=>.slice none 0 0
 | 1=>.pointer none
 | 2=>.nilFunc
 | 3=>.map none
 | _=>.nilIface
def someV:Nat→Value→Prop
 | 0,v=>∃a n c,v=.slice (some a) n c
 | 1,v=>∃a,v=.pointer (some a)
 | 2,v=>∃f a b,v=.func f a b
 | 3,v=>∃r,v=.map (some r)
 | _,v=>∃t x,v=.iface t x
theorem nil_true{H:List Xh}{d:D}{v:Value}{fam:Nat}(h:VR w ρ H d v)(hn:isNil fam d=some true):v=nilV fam∧fam≤4:=by
 unfold isNil at hn;split at hn
 all_goals first
  | (simp at hn;done)
  | (cases h;exact⟨rfl,by omega⟩)
theorem nil_false{H:List Xh}{d:D}{v:Value}{fam:Nat}(h:VR w ρ H d v)(hn:isNil fam d=some false):someV fam v∧fam≤4:=by
 unfold isNil at hn;split at hn
 all_goals first
  | (simp at hn;done)
  | (cases h<;>exact⟨⟨_,_,_,rfl⟩,by omega⟩)
  | (cases h<;>exact⟨⟨_,rfl⟩,by omega⟩)
  | (cases h<;>exact⟨⟨_,_,rfl⟩,by omega⟩)
theorem nilT_desc{t:TypeId}{fam:Nat}(ht:nilT P t=some fam):(fam=0∧∃e,P.underlying t=some (.slice e))∨(fam=1∧∃e,P.underlying t=some (.pointer e))∨(fam=2∧∃a b c,P.underlying t=some (.func a b c))∨(fam=3∧∃a b,P.underlying t=some (.map a b))∨(fam=4∧∃m,P.underlying t=some (.interface m)):=by
 unfold nilT at ht;split at ht<;>simp only[Oi,reduceCtorEq]at ht
 ·
  rename_i e hu;exact .inl ⟨ht.symm,_,hu⟩
 ·
  rename_i e hu;exact .inr (.inl ⟨ht.symm,_,hu⟩)
 ·
  rename_i a b c hu;exact .inr (.inr (.inl ⟨ht.symm,_,_,_,hu⟩))
 ·
  rename_i a b hu;exact .inr (.inr (.inr (.inl ⟨ht.symm,_,_,hu⟩)))
 rename_i m hu;exact .inr (.inr (.inr (.inr ⟨ht.symm,_,hu⟩)))
theorem eqnil_ok {H : List Xh} {d1 d2 : D} {v1 v2 : Value} {t : TypeId} {b : Bool} {fam : Nat} {op : BinOp} {x y : Operand} (ho : op = .eql ∨ op = .neq) (ht : nilT P t = some fam) (hf1 : fam ≠ 1) (hcon : fam = 4 → isConst x = true ∨ isConst y = true) (h1 : VR w ρ H d1 v1) (h2 : VR w ρ H d2 v2) (h : N9 fam d1 d2 = some b) :
    ∃v,(do eqGuard op t x y v1 v2;binOp op t v1 v2).run P w=.ok v w∧VR w ρ H (.bool (b != decide (op=.neq))) v:=by
  have key:(∀d:Nat,(Op.equalIn (d+1) t v1 v2).run P w=.ok b w)→(eqGuard op t x y v1 v2).run P w=.ok () w→(op=.eql→binOp op t v1 v2=(do pure (.bool (←Op.equal t v1 v2))))→(op=.neq→binOp op t v1 v2=(do pure (.bool (!(←Op.equal t v1 v2))))) →
      ∃v,(do eqGuard op t x y v1 v2;binOp op t v1 v2).run P w=.ok v w∧VR w ρ H (.bool (b != decide (op=.neq))) v:=by
    intro he hg hb1 hb2;have hq:(Op.equal t v1 v2).run P w=.ok b w:=he 9999;rcases ho with rfl | rfl
    · exact⟨.bool b,by rw[Ab hg,hb1 rfl,Ab hq];rfl,by cases b<;>exact .bool _⟩
    exact⟨.bool !b,by rw[Ab hg,hb2 rfl,Ab hq];rfl,by cases b<;>exact .bool _⟩
  have hcon':fam=4→(eqGuard op t x y .nilIface .nilIface).run P w=.ok () w:=by
    intro hf;rcases hcon hf with hc | hc
    · cases x <;> simp [isConst] at hc;rcases ho with rfl | rfl<;>simp[eqGuard]
    cases y<;>simp[isConst]at hc;rcases ho with rfl | rfl<;>simp[eqGuard]
  have fin:∀{u1 u2:Value},v1=u1→v2=u2→(∀d:Nat,(Op.equalIn (d+1) t u1 u2).run P w=.ok b w)→(eqGuard op t x y u1 u2).run P w=.ok () w→(op=.eql→binOp op t u1 u2=(do pure (.bool (←Op.equal t u1 u2))))→(op=.neq→binOp op t u1 u2=(do pure (.bool (!(←Op.equal t u1 u2))))) →
      ∃v,(do eqGuard op t x y v1 v2;binOp op t v1 v2).run P w=.ok v w∧VR w ρ H (.bool (b != decide (op=.neq))) v:=by
    rintro u1 u2 rfl rfl;exact key
  have xw:=nilT_desc ht;unfold N9 at h;split at h
  · rename_i b' uE qy;simp only[Oi]at h;subst h;obtain⟨e1,_⟩:=nil_true h1 uE
    cases b' with
    | true =>
      obtain⟨e2,_⟩:=nil_true h2 qy;rcases xw with⟨rfl,e,hu⟩ | ⟨rfl,e,hu⟩ | ⟨rfl,a,b,c,hu⟩ | ⟨rfl,a,b,hu⟩ | ⟨rfl,m,hu⟩
      · exact fin e1 e2 (fun d=>by unfold Op.equalIn;rw[Ab (run_underlying hu w)];rfl) (by rcases ho with rfl | rfl<;>rfl) (by rintro rfl;rfl) (by rintro rfl;rfl)
      · exact absurd rfl hf1
      · exact fin e1 e2 (fun d=>by unfold Op.equalIn;rw[Ab (run_underlying hu w)];rfl) (by rcases ho with rfl | rfl<;>rfl) (by rintro rfl;rfl) (by rintro rfl;rfl)
      · exact fin e1 e2 (fun d=>by unfold Op.equalIn;rw[Ab (run_underlying hu w)];rfl) (by rcases ho with rfl | rfl<;>rfl) (by rintro rfl;rfl) (by rintro rfl;rfl)
      have hc:=hcon' rfl;exact fin e1 e2 (fun d=>by unfold Op.equalIn;rw[Ab (run_underlying hu w)];rfl) hc (by rintro rfl;rfl) (by rintro rfl;rfl)
    | false =>
      obtain⟨e2,_⟩:=nil_false h2 qy;rcases xw with⟨rfl,e,hu⟩ | ⟨rfl,e,hu⟩ | ⟨rfl,a,b,c,hu⟩ | ⟨rfl,a,b,hu⟩ | ⟨rfl,m,hu⟩
      · obtain ⟨p, q, r, e2⟩ := e2;exact fin e1 e2 (fun d=>by unfold Op.equalIn;rw[Ab (run_underlying hu w)];rfl) (by rcases ho with rfl | rfl<;>rfl) (by rintro rfl;rfl) (by rintro rfl;rfl)
      · exact absurd rfl hf1
      · obtain ⟨p, q, r, e2⟩ := e2;exact fin e1 e2 (fun d=>by unfold Op.equalIn;rw[Ab (run_underlying hu w)];rfl) (by rcases ho with rfl | rfl<;>rfl) (by rintro rfl;rfl) (by rintro rfl;rfl)
      · obtain ⟨p, e2⟩ := e2;exact fin e1 e2 (fun d=>by unfold Op.equalIn;rw[Ab (run_underlying hu w)];rfl) (by rcases ho with rfl | rfl<;>rfl) (by rintro rfl;rfl) (by rintro rfl;rfl)
      obtain⟨p,q,e2⟩:=e2;exact fin e1 e2 (fun d=>by unfold Op.equalIn;rw[Ab (run_underlying hu w)];rfl) (by rcases ho with rfl | rfl<;>rfl) (by rintro rfl;rfl) (by rintro rfl;rfl)
  · rename_i uE qy;simp only[Oi]at h;subst h;obtain⟨e1,_⟩:=nil_false h1 uE;obtain⟨e2,_⟩:=nil_true h2 qy;rcases xw with⟨rfl,e,hu⟩ | ⟨rfl,e,hu⟩ | ⟨rfl,a,b,c,hu⟩ | ⟨rfl,a,b,hu⟩ | ⟨rfl,m,hu⟩
    · obtain ⟨p, q, r, e1⟩ := e1;exact fin e1 e2 (fun d=>by unfold Op.equalIn;rw[Ab (run_underlying hu w)];rfl) (by rcases ho with rfl | rfl<;>rfl) (by rintro rfl;rfl) (by rintro rfl;rfl)
    · exact absurd rfl hf1
    · obtain ⟨p, q, r, e1⟩ := e1;exact fin e1 e2 (fun d=>by unfold Op.equalIn;rw[Ab (run_underlying hu w)];rfl) (by rcases ho with rfl | rfl<;>rfl) (by rintro rfl;rfl) (by rintro rfl;rfl)
    · obtain ⟨p, e1⟩ := e1;exact fin e1 e2 (fun d=>by unfold Op.equalIn;rw[Ab (run_underlying hu w)];rfl) (by rcases ho with rfl | rfl<;>rfl) (by rintro rfl;rfl) (by rintro rfl;rfl)
    obtain⟨p,q,e1⟩:=e1;exact fin e1 e2 (fun d=>by unfold Op.equalIn;rw[Ab (run_underlying hu w)];rfl) (by rcases ho with rfl | rfl<;>rfl) (by rintro rfl;rfl) (by rintro rfl;rfl)
  simp at h
theorem mkslice_ok{t e:TypeId}{i:TypeInfo}{n kind:Nat}{z:List D}{kl kc:IntKind}{l c:Int}{r:D}{S':St}{wr:Bool}(hr:Rel w ρ S.heap)(ht:P.underlying t=some (.slice e))(hi:P.info? e=some i)(hn:Cj P e=some n)(hz:H8 P e=some z)(vT:z.length=n)(hb:0<i.bytes)(hk:kind=0∨kind=1∨kind=2)
    (h:(if 0≤l∧l≤c∧c.toNat*i.bytes≤140737488355328 then some (D.msl S.heap.length 0 0 l.toNat none,newAt S ⟨e,n,List.replicate l.toNat z,0,kind,decide (l≠c)⟩,true) else none)=some (r,S',wr)) :
    ∃v w',(Instr.makeSlice t (.int kl l) (.int kc c)).run P w=.ok v w'∧Xu w ρ S r S' wr v w':=by
  obtain⟨i1,zv,wO,wQ,hzc,xw,yL⟩:=Gd (w:=w) (ρ:=ρ) (H:=S.heap) hz;rw[hi]at wO;injection wO with wO;subst wO;obtain⟨i2,d2,zD,hd2,xC,h0⟩:=Cm hn;rw[hi]at zD;injection zD with zD;subst zD;split at h
  · rename_i hc;obtain⟨zG,vN,hby⟩:=hc;simp only[Oi,Pi_]at h;obtain⟨rfl,rfl,rfl⟩:=h;have h1:c.toNat*1≤c.toNat*i.bytes:=Nat.mul_le_mul_left _ hb
    have hb48:(i.bytes:Int)*c≤281474976710656:=by
      have h2:((c.toNat*i.bytes:Nat):Int)≤140737488355328:=Int.ofNat_le.2 hby;rw[Int.natCast_mul,Int.toNat_of_nonneg (by omega),Int.mul_comm]at h2;omega
    have xu:=run_make (P:=P) w t e i zv ht hi wQ kl kc l c zG vN hb48 (by omega);have xD:=Xx.alloc w (.cells (madeCells zv.cells (c.toNat*i.size)) e);rw[xC]at xu xD;subst vT;have wC:(madeCells zv.cells (c.toNat*z.length)).size=c.toNat*z.length:=size_madeCells _ _;have yC:=RowsIn.replicate (kk:=True) hzc xw yL c.toNat h0
    have hrep:∀(j:Nat) (r:List D),(List.replicate l.toNat z)[j]?=some r→(List.replicate c.toNat z)[j]?=some r:=by
      intro j r hj;have yP:=lt_of_some hj;rw[List.length_replicate]at yP;have:r=z:=List.eq_of_mem_replicate (Lm hj);subst this;rw[List.getElem?_replicate,if_pos (by omega)]
    refine⟨_,_,xu,_,J4 (ob:=⟨e,z.length,List.replicate l.toNat z,0,kind,decide (l≠c)⟩) hr xD h0 ⟨c.toNat,wC,by simp;omega,by simp only[maxLen];omega,fun hg=>?_⟩ (fun r hr'=>by rw[List.eq_of_mem_replicate hr']) hk (fun i' r' j d hi' hj=>?_),Fh hr xD,?_,by simp⟩
    · have : l = c := by simpa using hg
      simp[this]
    · obtain ⟨q1, q2, q3⟩ := yC.2 i' r' j d (hrep _ _ hi') hj;exact⟨q1,fun _=>q2 trivial,q3⟩
    refine .msl _ 0 0 _ none _ _ ⟨e,z.length,List.replicate l.toNat z,0,kind,decide (l≠c)⟩ (by omega) (fun k hk=>by cases hk) (by simp[newAt]) (Nat.le_refl _) (by rcases hk with rfl | rfl | rfl<;>simp) fun _=>⟨w.heap.size,by simp[upd],by simp,fun _=>by simp,fun _=>⟨_,xD.new,by simpa using wC⟩⟩
  simp at h
theorem foldl_push(ns:List Int):∀r:ByteArray,ns.foldl (fun r n=>r.push (UInt8.ofNat n.toNat)) r=⟨r.data++(ns.map fun n=>UInt8.ofNat n.toNat).toArray⟩:=by
 induction ns with
 | nil=>intro r;simp
 | cons n ns ih =>
  intro r;rw[List.foldl_cons,ih];simp[ByteArray.push]
theorem Tt:∀{rows:List (List D)} {b:List UInt8},bytesOf rows=some b→∃ns:List Int,rows=ns.map (fun n=>[D.int .u8 n])∧b=ns.map fun n=>UInt8.ofNat n.toNat
  | [],b,h=>by simp only[bytesOf,Oi]at h;subst h;exact⟨[],rfl,rfl⟩
  | r :: rows, b, h => by
    unfold bytesOf at h;split at h
    · simp at *
    · rename_i n l rM;simp only[List.cons.injEq]at rM;obtain⟨rfl,rfl⟩:=rM;simp only[Om]at h;obtain⟨b',hb',rfl⟩:=h;obtain⟨ns,h1,h2⟩:=Tt hb';exact⟨n::ns,by rw[h1];rfl,by rw[h2];rfl⟩
    simp at h
theorem bstr_ok{x:D}{v:Value}{rows:List (List D)}{b:List UInt8}{s d e:TypeId}(hr:Rel w ρ S.heap)(hs:P.underlying s=some (.slice e))(he:P.underlying e=some (.int .u8))(hd:P.underlying d=some .string)(hx:VR w ρ S.heap x v)(xE:Bw S 1 x=some rows)(hb:bytesOf rows=some b) :
    (convert s d v).run P w=.ok (.string ⟨b.toArray⟩) w:=by
  obtain⟨A,c,rfl,hl,qD⟩:=src_ok (kk:=True) hr hx xE;obtain⟨ns,rfl,rfl⟩:=Tt hb;rw[run_convert_bytes_string w s d e A _ c hs he hd];by_cases xA:ns=[]
  · subst xA
    cases A with
    | none=>simp[Conv.bytesToString];rfl
    | some a =>
      exact run_bytesToString (P:=P) w a 0 c [] (by simp[loadCells,loadCellsFrom])
  obtain⟨bb,o,f,rfl,hf⟩:=qD (by simpa using xA)
  have xk:∀j v,(ns.map (Value.int .u8))[j]?=some v→w.cell? ((⟨bb,o,none⟩:Addr).add j)=some v:=by
    intro j v hj;simp only[Lp_,Om]at hj;obtain⟨n,hn,rfl⟩:=hj;have xO:(ns.map fun n=>[D.int .u8 n])[j]?=some [D.int .u8 n]:=by simp[hn]
    obtain⟨h1,h2,_⟩:=hf j _ 0 (.int .u8 n) xO rfl;rw[Nat.mul_one,Nat.add_zero]at h1;generalize f j 0=u at h1 h2;cases h2;rw[add_plain];exact h1
  have hload:=run_loadCells_list (P:=P) w ⟨bb,o,none⟩ (ns.map (Value.int .u8)) xk;rw[List.length_map]at hload;have:=run_bytesToString (P:=P) w ⟨bb,o,none⟩ ns.length c ns hload;rw[List.length_map,this,foldl_push];simp[ByteArray.empty,ByteArray.emptyWithCapacity];rfl
theorem strb_ok {s : ByteArray} {ss d e : TypeId} (hr : Rel w ρ S.heap) (hs : P.underlying ss = some .string) (hd : P.underlying d = some (.slice e)) (he : P.underlying e = some (.int .u8)) :
    ∃v w',(convert ss d (.string s)).run P w=.ok v w'∧Xu w ρ S (.sl 1 (byteRows s) none) S false v w':=by
  obtain⟨cap,xB,yK⟩:∃cap,cap=(Question.appendCap s.size 0 e).cut (w.tape w.drawn (.appendCap s.size 0 e))∧s.size≤cap:=⟨_,rfl,by simp[Question.cut]⟩
  let cs:Array Value:=(s.data.map fun b=>(.int .u8 b.toNat:Value))++Array.replicate (cap-s.size) (.int .u8 0)
  have xu:(convert ss d (.string s)).run P w=.ok (.slice (some ⟨w.heap.size,0,none⟩) s.size cap) ((w.drew.alloc (.cells cs e)).freeze ⟨w.heap.size,cs.size,none⟩ 1):=by
    have h0:(convert ss d (.string s)).run P w=(Conv.stringToBytes e s).run P w:=by
      simp[convert,run_underlying hs,run_underlying hd,run_underlying he]
    have h1:(choose (.appendCap s.size 0 e)).run P w=.ok cap w.drew:=by rw[xB];rfl
    have h2:(newRow e cs).run P w.drew=.ok ⟨w.heap.size,0,none⟩ (w.drew.alloc (.cells cs e)):=rfl
    have h3:(markStringish ⟨w.heap.size,0,none⟩).run P (w.drew.alloc (.cells cs e))=.ok () ((w.drew.alloc (.cells cs e)).freeze ⟨w.heap.size,cs.size,none⟩ 1):=by
      have hsh:(w.drew.alloc (.cells cs e)).shape? w.heap.size=some (e,cs.size):=by
        unfold World.shape?;rw[show (w.drew.alloc (.cells cs e)).heap[w.heap.size]?=some (.cells cs e) from heap_alloc_new w.drew _]
      unfold markStringish;rw[Ab (run_shape P _ _),hsh];rfl
    rw[h0];unfold Conv.stringToBytes;rw[Ab h1];show (do let a ←newRow e cs;markStringish a;pure (.slice (some a) s.size cap):Sem Value).run P w.drew=_;rw[Ab h2,Ab h3];rfl
  have xD:Xx w ((w.drew.alloc (.cells cs e)).freeze ⟨w.heap.size,cs.size,none⟩ 1) (.cells cs e (cs.size,cs.size+1)):=by
    have h1:=Xx.drewAlloc w (.cells cs e);refine⟨rfl,rfl,rfl,?_,?_,fun k hk=>?_⟩
    · simp[World.freeze]
    · have xA : ¬ ((1 : Nat) = 0) := by omega
      unfold World.freeze;rw[if_neg xA];show (Array.modify _ _ _)[w.heap.size]?=_;rw[Array.getElem?_modify,h1.new,if_pos rfl];rfl
    have xA:¬((1:Nat)=0):=by omega
    unfold World.freeze;rw[if_neg xA];show (Array.modify _ _ _)[k]?=_;rw[Array.getElem?_modify,if_neg (show ¬w.heap.size=k by omega)];exact h1.old k hk
  refine⟨_,_,xu,ρ,Lc hr xD,Gc hr xD,?_,fun _=>⟨ext_add xD,rfl,rfl⟩⟩;have xg:(byteRows s).length=s.size:=by unfold byteRows;rw[List.length_map,Array.length_toList];rfl
  refine .sl 1 (byteRows s) none _ s.size cap xg.symm yK (fun k hk=>by cases hk) (fun r hr'=>?_) w.heap.size 0 (fun i j=>cs.getD i undef) (fun _=>rfl) (fun i r j d hi hj=>?_) (fun i r j d hi hj=>?_)
  · unfold byteRows at hr';obtain⟨b,_,rfl⟩:=List.mem_map.1 hr';rfl
  · simp only [byteRows, Lp_, Om] at hi;obtain⟨b,hb,rfl⟩:=hi
    cases j with
    | succ j=>simp at hj
    | zero =>
      simp at hj;subst hj;have zh:i<s.data.size:=by have:=lt_of_some hb;simpa using this
      have hci:cs[i]?=some (.int .u8 b.toNat):=by
        simp only[cs];rw[Array.getElem?_append_left (by simpa using zh)];simp at hb;simp[hb]
      refine⟨?_,⟨by rw[xD.size];omega,fun hx=>by have:=(hr.hid _ _ hx).1;omega,fun g hg=>by have:=hr.lt hg;omega⟩,rfl⟩;rw[cell_of_row _ _ _ cs e _ xD.new,Nat.zero_add,Nat.mul_one,Nat.add_zero,hci];obtain⟨h5,h6⟩:=Array.getElem?_eq_some_iff.1 hci;simp[Array.getD,h5,h6]
  simp only[byteRows,Lp_,Om]at hi;obtain⟨b,hb,rfl⟩:=hi
  cases j with
  | succ j=>simp at hj
  | zero =>
    simp at hj;subst hj;have zh:i<s.data.size:=by have:=lt_of_some hb;simpa using this
    have hci:cs[i]?=some (.int .u8 b.toNat):=by
      simp only[cs];rw[Array.getElem?_append_left (by simpa using zh)];simp at hb;simp[hb]
    obtain⟨h5,h6⟩:=Array.getElem?_eq_some_iff.1 hci;have:cs.getD i undef=.int .u8 b.toNat:=by simp[Array.getD,h5,h6]
    rw[this];exact .int _ _
theorem keyT_some{t:TypeId}{kf:Nat}(h:keyT P t=some kf):∃kd,P.underlying t=some kd∧((kf=0∧∃q,kd=.int q)∨(kf=1∧kd=.string)∨(kf=2∧kd=.bool)):=by
 unfold keyT at h;split at h<;>simp only[Oi,reduceCtorEq]at h<;>subst h
 ·
  rename_i q hu;exact⟨_,hu,.inl ⟨rfl,q,rfl⟩⟩
 ·
  rename_i hu;exact⟨_,hu,.inr (.inl ⟨rfl,rfl⟩)⟩
 rename_i hu;exact⟨_,hu,.inr (.inr ⟨rfl,rfl⟩)⟩
theorem same_now{H:List Xh}{k a:D}{vk va:Value}{b:Bool}{kd:TypeDesc}{kf:Nat}(uO:(kf=0∧∃q,kd=.int q)∨(kf=1∧kd=.string)∨(kf=2∧kd=.bool))(yt:isKey kf k=true)(hk:VR w ρ H k vk)(ha:VR w ρ H a va)(h:Eg k a=some b):Instr.sameNow kd vk va=some b:=by
 rcases uO with⟨rfl,q,rfl⟩ | ⟨rfl,rfl⟩ | ⟨rfl,rfl⟩
 ·
  cases k<;>simp only[isKey,reduceCtorEq,Bool.false_eq_true]at yt;cases a<;>simp only[Eg,reduceCtorEq]at h;cases hk;cases ha;simpa [Instr.sameNow] using h
 ·
  cases k<;>simp only[isKey,reduceCtorEq,Bool.false_eq_true]at yt;cases a<;>simp only[Eg,reduceCtorEq]at h;cases hk;cases ha;simpa [Instr.sameNow] using h
 cases k<;>simp only[isKey,reduceCtorEq,Bool.false_eq_true]at yt;cases a<;>simp only[Eg,reduceCtorEq]at h;cases hk;cases ha;simpa [Instr.sameNow] using h
theorem find_now {H : List Xh} {k : D} {vk : Value} {kd : TypeDesc} {kf : Nat} (uO : (kf = 0 ∧ ∃ q, kd = .int q) ∨ (kf = 1 ∧ kd = .string) ∨ (kf = 2 ∧ kd = .bool)) (yt : isKey kf k = true) (hk : VR w ρ H k vk) : ∀ {rows : List (List D)} {es : List MapEntry} {i : Nat} {x : Option (Nat × D)}, es.length = rows.length → (∀ (j : Nat) (r : List D), rows[j]? = some r → ∃ (e : MapEntry) (a v : D), es[j]? = some e ∧ r = [a, v] ∧ VR w ρ H a e.key ∧ VR w ρ H v e.val) → Lh k rows i = some x →
    (x=none∧Instr.findNow kd vk es i=some none)∨∃(j:Nat) (v:D) (e:MapEntry) (a:D),x=some (i+j,v)∧rows[j]?=some [a,v]∧es[j]?=some e∧VR w ρ H v e.val∧VR w ρ H a e.key∧Eg k a=some true∧Instr.findNow kd vk es i=some (some (i+j,e.val))
  | [], es, i, x, hl, hh, h => by
    have:es=[]:=by simpa using hl
    subst this;simp only[Lh,Oi]at h;subst h;exact .inl ⟨rfl,rfl⟩
  | r :: rows, es, i, x, hl, hh, h => by
    cases es with
    | nil=>simp at hl
    | cons e es =>
      obtain⟨e',a,v,h1,h2,h3,h4⟩:=hh 0 r rfl;simp at h1;subst h1 h2;simp only[Lh]at h
      cases hb:Eg k a with
      | none=>simp[hb]at h
      | some bb =>
        have qX:=same_now uO yt hk h3 hb
        cases bb with
        | true =>
          simp only[hb,Oi]at h;subst h;exact .inr ⟨0,v,e,a,rfl,rfl,rfl,h4,h3,hb,by simp[Instr.findNow,qX]⟩
        | false =>
          simp only[hb]at h;rcases find_now uO yt hk (es:=es) (by simpa using hl) (fun j r hj=>by simpa using hh (j+1) r (by simpa using hj)) h with⟨rfl,hf⟩ | ⟨j,v2,e2,a2,hx,hr,he,q1,q2,q3,hf⟩
          · exact .inl ⟨rfl,by simp[Instr.findNow,qX,hf]⟩
          refine .inr ⟨j+1,v2,e2,a2,by rw[hx];congr 2;omega,by simpa using hr,by simpa using he,q1,q2,q3,?_⟩;simp only[Instr.findNow,qX,hf];congr 3;omega
theorem run_checkKey{t:TypeId}{kd:TypeDesc}{kf:Nat}{b:Bool}{v:Value}(hu:P.underlying t=some kd)(uO:(kf=0∧∃q,kd=.int q)∨(kf=1∧kd=.string)∨(kf=2∧kd=.bool)):(Instr.checkKey b 10000 t v).run P w=.ok () w:=by
 have:∀n:Nat,(Instr.checkKey b (n+1) t v).run P w=.ok () w:=by
  intro n;unfold Instr.checkKey;rw[Ab (run_underlying hu w)];rcases uO with⟨_,q,rfl⟩ | ⟨_,rfl⟩ | ⟨_,rfl⟩<;>rfl
 exact this 9999
theorem run_findKey{t:TypeId}{kd:TypeDesc}{v:Value}{es:List MapEntry}{x:Option (Nat × Value)}(hu:P.underlying t=some kd)(h:Instr.findNow kd v es 0=some x):(Instr.findKey t v es).run P w=.ok x w:=by
 unfold Instr.findKey;rw[Ab (run_underlying hu w),h];rfl
theorem Gx{b:Nat}{es:Array MapEntry}{clock:Nat}(h:w.heap[b]?=some (.map es clock)):(getObj b).run P w=.ok (.map es clock) w:=by
 simp[getObj,Sem.run,h]
theorem map_rows {m : D} {vm : Value} {rows : List (List D)} (hr : Rel w ρ S.heap) (hm : VR w ρ S.heap m vm) (h : J5 S m = some rows) :
    ∃es:Array MapEntry,(vm=.map none∧es=#[]∨∃b clock,vm=.map (some b)∧w.heap[b]?=some (.map es clock))∧es.size=rows.length∧(∀(j:Nat) (r:List D),rows[j]?=some r→∃(e:MapEntry) (a v:D),es[j]?=some e∧r=[a,v]∧VR w ρ S.heap a e.key∧VR w ρ S.heap v e.val):=by
  unfold J5 at h;split at h
  · cases hm;simp only[Oi]at h;subst h;exact⟨#[],.inl ⟨rfl,rfl⟩,rfl,fun j r hj=>by simp at hj⟩
  · simp only [Oi] at h;subst h
    cases hm with
    | mp _ b clock es f hb hx hf hl hz he hc hh =>
      refine⟨es,.inr ⟨b,clock,rfl,hb⟩,hl,fun j r hj=>?_⟩;obtain⟨e,h1,h2,h3⟩:=he j (lt_of_some hj);have yI:=hz r (Lm hj)
      match r,yI with
      | [a,v],_=>exact⟨e,a,v,h1,rfl,by rw[h2];exact hh j _ 0 a hj rfl,by rw[h3];exact hh j _ 1 v hj rfl⟩
  · rename_i g v
    cases hm with
    | mref _ _ r ob hg hv hh =>
      unfold rowsOf at h;simp only[hg]at h;by_cases hvv:ob.ver=v
      · simp only [hvv, if_true] at h;split at h
        · rename_i hk;simp only[Oi]at h;subst h;obtain⟨es,clock,hc,hs,hl,xw⟩:=hr.map (hh hvv) hg hk.1 hk.2;refine⟨es,.inr ⟨r,clock,rfl,hc⟩,hs,fun j r' hj=>?_⟩;obtain⟨e,k,v,h1,h2,_,_,h5,h6⟩:=xw j r' hj;exact⟨e,k,v,h1,h2,h5,h6⟩
        simp at h
      simp[hvv]at h
  simp at h
theorem mapget_ok {t kt e : TypeId} {kf : Nat} {z m k r : D} {vm vk : Value} {ok : Bool} (hr : Rel w ρ S.heap) (ht : P.underlying t = some (.map kt e)) (ru : keyT P kt = some kf) (hz : Oq P e = some z) (hm : VR w ρ S.heap m vm) (hk : VR w ρ S.heap k vk)
    (h:Jg S kf z ok m k=some r):∃v,(Instr.lookup t vm vk ok).run P w=.ok v w∧VR w ρ S.heap r v:=by
  obtain⟨kd,hu,uO⟩:=keyT_some ru;unfold Jg at h;split at h
  · rename_i rows xE;obtain⟨es,hes,xC,xw⟩:=map_rows hr hm xE;split at h
    · rename_i yt
      obtain⟨zv,uq,zI⟩:∃zv,(zeroValue e).run P w=.ok zv w∧VR w ρ S.heap z zv:=by
        unfold Oq at hz;split at hz
        · rename_i i hi;split at hz
          · rename_i zv wQ;exact⟨zv,by simp[zeroValue,typeInfo,hi,wQ],Ob hz⟩
          simp at hz
        simp at hz
      have zT:∀j v,Instr.findNow kd vk es.toList 0=some (some (j,v))→(Instr.lookup t vm vk ok).run P w=.ok (if ok then .tuple #[v,.bool true] else v) w:=by
        intro j v hx;unfold Instr.lookup;rw[Ab (run_underlying ht w)];rcases hes with⟨rfl,rfl⟩ | ⟨b,clock,rfl,hb⟩
        · simp only;rw[Ab (a:=(#[]:Array MapEntry)) (w':=w) rfl,Ab (run_checkKey hu uO),Ab (run_findKey hu hx)];rfl
        simp only;rw[Ab (Gx hb)];simp only;rw[Ab (a:=es) (w':=w) rfl,Ab (run_checkKey hu uO),Ab (run_findKey hu hx)];rfl
      have yE:Instr.findNow kd vk es.toList 0=some none→(Instr.lookup t vm vk ok).run P w=.ok (if ok then .tuple #[zv,.bool false] else zv) w:=by
        intro hx;unfold Instr.lookup;rw[Ab (run_underlying ht w)];rcases hes with⟨rfl,rfl⟩ | ⟨b,clock,rfl,hb⟩
        · simp only;rw[Ab (a:=(#[]:Array MapEntry)) (w':=w) rfl,Ab (run_checkKey hu uO),Ab (run_findKey hu hx)];simp only;rw[Ab uq];rfl
        simp only;rw[Ab (Gx hb)];simp only;rw[Ab (a:=es) (w':=w) rfl,Ab (run_checkKey hu uO),Ab (run_findKey hu hx)];simp only;rw[Ab uq];rfl
      have uP:∀(x:D) (v:Value) (b:Bool),VR w ρ S.heap x v→VR w ρ S.heap (.tup [x,.bool b]) (.tuple #[v,.bool b]):=by
        intro x v b hx;have hv:VL w ρ S.heap [x,.bool b] [v,.bool b]:=.cons hx (.cons (.bool _) .nil);exact .tup [x,.bool b] [v,.bool b] rfl (fun j d v=>hv.get)
      cases hf:Lh k rows 0 with
      | none=>simp[hf]at h
      | some x =>
        rcases find_now uO yt hk (es:=es.toList) (by simpa using xC) (fun j r hj=>by obtain⟨e,a,v,h1,h2⟩:=xw j r hj;exact⟨e,a,v,by simpa using h1,h2⟩) hf with⟨rfl,zY⟩ | ⟨j,v,e2,a,rfl,xO,he,q1,q2,q3,zY⟩
        · simp only [hf, Oi] at h;subst h;refine⟨_,yE zY,?_⟩;cases ok
          · exact zI
          exact uP _ _ _ zI
        simp only[hf,Oi]at h;subst h;refine⟨_,zT _ _ zY,?_⟩;cases ok
        · exact q1
        exact uP _ _ _ q1
    simp at h
  simp at h
theorem mkmap_ok{t:TypeId}(hr:Rel w ρ S.heap):∃v w',(Instr.makeMap t none).run P w=.ok v w'∧Xu w ρ S (.mref S.heap.length 0) (newAt S ⟨0,2,[],0,3,false⟩) true v w':=by
 have xD:=Xx.alloc w (.map #[] 0);refine⟨.map (some w.heap.size),w.alloc (.map #[] 0),rfl,_,rel_newmap (ob:=⟨0,2,[],0,3,false⟩) hr xD rfl rfl rfl,Fh hr xD,?_,by simp⟩;exact .mref _ 0 _ ⟨0,2,[],0,3,false⟩ (by simp[newAt]) (Nat.le_refl _) (fun _=>by simp[upd])
theorem ba1(a b:ByteArray)(h:(a==b)=true):a=b:=by
 obtain⟨x⟩:=a;obtain⟨y⟩:=b;have:(x==y)=true:=h;simp at this;rw[this]
theorem ba2(a:ByteArray):(a==a)=true:=by
 obtain⟨x⟩:=a;show (x==x)=true;simp
theorem Sc{H:List Xh}{k a:D}{vk va:Value}{kf n:Nat}(yt:isKey kf k=true)(hk:VR w ρ H k vk)(ha:VR w ρ H a va)(h:Eg k a=some true):Instr.sameBits (n+1) va vk=true:=by
 have hcases:(∃q x,k=.int q x)∨(∃s,k=.str s)∨∃b,k=.bool b:=by
  cases k<;>first | exact .inl ⟨_,_,rfl⟩ | exact .inr (.inl ⟨_,rfl⟩) | exact .inr (.inr ⟨_,rfl⟩) | (unfold isKey at yt;split at yt<;>simp at *)
 rcases hcases with⟨q,x,rfl⟩ | ⟨s,rfl⟩ | ⟨b,rfl⟩
 ·
  cases a<;>simp only[Eg,reduceCtorEq]at h;cases hk;cases ha;split at h
  ·
   rename_i e;subst e;simp only[Oi,beq_iff_eq]at h;subst h;simp[Instr.sameBits]
  simp at h
 ·
  cases a<;>simp only[Eg,reduceCtorEq]at h;cases hk;cases ha;simp only[Oi]at h;have:=ba1 _ _ h;subst this;simp only[Instr.sameBits];exact ba2 _
 cases a<;>simp only[Eg,reduceCtorEq]at h;cases hk;cases ha;simp only[Oi,beq_iff_eq]at h;subst h;simp[Instr.sameBits]
theorem Nj{b:Nat}{es:Array MapEntry}{clock:Nat}{o:Obj}(h:w.heap[b]?=some (.map es clock)):(setObj b o).run P w=.ok () { w with heap:=w.heap.setIfInBounds b o }:=by
 simp[setObj,Sem.run,h]
theorem Xy.setObj{b:Nat}{o:Obj}(hb:b<w.heap.size):Xy w { w with heap:=w.heap.setIfInBounds b o } b o :=
 ⟨rfl,rfl,rfl,by simp,by simp[hb],fun k hk=>by simp[Array.getElem?_setIfInBounds,Ne.symm hk]⟩
theorem mapset_ok {t kt e : TypeId} {kf : Nat} {m k v : D} {vm vk vv : Value} {S' : St} (hr : Rel w ρ S.heap) (ht : P.underlying t = some (.map kt e)) (ru : keyT P kt = some kf) (hm : VR w ρ S.heap m vm) (hk : VR w ρ S.heap k vk) (hv : VR w ρ S.heap v vv) (h : Lf S kf m k v = some S') :
    ∃w',(Instr.mapUpdate t vm vk vv).run P w=.ok () w'∧Xu w ρ S .undef S' true undef w':=by
  obtain⟨kd,hu,uO⟩:=keyT_some ru;unfold Lf at h;split at h
  · rename_i g ver
    cases hm with
    | mref _ _ r ob hg yV hh =>
      unfold rowsOf at h;simp only[hg]at h;by_cases hvv:ob.ver=ver
      · subst hvv;simp only[if_true]at h;split at h
        · rename_i yO;obtain⟨xK,uH,yt⟩:=yO;split at h
          · rename_i v' qX;have hv':=Oz hr (Nat.le_refl _) hv qX;split at h
            · rename_i hfc;simp only[Bool.and_eq_true]at hfc;have hρ:=hh rfl;obtain⟨es,clock,hc,hs,hl,xw⟩:=hr.map hρ hg xK uH
              have uV:k.Xq=true∧k.val=true:=by
                unfold isKey at yt;split at yt<;>simp_all [D.Xq,D.val,D.free,D.Xw,D.Xv]
              have vG:=lt_of_heap hc;have xV:(∀c e f,Obj.map es clock≠.cells c e f)∧∀r,Obj.map es clock≠.loop r:=⟨(fun _ _ _ e=>by cases e),(fun _ e=>by cases e)⟩
              cases hf:Lh k ob.rows 0 with
              | none=>simp[hf]at h
              | some x =>
                rcases find_now uO yt hk (es:=es.toList) (by simpa using hs) (fun j r hj=>by obtain⟨e,a,v,h1,h2,_,_,h5,h6⟩:=xw j r hj;exact⟨e,a,v,by simpa using h1,h2,h5,h6⟩) hf with⟨rfl,zY⟩ | ⟨j,v0,e2,a,rfl,xO,he,q1,q2,q3,zY⟩
                · simp only [hf, Oi] at h;subst h;refine⟨{ w with heap:=w.heap.setIfInBounds r (.map (es.push ⟨vk,vv,clock⟩) (clock+1)) },?_,ρ,?_,Lb hr hρ hg xK hc xV (Xy.setObj vG) ⟨rfl,rfl,rfl,by simp,rfl⟩,.undef _,by simp⟩
                  · unfold Instr.mapUpdate;rw[Ab (run_underlying ht w)];simp only;rw[Ab (Gx hc)];simp only;rw[Ab (run_checkKey hu uO),Ab (run_findKey hu zY)];exact Nj hc
                  refine Wy hr hρ hg xK uH hc xV (Xy.setObj vG) ⟨rfl,rfl,rfl,by simp,rfl⟩ (by simp[hs]) ?_ ?_
                  · intro r' hr';simp only[List.mem_append,List.mem_singleton]at hr';rcases hr' with hr' | rfl
                    · exact hl r' hr'
                    rfl
                  intro i r' hi;simp only at hi;by_cases zh:i<ob.rows.length
                  · rw [La_ zh] at hi;obtain⟨e3,k3,v3,z1,z2⟩:=xw i r' hi;exact⟨e3,k3,v3,by rw[Array.getElem?_push_lt (by omega)];rw[Array.getElem?_eq_getElem (by omega)]at z1;exact z1,z2⟩
                  rw[Lr_ (by omega)]at hi;have hi0:i-ob.rows.length=0:=by have:=lt_of_some hi;simp at this;omega
                  rw[hi0]at hi;simp at hi;subst hi;have hie:i=es.size:=by omega
                  subst hie;exact⟨⟨vk,vv,clock⟩,k,v',by simp,rfl,uV,hfc,hk,hv'⟩
                simp only[hf,Oi,Nat.zero_add]at h;subst h;have he':es[j]?=some e2:=by simpa using he
                have yP:=(Array.getElem?_eq_some_iff.1 he').1
                have hkts:(Instr.keyThatStays (((es[0+j]?).map (·.key)).getD vk) vk).run P w=.ok vk w:=by
                  rw[Nat.zero_add,he'];unfold Instr.keyThatStays;simp only[Option.map_some,Option.getD_some];rw[if_pos (Sc (n:=9999) yt hk q2 q3)];rfl
                refine⟨{ w with heap:=w.heap.setIfInBounds r (.map (es.modify j fun e=>{ e with key:=vk,val:=vv }) clock) },?_,ρ,?_,Lb hr hρ hg xK hc xV (Xy.setObj vG) ⟨rfl,rfl,rfl,by simp,rfl⟩,.undef _,by simp⟩
                · unfold Instr.mapUpdate;rw[Ab (run_underlying ht w)];simp only;rw[Ab (Gx hc)];simp only;rw[Ab (run_checkKey hu uO),Ab (run_findKey hu zY)];simp only;rw[Ab hkts];rw[Nat.zero_add];exact Nj hc
                refine Wy hr hρ hg xK uH hc xV (Xy.setObj vG) ⟨rfl,rfl,rfl,by simp,rfl⟩ (by simp[hs]) ?_ ?_
                · intro r' hr';rcases List.mem_or_eq_of_mem_set hr' with hr' | rfl
                  · exact hl r' hr'
                  rfl
                intro i r' hi;simp only at hi;by_cases hij:j=i
                · subst hij;rw[List.getElem?_set_self (by omega)]at hi;simp only[Oi]at hi;subst hi;exact⟨{ e2 with key:=vk,val:=vv },k,v',by simp[Array.getElem?_modify,he'],rfl,uV,hfc,hk,hv'⟩
                rw[Ln_ hij]at hi;obtain⟨e3,k3,v3,z1,z2⟩:=xw i r' hi;exact⟨e3,k3,v3,by rw[Array.getElem?_modify,if_neg hij];exact z1,z2⟩
            simp at h
          simp at h
        simp at h
      simp[hvv]at h
  simp at h
end
open Go.RowKit
section
variable {P:Program} {w:World} {ρ:Xn} {H:List Xh}
theorem Wd : ∀ {fs gs : List Nat} {a b : List D} {r : Bool}, Cg (fs ++ gs) a b = some r → ∃ x y, Cg fs (a.take fs.length) (b.take fs.length) = some x ∧ Cg gs (a.drop fs.length) (b.drop fs.length) = some y ∧ r = (x && y)
  | [],gs,a,b,r,h=>⟨true,r,by simp[Cg],by simpa using h,by simp⟩
  | f :: fs, gs, a :: l, b :: m, r, h => by
    simp only[List.cons_append,Cg]at h;split at h
    · rename_i hk;split at h
      · rename_i x y h1 h2;obtain⟨x',y',e1,e2,e3⟩:=Wd h2;refine⟨x&&x',y',?_,by simpa using e2,?_⟩
        · simp only[List.length_cons,List.take_succ_cons,Cg,hk,if_true,h1,e1]
        simp only[Oi]at h;subst h e3;cases x<;>cases x'<;>rfl
      simp at h
    simp at h
  | f::fs,gs,[],b,r,h=>by simp[Cg]at h
  | f::fs,gs,a::l,[],r,h=>by simp[Cg]at h
theorem Px:∀{fs:List Nat} {a b:List D} {r:Bool},Cg fs a b=some r→a.length=fs.length∧b.length=fs.length
 | [],[],[],r,h=>⟨rfl,rfl⟩
 | f :: fs, a :: l, b :: m, r, h => by
  simp only[Cg]at h;split at h
  ·
   split at h
   ·
    rename_i h2;have:=Px h2;simp[this]
   simp at h
  simp at h
 | [],[],_::_,r,h=>by simp[Cg]at h
 | [],_::_,_,r,h=>by simp[Cg]at h
 | f::fs,[],b,r,h=>by simp[Cg]at h
 | f::fs,a::l,[],r,h=>by simp[Cg]at h
theorem eqCells_one{f:Nat}{a b:D}{r:Bool}(h:Cg [f] [a] [b]=some r):isKey f a=true∧isKey f b=true∧Eg a b=some r:=by
 simp only[Cg]at h;split at h
 ·
  rename_i hk;simp only[Bool.and_eq_true]at hk;split at h
  ·
   rename_i x y h1 h2;simp only[Oi]at h h2;subst h2;refine⟨hk.1,hk.2,?_⟩;rw[h1,←h];simp
  simp at h
 simp at h
theorem aggT_of{t:TypeId}{td:TypeDesc}(hu:P.underlying t=some td)(h:(match td with | .struct _ | .array _ _=>true | _=>false)=false):Fw P t=false:=by
 unfold Fw;rw[hu];cases td<;>simp_all
theorem Ux : ∀ (d : Nat) (t : TypeId) (X6 : List Nat), Ep P d t = some X6 → ∀ (k : Nat) (a b : D) (va vb : Value) (r : Bool), VR w ρ H a va → VR w ρ H b vb → a.val = true → b.val = true → Cg X6 a.cells b.cells = some r → (Fw P t = true → (∃ cs, a = .agg cs) ∧ ∃ cs, b = .agg cs) → (Fw P t = false → (∀ cs, a ≠ .agg cs) ∧ ∀ cs, b ≠ .agg cs) →
    (Op.equalIn (d+k) t va vb).run P w=.ok r w
  | 0,t,X6,h=>by simp[Ep]at h
  | d + 1, t, X6, h => by
    intro k a b va vb r h1 h2 ha hb he hag hna;rw[show d+1+k=(d+k)+1 by omega];simp only[Ep]at h
    have prim:∀f:Nat,X6=[f]→(∀cs,a≠.agg cs)→(∀cs,b≠.agg cs)→isKey f a=true∧isKey f b=true∧Eg a b=some r:=by
      rintro f rfl n1 n2
      have e1:a.cells=[a]:=by cases a<;>first | rfl | exact absurd rfl (n1 _)
      have e2:b.cells=[b]:=by cases b<;>first | rfl | exact absurd rfl (n2 _)
      rw[e1,e2]at he;exact eqCells_one he
    split at h
    · rename_i kk hu;simp only[Oi]at h;obtain⟨n1,n2⟩:=hna (aggT_of hu rfl);obtain⟨p1,p2,p3⟩:=prim 0 h.symm n1 n2;cases a<;>simp[isKey]at p1;cases b<;>simp[isKey]at p2;cases h1;cases h2;simp only[Eg]at p3;split at p3
      · rename_i hk;simp only[Oi]at p3;subst p3;simp[Op.equalIn,run_underlying hu,hk]
      simp at p3
    · rename_i hu;simp only[Oi]at h;obtain⟨n1,n2⟩:=hna (aggT_of hu rfl);obtain⟨p1,p2,p3⟩:=prim 1 h.symm n1 n2;cases a<;>simp[isKey]at p1;cases b<;>simp[isKey]at p2;cases h1;cases h2;simp only[Eg,Oi]at p3;subst p3;simp[Op.equalIn,run_underlying hu]
    · rename_i hu;simp only[Oi]at h;obtain⟨n1,n2⟩:=hna (aggT_of hu rfl);obtain⟨p1,p2,p3⟩:=prim 2 h.symm n1 n2;cases a<;>simp[isKey]at p1;cases b<;>simp[isKey]at p2;cases h1;cases h2;simp only[Eg,Oi]at p3;subst p3;simp[Op.equalIn,run_underlying hu]
    · rename_i fs hu;split at h
      · simp at h
      rename_i xH;simp only[Bool.or_eq_true,not_or,Bool.not_eq_true]at xH;have ug:Fw P t=true:=by unfold Fw;rw[hu]
      obtain⟨⟨xs,rfl⟩,⟨bs,rfl⟩⟩:=hag ug
      cases h1 with | agg _ va r9 y8 hh1 =>
      cases h2 with | agg _ vb wu w9 hh2 =>
      simp only[D.cells]at he;have ih:=Ux d
      have key:∀(fl:List Field) (o:Nat) (fm:List Nat) (r:Bool),o≤xs.length→o≤bs.length→eqFields P (Ep P d) fl o=some fm→Cg fm (xs.drop o) (bs.drop o)=some r →
          (forIn fl (none, PUnit.unit) (fun (f : Field) (_ : Option Bool × PUnit) => (if f.name ≠ "_" then (do
            let x ←part f.type va.toArray f.offset
            let y ←part f.type vb.toArray f.offset
            let q ←Op.equalIn (d+k) f.type x y
            if (!q)=true then pure (ForInStep.done (some false,PUnit.unit)) else pure (ForInStep.yield (none,PUnit.unit))) else pure (ForInStep.yield (none,PUnit.unit)):Sem (ForInStep (Option Bool × PUnit))))).run P w=.ok (if r then (none,PUnit.unit) else (some false,PUnit.unit)) w:=by
        intro fl
        induction fl with
        | nil =>
          intro o fm r xG ho2 hf hc;simp only[eqFields,Oi]at hf;subst hf
          have:r=true:=by
            cases e1:xs.drop o<;>cases e2:bs.drop o<;>simp[e1,e2,Cg]at hc;exact hc
          subst this;simp
        | cons f fl ihl =>
          intro o fm r xG ho2 hf hc;simp only[eqFields]at hf;split at hf
          · simp at hf
          rename_i uz;simp only[not_or,ne_eq,Decidable.not_not]at uz;obtain⟨wM,hoff⟩:=uz;split at hf
          · rename_i fa m xX xC;split at hf
            · rename_i xg;simp only[Om]at hf;obtain⟨fm',hf',rfl⟩:=hf;obtain⟨x,y,e1,e2,rfl⟩:=Wd hc;rw[List.drop_drop]at e2;rw[List.drop_drop]at e2;rw[xg]at e1 e2;obtain⟨l1,l2⟩:=Px e1;obtain⟨l3,l4⟩:=Px hc;have q1:o+m≤xs.length:=by simp only[List.length_drop,Ll_]at l3;omega
              have q2:o+m≤bs.length:=by simp only[List.length_drop,Ll_]at l4;omega
              have mk:∀(cs:List D),o+m≤cs.length→cs.all D.Xv=true→(Fw P f.type=false→m=1)→∃p,Ci cs o m (Fw P f.type)=some p∧p.cells=(cs.drop o).take m∧p.val=true∧(Fw P f.type=true→∃c,p=.agg c)∧(Fw P f.type=false→∀c,p≠.agg c):=by
                intro cs yh xk h1
                cases hg:Fw P f.type with
                | true =>
                  refine⟨.agg ((cs.drop o).take m),by simp[Ci,yh],rfl,?_,fun _=>⟨_,rfl⟩,fun h=>by simp at h⟩;simp only[D.val,List.all_eq_true]at xk ⊢;intro c hc';exact xk c (List.mem_of_mem_drop (List.mem_of_mem_take hc'))
                | false =>
                  have:=h1 hg;subst this;have xq:o<cs.length:=by omega
                  have yw:cs[o].Xv=true:=by
                    simp only[List.all_eq_true]at xk;exact xk _ (List.getElem_mem xq)
                  refine⟨cs[o],by simp[Ci,xq],?_,?_,fun h=>by simp at h,fun _ c hc'=>by rw[hc']at yw;simp[D.Xv]at yw⟩
                  · rw [List.drop_eq_getElem_cons xq]
                    cases e:cs[o]<;>first | rfl | (rw[e]at yw;simp[D.Xv]at yw)
                  cases e:cs[o]<;>first | rfl | (rw[e]at yw;simp[D.Xv]at yw)
              have uS:Fw P f.type=false→m=1:=by
                intro hg
                cases d with
                | zero=>simp[Ep]at xX
                | succ d' =>
                  simp only[Ep]at xX;split at xX
                  · simp only[Oi]at xX;subst xX;exact xg.symm
                  · simp only[Oi]at xX;subst xX;exact xg.symm
                  · simp only[Oi]at xX;subst xX;exact xg.symm
                  · rename_i hu';unfold Fw at hg;rw[hu']at hg;simp at hg
                  simp at xX
              obtain⟨pa,a1,a2,a3,a4,a5⟩:=mk xs q1 y8 uS;obtain⟨pb,b1,b2,b3,b4,b5⟩:=mk bs q2 w9 uS;obtain⟨xa,x1,x2⟩:=O8 (P:=P) r9 y8 hh1 a1 xC rfl;obtain⟨xb,y1,y2⟩:=O8 (P:=P) wu w9 hh2 b1 xC rfl;rw[←a2,←b2]at e1;have hq:=ih f.type fa xX k pa pb xa xb x x2 y2 a3 b3 e1 (fun hg=>⟨a4 hg,b4 hg⟩) (fun hg=>⟨a5 hg,b5 hg⟩);simp only[List.forIn_cons,Sem.run_bind,wM,ne_eq,not_false_eq_true,if_true,hoff,x1,y1,Result.andThen_ok,hq]
              cases x with
              | false=>simp
              | true =>
                simp only[Bool.not_true,Bool.false_eq_true,if_false,Sem.run_pure,Result.andThen_ok,Bool.true_and];exact ihl (o+m) fm' y q1 q2 hf' e2
            simp at hf
          simp at hf
      have hk:=key fs.toList 0 X6 r (Nat.zero_le _) (Nat.zero_le _) h (by simpa using he);rw[Array.forIn_toList]at hk;simp only[Op.equalIn,Sem.run_bind,run_underlying hu,Result.andThen_ok];have hp:Sem.run P program w=.ok P w:=rfl;rw[hp,Result.andThen_ok,xH.1,if_neg (by simp),Sem.run_bind];refine Eq.trans (congrArg (fun z=>Result.andThen z _) hk) ?_;cases r<;>rfl
    simp at h
theorem eqs_ok{op:BinOp}{t:TypeId}{x y:Operand}{X6:List Nat}{neg:Bool}{as' bs:List D}{va vb:Value}{r:Bool}(ho:op=.eql∨op=.neq)(hn:neg=decide (op=.neq))(hg:Fw P t=true)(hf:Ep P 9 t=some X6)(h1:VR w ρ H (.agg as') va)(h2:VR w ρ H (.agg bs) vb)(he:Cg X6 as' bs=some r) :
  ∃v,(do eqGuard op t x y va vb;binOp op t va vb).run P w=.ok v w∧VR w ρ H (.bool (r != neg)) v:=by
 have uy:(D.agg as').val=true:=by cases h1 with | agg _ _ _ hc _=>exact hc
 have vL:(D.agg bs).val=true:=by cases h2 with | agg _ _ _ hc _=>exact hc
 have key:=Ux 9 t X6 hf 9991 _ _ _ _ r h1 h2 uy vL he (fun _=>⟨⟨_,rfl⟩,⟨_,rfl⟩⟩) (fun h=>by rw[hg]at h;simp at h)
 have wX:P.eqGuardType P.depth t=false:=by
  simp only[Ep]at hf;unfold Fw at hg;split at hf
  ·
   rename_i hu;rw[hu]at hg;simp at hg
  ·
   rename_i hu;rw[hu]at hg;simp at hg
  ·
   rename_i hu;rw[hu]at hg;simp at hg
  ·
   split at hf
   ·
    simp at hf
   rename_i h;simp only[Bool.or_eq_true,not_or,Bool.not_eq_true]at h;exact h.2
  simp at hf
 cases h1 with | agg _ va r9 y8 hh1 =>
 cases h2 with | agg _ vb wu w9 hh2 =>
 have uW:(eqGuard op t x y (.agg va.toArray) (.agg vb.toArray)).run P w=.ok () w:=by
  have hp:Sem.run P program w=.ok P w:=rfl;rcases ho with rfl | rfl<;>simp[eqGuard,hp,wX]
 rcases ho with rfl | rfl
 ·
  subst hn;refine⟨.bool r,?_,by cases r<;>exact .bool _⟩;rw[Sem.run_bind,uW];simp[binOp,Op.equal,Op.maxDepth,key]
 subst hn;refine⟨.bool !r,?_,by cases r<;>exact .bool _⟩;rw[Sem.run_bind,uW];simp[binOp,Op.equal,Op.maxDepth,key]
end
end Go.Proofs.YtlhdliikahebhaaGreatDoor
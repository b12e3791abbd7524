/- Proved here: parts of the proof, joined (Lo1, Lo2, Mem, Lo3, Lo4a, Lo4, Lo5, Lo6, Lo7, Lo8, Lo9, Lo9b, Lo9c): an abstract machine, its soundness, what functions of the program compute in it; no condition. -/
import Derived.Test.YtbhnlppboegmjaaGreatDoorRows
import Derived.WalkKit
import Derived.Orders
import Derived.ProofKit
import Derived.OpenShut
import Derived.WalkSpells
import Derived.WalkLawsBesides
import Derived.Deep.QuietTactic
import Derived.BigQuiet
import Derived.Lib.Hide
import Derived.Laws.EntriesVeiled
import Derived.Deep.RegionHeld3
import Derived.Deep.RegionLaw
import Derived.Deep.AppendLies
import Derived.Deep.CutRange
import Derived.Deep.DeepCutAuto
import Derived.Deep.CutBlock
import Derived.Laws.Tables
import Derived.Great.BuildSlice
import Derived.Laws.BytesString
import Derived.Laws.MakeOwn
namespace Go.Proofs.YtbhnlppboegmjaaGreatDoor
theorem aI {a b : Prop} (h : a) (k : b) : a ∧ b := ⟨h, k⟩
set_option linter.unusedVariables false
theorem Oi{α:Type _}(a b:α):(some a=some b)=(a=b):=Option.some.injEq a b
theorem Pi_{α:Type _}{β:Type _}(a:α)(b:β)(c:α)(d:β):((a,b)=(c,d))=(a=c∧b=d):=Prod.mk.injEq a b c d
theorem Om.{u,v}:type_of% @Option.map_eq_some_iff.{u,v}:=@Option.map_eq_some_iff
theorem Lg.{u}:type_of% @List.getElem?_eq_getElem.{u}:=@List.getElem?_eq_getElem
theorem La_.{u}:type_of% @List.getElem?_append_left.{u}:=@List.getElem?_append_left
theorem Lr_.{u}:type_of% @List.getElem?_append_right.{u}:=@List.getElem?_append_right
theorem Ln_.{u}:type_of% @List.getElem?_set_ne.{u}:=@List.getElem?_set_ne
theorem Lm.{u}:type_of% @List.mem_of_getElem?.{u}:=@List.mem_of_getElem?
theorem Ag_.{u}:type_of% @Array.getElem?_eq_some_iff.{u}:=@Array.getElem?_eq_some_iff
theorem Lz.{u}:type_of% @List.getElem?_cons_zero.{u}:=@List.getElem?_cons_zero
theorem Ls_.{u}:type_of% @List.getElem?_cons_succ.{u}:=@List.getElem?_cons_succ
theorem Ll_.{u}:type_of% @List.length_append.{u}:=@List.length_append
theorem Lo_.{u}:type_of% @List.append_assoc.{u}:=@List.append_assoc
theorem Lp_.{u,v}:type_of% @List.getElem?_map.{u,v}:=@List.getElem?_map
inductive D where
 | undef
 | skip
 | int (k:IntKind) (n:Int)
 | bool (b:Bool)
 | str (s:ByteArray)
 | agg (cs:List D)
 | tup (cs:List D)
 | nilp
 | ptr (g v i o:Nat)
 | R6 (row:List D) (o:Nat)
 | R4
 | sl (sz:Nat) (rows:List (List D)) (cap:Option Nat)
 | msl (g v lo n:Nat) (cap:Option Nat)
 | fn (f:FuncId) (caps:List D)
 | nilfn
 | mref (g v:Nat)
 | mp (rows:List (List D))
 | nilm
 | nili
 | ifc (t:TypeId) (d:D)
 | ifr (t:TypeId) (d:D)
 | iter (g v:Nat)
 | junk
 deriving Inhabited
structure Rf where
 elem:TypeId
 sz:Nat
 rows:List (List D)
 ver:Nat
 kind:Nat
 grow:Bool
structure St where
 heap:List Rf
 low:Nat
def D.cells:D→List D
 | .agg cs=>cs
 | d=>[d]
def D.Ru:D→Bool
 | .agg _ | .tup _ | .undef | .skip=>false
 | _=>true
def D.val:D→Bool
 | .agg cs=>cs.all D.Ru
 | d=>d.Ru
inductive EqT where
 | prim
 | parts (l:List (Nat × Nat × Bool × EqT))
inductive LOp where
 | mv
 | pick
 | bin (op:BinOp)
 | eqb (neg:Bool)
 | eqs (neg:Bool) (R5:List Nat)
 | un (op:UnOp)
 | field (o sz:Nat) (agg:Bool)
 | alloc (e:TypeId) (z:List D)
 | box (e:TypeId) (sz:Nat)
 | boxc (sz:Nat)
 | build (z:List D) (ps:List (Nat × Nat))
 | Ry (e sz len:Nat) (z:List D) (ps:List Nat) (kind:Nat)
 | nilck
 | load (sz:Nat) (agg:Bool)
 | store (sz:Nat)
 | R3 (o:Nat)
 | Rz (sz:Nat)
 | aaddr (sz len:Nat)
 | index
 | aindex (sz len:Nat) (agg:Bool)
 | slice (str:Bool) (sz:Nat) (lo hi mx:Bool)
 | len (str:Bool)
 | lenc (n:Nat)
 | cap
 | append (e sz bytes:Nat) (kind:Nat)
 | max
 | min
 | mkfn (f:FuncId)
 | extract (i:Nat)
 | conv (k:IntKind)
 | sconv
 | mkslice (e sz bytes:Nat) (z:List D) (kind:Nat)
 | bstr
 | strb
 | eqnil (neg:Bool) (fam:Nat)
 | mkmap
 | mapset (kf:Nat)
 | mapget (kf:Nat) (z:D) (ok:Bool)
 | idxb
 | cntb
 | appstr (e bytes:Nat) (kind:Nat)
 | appmk (e sz bytes:Nat) (z:List D) (kind:Nat)
 | eqp (neg:Bool)
 | toU (t:TypeId) (n:Nat)
 | ofU (t:TypeId) (n:Nat)
 | sdata
 | ustr (e:TypeId)
 | strsh
 | rngs
 | nexts
 | copy (sz kind:Nat)
 | copys (kind:Nat)
 | mknz (e:TypeId)
 | mapsetS (R5:List Nat)
 | mapgetS (R5:List Nat) (z:D) (ok:Bool)
 | mkif (t:TypeId)
 | tass (t:TypeId) (z:D) (ok:Bool)
 | fail
 | call (f:FuncId)
 | callv
 | invoke (tab:List (TypeId × FuncId))
inductive Rj where
 | env (j:Nat)
 | loc (d:Nat)
 | const (d:D)
def ob (n k:Nat):List Bool:=((List.range k).map fun j=>n.testBit j).reverse
structure Ri where
 op:LOp
 args:List Rj
 guard:Option (Nat × Bool)
 ord:List Bool
 hoist:Option Nat
inductive Rk where
 | skip
 | ret
 | exit (i:Nat)
 | region (ops:List Ri) (exps:List (Nat × Nat))
 | drawn (ops:List Ri) (exps:List (Nat × Nat)) (news:List (TypeId × List D))
 | seq (a b:Rk)
 | cond (c:Rj) (a b:Rk)
 | block (i:Nat) (c:Rk)
 | loop (c:Rk)
 | dfr (x:Rj)
 | fail
inductive LRes where
 | tmp (j:Nat)
 | cell (j sz:Nat) (agg:Bool)
structure Rh where
 slots:List Nat
 nargs:Nat
 body:Rk
 res:List LRes
def Cg:BinOp→D→D→Option D
 | .add,.int k a,.int k' b=>if k=k' then some (.int k (k.wrap (a+b))) else none
 | .sub,.int k a,.int k' b=>if k=k' then some (.int k (k.wrap (a-b))) else none
 | .mul,.int k a,.int k' b=>if k=k' then some (.int k (k.wrap (a*b))) else none
 | .quo,.int k a,.int k' b=>if k=k'∧b≠0 then some (.int k (k.wrap (a.tdiv b))) else none
 | .rem,.int k a,.int k' b=>if k=k'∧b≠0 then some (.int k (a.tmod b)) else none
 | .and,.int k a,.int k' b=>if k=k' then some (.int k (k.wrap ((BitVec.ofInt k.bits a &&& BitVec.ofInt k.bits b).toNat:Int))) else none
 | .or,.int k a,.int k' b=>if k=k' then some (.int k (k.wrap ((BitVec.ofInt k.bits a ||| BitVec.ofInt k.bits b).toNat:Int))) else none
 | .xor,.int k a,.int k' b=>if k=k' then some (.int k (k.wrap ((BitVec.ofInt k.bits a ^^^ BitVec.ofInt k.bits b).toNat:Int))) else none
 | .andNot,.int k a,.int k' b=>if k=k' then some (.int k (k.wrap ((BitVec.ofInt k.bits a &&& ~~~(BitVec.ofInt k.bits b)).toNat:Int))) else none
 | .shl,.int k a,.int _ b=>if b<0 then none else some (.int k (k.wrap (a*2 ^ (min b.toNat k.bits))))
 | .shr,.int k a,.int _ b=>if b<0 then none else some (.int k (a.fdiv (2 ^ (min b.toNat k.bits))))
 | .eql,.int k a,.int k' b=>if k=k' then some (.bool (a==b)) else none
 | .neq,.int k a,.int k' b=>if k=k' then some (.bool (a != b)) else none
 | .lss,.int k a,.int k' b=>if k=k' then some (.bool (decide (a<b))) else none
 | .leq,.int k a,.int k' b=>if k=k' then some (.bool (decide (a≤b))) else none
 | .gtr,.int k a,.int k' b=>if k=k' then some (.bool (decide (a>b))) else none
 | .geq,.int k a,.int k' b=>if k=k' then some (.bool (decide (a≥b))) else none
 | .add,.str a,.str b=>if ((a.size+b.size:Nat):Int)>IntKind.i64.max then none else some (.str (a++b))
 | .eql,.str a,.str b=>some (.bool (a.toList==b.toList))
 | .neq,.str a,.str b=>some (.bool !(a.toList==b.toList))
 | .lss,.str a,.str b=>some (.bool (Op.bytesLess a.toList b.toList))
 | .leq,.str a,.str b=>some (.bool (Op.bytesLess a.toList b.toList||a.toList==b.toList))
 | .gtr,.str a,.str b=>some (.bool !(Op.bytesLess a.toList b.toList||a.toList==b.toList))
 | .geq,.str a,.str b=>some (.bool !(Op.bytesLess a.toList b.toList))
 | _,_,_=>none
def Eh:D→D→Option Bool
 | .int k a,.int k' b=>if k=k' then some (a==b) else none
 | .str a,.str b=>some (a==b)
 | .bool a,.bool b=>some (a==b)
 | _,_=>none
def isKey:Nat→D→Bool
 | 0,.int .. | 1,.str _ | 2,.bool _=>true
 | _,_=>false
def Bv:List Nat→List D→List D→Option Bool
 | [],[],[]=>some true
 | f::fs,a::l,b::m=>if isKey f a&&isKey f b then (match Eh a b,Bv fs l m with
  | some x,some y=>some (x&&y)
  | _,_=>none) else none
 | _,_,_=>none
def unD:UnOp→D→Option D
 | .not,.bool b=>some (.bool !b)
 | .neg,.int k n=>some (.int k (k.wrap (0-n)))
 | .xor,.int k n=>some (.int k (k.wrap ((BitVec.ofInt k.bits (if k.signed then -1 else k.max) ^^^ BitVec.ofInt k.bits n).toNat:Int)))
 | _,_=>none
def D.Rv:D→Bool
 | .ptr .. | .msl .. | .undef | .skip | .mref .. | .iter .. | .ifr ..=>false
 | .fn _ caps=>caps.isEmpty
 | .agg _ | .tup _=>false
 | _=>true
def D.free:D→Bool
 | .fn _ caps=>caps.all D.Rv
 | d=>d.Rv
def D.Rp:D→Bool
 | .agg cs=>cs.all D.free
 | d=>d.free
def D.Rq:D→Bool
 | .tup ds=>ds.all D.Rp
 | d=>d.Rp
def Au (cs:List D) (o sz:Nat) (agg:Bool):Option D :=
 if agg then (if o+sz≤cs.length then some (.agg ((cs.drop o).take sz)) else none)
 else cs[o]?
def overlay (cs:List D) (o:Nat) (new:List D):List D:=cs.take o++(new++cs.drop (o+new.length))
def Gn:List D→List (Nat × Nat)→List D→Option (List D)
 | cs,[],[]=>some cs
 | cs,(o,sz)::ps,x::xs =>
  if x.val&&x.cells.length==sz&&decide (o+sz≤cs.length) then Gn (overlay cs o x.cells) ps xs else none
 | _,_,_=>none
def Cr:List (List D)→Nat→List Nat→List D→Option (List (List D))
 | rs,_,[],[]=>some rs
 | rs,sz,i::ps,x::xs=>if x.val&&x.cells.all D.free&&x.cells.length==sz&&decide (i<rs.length) then Cr (rs.set i x.cells) sz ps xs else none
 | _,_,_,_=>none
def D7:List (List D)→Nat→List Nat→List D→Option (List (List D))
 | rs,_,[],[]=>some rs
 | rs,sz,i::ps,x::xs=>if x.val&&x.cells.length==sz&&decide (i<rs.length) then D7 (rs.set i x.cells) sz ps xs else none
 | _,_,_,_=>none
def rowsOf (S:St) (g v:Nat):Option Rf :=
 match S.heap[g]? with
 | some o=>if o.ver=v then some o else none
 | none=>none
def snap (m:Nat) (H:List Rf):D→Option D
 | .msl g v lo n cap=>match H[g]? with
  | some o=>if o.ver=v∧(o.kind=1∨(m≤g∧o.kind=2)) then some (.sl o.sz ((o.rows.drop lo).take n) (match cap with | some c=>some c | none=>if o.grow then none else some (o.rows.length-lo))) else some (.msl g v lo n cap)
  | none=>none
 | .mref g v=>if m≤g then (match H[g]? with | some o=>if o.ver=v∧o.kind=3∧o.elem=0 then some (.mp o.rows) else some (.mref g v) | none=>none) else some (.mref g v)
 | d=>some d
def Cn (m:Nat) (H:List Rf):List D→Option (List D)
 | []=>some []
 | d::l=>match snap m H d,Cn m H l with
  | some x,some y=>some (x::y)
  | _,_=>none
def Ro (m:Nat) (H:List Rf):D→Option D
 | .agg cs=>(Cn m H cs).map .agg
 | d=>snap m H d
def Ay (m:Nat) (H:List Rf):List D→Option (List D)
 | []=>some []
 | d::l=>match Ro m H d,Ay m H l with
  | some x,some y=>some (x::y)
  | _,_=>none
def Rs (m:Nat) (H:List Rf):D→Option D
 | .tup ds=>(Ay m H ds).map .tup
 | d=>Ro m H d
def Gh:D→Option Nat
 | .int _ n=>if 0≤n then some n.toNat else none
 | _=>none
def C8 (lo hi mx:Bool) (xs:List D):Option (Option D × Option D × Option D) :=
 match lo,hi,mx,xs with
 | false,false,false,[]=>some (none,none,none)
 | true,false,false,[a]=>some (some a,none,none)
 | false,true,false,[b]=>some (none,some b,none)
 | true,true,false,[a,b]=>some (some a,some b,none)
 | true,true,true,[a,b,c]=>some (some a,some b,some c)
 | false,true,true,[b,c]=>some (none,some b,some c)
 | _,_,_,_=>none
def Ie (n:Nat):Option D→Option Nat
 | some d=>Gh d
 | none=>some n
def D5 (n:Nat) (lo hi:Option D):Option (Nat × Nat) :=
 match Ie n hi,Ie 0 lo with
 | some h,some l=>if l≤h∧h≤n then some (l,h) else none
 | _,_=>none
def Ol (S:St) (g v sz n:Nat) (lo hi:Option D):Option (Nat × Nat) :=
 match rowsOf S g v with
 | some ob=>if ob.sz=sz then D5 n lo hi else none
 | none=>none
def Ke (S : St) (sz : Nat) (x : D) (lo hi mx : Option D) : Option D :=
 match x with
 | .R4=>match D5 0 lo hi,mx with
  | some _,none=>some .R4
  | some _,some d=>if Gh d=some 0 then some .R4 else none
  | none,_=>none
 | .sl s rows cap => if s ≠ sz then none else
  match D5 rows.length lo hi with
  | none=>none
  | some (l, h) => match mx with
   | none=>some (.sl s ((rows.drop l).take (h-l)) (cap.map (·-l)))
   | some d=>match Gh d with
    | some m=>if h≤m∧m≤rows.length then some (.sl s ((rows.drop l).take (h-l)) (some (m-l))) else none
    | none=>none
 | .msl g v o n cap => match Ol S g v sz n lo hi with
  | none=>none
  | some (l, h) => match mx with
   | none=>some (.msl g v (o+l) (h-l) (cap.map (·-l)))
   | some d=>match Gh d with
    | some m=>if h≤m∧m≤n then some (.msl g v (o+l) (h-l) (some (m-l))) else none
    | none=>none
 | _=>none
def Co (S:St) (sz:Nat):D→Option (List (List D))
 | .R4=>some []
 | .sl s rows _=>if s=sz then some rows else none
 | .msl g v lo n _=>match rowsOf S g v with
  | some o=>if o.sz=sz∧(o.kind=1∨o.kind=2) then some ((o.rows.drop lo).take n) else none
  | none=>none
 | _=>none
def Fa (S:St) (sz:Nat):D→Option (List (List D))
 | .R4=>some []
 | .sl s rows _=>if s=sz then some rows else none
 | .msl g v lo n _=>match rowsOf S g v with
  | some o=>if o.sz=sz∧o.kind≠3 then some ((o.rows.drop lo).take n) else none
  | none=>none
 | _=>none
def kA (kind k:Nat):Bool:=if kind=0 then k==0 else (k==1||k==2)
def kW (kind k:Nat):Bool:=if kind=0 then k==0 else k==2
def P5 (kind:Nat) (S:St) (sz:Nat) (x:D):Option (List (List D)):=if kind=0 then Fa S sz x else Co S sz x
def setAt (S:St) (g:Nat) (o:Rf):St:=⟨S.heap.set g o,min S.low g⟩
def newAt (S:St) (o:Rf):St:=⟨S.heap++[o],S.low⟩
def Bt (e sz bytes kind : Nat) (s : D) (new : List (List D)) (S : St) : Option (D × St × Bool) :=
 match s with
 | .R4=>if new.isEmpty then some (.R4,S,false) else
  if new.length*bytes≤140737488355328 then some (.msl S.heap.length 0 0 new.length none,newAt S ⟨e,sz,new,0,kind,true⟩,true) else none
 | .sl s' rows cap => if new.isEmpty then some (.sl s' rows cap, S, false) else
  if s'=sz∧cap=some rows.length∧(rows.length+new.length)*bytes≤140737488355328 then
   some (.msl S.heap.length 0 0 (rows.length+new.length) none,newAt S ⟨e,sz,rows++new,0,kind,true⟩,true) else none
 | .msl g v lo n cap => match rowsOf S g v with
  | none=>none
  | some o =>
   if o.sz=sz∧o.elem=e∧lo=0∧n=o.rows.length∧cap=none∧(if kind=0 then o.kind=0 else (o.kind=1∨o.kind=2))∧(n+new.length)*bytes≤140737488355328 then
    some (.msl g (v+1) 0 (n+new.length) none,setAt S g { o with rows:=o.rows++new,ver:=v+1,grow:=true },true) else
   if o.sz=sz∧o.elem=e∧lo=0∧cap=none∧(if kind=0 then o.kind=0 else o.kind=2)∧n+new.length≤o.rows.length then
    some (.msl g v 0 (n+new.length) none,setAt S g { o with rows:=o.rows.take n++new++o.rows.drop (n+new.length) },true) else
   if o.sz=sz∧o.elem=e∧cap=some n∧(if kind=0 then o.kind=0 else (o.kind=1∨o.kind=2))∧(n+new.length)*bytes≤140737488355328 then
    (if new.isEmpty then some (.msl g v lo n cap,S,false) else
     some (.msl S.heap.length 0 0 (n+new.length) none,newAt S ⟨e,sz,(o.rows.drop lo).take n++new,0,kind,true⟩,true)) else none
 | _=>none
def Ct (e sz bytes kind:Nat) (s x:D) (S:St):Option (D × St × Bool) :=
 match (if kind=0 then Fa S sz x else Co S sz x) with
 | none=>none
 | some new=>Bt e sz bytes kind s new S
def maxD:D→D→Option D
 | .int k a,.int k' b=>if k=k' then some (.int k (if b>a then b else a)) else none
 | _,_=>none
def minD:D→D→Option D
 | .int k a,.int k' b=>if k=k' then some (.int k (if b<a then b else a)) else none
 | _,_=>none
def Ja (f:D→D→Option D):D→List D→Option D
 | x,[]=>some x
 | x,y::l=>match f x y with
  | some z=>Ja f z l
  | none=>none
def Jr:Bool→D→Option D
 | true,.str s=>some (.int .i64 s.size)
 | false,.R4=>some (.int .i64 0)
 | false,.sl _ rows _=>some (.int .i64 rows.length)
 | false,.msl _ _ _ n _=>some (.int .i64 n)
 | _,_=>none
def capD:D→Option D
 | .R4=>some (.int .i64 0)
 | .sl _ _ (some c)=>some (.int .i64 c)
 | .msl _ _ _ _ (some c)=>some (.int .i64 c)
 | _=>none
def Ha:D→D→Option D
 | .str s,.int _ i=>if 0≤i then s[i.toNat]?.map (fun b=>.int .u8 b.toNat) else none
 | _,_=>none
def Hd (S:St) (sz:Nat):D→D→Option D
 | .sl s rows _,.int _ i=>if s=sz∧0≤i then rows[i.toNat]?.map (fun r=>.R6 r 0) else none
 | .msl g v lo n _,.int _ i=>match rowsOf S g v with
  | some ob=>if ob.sz=sz∧0≤i∧i<n then some (.ptr g v (lo+i.toNat) 0) else none
  | none=>none
 | _,_=>none
def Nc (sz len:Nat):D→D→Option D
 | .ptr g v i o,.int _ j=>if 0≤j∧j<len then some (.ptr g v i (o+j.toNat*sz)) else none
 | .R6 row o,.int _ j=>if 0≤j∧j<len then some (.R6 row (o+j.toNat*sz)) else none
 | _,_=>none
def Pj (f:Nat):D→Option D
 | .ptr g v i o=>some (.ptr g v i (o+f))
 | .R6 row o=>some (.R6 row (o+f))
 | _=>none
def Ig (sz:Nat) (agg:Bool) (S:St):D→Option D
 | .R6 row o=>Au row o sz agg
 | .ptr g v i o => match rowsOf S g v with
  | some x=>match x.rows[i]? with
   | some row=>Au row o sz agg
   | none=>none
  | none=>none
 | _=>none
def Ca (sz : Nat) (S : St) (a x : D) : Option St :=
 match a with
 | .ptr g v i o => match rowsOf S g v with
  | some ob => match ob.rows[i]? with
   | some row =>
    match (if ob.kind=0 then some x else Ro S.heap.length S.heap x) with
    | some y => if y.val && y.cells.length == sz && decide (o + sz ≤ row.length) && (decide (ob.kind = 0) || (decide (ob.kind = 2) && y.cells.all D.free)) then
      some (setAt S g { ob with rows:=ob.rows.set i (overlay row o y.cells) }) else none
    | none=>none
   | none=>none
  | none=>none
 | _=>none
def bytesOf:List (List D)→Option (List UInt8)
 | []=>some []
 | [.int .u8 n]::l=>(bytesOf l).map (UInt8.ofNat n.toNat::·)
 | _::_=>none
def La:List (List D)→Option (List UInt8)
 | []=>some []
 | [.int .u8 n]::l=>if 0≤n∧n<256 then (La l).map (UInt8.ofNat n.toNat::·) else none
 | _::_=>none
def Ck (s:ByteArray):List (List D):=s.data.toList.map fun b=>[.int .u8 b.toNat]
def isNil:Nat→D→Option Bool
 | 0,.R4 | 1,.nilp | 2,.nilfn | 3,.nilm | 4,.nili=>some true
 | 0,.sl .. | 0,.msl .. | 1,.ptr .. | 1,.R6 .. | 2,.fn .. | 3,.mref .. | 3,.mp .. | 4,.ifc .. | 4,.ifr ..=>some false
 | _,_=>none
def eqnilD (fam:Nat) (x y:D):Option Bool :=
 match isNil fam x,isNil fam y with
 | some true,some b=>some b
 | some false,some true=>some false
 | _,_=>none
def pop:LOp→List D→Option D
 | .mv,[x]=>some x
 | .pick,[.bool c,a,b]=>some (if c then a else b)
 | .bin op,[x,y]=>Cg op x y
 | .eqb neg,[.bool a,.bool b]=>some (.bool ((a==b) != neg))
 | .eqs neg R5,[.agg a,.agg b]=>(Bv R5 a b).map fun r=>.bool (r != neg)
 | .un op,[x]=>unD op x
 | .field o sz agg,[.agg cs]=>Au cs o sz agg
 | .build z ps,xs=>(Gn z ps xs).map .agg
 | .nilck,[.ptr g v i o]=>some (.ptr g v i o)
 | .nilck,[.R6 r o]=>some (.R6 r o)
 | .nilck,[.fn f c]=>some (.fn f c)
 | .R3 o,[a]=>Pj o a
 | .aaddr sz len,[x,i]=>Nc sz len x i
 | .index,[x,i]=>Ha x i
 | .aindex sz len agg,[.agg cs,.int _ i]=>if 0≤i∧i<len then Au cs (i.toNat*sz) sz agg else none
 | .slice true _ lo hi mx,.str s::xs=>match C8 lo hi mx xs with
  | some (a,b,none)=>(D5 s.size a b).map fun (l,h)=>.str (s.extract l h)
  | _=>none
 | .len st,[x]=>Jr st x
 | .lenc n,[_]=>some (.int .i64 n)
 | .cap,[x]=>capD x
 | .max,x::l=>Ja maxD x l
 | .min,x::l=>Ja minD x l
 | .mkfn f,xs=>some (.fn f xs)
 | .extract i,[.tup ds]=>ds[i]?
 | .conv k,[.int _ n]=>some (.int k (k.wrap n))
 | .sconv,[.str s]=>some (.str s)
 | .idxb,[.str s,.int .u8 c]=>some (.int .i64 (match (List.range s.size).find? (fun i=>s[i]! == UInt8.ofNat c.toNat) with | some i=>(i:Int) | none=>-1))
 | .cntb,[.str s,.int .u8 c]=>some (.int .i64 (s.foldl (fun n x=>if x==UInt8.ofNat c.toNat then n+1 else n) (0:Nat)))
 | .eqnil neg fam,[x,y]=>(eqnilD fam x y).map fun b=>.bool (b != neg)
 | .mkif t,[x]=>if x.val then some (if x.Rp then .ifc t x else .ifr t x) else none
 | .tass t z ok,[.ifc t' d]=>if t'=t then some (if ok then .tup [d,.bool true] else d) else if ok then some (.tup [z,.bool false]) else none
 | .tass t z ok,[.ifr t' d]=>if t'=t then some (if ok then .tup [d,.bool true] else d) else if ok then some (.tup [z,.bool false]) else none
 | .tass _ z true,[.nili]=>some (.tup [z,.bool false])
 | _,_=>none
def Qq (k:D):List (List D)→Nat→Option (Option (Nat × D))
 | [],_=>some none
 | [a,v]::l,i=>match Eh k a with
  | some true=>some (some (i,v))
  | some false=>Qq k l (i+1)
  | none=>none
 | _::_,_=>none
def Lr (S:St):D→Option (List (List D))
 | .nilm=>some []
 | .mp rows=>some rows
 | .mref g v=>match rowsOf S g v with
  | some o=>if o.kind=3∧o.elem=0 then some o.rows else none
  | none=>none
 | _=>none
def Lp (S:St) (kf:Nat) (z:D) (ok:Bool) (m k:D):Option D :=
 match Lr S m with
 | some rows=>if isKey kf k then (match Qq k rows 0 with
  | some (some (_,v))=>some (if ok then .tup [v,.bool true] else v)
  | some none=>some (if ok then .tup [z,.bool false] else z)
  | none=>none) else none
 | none=>none
def Q6 (S : St) (kf : Nat) (m k v : D) : Option St :=
 match m with
 | .mref g ver => match rowsOf S g ver with
  | some o => if o.kind = 3 ∧ o.elem = 0 ∧ isKey kf k = true then (match Ro S.heap.length S.heap v with
   | some v'=>if v'.Rp&&v'.val then (match Qq k o.rows 0 with
    | some (some (i,_))=>some (setAt S g { o with rows:=o.rows.set i [k,v'] })
    | some none=>some (setAt S g { o with rows:=o.rows++[[k,v']] })
    | none=>none) else none
   | none=>none) else none
  | none=>none
 | _=>none
def Gm (R5:List Nat) (k:D):List (List D)→Nat→Option (Option (Nat × D))
 | [],_=>some none
 | [a, v] :: l, i => match k, a with
  | .agg cs,.agg ds=>(match Bv R5 cs ds with
   | some true=>some (some (i,v))
   | some false=>Gm R5 k l (i+1)
   | none=>none)
  | _,_=>none
 | _::_,_=>none
def Kr (R5:List Nat):D→Bool
 | .agg cs=>cs.length==R5.length&&(cs.zip R5).all fun (c,f)=>isKey f c
 | _=>false
def Hz (S:St) (R5:List Nat) (z:D) (ok:Bool) (m k:D):Option D :=
 match Lr S m with
 | some rows=>if Kr R5 k then (match Gm R5 k rows 0 with
  | some (some (_,v))=>some (if ok then .tup [v,.bool true] else v)
  | some none=>some (if ok then .tup [z,.bool false] else z)
  | none=>none) else none
 | none=>none
def Nt (S : St) (R5 : List Nat) (m k v : D) : Option St :=
 match m with
 | .mref g ver => match rowsOf S g ver with
  | some o => if o.kind = 3 ∧ o.elem = 0 ∧ Kr R5 k = true then (match Ro S.heap.length S.heap v with
   | some v'=>if v'.Rp&&v'.val then (match Gm R5 k o.rows 0 with
    | some (some (i,_))=>some (setAt S g { o with rows:=o.rows.set i [k,v'] })
    | some none=>some (setAt S g { o with rows:=o.rows++[[k,v']] })
    | none=>none) else none
   | none=>none) else none
  | none=>none
 | _=>none
def Gq (sz kind : Nat) (d : D) (src : List (List D)) (S : St) : Option (D × St × Bool) :=
 match d with
 | .R4=>some (.int .i64 0,S,false)
 | .sl s rows _=>if s=sz∧(src.isEmpty∨rows.isEmpty) then some (.int .i64 0,S,false) else none
 | .msl g v lo n _=>match rowsOf S g v with
  | some o => if o.sz = sz ∧ kW kind o.kind = true then
    some (.int .i64 (min src.length n:Nat),setAt S g { o with rows:=o.rows.take lo++src.take (min src.length n)++o.rows.drop (lo+min src.length n) },true) else none
  | none=>none
 | _=>none
def eqpD (S:St):D→D→Option Bool
 | .nilp,.nilp=>some true
 | .nilp,.ptr .. | .ptr ..,.nilp | .nilp,.R6 .. | .R6 ..,.nilp=>some false
 | .ptr g v i o,.ptr g' v' i' o'=>match rowsOf S g v,rowsOf S g' v' with
  | some ob,some _=>if g=g' then some (decide (i*ob.sz+o=i'*ob.sz+o')) else none
  | _,_=>none
 | _,_=>none
def J7 (S:St) (t:TypeId) (n:Nat):D→Option D
 | .nilp=>some .nilp
 | .ptr g v 0 0=>match rowsOf S g v with
  | some ob=>if ob.kind=0∧ob.elem=t∧ob.sz=n∧ob.rows.length=1∧ob.grow=false then some (.ptr g v 0 0) else none
  | none=>none
 | _=>none
def sdataD (S:St):D→Option D
 | .R4=>some .nilp
 | .msl g v 0 (_+1) none=>match rowsOf S g v with
  | some ob=>if ob.kind=1∨ob.kind=2 then some (.ptr g v 0 0) else none
  | none=>none
 | _=>none
def ustrD (S : St) (e : TypeId) (p : D) (n : Int) : Option (D × St × Bool) :=
 match p with
 | .nilp=>if n=0 then some (.str ⟨#[]⟩,S,false) else none
 | .ptr g v 0 0=>match rowsOf S g v with
  | some ob => if (ob.kind = 1 ∨ ob.kind = 2) ∧ ob.sz = 1 ∧ ob.elem = e ∧ 0 ≤ n ∧ n.toNat ≤ ob.rows.length then
    (match La (ob.rows.take n.toNat) with
    | some b=>some (.str ⟨b.toArray⟩,setAt S g { ob with ver:=v+1 },true)
    | none=>none) else none
  | none=>none
 | _=>none
def Oy (S:St):D→Option (D × St × Bool)
 | .msl g v 0 n none=>match rowsOf S g v with
  | some ob=>if ob.kind=2∧ob.sz=1∧n=ob.rows.length∧ob.grow=false then some (.sl 1 ob.rows (some n),setAt S g { ob with ver:=v+1 },true) else none
  | none=>none
 | _=>none
def nextsD (S : St) (g v : Nat) : Option (D × St × Bool) :=
 match rowsOf S g v with
 | some ob => if ob.kind = 3 ∧ ob.elem = 1 then (match ob.rows with
  | [[.str s, .int .i64 pos]] => if pos.toNat < s.size then
    some (.tup [.bool true,.int .i64 pos,.int .i32 (Utf8.decode s pos.toNat).1],setAt S g { ob with rows:=[[.str s,.int .i64 (pos.toNat+(Utf8.decode s pos.toNat).2:Nat)]] },true)
   else some (.tup [.bool false],S,false)
  | _=>none) else none
 | none=>none
def lop:LOp→List D→St→Option (D × St × Bool)
 | .alloc e z,[],S=>some (.ptr S.heap.length 0 0 0,newAt S ⟨e,z.length,[z],0,0,false⟩,true)
 | .box e sz,[x],S=>if x.val&&x.cells.length==sz then some (.ptr S.heap.length 0 0 0,newAt S ⟨e,sz,[x.cells],0,0,false⟩,true) else none
 | .boxc sz,[x],S=>if x.val&&x.cells.length==sz&&x.cells.all D.free then some (.R6 x.cells 0,S,false) else none
 | .Ry e sz len z ps kind, xs, S => if kind = 0 then (match D7 (List.replicate len z) sz ps xs with
  | some rs=>some (.msl S.heap.length 0 0 len none,newAt S ⟨e,sz,rs,0,0,false⟩,true)
  | none=>none) else match Ay S.heap.length S.heap xs with
  | some ys=>match Cr (List.replicate len z) sz ps ys with
   | some rs=>if kind=2 then some (.msl S.heap.length 0 0 len none,newAt S ⟨e,sz,rs,0,2,false⟩,true) else some (.sl sz rs (some len),S,false)
   | none=>none
  | none=>none
 | .load sz agg,[a],S=>(Ig sz agg S a).map fun r=>(r,S,false)
 | .store sz,[a,x],S=>(Ca sz S a x).map fun S'=>(.undef,S',true)
 | .Rz sz,[x,i],S=>(Hd S sz x i).map fun r=>(r,S,false)
 | .slice false sz lo hi mx,x::xs,S=>match C8 lo hi mx xs with
  | some (a,b,m)=>(Ke S sz x a b m).map fun r=>(r,S,false)
  | none=>none
 | .append e sz bytes kind,[s,x],S=>Ct e sz bytes kind s x S
 | .mkslice e sz bytes z kind, [.int _ l, .int _ c], S => if 0 ≤ l ∧ l ≤ c ∧ c.toNat * bytes ≤ 140737488355328 then
   some (.msl S.heap.length 0 0 l.toNat none,newAt S ⟨e,sz,List.replicate l.toNat z,0,kind,decide (l≠c)⟩,true) else none
 | .bstr,[x],S=>match Co S 1 x with
  | some rows=>(bytesOf rows).map fun b=>(.str ⟨b.toArray⟩,S,false)
  | none=>none
 | .strb,[.str s],S=>some (.sl 1 (Ck s) none,S,false)
 | .appstr e bytes kind,[s,.str t],S=>Bt e 1 bytes kind s (Ck t) S
 | .appmk e sz bytes z kind,[.R4,.int _ n],S=>if 0<n∧n.toNat*bytes≤140737488355328 then some (.msl S.heap.length 0 0 n.toNat none,newAt S ⟨e,sz,List.replicate n.toNat z,0,kind,true⟩,true) else none
 | .eqp neg,[x,y],S=>(eqpD S x y).map fun b=>(.bool (b != neg),S,false)
 | .toU t n,[x],S=>(J7 S t n x).map fun r=>(r,S,false)
 | .ofU t n,[x],S=>(J7 S t n x).map fun r=>(r,S,false)
 | .sdata,[x],S=>(sdataD S x).map fun r=>(r,S,false)
 | .ustr e,[p,.int .i64 n],S=>ustrD S e p n
 | .strsh,[x],S=>Oy S x
 | .rngs,[.str s],S=>some (.iter S.heap.length 0,newAt S ⟨1,2,[[.str s,.int .i64 0]],0,3,false⟩,true)
 | .nexts,[.iter g v],S=>nextsD S g v
 | .mkmap,[],S=>some (.mref S.heap.length 0,newAt S ⟨0,2,[],0,3,false⟩,true)
 | .mapset kf,[m,k,v],S=>(Q6 S kf m k v).map fun S'=>(.undef,S',true)
 | .mapget kf z ok,[m,k],S=>(Lp S kf z ok m k).map fun r=>(r,S,false)
 | .mapsetS R5,[m,k,v],S=>(Nt S R5 m k v).map fun S'=>(.undef,S',true)
 | .mapgetS R5 z ok,[m,k],S=>(Hz S R5 z ok m k).map fun r=>(r,S,false)
 | .copy sz kind,[d,x],S=>match P5 kind S sz x with
  | some src=>Gq sz kind d src S
  | none=>none
 | .copys kind,[d,.str s],S=>if kind=0 then none else Gq 1 kind d (Ck s) S
 | .mknz e, [.int .i64 n], S => if 0 ≤ n ∧ n ≤ 140737488355328 then
   some (.msl S.heap.length 0 0 n.toNat none,newAt S ⟨e,1,List.replicate n.toNat [.junk],0,2,true⟩,true) else none
 | _,_,_=>none
def LOp.loud:LOp→Bool
 | .slice false .. | .Rz .. | .alloc .. | .box .. | .boxc .. | .Ry .. | .load .. | .store .. | .append .. | .appstr .. | .appmk .. | .eqp .. | .toU .. | .ofU .. | .sdata | .ustr .. | .strsh | .rngs | .nexts | .mkslice .. | .bstr | .strb | .mkmap | .mapset .. | .mapget .. | .mapsetS .. | .mapgetS .. | .copy .. | .copys .. | .mknz .. | .call .. | .callv | .invoke ..=>true
 | _=>false
def aop (l:LOp) (ds:List D) (S:St):Option (D × St × Bool) :=
 if l.loud then lop l ds S else (pop l ds).map fun r=>(r,S,false)
def opd (vals env:List D):Rj→D
 | .env j=>env.getD j .undef
 | .loc d=>vals.getD d .undef
 | .const d=>d
abbrev Bf:=FuncId→List D→St→Option (D × St × Bool)
def Az (call:Bf) (o:LOp) (xs:List D) (S:St):Option (D × St × Bool) :=
 match o with
 | .call f=>call f xs S
 | .callv=>match xs with
  | .fn f caps::ys=>call f (ys++caps) S
  | _=>none
 | .invoke tab => match xs with
  | .ifc t d::ys=>match tab.lookup t with
   | some f=>call f (d::ys) S
   | none=>none
  | .ifr t d::ys=>match tab.lookup t with
   | some f=>call f (d::ys) S
   | none=>none
  | _=>none
 | o=>aop o xs S
def onG (vals:List D):Option (Nat × Bool)→Option Bool
 | none=>some true
 | some (d,b)=>match vals.getD d .undef with
  | .bool b'=>some (b'==b)
  | .skip=>some false
  | _=>none
def Fh (call:Bf):List Ri→List D→List D→St→Option (List D × St)
 | [],vals,env,S=>some (vals,S)
 | o :: os, vals, env, S =>
  match onG vals o.guard with
  | none=>none
  | some false=>Fh call os (.skip::vals) env S
  | some true=>match Az call o.op (o.args.map (opd vals env)) S with
   | none=>none
   | some (r,S',wr)=>Fh call os (r::vals) env S'
structure FP where
 loud:Bool
 reads:Option (List Nat)
 writes:Option (List Nat)
 creates:Bool
 hoist:Option Nat
def Ap:D→Bool
 | .msl .. | .mref ..=>false
 | _=>true
def Rn:D→Bool
 | .agg cs=>cs.all Ap
 | d=>Ap d
def Am (wr:Bool):FP:=if wr then ⟨true,none,none,true,none⟩ else ⟨true,none,some [],false,none⟩
def Af (l:List Nat):FP:=⟨true,some l,some [],false,none⟩
def Ab:FP:=⟨false,some [],some [],false,none⟩
def A9:D→List Nat
 | .msl g _ _ _ _=>[g]
 | _=>[]
def Av (s x r:D) (wr:Bool):FP :=
 if wr then (match r with
  | .msl g _ _ _ _=>if A9 s=[g] then ⟨true,some (A9 s++A9 x),some [g],false,none⟩ else ⟨true,some (A9 s++A9 x),some [g],true,none⟩
  | _=>Am wr) else Af (A9 s++A9 x)
def Bd (r:D) (wr:Bool):FP:=match r with
 | .msl g _ _ _ _=>if wr then ⟨true,some [],some [g],true,none⟩ else Af []
 | .sl _ _ _=>if wr then Am wr else Af []
 | _=>Am wr
def Dl (l:LOp) (ds:List D) (r:D) (wr:Bool):FP :=
 match l with
 | .load ..=>match ds with
  | [.ptr g _ _ _]=>Af [g]
  | _=>Af []
 | .store ..=>match ds with
  | [.ptr g _ _ _,x]=>if Rn x then ⟨true,some [g],some [g],false,none⟩ else Am wr
  | _=>Am wr
 | .Rz ..=>match ds with
  | [.msl g _ _ _ _,_]=>Af [g]
  | _=>Af []
 | .slice false ..=>match ds with
  | .msl g _ _ _ _::_=>Af [g]
  | _=>Af []
 | .mapget ..=>match ds with
  | [.mref g _,_]=>Af [g]
  | _=>Af []
 | .box ..=>match r with
  | .ptr g _ _ _=>⟨true,some [],some [g],true,none⟩
  | _=>Am wr
 | .mknz .. | .mkslice ..=>match r with
  | .msl g _ _ _ _=>⟨true,some [],some [g],true,none⟩
  | _=>Am wr
 | .strb=>Af []
 | .boxc ..=>Af []
 | .Ry _ _ _ _ _ kind=>if kind=0||ds.all Rn then Bd r wr else Am wr
 | .append ..=>match ds with
  | [s,x]=>Av s x r wr
  | _=>Am wr
 | .call _=>if wr then (match r with
  | .msl g _ _ _ _=>⟨true,none,some [g],true,none⟩
  | _=>Am true) else Am false
 | l=>if l.loud then Am wr else Ab
def dj:Option (List Nat)→Option (List Nat)→Bool
 | some [],_=>true
 | _,some []=>true
 | some l,some m=>l.all fun g=>!(m.contains g)
 | _,_=>false
def Aj (g:Nat):Option (List Nat)→Bool
 | some l=>!(l.contains g)
 | none=>true
def Aq (a b:FP):Bool :=
 !a.loud||!b.loud ||
  (dj a.writes b.reads&&dj a.writes b.writes&&dj b.writes a.reads&&!(a.creates&&b.creates)&&!(a.creates&&b.reads.isNone)&&!(b.creates&&a.reads.isNone))
def Ah (b:Bool) (f x:FP):Bool :=
 match f.hoist,x.hoist with
 | some _,some _=>true
 | some g,none=>b||Aj g x.writes
 | none,some g=>Aj g f.writes
 | none,none=>b||Aq f x
def Ba:List Bool→List FP→FP→Bool
 | b::bs,f::fs,x=>Ah b f x&&Ba bs fs x
 | [],[],_=>true
 | _,_,_=>false
def Im:List Bool→List FP→List Nat
 | b::bs,f::fs=>match b,f.hoist with
  | true,some g=>g::Im bs fs
  | _,_=>Im bs fs
 | _,_=>[]
def sameD:D→D→Bool
 | .int k n,.int k' n'=>decide (k=k')&&decide (n=n')
 | .bool a,.bool b=>a==b
 | .str a,.str b=>decide (a=b)
 | .nilp,.nilp | .R4,.R4 | .nilfn,.nilfn | .nilm,.nilm=>true
 | _,_=>false
def O4:List D→List D→Bool
 | [],[]=>true
 | a::l,b::m=>sameD a b&&O4 l m
 | _,_=>false
def sameNew (p:TypeId × List D):Option Rf→Bool
 | some ⟨e,sz,[row],0,0,false⟩=>decide (e=p.1)&&decide (sz=p.2.length)&&O4 row p.2
 | _=>false
def Gz (n:Nat) (dn:List Nat) (H:List Rf):List (TypeId × List D)→Nat→Bool
 | [],_=>true
 | p::l,r=>(dn.contains (n+r)||sameNew p H[n+r]?)&&Gz n dn H l (r+1)
def Ai (n:Nat) (o:Ri) (ds:List D) (r:D) (wr:Bool):FP :=
 match o.hoist with
 | some k=>⟨false,some [],some [],false,some (n+k)⟩
 | none=>Dl o.op ds r wr
def Ag (n:Nat) (news:List (TypeId × List D)) (o:Ri) (fps:List FP) (fp:FP) (S:St):Bool :=
 Ba o.ord fps fp&&(fp.writes.isSome||Gz n (Im o.ord fps) S.heap news 0)
def Gt (call:Bf) (n:Nat) (news:List (TypeId × List D)):List Ri→List FP→List D→List D→St→Option (List D × St)
 | [],_,vals,env,S=>some (vals,S)
 | o :: os, fps, vals, env, S =>
  match onG vals o.guard with
  | none=>none
  | some false=>Gt call n news os (Ab::fps) (.skip::vals) env S
  | some true=>match Az call o.op (o.args.map (opd vals env)) S with
   | none=>none
   | some (r,S',wr)=>if Ag n news o fps (Ai n o (o.args.map (opd vals env)) r wr) S' then Gt call n news os (Ai n o (o.args.map (opd vals env)) r wr::fps) (r::vals) env S' else none
def Ed (p:TypeId × List D):Rf:=⟨p.1,p.2.length,[p.2],0,0,false⟩
def Ce (n k:Nat):List D:=((List.range k).map fun r=>D.ptr (n+r) 0 0 0).reverse
def exports:List (Nat × Nat)→List D→List D→List D
 | [],vals,env=>env
 | (j,d)::es,vals,env=>exports es vals (env.set j (vals.getD d .undef))
inductive Rl where
 | normal | ret | exit (i:Nat)
def Fq (body:List D→St→Option (Rl × List D × St)):Nat→List D→St→Option (Rl × List D × St)
 | 0,_,_=>none
 | n+1,env,S=>match body env S with
  | some (.normal,env',S')=>Fq body n env' S'
  | r=>r
def Bh (call:Bf) (N:Nat):Rk→List D→St→Option (Rl × List D × St)
 | .skip,env,S=>some (.normal,env,S)
 | .ret,env,S=>some (.ret,env,S)
 | .exit i,env,S=>some (.exit i,env,S)
 | .region ops exps,env,S=>match Fh call ops [] env S with
  | some (vals,S')=>some (.normal,exports exps vals env,S')
  | none=>none
 | .drawn ops exps news,env,S=>match Gt call S.heap.length news ops [] (Ce S.heap.length news.length) env ⟨S.heap++news.map Ed,S.low⟩ with
  | some (vals,S')=>some (.normal,exports exps vals env,S')
  | none=>none
 | .seq a b,env,S=>match Bh call N a env S with
  | some (.normal,env',S')=>Bh call N b env' S'
  | r=>r
 | .cond c a b,env,S=>match opd [] env c with
  | .bool true=>Bh call N a env S
  | .bool false=>Bh call N b env S
  | _=>none
 | .block i c,env,S=>match Bh call N c env S with
  | some (.exit j,env',S')=>if j=i then some (.normal,env',S') else some (.exit j,env',S')
  | r=>r
 | .loop c,env,S=>Fq (Bh call N c) N env S
 | .dfr x,env,S=>match opd [] env x with
  | .fn f caps=>some (.normal,env++[.fn f caps],S)
  | _=>none
 | .fail,_,_=>none
def Fp:Rk→Bool
 | .dfr _=>false
 | .seq a b=>Fp a&&Fp b
 | .cond _ a b=>Fp a&&Fp b
 | .block _ c=>Fp c
 | .loop c=>Fp c
 | _=>true
def M6 (tab : FuncId → Option Rh) (call : Bf) (N : Nat) : List D → St → Option St
 | [],S=>some S
 | .fn f caps::l,S=>match tab f with
  | some F => if caps.length = F.nargs ∧ Fp F.body = true ∧ F.res = [] then (match Bh call N F.body (F.slots.map fun s => caps.getD s .undef) S with
    | some (.exit _,_,_) | none=>none
    | some (_,_,S')=>M6 tab call N l S') else none
  | none=>none
 | _::_,_=>none
def Cv (env:List D) (S:St):LRes→Option D
 | .tmp j=>some (env.getD j .undef)
 | .cell j sz agg=>Ig sz agg S (env.getD j .undef)
def Bo (env:List D) (S:St):List LRes→Option (List D)
 | []=>some []
 | r::l=>match Cv env S r,Bo env S l with
  | some x,some y=>some (x::y)
  | _,_=>none
def A7 (env:List D) (S:St) (l:List LRes):Option D :=
 match Bo env S l with
 | some [x]=>some x
 | some xs=>some (.tup xs)
 | none=>none
def Fj (m : Nat) (H : List Rf) : Nat → D → Option D
 | 0,d=>snap m H d
 | k+1,.msl g v lo n cap=>match H[g]? with
  | some o => if o.ver = v ∧ m ≤ g ∧ o.kind = 0 then (match ((o.rows.drop lo).take n).mapM (fun r => r.mapM (Fj m H k)) with
    | some rows=>if rows.all (fun r=>r.all D.free) then some (.sl o.sz rows (match cap with | some c=>some c | none=>if o.grow then none else some (o.rows.length-lo))) else none
    | none=>none) else snap m H (.msl g v lo n cap)
  | none=>none
 | _+1,d=>snap m H d
def O3 (m:Nat) (H:List Rf):D→Option D
 | .agg cs=>(cs.mapM (Fj m H 6)).map .agg
 | d=>Fj m H 6 d
def snapDR (m:Nat) (H:List Rf):D→Option D
 | .tup ds=>(ds.mapM (O3 m H)).map .tup
 | d=>O3 m H d
@[simp] def isMsl:D→Bool
 | .msl ..=>true
 | _=>false
def newR (S:St) (r:D) (S':St):Option (D × St × Bool):=match r,S'.heap[S.heap.length]? with
 | .msl g _ _ _ _,some o=>if g=S.heap.length∧S'.heap.length=S.heap.length+1∧S.heap.length≤S'.low∧S.low≤S.heap.length then some (r,newAt S o,true) else none
 | _,_=>none
def leave (raw:Bool) (S:St) (r:D) (S':St):Option (D × St × Bool) :=
 match (if raw then newR S r S' else none) with
 | some x=>some x
 | none => match (if S.heap.length ≤ S'.low then (match Rs S.heap.length S'.heap r with | some r' => if r'.Rq then some r' else none | none => none) else none) with
  | some r'=>some (r',S,false)
  | none=>match Rs S'.heap.length S'.heap r with
   | some r'=>if S.heap.length≤S'.low∧S'.heap.length=S.heap.length then some (r',S,false) else if isMsl r' then newR S r' S' else some (r',⟨S'.heap,min S.low S'.low⟩,true)
   | none=>none
structure Prg where
 fns:FuncId→Option Rh
 raw:FuncId→Bool
 pure:FuncId→Bool
 deep:FuncId→Bool:=fun _=>false
 ext:FuncId→List D→Option D:=fun _ _=>none
 dfs:FuncId→Bool:=fun _=>false
 dfn:FuncId→Option Rh:=fun _=>none
def leaveD (S T:St) (r:D) (S':St):Option (D × St × Bool) :=
 if S.heap.length≤S'.low then (match snapDR S.heap.length S'.heap r with | some r'=>if r'.Rq then some (r',T,false) else none | none=>none) else none
def leaveP (S:St) (r:D) (S':St):Option (D × St × Bool) :=
 match leave false ⟨[],0⟩ r S' with
 | some (r',_,false)=>if r'.Rq then some (r',S,false) else none
 | _=>none
def behind (L:Prg) (call:Bf) (N:Nat) (f:FuncId) (F:Rh) (env':List D) (S':St):Option St :=
 if L.dfs f then M6 L.dfn call N (env'.drop F.slots.length).reverse S' else some S'
def Bl (L : Prg) (N : Nat) : Nat → Bf
  | 0,_,_,_=>none
  | d + 1, f, args, S => match L.ext f args with
   | some r=>some (r,S,false)
   | none => match L.fns f with
    | none=>none
    | some F => match (if L.raw f then some args else Ay S.heap.length S.heap args) with
      | none=>none
      | some args' =>
        if args'.length≠F.nargs then none else
        if L.pure f&&args'.all D.Rp then
          match Bh (Bl L N d) N F.body (F.slots.map fun s=>args'.getD s .undef) ⟨[],0⟩ with
          | some (.exit _,_,_) | none=>none
          | some (_, env', S1) => match behind L (Bl L N d) N f F env' S1 with
            | none=>none
            | some S' => match A7 env' S' F.res with
              | none=>none
              | some r=>if L.deep f then leaveD ⟨[],0⟩ S r S' else leaveP S r S'
        else
        match Bh (Bl L N d) N F.body (F.slots.map fun s=>args'.getD s .undef) ⟨S.heap,S.heap.length⟩ with
        | some (.exit _,_,_) | none=>none
        | some (_, env', S1) => match behind L (Bl L N d) N f F env' S1 with
          | none=>none
          | some S' => match A7 env' S' F.res with
            | none=>none
            | some r=>if L.deep f then leaveD S S r S' else leave (L.raw f) S r S'
def cellOf:Value→Option D
 | .int k n=>some (.int k n)
 | .bool b=>some (.bool b)
 | .string s=>some (.str s)
 | .pointer none=>some .nilp
 | .slice none 0 0=>some .R4
 | .nilFunc=>some .nilfn
 | .map none=>some .nilm
 | .nilIface=>some .nili
 | _=>none
def cellsOf:List Value→Option (List D)
 | []=>some []
 | v::l=>match cellOf v,cellsOf l with
  | some x,some y=>some (x::y)
  | _,_=>none
def Og:Value→Option D
 | .agg cs=>(cellsOf cs.toList).map .agg
 | v=>cellOf v
def Fg:List (Option Tmp)→Tmp→Option Nat
 | [],_=>none
 | o::l,t=>if o=some t then some 0 else (Fg l t).map (·+1)
def idxOf:List Nat→Nat→Option Nat
 | [],_=>none
 | s::l,t=>if s=t then some 0 else (idxOf l t).map (·+1)
structure Kd where
 kind:TypeId→Nat
 glob:Nat→Option (List D):=fun _=>none
 bx:Option Tmp→Bool:=fun _=>false
def Kd.of (kd:Kd) (e:TypeId):Nat:=if kd.kind e=0 then 0 else if kd.kind e=2 then 2 else 1
def Kd.lit (kd:Kd) (b:Bool):Kd:=if b then ⟨fun _=>2,kd.glob,kd.bx⟩ else kd
def bxL (l:List Nat):Option Tmp→Bool
 | some t=>l.contains t
 | none=>false
def O9 (gl:Nat→Option (List D)) (slots:List Nat) (prev:List (Option Tmp)):Operand→Option Rj
 | .tmp t=>match Fg prev t with
  | some d=>some (.loc d)
  | none=>(idxOf slots t).map .env
 | .const v=>some (.const ((Og v).getD .undef))
 | .func f=>some (.const (.fn f []))
 | .global g=>some (.const (match gl g with | some row=>.R6 row 0 | none=>.undef))
section
variable (P:Program)
def Ch (t:TypeId):Option Nat:=match P.info? t,P.underlying t with
 | some i,some _=>if i.size=0 then none else some i.size
 | _,_=>none
def size0T (t:TypeId):Option Nat:=match P.info? t,P.underlying t with
 | some i,some _=>some i.size
 | _,_=>none
def Ei (t:TypeId):Bool:=match P.underlying t with
 | some (.struct _) | some (.array _ _)=>true
 | _=>false
def Fx (t:TypeId):Option (List D):=match P.info? t with
 | some i=>match i.zero with
  | some z=>cellsOf z.cells.toList
  | none=>none
 | none=>none
def J6 (t:TypeId):Option D:=match P.info? t with
 | some i=>match i.zero with
  | some z=>Og z
  | none=>none
 | none=>none
def fieldT (s:TypeId) (f:Nat):Option Field:=match P.underlying s with
 | some (.struct fs)=>fs[f]?
 | _=>none
def boolT (t:TypeId):Bool:=match P.underlying t with | some .bool=>true | _=>false
def Pf (t:TypeId):Option IntKind:=match P.underlying t with | some (.int k)=>some k | _=>none
def J5 (t:TypeId):Bool:=match P.underlying t with | some .string=>true | _=>false
def sliceT (t:TypeId):Option TypeId:=match P.underlying t with | some (.slice e)=>some e | _=>none
def arrayT (t:TypeId):Option (Nat × TypeId):=match P.underlying t with | some (.array n e)=>some (n,e) | _=>none
def nilT (t:TypeId):Option Nat:=match P.underlying t with | some (.slice _)=>some 0 | some (.pointer _)=>some 1 | some (.func _ _ _)=>some 2 | some (.map _ _)=>some 3 | some (.interface _)=>some 4 | _=>none
def keyT (t:TypeId):Option Nat:=match P.underlying t with | some (.int _)=>some 0 | some .string=>some 1 | some .bool=>some 2 | _=>none
def mapT (t:TypeId):Option (TypeId × TypeId):=match P.underlying t with | some (.map k e)=>some (k,e) | _=>none
def placeT (t:TypeId):Option (Nat→Option (Nat × Nat)):=match P.underlying t with
 | some (.array _ e)=>match P.info? e with
  | some ie=>some fun i=>some (i*ie.size,ie.size)
  | none=>none
 | some (.struct fields)=>match fields.toList.mapM (fun f=>(P.info? f.type).map fun i=>(f.offset,i.size)) with
  | some places=>some (places.toArray[·]?)
  | none=>none
 | _=>none
def Li (pl:Nat→Option (Nat × Nat)):List (Nat × Operand)→Option (List (Nat × Nat))
 | []=>some []
 | (i,_)::l=>match pl i,Li pl l with
  | some x,some y=>some (x::y)
  | _,_=>none
def eqFields (rec:TypeId→Option (List Nat)):List Field→Nat→Option (List Nat)
 | [],_=>some []
 | f :: l, o => if f.name = "_" ∨ f.offset ≠ o then none else match rec f.type, Ch P f.type with
  | some a,some m=>if a.length=m then (eqFields rec l (o+m)).map (a++·) else none
  | _,_=>none
def Dv:Nat→TypeId→Option (List Nat)
 | 0,_=>none
 | d+1,t=>match P.underlying t with
  | some (.int _)=>some [0]
  | some .string=>some [1]
  | some .bool=>some [2]
  | some (.struct fs)=>if P.stoodInHeld t||P.eqGuardType P.depth t then none else eqFields P (Dv d) fs.toList 0
  | _=>none
def opnds (l:List (Option Operand)):List Operand:=l.filterMap id
def isConst:Operand→Bool
 | .const _=>true
 | _=>false
def Ii (s:String):Option LOp :=
 if s = "internal/bytealg.IndexByteString" then some .idxb
 else if s = "internal/bytealg.CountString" then some .cntb
 else if s = "internal/abi.NoEscape" then some .mv
 else none
def ptrT (t:TypeId):Option TypeId:=match P.underlying t with | some (.pointer e)=>some e | _=>none
def unsT (t:TypeId):Bool:=match P.underlying t with | some .unsafePointer=>true | _=>false
def Kk (t:TypeId):Bool:=match P.underlying t with | some (.pointer _)=>true | _=>false
def Ns (name:String):List (TypeId × FuncId):=(List.range P.types.size).filterMap fun t=>match P.info? t with
 | some i => match i.methods.find? (·.name == name) with
  | some m=>match m.func with
   | some (f,pr)=>if m.path.isEmpty&&(pr==Kk P t)&&(P.underlying t).isSome&&(match P.funcs[f]? with | some fn=>fn.body.isSome | none=>false) then some (t,f) else none
   | none=>none
  | none=>none
 | none=>none
def Mf (kd : Kd) (o : Oper) : Option (LOp × List Operand) :=
  match o.op with
  | .move x | .assign x=>some (.mv,[x])
  | .pick c a b=>some (.pick,[c,a,b])
  | .binOp op t x y _ =>
    if op = .eql ∨ op = .neq then
      (if boolT P t then some (.eqb (op = .neq), [x, y])
       else if (Pf P t).isSome||J5 P t then some (.bin op,[x,y])
       else match nilT P t with
        | some fam=>if fam=1 then (match ptrT P t with
            | some e=>(Ch P e).map fun _=>(.eqp (op=.neq),[x,y])
            | none=>none) else if fam=4∧isConst x=false∧isConst y=false then none else some (.eqnil (op=.neq) fam,[x,y])
        | none => if Ei P t then (match Dv P 9 t with
          | some R5=>some (.eqs (op=.neq) R5,[x,y])
          | none=>none) else none)
    else some (.bin op,[x,y])
  | .unOp op _ x=>some (.un op,[x])
  | .alloc e => match Fx P e, Ch P e with
    | some z,some n=>if z.length=n then some (.alloc e z,[]) else none
    | _,_=>none
  | .box e x=>if kd.bx o.dst then (size0T P e).map fun n=>(.boxc n,[x]) else (Ch P e).map fun n=>(.box e n,[x])
  | .build t ps => match Fx P t, placeT P t with
    | some z, some pl => match Li pl ps.toList with
      | some l=>some (.build z l,ps.toList.map (·.2))
      | none=>none
    | _,_=>none
  | .buildSlice t len ps => match sliceT P t with
    | some e => match Fx P e, Ch P e with
      | some z,some n=>if z.length=n∧len*n≤16777216 then some (.Ry e n len z (ps.toList.map (·.1)) (if kd.bx o.dst then 1 else kd.of e),ps.toList.map (·.2)) else none
      | _,_=>none
    | none=>none
  | .load t a=>(Ch P t).map fun n=>(.load n (Ei P t),[a])
  | .store t a v=>(Ch P t).map fun n=>(.store n,[a,v])
  | .nilCheck x=>some (.nilck,[x])
  | .fieldAddr s x f => match fieldT P s f with
    | some fd=>(Ch P fd.type).map fun _=>(.R3 fd.offset,[x])
    | none=>none
  | .field s x f => match fieldT P s f with
    | some fd=>(Ch P fd.type).map fun n=>(.field fd.offset n (Ei P fd.type),[x])
    | none=>none
  | .indexAddr t x i => match sliceT P t with
    | some e=>(Ch P e).map fun n=>(.Rz n,[x,i])
    | none => match arrayT P t with
      | some (len,e)=>(Ch P e).map fun n=>(.aaddr n len,[x,i])
      | none=>none
  | .index t x i => if J5 P t then some (.index, [x, i]) else match arrayT P t with
    | some (len,e)=>(Ch P e).map fun n=>(.aindex n len (Ei P e),[x,i])
    | none=>none
  | .slice t x lo hi mx => if J5 P t then some (.slice true 0 lo.isSome hi.isSome mx.isSome, x :: opnds [lo, hi, mx]) else match sliceT P t with
    | some e=>(Ch P e).map fun n=>(.slice false n lo.isSome hi.isSome mx.isSome,x::opnds [lo,hi,mx])
    | none=>none
  | .extract x i=>some (.extract i,[x])
  | .makeSlice t l c => match sliceT P t with
    | some e => match P.info? e, Fx P e, Ch P e with
      | some i,some z,some n=>if z.length=n∧0<i.bytes then some (.mkslice e n i.bytes z (kd.of e),[l,c]) else none
      | _,_,_=>none
    | none=>none
  | .makeMap t r=>if r.isNone then some (.mkmap,[]) else none
  | .insert t m k v | .mapUpdate t m k v => match mapT P t with
    | some (kt, _) => match keyT P kt with
      | some kf=>some (.mapset kf,[m,k,v])
      | none=>if Ei P kt then (Dv P 9 kt).map fun R5=>(.mapsetS R5,[m,k,v]) else none
    | none=>none
  | .lookup t m k ok => match mapT P t with
    | some (kt, e) => match J6 P e, keyT P kt with
      | some z,some kf=>some (.mapget kf z ok,[m,k])
      | some z,none=>if Ei P kt then (Dv P 9 kt).map fun R5=>(.mapgetS R5 z ok,[m,k]) else none
      | _,_=>none
    | none=>none
  | .makeFunc (.func f) first caps=>if first.isEmpty then some (.mkfn f,caps.toList) else none
  | .convert s d x => match Pf P s, Pf P d with
    | some _,some k=>some (.conv k,[x])
    | _, _ => if J5 P s && J5 P d then some (.sconv, [x]) else
      if unsT P d then (match ptrT P s with | some t=>(Ch P t).map fun n=>(.toU t n,[x]) | none=>none) else
      if unsT P s then (match ptrT P d with | some t=>(Ch P t).map fun n=>(.ofU t n,[x]) | none=>none) else
      match sliceT P s,sliceT P d with
      | some e,some _=>if s=d∧Pf P e=some .u8∧Ch P e=some 1 then some (.strsh,[x]) else none
      | some e,none=>if Pf P e=some .u8&&J5 P d&&(Ch P e==some 1) then some (.bstr,[x]) else none
      | none,some e=>if Pf P e=some .u8&&J5 P s&&(Ch P e==some 1) then some (.strb,[x]) else none
      | _,_=>none
  | .makeInterface t x => match P.underlying t with
    | some (.interface _) | none=>none
    | some _=>some (.mkif t,[x])
  | .typeAssert x _ t ok => match P.underlying t with
    | some (.interface _) | none=>none
    | some _=>(J6 P t).map fun z=>(.tass t z ok,[x])
  | .call c => match c.callee with
    | .invoke recv name=>some (.invoke (Ns P name),recv::c.args.toList)
    | .value (.func f) => match P.funcs[f]? with
      | some fn => if fn.body.isNone then (if fn.name = "internal/bytealg.MakeNoZero" ∧ fn.origin = "" then (match fn.resultTypes.toList with
          | [t] => (match sliceT P t with
            | some e=>if Pf P e=some .u8∧Ch P e=some 1 then some (.mknz e,c.args.toList) else none
            | none=>none)
          | _ => none) else match (if fn.origin = "" then Ii fn.name else none) with
        | some l=>some (l,c.args.toList)
        | none=>none) else some (.call f,c.args.toList)
      | none=>none
    | .value (.tmp t)=>some (.callv,.tmp t::c.args.toList)
    | .builtin .len => match c.args.toList, c.argTypes.toList with
      | [x], [t] => if J5 P t || (sliceT P t).isSome then some (.len (J5 P t), [x]) else match arrayT P t with
        | some (n,_)=>some (.lenc n,[x])
        | none=>none
      | _,_=>none
    | .builtin .cap => match c.args.toList, c.argTypes.toList with
      | [x],[t]=>if (sliceT P t).isSome then some (.cap,[x]) else none
      | _,_=>none
    | .builtin .append => match c.args.toList, c.argTypes.toList with
      | [s, x], [t, t'] => if J5 P t' then (match sliceT P t with
        | some e => match P.info? e, Fx P e with
          | some i,some z=>if Pf P e=some .u8∧Ch P e=some 1∧z.length=1∧0<i.bytes then some (.appstr e i.bytes (kd.of e),[s,x]) else none
          | _,_=>none
        | none=>none) else if t=t' then (match sliceT P t with
        | some e => match P.info? e, Ch P e, Fx P e with
          | some i,some n,some z=>if z.length=n∧0<i.bytes then some (.append e n i.bytes (kd.of e),[s,x]) else none
          | _,_,_=>none
        | none=>none) else if (Pf P t').isSome then (match sliceT P t with
        | some e => match P.info? e, Ch P e, Fx P e with
          | some i,some n,some z=>if z.length=n∧0<i.bytes then some (.appmk e n i.bytes z (if kd.of e=0 then 0 else 2),[s,x]) else none
          | _,_,_=>none
        | none=>none) else none
      | _,_=>none
    | .builtin .copy => match c.args.toList, c.argTypes.toList with
      | [d, x], [t, t'] => (match sliceT P t with
        | some e => match P.info? e, Ch P e with
          | some _,some n=>if n=1 then (if J5 P t' then (if Pf P e=some .u8 then some (.copys (kd.of e),[d,x]) else none) else if t=t' then some (.copy 1 (kd.of e),[d,x]) else none) else none
          | _,_=>none
        | none=>none)
      | _,_=>none
    | .builtin .max=>some (.max,c.args.toList)
    | .builtin .min=>some (.min,c.args.toList)
    | .builtin .unsafeSliceData => match c.args.toList with
      | [x]=>some (.sdata,[x])
      | _=>none
    | .builtin .unsafeString => match c.args.toList, c.argTypes.toList with
      | [x, y], [t, _] => (match ptrT P t with
        | some e=>if Pf P e=some .u8∧Ch P e=some 1 then some (.ustr e,[x,y]) else none
        | none=>none)
      | _,_=>none
    | _=>none
  | .range t x=>if J5 P t then some (.rngs,[x]) else none
  | .next it isString=>if isString then some (.nexts,[it]) else none
  | _=>none
def Kq (kd:Kd) (o:Oper):Option (LOp × List Operand):=match Mf P kd o with
 | some x=>some x
 | none=>some (.fail,[])
def Jq (gl:Nat→Option (List D)) (slots:List Nat) (prev:List (Option Tmp)):List Operand→Option (List Rj)
 | []=>some []
 | x::l=>match O9 gl slots prev x,Jq gl slots prev l with
  | some y,some m=>some (y::m)
  | _,_=>none
def ordered (bs:List Nat) (i j:Nat):Bool:=(bs.getD (Nat.max i j) 0).testBit (Nat.min i j)
def Me (bs:List Nat) (i:Nat):List Bool:=((List.range i).map fun j=>(bs.getD i 0).testBit j).reverse
def G5 (prev:List (Option Tmp)):Option (Nat × Bool)→Option (Option (Nat × Bool))
 | none=>some none
 | some (j, b) =>
  if j<prev.length then
   match prev.getD (prev.length-1-j) none with
   | some t=>if Fg prev t=some (prev.length-1-j) then some (some (prev.length-1-j,b)) else none
   | none=>none
  else none
def Ex (nt:Nat):Option Tmp→Bool
 | some d=>decide (d<nt)
 | none=>true
def litOf (o:Oper) (os:List Oper):Bool:=match o.dst with
 | some d=>os.any fun o'=>match o'.op with
  | .convert s t (.tmp t')=>s==t&&t'==d
  | _=>false
 | none=>false
def O8 (kd:Kd) (nt:Nat) (slots:List Nat):List Oper→List (Option Tmp)→Option (List Ri)
 | [],_=>some []
 | o :: os, prev => match Kq P (kd.lit (litOf o os)) o with
  | none=>none
  | some (l,xs)=>match Jq kd.glob slots prev xs,G5 prev o.guard,O8 kd nt slots os (o.dst::prev) with
   | some args,some g,some rest=>if Ex nt o.dst then some (⟨l,args,g,[],none⟩::rest) else none
   | _,_,_=>none
def Ic (o:Oper):Option (TypeId × List D) :=
 match o.op,o.guard with
 | .alloc e,none=>match Fx P e,Ch P e with
  | some z,some n=>if z.length=n then some (e,z) else none
  | _,_=>none
 | _,_=>none
def Dn (ops:List Oper):List (TypeId × List D):=ops.filterMap (Ic P)
def Mo (kd : Kd) (nt : Nat) (slots : List Nat) (bs : List Nat) (k : Nat) : List Oper → List (Option Tmp) → Nat → Option (List Ri)
 | [],_,_=>some []
 | o :: os, prev, r => if Ex nt o.dst then (match Ic P o with
  | some _=>match Mo kd nt slots bs k os (o.dst::prev) (r+1) with
   | some rest=>some (⟨.mv,[.loc (prev.length+(k-1-r))],none,Me bs prev.length,some r⟩::rest)
   | none=>none
  | none => match Kq P (kd.lit (litOf o os)) o with
   | none=>none
   | some (l,xs)=>match Jq kd.glob slots prev xs,G5 prev o.guard,Mo kd nt slots bs k os (o.dst::prev) r with
    | some args,some g,some rest=>some (⟨l,args,g,Me bs prev.length,none⟩::rest)
    | _,_,_=>none) else none
def dstsOf (ops:List Oper):List (Option Tmp):=(ops.map (·.dst)).reverse
def Gp (dsts:List (Option Tmp)):List Nat→Nat→List (Nat × Nat)
 | [],_=>[]
 | s::l,j=>match Fg dsts s with
  | some d=>(j,d)::Gp dsts l (j+1)
  | none=>Gp dsts l (j+1)
def drawOk (kd : Kd) (ops : Array Oper) (bs : List Nat) : Bool :=
 (List.range ops.size).all fun i=>match ops[i]? with
  | none=>true
  | some o =>
   (o.after.toList.all fun e=>!(Region.binds .any e)||decide (e.on<i)) &&
   ((List.range ops.size).all fun k=>match ops[k]? with
    | none=>true
    | some o' => match o'.dst with
     | none=>true
     | some d => k == i || (o.dst != some d &&
      (ordered bs i k||(((match Kq P (kd.lit true) o with | some (_,xs)=>xs.all (fun x=>match x with | .tmp t=>t != d | _=>true) | none=>false)&&(match Kq P (kd.lit false) o with | some (_,xs)=>xs.all (fun x=>match x with | .tmp t=>t != d | _=>true) | none=>false)) &&
       (match o.guard with | some (j,_)=>(match ops[j]? with | some oj=>oj.dst != some d | none=>true) | none=>true)))))
def Ls (kd:Kd) (nt:Nat) (slots:List Nat) (ops:Array Oper) (draw:Bool):Option Rk :=
 if draw then
  if drawOk P kd ops (Region.before ops).toList then
   (Mo P kd nt slots (Region.before ops).toList (Dn P ops.toList).length ops.toList [] 0).map fun l=>.drawn l (Gp (dstsOf ops.toList) slots 0) (Dn P ops.toList)
  else none
 else (O8 P kd nt slots ops.toList []).map fun l=>.region l (Gp (dstsOf ops.toList) slots 0)
def deferOf (ops:Array Oper):Option Tmp:=match ops.back? with
 | some o => match o.op, o.guard, o.dst with
  | .defer c,none,none=>match c.callee with
   | .value (.tmp t)=>if c.args.isEmpty then some t else none
   | _=>none
  | _,_,_=>none
 | none=>none
def Cx (kd:Kd) (nt:Nat) (slots:List Nat):Code→Option Rk
 | .skip=>some .skip
 | .ret=>some .ret
 | .exit i=>some (.exit i)
 | .region _ ops draw => match deferOf ops with
  | some t=>if draw then none else match Ls P kd nt slots ops.pop false,idxOf slots t with
   | some l,some j=>some (.seq l (.dfr (.env j)))
   | _,_=>none
  | none=>Ls P kd nt slots ops draw
 | .seq a b=>match Cx kd nt slots a,Cx kd nt slots b with
  | some x,some y=>some (.seq x y)
  | _,_=>none
 | .cond c a b=>match O9 kd.glob slots [] c,Cx kd nt slots a,Cx kd nt slots b with
  | some z,some x,some y=>some (.cond z x y)
  | _,_,_=>none
 | .block i c=>(Cx kd nt slots c).map (.block i)
 | .loop c=>(Cx kd nt slots c).map .loop
 | .scope c=>Cx kd nt slots c
 | .label _=>some .skip
 | _=>some .fail
def Jp (slots:List Nat):List ResultVar→Option (List LRes)
 | []=>some []
 | .tmp t::l=>match idxOf slots t,Jp slots l with
  | some j,some m=>some (.tmp j::m)
  | _,_=>none
 | .cell a t::l=>match idxOf slots a,Ch P t,Jp slots l with
  | some j,some n,some m=>some (.cell j n (Ei P t)::m)
  | _,_,_=>none
def mvOf:Op→Option Tmp
 | .move (.tmp t)=>some t
 | .assign (.tmp t)=>some t
 | _=>none
def O6 (ops:Array Oper):Option (Tmp × Tmp):=match ops.toList with
 | [a, b] => match a.op, a.guard, a.dst, mvOf b.op, b.guard, b.dst with
  | .call c,none,some t,some t',none,some u=>(match c.callee with
   | .builtin .recover=>if t=t'∧t≠u then some (t,u) else none
   | _=>none)
  | _,_,_,_,_,_=>none
 | _=>none
def lowBodyD (kd:Kd) (nt:Nat) (slots:List Nat) (c:Code):Option Rk:=match c with
 | .seq (.region _ ops false) y => (match O6 ops with
  | some (t,u)=>match idxOf slots t,idxOf slots u,Cx P kd nt slots y with
   | none,some j,some ly=>if t<nt then some (.seq (.region [⟨.mv,[.const .nili],none,[],none⟩] [(j,0)]) ly) else none
   | _,_,_=>none
  | none=>Cx P kd nt slots c)
 | c=>Cx P kd nt slots c
def lowFnD (kd:Kd) (slots:List Nat) (fn:Func):Option Rh :=
 match fn.body with
 | none=>none
 | some c=>match lowBodyD P kd fn.ntmps slots c,Jp P slots fn.results.toList with
  | some b, some r => if fn.name = "runtime.NumGoroutine" then none else if slots.all (· < fn.ntmps) && decide (fn.params.size + fn.nfree ≤ fn.ntmps) then some ⟨slots, fn.params.size + fn.nfree, b, r⟩ else none
  | _,_=>none
def P9 (kd:Kd) (slots:List Nat) (fn:Func):Option Rh :=
 match fn.body with
 | none=>none
 | some c=>match Cx P kd fn.ntmps slots c,Jp P slots fn.results.toList with
  | some b, some r => if fn.name = "runtime.NumGoroutine" then none else if slots.all (· < fn.ntmps) && decide (fn.params.size + fn.nfree ≤ fn.ntmps) then some ⟨slots, fn.params.size + fn.nfree, b, r⟩ else none
  | _,_=>none
end
open Go.ChangeShapes Go.WideShapes Go.ChangeAt Go.RowKit
set_option linter.unusedSectionVars false
theorem lt_of_some{α:Type}{l:List α}{j:Nat}{u:α}(h:l[j]?=some u):j<l.length:=(List.getElem?_eq_some_iff.1 h).1
theorem add_plain(b o q:Nat):(⟨b,o,none⟩:Addr).add q=⟨b,o+q,none⟩:=by unfold Addr.add;split<;>simp_all
abbrev Ext (w w':World):Prop:=Below w.heap.size w w'
theorem Ext.trans{a b c:World}(h:Ext a b)(k:Ext b c):Ext a c:=Below.trans h (k.mono h.size)
theorem Ext.refl_(w:World):Ext w w:=Below.refl _ _
def Blk (w:World) (g:Nat) (t:TypeId) (cs:Array Value):Prop:=w.heap[g]?=some (.cells cs t (0,0))
section
variable {w w':World} {g:Nat} {t:TypeId} {cs:Array Value}
theorem Blk.lt(h:Blk w g t cs):g<w.heap.size:=by
 rcases Nat.lt_or_ge g w.heap.size with h1 | h1
 ·
  exact h1
 unfold Blk at h;rw[Array.getElem?_eq_none h1]at h;cases h
theorem Blk.new(w:World)(t:TypeId)(cs:Array Value):Blk (w.alloc (.cells cs t)) w.heap.size t cs:=heap_alloc_new w _
theorem Blk.alloc(h:Blk w g t cs)(o:Obj):Blk (w.alloc o) g t cs:=(Below.heap_alloc w o g h.lt).trans h
theorem Blk.below{B:Nat}(h:Blk w g t cs)(hb:Below B w w')(hg:g<B):Blk w' g t cs:=(hb.block g hg).trans h
theorem Blk.ext(h:Blk w g t cs)(hb:Ext w w'):Blk w' g t cs:=(hb.block g h.lt).trans h
theorem Blk.cell(h:Blk w g t cs){j:Nat}{u:Value}(hu:cs[j]?=some u):w.cell? ⟨g,j,none⟩=some u:=by
 unfold Blk at h;simp[World.cell?,h,hu]
theorem Blk.far(h:Blk w g t cs){p:Addr}(hp:g≠p.block)(u:Value):Blk (w.setCell p u) g t cs:=(Below.heap_setCell w p u g hp).trans h
theorem Blk.frozen(h:Blk w g t cs)(i:Nat):w.frozen? ⟨g,i,none⟩=false:=by
 unfold Blk at h;simp[World.frozen?,h]
theorem Blk.drew(h:Blk w g t cs):Blk w.drew g t cs:=h
end
def Row (w:World) (B sz:Nat) (A:Option Addr) (xs:List (List Value)):Prop :=
 xs≠[]→∃b o,A=some ⟨b,o,none⟩∧b<B∧∀i x,xs[i]?=some x→∀j u,x[j]?=some u→w.cell? ⟨b,o+i*sz+j,none⟩=some u
section
variable {w w':World} {B B' sz:Nat} {A:Option Addr} {xs:List (List Value)}
theorem Row.below(h:Row w B sz A xs)(hb:Below B w w'):Row w' B sz A xs:=by
 intro hx;obtain⟨b,o,rfl,xJ,hc⟩:=h hx;exact⟨b,o,rfl,xJ,fun i x hi j u hu=>(hb.cell (p:=⟨b,o+i*sz+j,none⟩) xJ).trans (hc i x hi j u hu)⟩
theorem Row.mono(h:Row w B sz A xs)(hb:B≤B'):Row w B' sz A xs:=by
 intro hx;obtain⟨b,o,rfl,xJ,hc⟩:=h hx;exact⟨b,o,rfl,by omega,hc⟩
theorem Row.ext(h:Row w w.heap.size sz A xs)(hb:Ext w w'):Row w' w'.heap.size sz A xs:=(h.below hb).mono hb.size
theorem Row.nil:Row w B sz A []:=fun h=>absurd rfl h
theorem Row.get{α:Type}{l:List α}{enc:α→List Value}{k:Nat}(h:Row w B sz A (l.map enc))(hk:k<l.length) :
  ∃b o,A=some ⟨b,o,none⟩∧b<B∧∀j u,(enc l[k])[j]?=some u→w.cell? ⟨b,o+k*sz+j,none⟩=some u:=by
 obtain⟨b,o,rfl,xJ,hc⟩:=h (by intro h;simp at h;subst h;simp at hk);exact⟨b,o,rfl,xJ,hc k _ (by simp[hk])⟩
theorem Row.drop{b o k:Nat}(h:Row w B sz (some ⟨b,o,none⟩) xs):Row w B sz (some ⟨b,o+k*sz,none⟩) (xs.drop k):=by
 intro hx;obtain⟨b',o',hA,xJ,hc⟩:=h (by rintro rfl;simp at hx);injection hA with hA;injection hA with h1 h2;subst h1 h2;refine⟨b,_,rfl,xJ,fun i x hi j u hu=>?_⟩;rw[List.getElem?_drop]at hi;have:=hc (k+i) x hi j u hu;rw[Nat.add_mul]at this;rw[show o+k*sz+i*sz+j=o+(k*sz+i*sz)+j by omega];exact this
theorem Row.take(h:Row w B sz A xs)(k:Nat):Row w B sz A (xs.take k):=by
 intro hx;obtain⟨b,o,hA,xJ,hc⟩:=h (by rintro rfl;simp at hx);refine⟨b,o,hA,xJ,fun i x hi j u hu=>hc i x ?_ j u hu⟩;rw[List.getElem?_take]at hi;split at hi
 ·
  exact hi
 cases hi
end
theorem Mx{α:Type}{sz:Nat}:∀(xs:List (List α)) (i j:Nat) (x:List α) (u:α),(∀x∈xs,x.length=sz)→xs[i]?=some x→x[j]?=some u→xs.flatten[i*sz+j]?=some u
 | [],i,j,x,u,_,h,_=>by simp at h
 | y::xs,0,j,x,u,xq,h,hu=>by
  simp at h;subst h;rw[List.flatten_cons,Nat.zero_mul,Nat.zero_add,La_ (lt_of_some hu),hu]
 | y::xs,i+1,j,x,u,xq,h,hu=>by
  have hy:y.length=sz:=xq y (by simp);have ih:=Mx xs i j x u (fun x hx=>xq x (by simp[hx])) (by simpa using h) hu;rw[List.flatten_cons,Lr_ (by rw[hy,Nat.succ_mul];omega),hy,←ih];congr 1;rw[Nat.succ_mul];omega
theorem N9{α:Type}{sz:Nat}(h0:0<sz):∀(xs:List (List α)) (q:Nat) (u:α),(∀x∈xs,x.length=sz)→xs.flatten[q]?=some u→∃x,xs[q / sz]?=some x∧x[q % sz]?=some u
 | [],q,u,_,h=>by simp at h
 | y :: xs, q, u, xq, h => by
  have hy:y.length=sz:=xq y (by simp);rw[List.flatten_cons]at h;rcases Nat.lt_or_ge q sz with hq | hq
  ·
   rw[La_ (by omega)]at h;rw[Nat.div_eq_of_lt hq,Nat.mod_eq_of_lt hq];exact⟨y,rfl,h⟩
  rw[Lr_ (by omega),hy]at h;obtain⟨x,h1,h2⟩:=N9 h0 xs (q-sz) u (fun x hx=>xq x (by simp[hx])) h;refine⟨x,?_,?_⟩
  ·
   rw[show q / sz=(q-sz) / sz+1 by rw[Nat.div_eq q sz,if_pos ⟨h0,hq⟩]];simpa using h1
  rw[show q % sz=(q-sz) % sz by rw[Nat.mod_eq_sub_mod hq]];exact h2
section
variable {w:World} {B sz:Nat} {xs:List (List Value)}
theorem Row.flat{b o:Nat}(xq:∀x∈xs,x.length=sz)(hb:b<B)(hc:∀j u,xs.flatten[j]?=some u→w.cell? ⟨b,o+j,none⟩=some u):Row w B sz (some ⟨b,o,none⟩) xs:=by
 intro _;refine⟨b,o,rfl,hb,fun i x hi j u hu=>?_⟩;rw[Nat.add_assoc];exact hc _ _ (Mx xs i j x u xq hi hu)
theorem Row.blk{g:Nat}{t:TypeId}{cs:Array Value}(h:Blk w g t cs)(hB:g<B)(xq:∀x∈xs,x.length=sz)(hx:xs.flatten=cs.toList):Row w B sz (some ⟨g,0,none⟩) xs :=
 Row.flat xq hB fun j u hu=>by
  rw[Nat.zero_add];exact h.cell (by rw[hx]at hu;simpa using hu)
theorem Row.own{base e n c:Nat}{A:Option Addr}(h:w.ownsRow base e sz (.slice A n c) n xs.flatten)(hn:xs≠[]→0<n)(xq:∀x∈xs,x.length=sz):Row w w.heap.size sz A xs:=by
 intro hx;obtain⟨g,cap,hv,_,xJ⟩:=h.form (hn hx);injection hv with hA;subst hA;refine Row.flat (o:=0) xq xJ (fun j u hu=>?_) hx;have h1:=h.cells (g:=g) rfl j u hu;rwa [add_plain]at h1
end
section
variable {w w':World} {base:Nat} {e1 e2 s1 s2 n1 n2:Nat} {v1 v2:Value} {xs1 xs2:List Value}
end
def Elem (P:Program) (t e:TypeId) (size bytes:Nat):Prop :=
 P.underlying t=some (.slice e)∧(∃i z,P.info? e=some i∧i.zero=some z∧i.size=size∧i.bytes=bytes∧z.cells.size=size)∧0<size∧0<bytes
theorem Elem.mk{P:Program}{t e:TypeId}{z:Value}{size bytes:Nat}(ht:P.underlying t=some (.slice e))(h:(P.info? e).map (fun i=>(i.zero,i.size,i.bytes))=some (some z,size,bytes))(hz:z.cells.size=size)(hs:0<size)(hb:0<bytes):Elem P t e size bytes:=by
 obtain⟨i,h1,h2,h3,h4⟩:=info_parts h;exact⟨ht,⟨i,z,h1,h2,h3,h4,hz⟩,hs,hb⟩
def Src (w:World) (size:Nat) (A:Option Addr) (m:Nat) (news:List Value):Prop :=
 news.length=m*size∧(0<m→∃ad,A=some ad∧∀j u,news[j]?=some u→w.cell? (ad.add j)=some u)
section
variable {P:Program} {w:World} {t e:TypeId} {size bytes base:Nat}
theorem Src.blk{g:Nat}{cs:Array Value}{m:Nat}{tt:TypeId}(h:Blk w g tt cs)(hl:cs.toList.length=m*size):Src w size (some ⟨g,0,none⟩) m cs.toList :=
 ⟨hl,fun _=>⟨_,rfl,World.news_of_block h⟩⟩
theorem Src.own{A:Option Addr}{n c m:Nat}{xs:List Value}(h:w.ownsRow base e size (.slice A n c) n xs)(hm:m≤n):Src w size A m (xs.take (m*size)):=by
  refine⟨by rw[List.length_take,h.1];exact Nat.min_eq_left (Nat.mul_le_mul_right _ hm),fun h0=>?_⟩;obtain⟨g,cap,hv,_,_⟩:=h.form (by omega);injection hv with hA;subst hA
  exact ⟨_, rfl, fun j u hu => h.cells (g := g) rfl j u (by rw [List.getElem?_take] at hu; split at hu
                                                            · exact hu
                                                            cases hu)⟩
theorem Src.alloc{A:Option Addr}{m:Nat}{xs:List Value}(h:Src w size A m xs)(o:Obj):Src (w.alloc o) size A m xs :=
 ⟨h.1,fun h0=>by
  obtain⟨ad,e,hc⟩:=h.2 h0
  exact⟨ad,e,fun j u hu=>(World.cell?_alloc_lt _ _ _ (World.block_lt_of_cell? w _ (hc j u hu))).trans (hc j u hu)⟩⟩
theorem Src.row{α:Type}{B:Nat}{A:Option Addr}{l:List α}{enc:α→List Value}(h:Row w B size A (l.map enc))(hs:0<size)(hf:∀x,(enc x).length=size):Src w size A l.length (l.flatMap enc):=by
 have xq:∀x∈l.map enc,x.length=size:=fun x hx=>by obtain⟨y,_,rfl⟩:=List.mem_map.1 hx;exact hf y
 refine⟨?_,fun h0=>?_⟩
 ·
  clear h xq
  induction l with
  | nil=>simp
  | cons a l ih=>rw[List.flatMap_cons,Ll_,ih,hf,List.length_cons,Nat.succ_mul,Nat.add_comm]
 obtain⟨b,o,rfl,_,hc⟩:=h (by cases l<;>simp_all);refine⟨_,rfl,fun j u hu=>?_⟩;rw[List.flatMap_def]at hu;obtain⟨x,h1,h2⟩:=N9 hs _ j u xq hu;have:=hc _ _ h1 _ _ h2;rw[add_plain];rw[Nat.add_assoc,Nat.mul_comm,Nat.div_add_mod]at this;exact this
end
def TRow (w:World) (B e sz:Nat) (A:Option Addr) (xs:List (List Value)):Prop :=
 xs≠[]→∃b o cs fr,A=some ⟨b,o,none⟩∧b<B∧w.heap[b]?=some (.cells cs e fr)∧∀i x,xs[i]?=some x→∀j u,x[j]?=some u→cs[o+i*sz+j]?=some u
section
variable {w w':World} {B B' e sz:Nat} {A:Option Addr} {xs:List (List Value)}
theorem TRow.row(h:TRow w B e sz A xs):Row w B sz A xs:=by
 intro hx;obtain⟨b,o,cs,fr,rfl,hb,hh,hc⟩:=h hx;exact⟨b,o,rfl,hb,fun i x hi j u hu=>by rw[cell_of_row w b _ cs e fr hh];exact hc i x hi j u hu⟩
theorem TRow.nil:TRow w B e sz A []:=fun h=>absurd rfl h
theorem TRow.mono(h:TRow w B e sz A xs)(hb:B≤B'):TRow w B' e sz A xs:=by
 intro hx;obtain⟨b,o,cs,fr,rfl,xJ,hh,hc⟩:=h hx;exact⟨b,o,cs,fr,rfl,by omega,hh,hc⟩
theorem TRow.below(h:TRow w B e sz A xs)(hb:Below B w w'):TRow w' B e sz A xs:=by
 intro hx;obtain⟨b,o,cs,fr,rfl,xJ,hh,hc⟩:=h hx;exact⟨b,o,cs,fr,rfl,xJ,(hb.block b xJ).trans hh,hc⟩
theorem TRow.ext(h:TRow w w.heap.size e sz A xs)(hb:Ext w w'):TRow w' w'.heap.size e sz A xs:=(h.below hb).mono hb.size
theorem TRow.set{g i:Nat}{t:TypeId}{cs':Array Value}(h:TRow w B e sz A xs)(hb:Blk w g t cs')(xu:e≠t)(u:Value):TRow (w.setCell ⟨g,i,none⟩ u) B e sz A xs:=by
 intro hx;obtain⟨b,o,cs,fr,rfl,xJ,hh,hc⟩:=h hx;refine⟨b,o,cs,fr,rfl,xJ,?_,hc⟩;rw[Below.heap_setCell w _ u b ?_]
 ·
  exact hh
 rintro rfl;unfold Blk at hb;rw[hh]at hb;injection hb with h1;injection h1 with _ h1;exact xu h1
theorem TRow.drop{b o k:Nat}(h:TRow w B e sz (some ⟨b,o,none⟩) xs):TRow w B e sz (some ⟨b,o+k*sz,none⟩) (xs.drop k):=by
 intro hx;obtain⟨b',o',cs,fr,hA,xJ,hh,hc⟩:=h (by rintro rfl;simp at hx);injection hA with hA;injection hA with h1 h2;subst h1 h2;refine⟨b,_,cs,fr,rfl,xJ,hh,fun i x hi j u hu=>?_⟩;rw[List.getElem?_drop]at hi;have:=hc (k+i) x hi j u hu;rw[Nat.add_mul]at this;rw[show o+k*sz+i*sz+j=o+(k*sz+i*sz)+j by omega];exact this
theorem TRow.blk{g:Nat}{cs:Array Value}(h:Blk w g e cs)(hB:g<B)(xq:∀x∈xs,x.length=sz)(hx:xs.flatten=cs.toList):TRow w B e sz (some ⟨g,0,none⟩) xs:=by
 intro _;refine⟨g,0,cs,(0,0),rfl,hB,h,fun i x hi j u hu=>?_⟩;have h2:=Mx xs i j x u xq hi hu;rw[hx]at h2;rw[Nat.zero_add];simpa using h2
end
open Go.RowKit
structure HX where
 P:Nat→Nat→Prop
 G:Nat→Option (List D)
instance:CoeFun HX (fun _=>Nat→Nat→Prop):=⟨HX.P⟩
structure Rm where
 f:Nat→Option Nat
 X:HX
instance:CoeFun Rm (fun _=>Nat→Option Nat):=⟨Rm.f⟩
def Imm (w:World) (ρ:Rm) (H:List Rf) (b q:Nat):Prop :=
 b<w.heap.size∧¬ρ.X b q∧∀g,ρ g=some b→∃o,H[g]?=some o∧o.kind=1∧q<o.rows.length*o.sz
inductive VR (w:World) (ρ:Rm) (H:List Rf):D→Value→Prop
 | undef (v):VR w ρ H .undef v
 | skip:VR w ρ H .skip Go.undef
 | nili:VR w ρ H .nili .nilIface
 | junk (n:Int):VR w ρ H .junk (.int .u8 n)
 | ifc (t:TypeId) (d:D) (v:Value) (hf:d.Rp=true) (hv:d.val=true) (h:VR w ρ H d v):VR w ρ H (.ifc t d) (.iface t v)
 | ifr (t:TypeId) (d:D) (v:Value) (hv:d.val=true) (h:VR w ρ H d v):VR w ρ H (.ifr t d) (.iface t v)
 | iter (g v r:Nat) (ob:Rf) (hg:H[g]?=some ob) (hv:v≤ob.ver) (h:ob.ver=v→ρ g=some r):VR w ρ H (.iter g v) (.pointer (some ⟨r,0,none⟩))
 | int (k n):VR w ρ H (.int k n) (.int k n)
 | bool (b):VR w ρ H (.bool b) (.bool b)
 | str (s):VR w ρ H (.str s) (.string s)
 | agg (cs:List D) (vs:List Value) (hl:vs.length=cs.length) (hc:cs.all D.Ru=true) (h:∀(j:Nat) (d:D) (v:Value),cs[j]?=some d→vs[j]?=some v→VR w ρ H d v):VR w ρ H (.agg cs) (.agg vs.toArray)
 | tup (cs:List D) (vs:List Value) (hl:vs.length=cs.length) (h:∀(j:Nat) (d:D) (v:Value),cs[j]?=some d→vs[j]?=some v→VR w ρ H d v):VR w ρ H (.tup cs) (.tuple vs.toArray)
 | nilp:VR w ρ H .nilp (.pointer none)
 | ptr (g v i o:Nat) (a:Addr) (ob:Rf) (hg:H[g]?=some ob) (hv:v≤ob.ver) (xL:ob.kind≠3) (h:ob.ver=v→∃b,ρ g=some b∧a=⟨b,i*ob.sz+o,none⟩):VR w ρ H (.ptr g v i o) (.pointer (some a))
 | R6 (row : List D) (o b q : Nat) (f : Nat → Value) (hc : ∀ j d, row[j]? = some d → o ≤ j → w.cell? ⟨b, q + (j - o), none⟩ = some (f j) ∧ Imm w ρ H b (q + (j - o)) ∧ d.free = true)
   (h:∀j d,row[j]?=some d→o≤j→VR w ρ H d (f j)):VR w ρ H (.R6 row o) (.pointer (some ⟨b,q,none⟩))
 | R4:VR w ρ H .R4 (.slice none 0 0)
 | sl (sz : Nat) (rows : List (List D)) (cap : Option Nat) (A : Addr) (n c : Nat) (hn : n = rows.length) (xS : n ≤ c) (xC : ∀ k, cap = some k → c = k) (hz : ∀ r ∈ rows, r.length = sz)
   (b o:Nat) (f:Nat→Nat→Value) (hA:rows≠[]→A=⟨b,o,none⟩)
   (hc:∀i r j d,rows[i]?=some r→r[j]?=some d→w.cell? ⟨b,o+i*sz+j,none⟩=some (f i j)∧Imm w ρ H b (o+i*sz+j)∧d.free=true)
   (h:∀i r j d,rows[i]?=some r→r[j]?=some d→VR w ρ H d (f i j)):VR w ρ H (.sl sz rows cap) (.slice (some A) n c)
 | msl (g v lo n : Nat) (cap : Option Nat) (A : Addr) (c : Nat) (ob : Rf) (xS : n ≤ c) (xC : ∀ k, cap = some k → c = k) (hg : H[g]? = some ob) (hv : v ≤ ob.ver) (xL : ob.kind ≠ 3)
   (h:ob.ver=v→∃b,ρ g=some b∧lo+n≤ob.rows.length∧(n≠0∨lo=0→A=⟨b,lo*ob.sz,none⟩)∧(cap=none→∃cur,w.heap[b]?=some (.cells cur ob.elem (0,0))∧cur.size=(lo+c)*ob.sz)):VR w ρ H (.msl g v lo n cap) (.slice (some A) n c)
 | fn (f:FuncId) (cs:List D) (vs:List Value) (hl:vs.length=cs.length) (h:∀(j:Nat) (d:D) (v:Value),cs[j]?=some d→vs[j]?=some v→VR w ρ H d v):VR w ρ H (.fn f cs) (.func (.func f) #[] vs.toArray)
 | nilfn:VR w ρ H .nilfn .nilFunc
 | mref (g v r:Nat) (ob:Rf) (hg:H[g]?=some ob) (hv:v≤ob.ver) (h:ob.ver=v→ρ g=some r):VR w ρ H (.mref g v) (.map (some r))
 | nilm:VR w ρ H .nilm (.map none)
 | mp (rows : List (List D)) (b clock : Nat) (es : Array MapEntry) (f : Nat → Nat → Value) (hb : w.heap[b]? = some (.map es clock)) (hx : ¬ ρ.X b 0) (hf : ∀ g, ρ g ≠ some b) (hl : es.size = rows.length) (hz : ∀ r ∈ rows, r.length = 2)
   (he:∀i,i<rows.length→∃e,es[i]?=some e∧e.key=f i 0∧e.val=f i 1) (hc:∀(i:Nat) (r:List D) (j:Nat) (d:D),rows[i]?=some r→r[j]?=some d→d.Rp=true∧d.val=true) (h:∀(i:Nat) (r:List D) (j:Nat) (d:D),rows[i]?=some r→r[j]?=some d→VR w ρ H d (f i j)):VR w ρ H (.mp rows) (.map (some b))
def ObjOK (w:World) (ρ:Rm) (H:List Rf) (o:Rf) (b:Nat):Prop :=
 ∃cur,w.heap[b]?=some (.cells cur o.elem (0,0))∧0<o.sz∧(∃c,cur.size=c*o.sz∧o.rows.length≤c∧c≤maxLen∧(o.grow=false→c=o.rows.length)) ∧
  (∀r∈o.rows,r.length=o.sz)∧(o.kind=0∨o.kind=1∨o.kind=2) ∧
  ∀i r j d,o.rows[i]?=some r→r[j]?=some d→d.Ru=true∧(o.kind≠0→d.free=true)∧∃v,cur[i*o.sz+j]?=some v∧VR w ρ H d v
def MapOK (w:World) (ρ:Rm) (H:List Rf) (o:Rf) (b:Nat):Prop :=
 ∃(es:Array MapEntry) (clock:Nat),w.heap[b]?=some (.map es clock)∧es.size=o.rows.length∧(∀r∈o.rows,r.length=2) ∧
  ∀(i:Nat) (r:List D),o.rows[i]?=some r→∃(e:MapEntry) (k v:D),es[i]?=some e∧r=[k,v]∧(k.Rp=true∧k.val=true)∧(v.Rp=true∧v.val=true)∧VR w ρ H k e.key∧VR w ρ H v e.val
def IterOK (w:World) (o:Rf) (b:Nat):Prop:=∃(s:ByteArray) (pos:Nat),w.heap[b]?=some (.stringIter s pos)∧o.rows=[[.str s,.int .i64 pos]]
def NonOK (w:World) (ρ:Rm) (H:List Rf) (o:Rf) (b:Nat):Prop:=(o.elem=0→MapOK w ρ H o b)∧(o.elem≠0→IterOK w o b)
def AnyOK (w:World) (ρ:Rm) (H:List Rf) (o:Rf) (b:Nat):Prop:=(o.kind≠3→ObjOK w ρ H o b)∧(o.kind=3→NonOK w ρ H o b)
def GSz (w:World) (ρ:Rm) (g:Nat) (row:List D):Prop:=(∀k,ρ k≠some g)∧∃cs t z,w.heap[g]?=some (.cells cs t z)∧cs.size=row.length
structure Rel (w:World) (ρ:Rm) (H:List Rf):Prop where
 inj:∀g g' b,ρ g=some b→ρ g'=some b→g=g'
 obj:∀g b,ρ g=some b→∃o,H[g]?=some o∧AnyOK w ρ H o b
 hid:∀b q,ρ.X b q→b<w.heap.size∧∀g,ρ g≠some b
 glob:∀g row,ρ.X.G g=some row→VR w ρ H (.R6 row 0) (.pointer (some ⟨g,0,none⟩))∧GSz w ρ g row
structure Stp (w:World) (ρ:Rm) (S:St) (w':World) (ρ':Rm) (S':St):Prop where
 hid:ρ'.X=ρ.X
 os:w'.os=w.os
 tape:w'.tape=w.tape
 output:w'.output=w.output
 size:w.heap.size≤w'.heap.size
 low:S'.low≤S.low
 out:∀b,b<w.heap.size→(∀g,ρ g≠some b)→w'.heap[b]?=w.heap[b]?∧∀g,ρ' g≠some b
 imm:∀b q,Imm w ρ S.heap b q→w'.cell? ⟨b,q,none⟩=w.cell? ⟨b,q,none⟩∧Imm w' ρ' S'.heap b q
 keep:∀g b o,S.heap[g]?=some o→g<S'.low→ρ g=some b→w'.heap[b]?=w.heap[b]?
 obj:∀g o,S.heap[g]?=some o→∃o',S'.heap[g]?=some o'∧(o.ver≤o'.ver∧o'.kind=o.kind)∧(g<S'.low→o'=o) ∧
  (o'.ver=o.ver→ρ' g=ρ g∧o'.sz=o.sz∧o'.elem=o.elem∧o.rows.length≤o'.rows.length∧∀b cur,ρ g=some b→w.heap[b]?=some (.cells cur o.elem (0,0))→∃cur',w'.heap[b]?=some (.cells cur' o.elem (0,0))∧cur'.size=cur.size)
theorem Stp.refl(w:World)(ρ:Rm)(S:St):Stp w ρ S w ρ S :=
 ⟨rfl,rfl,rfl,rfl,Nat.le_refl _,Nat.le_refl _,fun b _ h=>⟨rfl,h⟩,fun b q h=>⟨rfl,h⟩,fun _ _ _ _ _ _=>rfl,fun g o h=>⟨o,h,⟨Nat.le_refl _,rfl⟩,fun _=>rfl,fun _=>⟨rfl,rfl,rfl,Nat.le_refl _,fun b cur _ h=>⟨cur,h,rfl⟩⟩⟩⟩
theorem Stp.trans{w1 w2 w3:World}{ρ1 ρ2 ρ3:Rm}{S1 S2 S3:St}(h:Stp w1 ρ1 S1 w2 ρ2 S2)(k:Stp w2 ρ2 S2 w3 ρ3 S3):Stp w1 ρ1 S1 w3 ρ3 S3:=by
  refine⟨k.hid.trans h.hid,k.os.trans h.os,k.tape.trans h.tape,k.output.trans h.output,Nat.le_trans h.size k.size,Nat.le_trans k.low h.low,?_,?_,?_,?_⟩
  · intro b hb hg;obtain⟨h1,h2⟩:=h.out b hb hg;obtain⟨k1,k2⟩:=k.out b (Nat.lt_of_lt_of_le hb h.size) h2;exact⟨k1.trans h1,k2⟩
  · intro b q hi;obtain⟨h1,h2⟩:=h.imm b q hi;obtain⟨k1,k2⟩:=k.imm b q h2;exact⟨k1.trans h1,k2⟩
  · intro g b o ho hg hr;have wX:=Nat.lt_of_lt_of_le hg k.low;have h1:=h.keep g b o ho wX hr;obtain⟨o',ho',_,he,hv⟩:=h.obj g o ho;have he:=he wX;subst he;exact (k.keep g b o' ho' hg (by rw[(hv rfl).1];exact hr)).trans h1
  intro g o ho;obtain⟨o2,ho2,wB,he2,hs2⟩:=h.obj g o ho;obtain⟨o3,ho3,hv3,he3,hs3⟩:=k.obj g o2 ho2;refine⟨o3,ho3,⟨Nat.le_trans wB.1 hv3.1,hv3.2.trans wB.2⟩,fun hg=>(he3 hg).trans (he2 (Nat.lt_of_lt_of_le hg k.low)),fun hv=>?_⟩;have e2:o2.ver=o.ver:=by omega
  have e3:o3.ver=o2.ver:=by omega
  obtain⟨a1,a2,a3,a4,a5⟩:=hs2 e2;obtain⟨b1,b2,b3,b4,b5⟩:=hs3 e3;refine⟨b1.trans a1,b2.trans a2,b3.trans a3,Nat.le_trans a4 b4,fun b cur hr hb=>?_⟩;obtain⟨cur2,za,hz2⟩:=a5 b cur hr hb;obtain⟨cur3,hc3,hz3⟩:=b5 b cur2 (a1.trans hr) (by rw[a3];exact za);exact⟨cur3,by rw[←a3];exact hc3,hz3.trans hz2⟩
structure Fwd (w:World) (ρ:Rm) (H:List Rf) (w':World) (ρ':Rm) (H':List Rf):Prop where
 hid:ρ'.X=ρ.X
 out:∀b,b<w.heap.size→(∀g,ρ g≠some b)→w'.heap[b]?=w.heap[b]?∧∀g,ρ' g≠some b
 imm:∀b q,Imm w ρ H b q→w'.cell? ⟨b,q,none⟩=w.cell? ⟨b,q,none⟩∧Imm w' ρ' H' b q
 obj:∀g o,H[g]?=some o→∃o',H'[g]?=some o'∧(o.ver≤o'.ver∧o'.kind=o.kind) ∧
  (o'.ver=o.ver→(∀b,ρ g=some b→ρ' g=some b)∧o'.sz=o.sz∧o'.elem=o.elem∧o.rows.length≤o'.rows.length∧∀b cur,ρ g=some b→w.heap[b]?=some (.cells cur o.elem (0,0))→∃cur',w'.heap[b]?=some (.cells cur' o.elem (0,0))∧cur'.size=cur.size)
theorem Stp.fwd{w w':World}{ρ ρ':Rm}{S S':St}(h:Stp w ρ S w' ρ' S'):Fwd w ρ S.heap w' ρ' S'.heap :=
 ⟨h.hid,h.out,h.imm,fun g o ho=>by
  obtain⟨o',h1,h2,_,h4⟩:=h.obj g o ho;refine⟨o',h1,h2,fun hv=>?_⟩;obtain⟨a1,a2⟩:=h4 hv
  exact⟨fun b hb=>a1.trans hb,a2⟩⟩
theorem VR.fwd{w w':World}{ρ ρ':Rm}{H H':List Rf}(hs:Fwd w ρ H w' ρ' H'){d:D}{v:Value}(h:VR w ρ H d v):VR w' ρ' H' d v:=by
 induction h with
 | undef v=>exact .undef v
 | skip=>exact .skip
 | nili=>exact .nili
 | junk n=>exact .junk n
 | ifc t d v hf hv _ ih=>exact .ifc t d v hf hv ih
 | ifr t d v hv _ ih=>exact .ifr t d v hv ih
 | iter g v r ob hg hv h =>
  obtain⟨ob',hg',yB,hs'⟩:=hs.obj g ob hg;refine .iter g v r ob' hg' (by omega) fun e=>?_;exact (hs' (by omega)).1 _ (h (by omega))
 | int k n=>exact .int k n
 | bool b=>exact .bool b
 | str s=>exact .str s
 | agg cs vs hl hc _ ih=>exact .agg cs vs hl hc ih
 | tup cs vs hl _ ih=>exact .tup cs vs hl ih
 | nilp=>exact .nilp
 | ptr g v i o a ob hg hv xL h =>
  obtain⟨ob',hg',yB,hs'⟩:=hs.obj g ob hg;refine .ptr g v i o a ob' hg' (by omega) (by rw[yB.2];exact xL) fun e=>?_;have e1:ob.ver=v:=by omega
  obtain⟨b,hb,ha⟩:=h e1;obtain⟨a1,a2,_⟩:=hs' (by omega);exact⟨b,a1 b hb,by rw[a2];exact ha⟩
 | R6 row o b q f hc _ ih =>
  refine .R6 row o b q f (fun j d hj ho=>?_) ih;obtain⟨h1,h2,h3⟩:=hc j d hj ho;obtain⟨k1,k2⟩:=hs.imm _ _ h2;exact⟨k1.trans h1,k2,h3⟩
 | R4=>exact .R4
 | sl sz rows cap A n c hn xS xC hz b o f hA hc _ ih =>
  refine .sl sz rows cap A n c hn xS xC hz b o f hA (fun i r j d hi hj=>?_) ih;obtain⟨h1,h2,h3⟩:=hc i r j d hi hj;obtain⟨k1,k2⟩:=hs.imm _ _ h2;exact⟨k1.trans h1,k2,h3⟩
 | msl g v lo n cap A c ob xS xC hg hv xL h =>
  obtain⟨ob',hg',yB,hs'⟩:=hs.obj g ob hg;refine .msl g v lo n cap A c ob' xS xC hg' (by omega) (by rw[yB.2];exact xL) fun e=>?_;obtain⟨b,hb,y9,hA,hc⟩:=h (by omega);obtain⟨a1,a2,a3,a4,a5⟩:=hs' (by omega);refine⟨b,a1 b hb,by omega,by rw[a2];exact hA,fun hn=>?_⟩;obtain⟨cur,h1,h2⟩:=hc hn;obtain⟨cur',h3,h4⟩:=a5 b cur hb h1;exact⟨cur',by rw[a3];exact h3,by rw[h4,h2,a2]⟩
 | fn f cs vs hl _ ih=>exact .fn f cs vs hl ih
 | nilfn=>exact .nilfn
 | mref g v r ob hg hv h =>
  obtain⟨ob',hg',yB,hs'⟩:=hs.obj g ob hg;refine .mref g v r ob' hg' (by omega) fun e=>?_;exact (hs' (by omega)).1 _ (h (by omega))
 | nilm=>exact .nilm
 | mp rows b clock es f hb hx hf hl hz he hc _ ih =>
  obtain⟨h1,h2⟩:=hs.out b (Array.getElem?_eq_some_iff.1 hb).1 hf;exact .mp rows b clock es f (h1.trans hb) (by rw[hs.hid];exact hx) h2 hl hz he hc ih
theorem VR.mono{w w':World}{ρ ρ':Rm}{S S':St}(hs:Stp w ρ S w' ρ' S'){d:D}{v:Value}(h:VR w ρ S.heap d v):VR w' ρ' S'.heap d v:=h.fwd hs.fwd
theorem free0_free{d:D}(h:d.Rv=true):d.free=true:=by
 cases d<;>first | exact h | skip
 rename_i f cs
 cases cs with
 | nil=>rfl
 | cons c cs=>simp[D.Rv]at h
theorem free_V{d:D}(h:d.free=true):d.Rp=true:=by
 cases d<;>first | exact h | (simp[D.free,D.Rv]at h;done)
theorem VR.freeV_mono{w w':World}{ρ ρ':Rm}{H H':List Rf}(hi:∀b q,Imm w ρ H b q→w'.cell? ⟨b,q,none⟩=w.cell? ⟨b,q,none⟩∧Imm w' ρ' H' b q)(ho:∀b es c,w.heap[b]?=some (.map es c)→(∀g,ρ g≠some b)→¬ρ.X b 0→w'.heap[b]?=w.heap[b]?∧(∀g,ρ' g≠some b)∧¬ρ'.X b 0){d:D}{v:Value}(h:VR w ρ H d v)(hf:d.Rp=true):VR w' ρ' H' d v:=by
 induction h with
 | undef v=>simp[D.Rp,D.free,D.Rv]at hf
 | skip=>simp[D.Rp,D.free,D.Rv]at hf
 | nili=>exact .nili
 | junk n=>exact .junk n
 | ifc t d v hfd hv _ ih=>exact .ifc t d v hfd hv (ih hfd)
 | ifr t d v hv _ ih=>simp[D.Rp,D.free,D.Rv]at hf
 | iter g v r ob hg hv h=>simp[D.Rp,D.free,D.Rv]at hf
 | int k n=>exact .int k n
 | bool b=>exact .bool b
 | str s=>exact .str s
 | agg cs vs hl hc _ ih =>
  refine .agg cs vs hl hc fun j d v h1 h2=>ih j d v h1 h2 (free_V ?_);simp only[D.Rp,List.all_eq_true]at hf;exact hf d (Lm h1)
 | tup cs vs hl _ ih=>simp[D.Rp,D.free,D.Rv]at hf
 | nilp=>exact .nilp
 | ptr g v i o a ob hg hv xL h=>simp[D.Rp,D.free,D.Rv]at hf
 | R6 row o b q f hc _ ih =>
  refine .R6 row o b q f (fun j d hj ho'=>?_) (fun j d hj ho'=>ih j d hj ho' (free_V (hc j d hj ho').2.2));obtain⟨h1,h2,h3⟩:=hc j d hj ho';obtain⟨k1,k2⟩:=hi _ _ h2;exact⟨k1.trans h1,k2,h3⟩
 | R4=>exact .R4
 | sl sz rows cap A n c hn xS xC hz b o f hA hc _ ih =>
  refine .sl sz rows cap A n c hn xS xC hz b o f hA (fun i r j d hi' hj=>?_) (fun i r j d hi' hj=>ih i r j d hi' hj (free_V (hc i r j d hi' hj).2.2));obtain⟨h1,h2,h3⟩:=hc i r j d hi' hj;obtain⟨k1,k2⟩:=hi _ _ h2;exact⟨k1.trans h1,k2,h3⟩
 | msl g v lo n cap A c ob xS xC hg hv xL h=>simp[D.Rp,D.free,D.Rv]at hf
 | fn f cs vs hl _ ih =>
  refine .fn f cs vs hl fun j d v h1 h2=>ih j d v h1 h2 (free_V (free0_free ?_));simp only[D.Rp,D.free,List.all_eq_true]at hf;exact hf d (Lm h1)
 | nilfn=>exact .nilfn
 | mref g v r ob hg hv h=>simp[D.Rp,D.free,D.Rv]at hf
 | nilm=>exact .nilm
 | mp rows b clock es f hb hx hf' hl hz he hc _ ih =>
  obtain⟨h1,h2,h3⟩:=ho b es clock hb hf' hx;exact .mp rows b clock es f (h1.trans hb) h3 h2 hl hz he hc (fun i r j d hi' hj=>ih i r j d hi' hj (hc i r j d hi' hj).1)
theorem VR.free_mono{w w':World}{ρ ρ':Rm}{H H':List Rf}(hi:∀b q,Imm w ρ H b q→w'.cell? ⟨b,q,none⟩=w.cell? ⟨b,q,none⟩∧Imm w' ρ' H' b q)(ho:∀b es c,w.heap[b]?=some (.map es c)→(∀g,ρ g≠some b)→¬ρ.X b 0→w'.heap[b]?=w.heap[b]?∧(∀g,ρ' g≠some b)∧¬ρ'.X b 0){d:D}{v:Value}(h:VR w ρ H d v)(hf:d.free=true):VR w' ρ' H' d v:=h.freeV_mono hi ho (free_V hf)
theorem Rel.hids{w w':World}{ρ ρ':Rm}{S S':St}(hr:Rel w ρ S.heap)(hs:Stp w ρ S w' ρ' S'):∀b q,ρ'.X b q→b<w'.heap.size∧∀g,ρ' g≠some b:=by
 intro b q hx;rw[hs.hid]at hx;obtain⟨h1,h2⟩:=hr.hid b q hx;exact⟨Nat.lt_of_lt_of_le h1 hs.size,(hs.out b h1 h2).2⟩
theorem Rel.globs{w w':World}{ρ ρ':Rm}{S S':St}(hr:Rel w ρ S.heap)(hs:Stp w ρ S w' ρ' S'):∀g row,ρ'.X.G g=some row→VR w' ρ' S'.heap (.R6 row 0) (.pointer (some ⟨g,0,none⟩))∧GSz w' ρ' g row:=by
 intro g row hg;rw[hs.hid]at hg;obtain⟨h1,h2,cs,t,z,h3,h4⟩:=hr.glob g row hg;obtain⟨k1,k2⟩:=hs.out g (Array.getElem?_eq_some_iff.1 h3).1 h2;exact⟨h1.mono hs,k2,cs,t,z,k1.trans h3,h4⟩
open Go.RowKit
structure Rw (w w':World) (o:Obj):Prop where
 os:w'.os=w.os
 tape:w'.tape=w.tape
 output:w'.output=w.output
 size:w'.heap.size=w.heap.size+1
 new:w'.heap[w.heap.size]?=some o
 old:∀k,k<w.heap.size→w'.heap[k]?=w.heap[k]?
structure Rx (w w':World) (b:Nat) (o:Obj):Prop where
 os:w'.os=w.os
 tape:w'.tape=w.tape
 output:w'.output=w.output
 size:w'.heap.size=w.heap.size
 new:w'.heap[b]?=some o
 old:∀k,k≠b→w'.heap[k]?=w.heap[k]?
theorem Rw.alloc(w:World)(o:Obj):Rw w (w.alloc o) o:=⟨rfl,rfl,rfl,by simp,heap_alloc_new w o,fun k h=>heap_alloc_old w o h⟩
theorem Rw.drewAlloc(w:World)(o:Obj):Rw w (w.drew.alloc o) o:=⟨rfl,rfl,rfl,by simp,heap_alloc_new w.drew o,fun k h=>heap_alloc_old w.drew o h⟩
theorem Rx.setRow{w:World}{b:Nat}{cur cs:Array Value}{t:TypeId}(h:w.heap[b]?=some (.cells cur t (0,0))):Rx w (w.setRow b cs) b (.cells cs t (0,0)) :=
 ⟨rfl,rfl,rfl,by simp[World.setRow],setRow_heap w b cur cs t (0,0) h,fun k hk=>setRow_other w b k cs hk⟩
theorem Er{w w':World}{b:Nat}(h:w'.heap[b]?=w.heap[b]?)(q:Nat):w'.cell? ⟨b,q,none⟩=w.cell? ⟨b,q,none⟩:=by
 simp[World.cell?,h]
theorem lt_of_heap{w:World}{b:Nat}{o:Obj}(h:w.heap[b]?=some o):b<w.heap.size:=(Array.getElem?_eq_some_iff.1 h).1
theorem Rel.lt{w:World}{ρ:Rm}{H:List Rf}(h:Rel w ρ H){g b:Nat}(hb:ρ g=some b):b<w.heap.size:=by
 obtain⟨o,_,hk⟩:=h.obj g b hb;by_cases e:o.kind=3
 ·
  by_cases e0:o.elem=0
  ·
   obtain⟨es,clock,hc,_⟩:=(hk.2 e).1 e0;exact lt_of_heap hc
  obtain⟨s,pos,hc,_⟩:=(hk.2 e).2 e0;exact lt_of_heap hc
 obtain⟨cur,hc,_⟩:=hk.1 e;exact lt_of_heap hc
theorem Rel.cel{w:World}{ρ:Rm}{H:List Rf}(h:Rel w ρ H){g b:Nat}{ob:Rf}(hb:ρ g=some b)(hg:H[g]?=some ob)(hk:ob.kind≠3):∃o,H[g]?=some o∧ObjOK w ρ H o b:=by
 obtain⟨o,ho,yu⟩:=h.obj g b hb;rw[hg]at ho;injection ho with ho;subst ho;exact⟨ob,hg,yu.1 hk⟩
theorem Rel.map{w:World}{ρ:Rm}{H:List Rf}(h:Rel w ρ H){g b:Nat}{ob:Rf}(hb:ρ g=some b)(hg:H[g]?=some ob)(hk:ob.kind=3)(he:ob.elem=0):MapOK w ρ H ob b:=by
 obtain⟨o,ho,yu⟩:=h.obj g b hb;rw[hg]at ho;injection ho with ho;subst ho;exact (yu.2 hk).1 he
theorem Rel.iter{w:World}{ρ:Rm}{H:List Rf}(h:Rel w ρ H){g b:Nat}{ob:Rf}(hb:ρ g=some b)(hg:H[g]?=some ob)(hk:ob.kind=3)(he:ob.elem≠0):IterOK w ob b:=by
 obtain⟨o,ho,yu⟩:=h.obj g b hb;rw[hg]at ho;injection ho with ho;subst ho;exact (yu.2 hk).2 he
theorem Rel.in{w:World}{ρ:Rm}{H:List Rf}(h:Rel w ρ H){g b:Nat}(hb:ρ g=some b):g<H.length:=by
 obtain⟨o,ho,_⟩:=h.obj g b hb;exact lt_of_some ho
theorem ObjOK.fwd{w w':World}{ρ ρ':Rm}{H H':List Rf}(hs:Fwd w ρ H w' ρ' H'){o:Rf}{b:Nat}(h:ObjOK w ρ H o b)(hb:w'.heap[b]?=w.heap[b]?):ObjOK w' ρ' H' o b:=by
 obtain⟨cur,hc,hz,xC,hl,hk,hh⟩:=h;refine⟨cur,hb.trans hc,hz,xC,hl,hk,fun i r j d hi hj=>?_⟩;obtain⟨h1,h2,v,hv,zP⟩:=hh i r j d hi hj;exact⟨h1,h2,v,hv,zP.fwd hs⟩
theorem MapOK.fwd{w w':World}{ρ ρ':Rm}{H H':List Rf}(hs:Fwd w ρ H w' ρ' H'){o:Rf}{b:Nat}(h:MapOK w ρ H o b)(hb:w'.heap[b]?=w.heap[b]?):MapOK w' ρ' H' o b:=by
 obtain⟨es,clock,hc,hz,hl,hh⟩:=h;refine⟨es,clock,hb.trans hc,hz,hl,fun i r hi=>?_⟩;obtain⟨e,k,v,h1,h2,h3,h4,h5,h6⟩:=hh i r hi;exact⟨e,k,v,h1,h2,h3,h4,h5.fwd hs,h6.fwd hs⟩
theorem AnyOK.fwd{w w':World}{ρ ρ':Rm}{H H':List Rf}(hs:Fwd w ρ H w' ρ' H'){o:Rf}{b:Nat}(h:AnyOK w ρ H o b)(hb:w'.heap[b]?=w.heap[b]?):AnyOK w' ρ' H' o b :=
 ⟨fun hk=>(h.1 hk).fwd hs hb,fun hk=>⟨fun he=>((h.2 hk).1 he).fwd hs hb,fun he=>by
  obtain⟨s,pos,h1,h2⟩:=(h.2 hk).2 he
  exact⟨s,pos,hb.trans h1,h2⟩⟩⟩
theorem ObjOK.mono{w w':World}{ρ ρ':Rm}{S S':St}(hs:Stp w ρ S w' ρ' S'){o:Rf}{b:Nat}(h:ObjOK w ρ S.heap o b)(hb:w'.heap[b]?=w.heap[b]?):ObjOK w' ρ' S'.heap o b:=h.fwd hs.fwd hb
theorem MapOK.mono{w w':World}{ρ ρ':Rm}{S S':St}(hs:Stp w ρ S w' ρ' S'){o:Rf}{b:Nat}(h:MapOK w ρ S.heap o b)(hb:w'.heap[b]?=w.heap[b]?):MapOK w' ρ' S'.heap o b:=h.fwd hs.fwd hb
theorem AnyOK.mono{w w':World}{ρ ρ':Rm}{S S':St}(hs:Stp w ρ S w' ρ' S'){o:Rf}{b:Nat}(h:AnyOK w ρ S.heap o b)(hb:w'.heap[b]?=w.heap[b]?):AnyOK w' ρ' S'.heap o b:=h.fwd hs.fwd hb
def upd (ρ:Rm) (g b:Nat):Rm:=⟨fun k=>if k=g then some b else ρ k,ρ.X⟩
section
variable {w w':World} {ρ:Rm} {S:St}
theorem Fy{o:Obj}(hr:Rel w ρ S.heap)(h:Rw w w' o):Stp w ρ S w' ρ S:=by
 refine⟨rfl,h.os,h.tape,h.output,by have:=h.size;omega,Nat.le_refl _,fun b hb hg=>⟨h.old b hb,hg⟩,fun b q hi=>⟨Er (h.old b hi.1) q,by have:=h.size;have:=hi.1;exact⟨by omega,hi.2.1,hi.2.2⟩⟩,fun g b o' ho hg hb=>h.old b (hr.lt hb),fun g o' ho=>⟨o',ho,⟨Nat.le_refl _,rfl⟩,fun _=>rfl,fun _=>⟨rfl,rfl,rfl,Nat.le_refl _,fun b cur hb hc=>⟨cur,(h.old b (hr.lt hb)).trans hc,rfl⟩⟩⟩⟩
theorem Ki{o:Obj}(hr:Rel w ρ S.heap)(h:Rw w w' o):Rel w' ρ S.heap :=
 ⟨hr.inj,fun g b hb=>by
  obtain⟨o',ho,hk⟩:=hr.obj g b hb
  exact⟨o',ho,hk.mono (Fy hr h) (h.old b (hr.lt hb))⟩,hr.hids (Fy hr h),hr.globs (Fy hr h)⟩
theorem ext_add{o:Obj}(h:Rw w w' o):Ext w w':=⟨h.os,h.tape,h.output,by have:=h.size;omega,h.old⟩
theorem Eu{o:Obj}{ob:Rf}(hr:Rel w ρ S.heap)(h:Rw w w' o):Stp w ρ S w' (upd ρ S.heap.length w.heap.size) (newAt S ob):=by
  have xu:∀g b,ρ g=some b→g≠S.heap.length:=fun g b hb e=>by have:=hr.in hb;omega
  refine⟨rfl,h.os,h.tape,h.output,by have:=h.size;omega,Nat.le_refl _,fun b hb hg=>⟨h.old b hb,fun g=>?_⟩,fun b q hi=>⟨Er (h.old b hi.1) q,by have:=h.size;have:=hi.1;omega,hi.2.1,fun g hg=>?_⟩,fun g b o' ho hg hb=>h.old b (hr.lt hb),fun g o' ho=>?_⟩
  · simp only [upd];split
    · intro e;injection e with e;omega
    exact hg g
  · simp only [upd] at hg;split at hg
    · injection hg with hg;have:=hi.1;omega
    obtain⟨o',ho,hk⟩:=hi.2.2 g hg;exact⟨o',by simp only[newAt];rw[La_ (lt_of_some ho)];exact ho,hk⟩
  have xJ:=lt_of_some ho;refine⟨o',by simp only[newAt];rw[La_ xJ];exact ho,⟨Nat.le_refl _,rfl⟩,fun _=>rfl,fun _=>⟨by simp only[upd];rw[if_neg (by omega)],rfl,rfl,Nat.le_refl _,fun b cur hb hc=>⟨cur,(h.old b (hr.lt hb)).trans hc,rfl⟩⟩⟩
theorem Hg{cur:Array Value}{ob:Rf}(hr:Rel w ρ S.heap)(h:Rw w w' (.cells cur ob.elem (0,0)))(hz:0<ob.sz)(xC:∃c,cur.size=c*ob.sz∧ob.rows.length≤c∧c≤maxLen∧(ob.grow=false→c=ob.rows.length))
  (hl:∀r∈ob.rows,r.length=ob.sz) (hk:ob.kind=0∨ob.kind=1∨ob.kind=2)
  (hh:∀i r j d,ob.rows[i]?=some r→r[j]?=some d→d.Ru=true∧(ob.kind≠0→d.free=true)∧∃v,cur[i*ob.sz+j]?=some v∧VR w ρ S.heap d v) :
  Rel w' (upd ρ S.heap.length w.heap.size) (newAt S ob).heap:=by
 have hs:=Eu (ob:=ob) hr h;refine⟨fun g g' b hg hg'=>?_,fun g b hb=>?_,hr.hids hs,hr.globs hs⟩
 ·
  simp only[upd]at hg hg';split at hg<;>split at hg'
  ·
   omega
  ·
   injection hg with hg;have:=hr.lt hg';omega
  ·
   injection hg' with hg';have:=hr.lt hg;omega
  exact hr.inj g g' b hg hg'
 simp only[upd]at hb;split at hb
 ·
  rename_i hgn;injection hb with hb;subst hb hgn;refine⟨ob,by simp[newAt],fun _=>⟨cur,h.new,hz,xC,hl,hk,fun i r j d hi hj=>?_⟩,fun e=>by omega⟩;obtain⟨h1,h2,v,hv,zP⟩:=hh i r j d hi hj;exact⟨h1,h2,v,hv,zP.mono hs⟩
 obtain⟨o',ho,hk'⟩:=hr.obj g b hb;exact⟨o',by simp only[newAt];rw[La_ (lt_of_some ho)];exact ho,hk'.mono hs (h.old b (hr.lt hb))⟩
theorem H9 {g b : Nat} {cur cur' : Array Value} {o o' : Rf} (hr : Rel w ρ S.heap) (hb : ρ g = some b) (ho : S.heap[g]? = some o) (hc : w.heap[b]? = some (.cells cur o.elem (0, 0))) (h : Rx w w' b (.cells cur' o.elem (0, 0)))
    (xE:cur'.size=cur.size) (he:o'.sz=o.sz∧o'.elem=o.elem∧o'.kind=o.kind∧o.rows.length≤o'.rows.length∧o.ver≤o'.ver) (zN:o.kind=1→∀q,q<o.rows.length*o.sz→cur'[q]?=cur[q]?) :
    Stp w ρ S w' ρ ⟨S.heap.set g o',min S.low g⟩:=by
  have yX:=lt_of_some ho;refine⟨rfl,h.os,h.tape,h.output,by have:=h.size;omega,Nat.min_le_left _ _,fun b' hb' hg=>⟨h.old b' (fun e=>hg g (e▸hb)),hg⟩,fun b' q hi=>?_,fun g' b' o'' ho' hg hb'=>h.old b' (fun e=>?_),fun g' o'' ho'=>?_⟩
  · by_cases e : b' = b
    · subst e;obtain⟨o1,xG,zB,hq1⟩:=hi.2.2 g hb;rw[ho]at xG;injection xG with xG;subst xG;refine⟨?_,by rw[h.size];exact hi.1,hi.2.1,fun g' hg'=>?_⟩
      · simp only [World.cell?, h.new, hc];simpa using zN zB q hq1
      have:=hr.inj g' g b' hg' hb;subst this;refine⟨o',by simp[yX],by rw[he.2.2.1];exact zB,?_⟩;rw[he.1];exact Nat.lt_of_lt_of_le hq1 (Nat.mul_le_mul_right _ he.2.2.2.1)
    refine⟨Er (h.old b' e) q,by rw[h.size];exact hi.1,hi.2.1,fun g' hg'=>?_⟩;have xu:g≠g':=fun e'=>e (by subst e';rw[hb]at hg';injection hg' with hg';exact hg'.symm);obtain⟨o1,xG,zB⟩:=hi.2.2 g' hg';exact⟨o1,by simp only;rw[Ln_ xu];exact xG,zB⟩
  · subst e;have:=hr.inj g' g b' hb' hb;subst this;have:g'<min S.low g':=hg;exact absurd (Nat.min_le_right S.low g') (by omega)
  by_cases e:g=g'
  · subst e;rw[ho]at ho';injection ho' with ho';subst ho';refine⟨o',by simp[yX],⟨he.2.2.2.2,he.2.2.1⟩,fun hg=>?_,fun hv=>⟨rfl,he.1,he.2.1,he.2.2.2.1,fun b' cu hb' wL=>?_⟩⟩
    · exact absurd (Nat.min_le_right S.low g) (by have:g<min S.low g:=hg;omega)
    rw[hb]at hb';injection hb' with hb';subst hb';rw[hc]at wL;injection wL with wL;injection wL with wL;subst wL;exact⟨cur',h.new,xE⟩
  refine⟨o'',by simp only;rw[Ln_ e];exact ho',⟨Nat.le_refl _,rfl⟩,fun _=>rfl,fun _=>⟨rfl,rfl,rfl,Nat.le_refl _,fun b' cu hb' wL=>⟨cu,?_,rfl⟩⟩⟩;rw[h.old b' (fun e'=>e (by subst e';exact hr.inj g g' b' hb hb'))];exact wL
theorem Jj{g b:Nat}{cur cur':Array Value}{o o':Rf}(xL:o.kind≠3)(hr:Rel w ρ S.heap)(hb:ρ g=some b)(ho:S.heap[g]?=some o)(hc:w.heap[b]?=some (.cells cur o.elem (0,0)))(h:Rx w w' b (.cells cur' o.elem (0,0)))
  (xE:cur'.size=cur.size) (he:o'.sz=o.sz∧o'.elem=o.elem∧o'.kind=o.kind∧o.rows.length≤o'.rows.length∧o.ver≤o'.ver) (zN:o.kind=1→∀q,q<o.rows.length*o.sz→cur'[q]?=cur[q]?)
  (xC:∃c,cur'.size=c*o'.sz∧o'.rows.length≤c∧c≤maxLen∧(o'.grow=false→c=o'.rows.length)) (hl:∀r∈o'.rows,r.length=o'.sz)
  (hh:∀i r j d,o'.rows[i]?=some r→r[j]?=some d→d.Ru=true∧(o'.kind≠0→d.free=true)∧∃v,cur'[i*o'.sz+j]?=some v∧VR w ρ S.heap d v) :
  Rel w' ρ (S.heap.set g o'):=by
 have hs:=H9 hr hb ho hc h xE he zN;have yX:=lt_of_some ho;refine⟨hr.inj,fun g' b' hb'=>?_,hr.hids hs,hr.globs hs⟩;by_cases e:g=g'
 ·
  subst e;rw[hb]at hb';injection hb' with hb';subst hb';obtain⟨o1,xG,cu,wL,hz,_,_,hk,_⟩:=hr.cel hb ho xL;rw[ho]at xG;injection xG with xG;subst xG;refine⟨o',by simp[yX],fun _=>⟨cur',by rw[he.2.1];exact h.new,by rw[he.1];exact hz,xC,hl,by rw[he.2.2.1];exact hk,fun i r j d hi hj=>?_⟩,fun e=>absurd (he.2.2.1.symm.trans e) xL⟩;obtain⟨h1,h2,v,hv,zP⟩:=hh i r j d hi hj;exact⟨h1,h2,v,hv,zP.mono hs⟩
 obtain⟨o1,xG,hk⟩:=hr.obj g' b' hb';refine⟨o1,by rw[Ln_ e];exact xG,hk.mono hs (h.old b' (fun e'=>e (by subst e';exact hr.inj g g' b' hb hb')))⟩
theorem stp_move{g b:Nat}{ob:Obj}{o o':Rf}(hr:Rel w ρ S.heap)(hb:ρ g=some b)(ho:S.heap[g]?=some o)(h:Rw w w' ob)(hv:o.ver<o'.ver)(zD:o'.kind=o.kind) :
    Stp w ρ S w' (upd ρ g w.heap.size) ⟨S.heap.set g o',min S.low g⟩:=by
  have yX:=lt_of_some ho;refine⟨rfl,h.os,h.tape,h.output,by have:=h.size;omega,Nat.min_le_left _ _,fun b' hb' hg=>⟨h.old b' hb',fun g'=>?_⟩,fun b' q hi=>⟨Er (h.old b' hi.1) q,by have:=h.size;have:=hi.1;omega,hi.2.1,fun g' hg'=>?_⟩,fun g' b' o'' ho' hg hb'=>h.old b' (hr.lt hb'),fun g' o'' ho'=>?_⟩
  · simp only [upd];split
    · intro e;injection e with e;omega
    exact hg g'
  · simp only [upd] at hg';split at hg'
    · injection hg' with hg';have:=hi.1;omega
    rename_i xu;obtain⟨o1,xG,hk⟩:=hi.2.2 g' hg';exact⟨o1,by simp only;rw[Ln_ (Ne.symm xu)];exact xG,hk⟩
  by_cases e:g=g'
  · subst e;rw[ho]at ho';injection ho' with ho';subst ho';refine⟨o',by simp[yX],⟨by omega,zD⟩,fun hg=>?_,fun hv'=>by omega⟩;exact absurd (Nat.min_le_right S.low g) (by have:g<min S.low g:=hg;omega)
  refine⟨o'',by simp only;rw[Ln_ e];exact ho',⟨Nat.le_refl _,rfl⟩,fun _=>rfl,fun _=>⟨by simp only[upd];rw[if_neg (Ne.symm e)],rfl,rfl,Nat.le_refl _,fun b' cu hb' wL=>⟨cu,(h.old b' (hr.lt hb')).trans wL,rfl⟩⟩⟩
theorem rel_move{g b:Nat}{cur':Array Value}{o o':Rf}(hr:Rel w ρ S.heap)(hb:ρ g=some b)(ho:S.heap[g]?=some o)(h:Rw w w' (.cells cur' o'.elem (0,0)))(hv:o.ver<o'.ver)(zD:o'.kind=o.kind)(hz:0<o'.sz)(hk:o'.kind=0∨o'.kind=1∨o'.kind=2)
  (xC:∃c,cur'.size=c*o'.sz∧o'.rows.length≤c∧c≤maxLen∧(o'.grow=false→c=o'.rows.length)) (hl:∀r∈o'.rows,r.length=o'.sz)
  (hh:∀i r j d,o'.rows[i]?=some r→r[j]?=some d→d.Ru=true∧(o'.kind≠0→d.free=true)∧∃v,cur'[i*o'.sz+j]?=some v∧VR w ρ S.heap d v) :
  Rel w' (upd ρ g w.heap.size) (S.heap.set g o'):=by
 have hs:=stp_move (o':=o') hr hb ho h hv zD;have yX:=lt_of_some ho;refine⟨fun g1 g2 b' hg hg'=>?_,fun g' b' hb'=>?_,hr.hids hs,hr.globs hs⟩
 ·
  simp only[upd]at hg hg';split at hg<;>split at hg'
  ·
   omega
  ·
   injection hg with hg;have:=hr.lt hg';omega
  ·
   injection hg' with hg';have:=hr.lt hg;omega
  exact hr.inj g1 g2 b' hg hg'
 simp only[upd]at hb';split at hb'
 ·
  rename_i hgn;injection hb' with hb';subst hb' hgn;refine⟨o',by simp[yX],fun _=>⟨cur',h.new,hz,xC,hl,hk,fun i r j d hi hj=>?_⟩,fun e=>by omega⟩;obtain⟨h1,h2,v,hv',zP⟩:=hh i r j d hi hj;exact⟨h1,h2,v,hv',zP.mono hs⟩
 rename_i xu;obtain⟨o1,xG,zB⟩:=hr.obj g' b' hb';exact⟨o1,by rw[Ln_ (Ne.symm xu)];exact xG,zB.mono hs (h.old b' (hr.lt hb'))⟩
theorem Ia{g b:Nat}{mo mo':Obj}{o o':Rf}(hr:Rel w ρ S.heap)(hb:ρ g=some b)(ho:S.heap[g]?=some o)(hk:o.kind=3)(hc:w.heap[b]?=some mo)(xS:∀c e f,mo≠.cells c e f)(h:Rx w w' b mo')(he:o'.sz=o.sz∧o'.elem=o.elem∧o'.kind=o.kind∧o.rows.length≤o'.rows.length∧o'.ver=o.ver) :
    Stp w ρ S w' ρ ⟨S.heap.set g o',min S.low g⟩:=by
  have yX:=lt_of_some ho;refine⟨rfl,h.os,h.tape,h.output,by have:=h.size;omega,Nat.min_le_left _ _,fun b' hb' hg=>⟨h.old b' (fun e=>hg g (e▸hb)),hg⟩,fun b' q hi=>?_,fun g' b' o'' ho' hg hb'=>h.old b' (fun e=>?_),fun g' o'' ho'=>?_⟩
  · by_cases e : b' = b
    · subst e;obtain⟨o1,xG,zB,hq1⟩:=hi.2.2 g hb;rw[ho]at xG;injection xG with xG;subst xG;omega
    refine⟨Er (h.old b' e) q,by rw[h.size];exact hi.1,hi.2.1,fun g' hg'=>?_⟩;have xu:g≠g':=fun e'=>e (by subst e';rw[hb]at hg';injection hg' with hg';exact hg'.symm);obtain⟨o1,xG,zB⟩:=hi.2.2 g' hg';exact⟨o1,by simp only;rw[Ln_ xu];exact xG,zB⟩
  · subst e;have:=hr.inj g' g b' hb' hb;subst this;have:g'<min S.low g':=hg;exact absurd (Nat.min_le_right S.low g') (by omega)
  by_cases e:g=g'
  · subst e;rw[ho]at ho';injection ho' with ho';subst ho';refine⟨o',by simp[yX],⟨by omega,he.2.2.1⟩,fun hg=>?_,fun hv=>⟨rfl,he.1,he.2.1,he.2.2.2.1,fun b' cu hb' wL=>?_⟩⟩
    · exact absurd (Nat.min_le_right S.low g) (by have:g<min S.low g:=hg;omega)
    rw[hb]at hb';injection hb' with hb';subst hb';rw[hc]at wL;injection wL with wL;exact absurd wL (xS _ _ _)
  refine⟨o'',by simp only;rw[Ln_ e];exact ho',⟨Nat.le_refl _,rfl⟩,fun _=>rfl,fun _=>⟨rfl,rfl,rfl,Nat.le_refl _,fun b' cu hb' wL=>⟨cu,?_,rfl⟩⟩⟩;rw[h.old b' (fun e'=>e (by subst e';exact hr.inj g g' b' hb hb'))];exact wL
theorem Q4{g b clock':Nat}{mo:Obj}{es':Array MapEntry}{o o':Rf}(hr:Rel w ρ S.heap)(hb:ρ g=some b)(ho:S.heap[g]?=some o)(hk:o.kind=3)(vD:o.elem=0)(hc:w.heap[b]?=some mo)(xS:∀c e f,mo≠.cells c e f)(h:Rx w w' b (.map es' clock'))(he:o'.sz=o.sz∧o'.elem=o.elem∧o'.kind=o.kind∧o.rows.length≤o'.rows.length∧o'.ver=o.ver)
  (hs:es'.size=o'.rows.length) (hl:∀r∈o'.rows,r.length=2) (hh:∀(i:Nat) (r:List D),o'.rows[i]?=some r→∃(e:MapEntry) (k v:D),es'[i]?=some e∧r=[k,v]∧(k.Rp=true∧k.val=true)∧(v.Rp=true∧v.val=true)∧VR w ρ S.heap k e.key∧VR w ρ S.heap v e.val) :
  Rel w' ρ (S.heap.set g o'):=by
 have xM:=Ia hr hb ho hk hc xS h he;have yX:=lt_of_some ho;refine⟨hr.inj,fun g' b' hb'=>?_,hr.hids xM,hr.globs xM⟩;by_cases e:g=g'
 ·
  subst e;rw[hb]at hb';injection hb' with hb';subst hb';refine⟨o',by simp[yX],fun h3=>absurd (he.2.2.1.trans hk) h3,fun _=>⟨fun _=>⟨es',clock',h.new,hs,hl,fun i r hi=>?_⟩,fun xu=>absurd (he.2.1.trans vD) xu⟩⟩;obtain⟨e,k,v,h1,h2,h3,h4,h5,h6⟩:=hh i r hi;exact⟨e,k,v,h1,h2,h3,h4,h5.mono xM,h6.mono xM⟩
 obtain⟨o1,xG,zB⟩:=hr.obj g' b' hb';refine⟨o1,by rw[Ln_ e];exact xG,zB.mono xM (h.old b' (fun e'=>e (by subst e';exact hr.inj g g' b' hb hb')))⟩
theorem rel_newmap{clock:Nat}{ob:Rf}(hr:Rel w ρ S.heap)(h:Rw w w' (.map #[] clock))(hk:ob.kind=3)(vD:ob.elem=0)(xB:ob.rows=[]):Rel w' (upd ρ S.heap.length w.heap.size) (newAt S ob).heap:=by
  have hs:=Eu (ob:=ob) hr h;refine⟨fun g g' b hg hg'=>?_,fun g b hb=>?_,hr.hids hs,hr.globs hs⟩
  · simp only [upd] at hg hg';split at hg<;>split at hg'
    · omega
    · injection hg with hg;have:=hr.lt hg';omega
    · injection hg' with hg';have:=hr.lt hg;omega
    exact hr.inj g g' b hg hg'
  simp only[upd]at hb;split at hb
  · rename_i hgn;injection hb with hb;subst hb hgn;exact⟨ob,by simp[newAt],fun e=>absurd hk e,fun _=>⟨fun _=>⟨#[],clock,h.new,by simp[xB],by simp[xB],fun i r hi=>by simp[xB]at hi⟩,fun xu=>absurd vD xu⟩⟩
  obtain⟨o',ho,hk'⟩:=hr.obj g b hb;exact⟨o',by simp only[newAt];rw[La_ (lt_of_some ho)];exact ho,hk'.mono hs (h.old b (hr.lt hb))⟩
theorem rel_newiter{s:ByteArray}{pos:Nat}{ob:Rf}(hr:Rel w ρ S.heap)(h:Rw w w' (.stringIter s pos))(hk:ob.kind=3)(vD:ob.elem≠0)(xB:ob.rows=[[.str s,.int .i64 pos]]):Rel w' (upd ρ S.heap.length w.heap.size) (newAt S ob).heap:=by
  have hs:=Eu (ob:=ob) hr h;refine⟨fun g g' b hg hg'=>?_,fun g b hb=>?_,hr.hids hs,hr.globs hs⟩
  · simp only [upd] at hg hg';split at hg<;>split at hg'
    · omega
    · injection hg with hg;have:=hr.lt hg';omega
    · injection hg' with hg';have:=hr.lt hg;omega
    exact hr.inj g g' b hg hg'
  simp only[upd]at hb;split at hb
  · rename_i hgn;injection hb with hb;subst hb hgn;exact⟨ob,by simp[newAt],fun e=>absurd hk e,fun _=>⟨fun h0=>absurd h0 vD,fun _=>⟨s,pos,h.new,xB⟩⟩⟩
  obtain⟨o',ho,hk'⟩:=hr.obj g b hb;exact⟨o',by simp only[newAt];rw[La_ (lt_of_some ho)];exact ho,hk'.mono hs (h.old b (hr.lt hb))⟩
theorem rel_iter{g b pos':Nat}{s:ByteArray}{mo:Obj}{o o':Rf}(hr:Rel w ρ S.heap)(hb:ρ g=some b)(ho:S.heap[g]?=some o)(hk:o.kind=3)(vD:o.elem≠0)(hc:w.heap[b]?=some mo)(xS:∀c e f,mo≠.cells c e f)(h:Rx w w' b (.stringIter s pos'))(he:o'.sz=o.sz∧o'.elem=o.elem∧o'.kind=o.kind∧o.rows.length≤o'.rows.length∧o'.ver=o.ver)
    (xB:o'.rows=[[.str s,.int .i64 pos']]):Rel w' ρ (S.heap.set g o'):=by
  have xM:=Ia hr hb ho hk hc xS h he;have yX:=lt_of_some ho;refine⟨hr.inj,fun g' b' hb'=>?_,hr.hids xM,hr.globs xM⟩;by_cases e:g=g'
  · subst e;rw[hb]at hb';injection hb' with hb';subst hb';exact⟨o',by simp[yX],fun h3=>absurd (he.2.2.1.trans hk) h3,fun _=>⟨fun h0=>absurd (he.2.1.symm.trans h0) vD,fun _=>⟨s,pos',h.new,xB⟩⟩⟩
  obtain⟨o1,xG,zB⟩:=hr.obj g' b' hb';refine⟨o1,by rw[Ln_ e];exact xG,zB.mono xM (h.old b' (fun e'=>e (by subst e';exact hr.inj g g' b' hb hb')))⟩
def updN (ρ:Rm) (g:Nat):Rm:=⟨fun k=>if k=g then none else ρ k,ρ.X⟩
theorem J9 {g b : Nat} {cur : Array Value} {e : TypeId} {fz : Nat × Nat} {o o' : Rf} (hr : Rel w ρ S.heap) (hb : ρ g = some b) (ho : S.heap[g]? = some o) (hc : w.heap[b]? = some (.cells cur o.elem (0, 0))) (h : Rx w w' b (.cells cur e fz)) (hv : o.ver < o'.ver) (zD : o'.kind = o.kind) :
    Stp w ρ S w' (updN ρ g) ⟨S.heap.set g o',min S.low g⟩:=by
  have yX:=lt_of_some ho;refine⟨rfl,h.os,h.tape,h.output,by have:=h.size;omega,Nat.min_le_left _ _,fun b' hb' hg=>⟨h.old b' (fun e=>hg g (e▸hb)),fun g'=>?_⟩,fun b' q hi=>?_,fun g' b' o'' ho' hg hb'=>h.old b' (fun e=>?_),fun g' o'' ho'=>?_⟩
  · simp only [updN];split
    · simp
    exact hg g'
  · refine ⟨?_, by rw [h.size]; exact hi.1, hi.2.1, fun g' hg' => ?_⟩
    · by_cases e : b' = b
      · subst e;simp only[World.cell?,h.new,hc]
      exact Er (h.old b' e) q
    simp only[updN]at hg';split at hg'
    · simp at hg'
    rename_i xu;obtain⟨o1,xG,hk⟩:=hi.2.2 g' hg';exact⟨o1,by simp only;rw[Ln_ (Ne.symm xu)];exact xG,hk⟩
  · subst e;have:=hr.inj g' g b' hb' hb;subst this;have:g'<min S.low g':=hg;exact absurd (Nat.min_le_right S.low g') (by omega)
  by_cases e:g=g'
  · subst e;rw[ho]at ho';injection ho' with ho';subst ho';refine⟨o',by simp[yX],⟨by omega,zD⟩,fun hg=>?_,fun hv'=>by omega⟩;exact absurd (Nat.min_le_right S.low g) (by have:g<min S.low g:=hg;omega)
  refine⟨o'',by simp only;rw[Ln_ e];exact ho',⟨Nat.le_refl _,rfl⟩,fun _=>rfl,fun _=>⟨by simp only[updN];rw[if_neg (Ne.symm e)],rfl,rfl,Nat.le_refl _,fun b' cu hb' wL=>⟨cu,?_,rfl⟩⟩⟩;rw[h.old b' (fun e'=>e (by subst e';exact hr.inj g g' b' hb hb'))];exact wL
theorem rel_drop{g b:Nat}{cur:Array Value}{e:TypeId}{fz:Nat × Nat}{o o':Rf}(hr:Rel w ρ S.heap)(hb:ρ g=some b)(ho:S.heap[g]?=some o)(hc:w.heap[b]?=some (.cells cur o.elem (0,0)))(h:Rx w w' b (.cells cur e fz))(hv:o.ver<o'.ver)(zD:o'.kind=o.kind) :
  Rel w' (updN ρ g) (S.heap.set g o'):=by
 have hs:=J9 (o':=o') hr hb ho hc h hv zD;refine⟨fun g1 g2 b' hg hg'=>?_,fun g' b' hb'=>?_,hr.hids hs,hr.globs hs⟩
 ·
  simp only[updN]at hg hg';split at hg<;>split at hg'
  ·
   simp at hg
  ·
   simp at hg
  ·
   simp at hg'
  exact hr.inj g1 g2 b' hg hg'
 simp only[updN]at hb';split at hb'
 ·
  simp at hb'
 rename_i xu;obtain⟨o1,xG,zB⟩:=hr.obj g' b' hb';exact⟨o1,by rw[Ln_ (Ne.symm xu)];exact xG,zB.mono hs (h.old b' (fun e'=>xu (by subst e';exact hr.inj g' g b' hb' hb)))⟩
theorem fwd_fill{o:Obj}{g:Nat}(hr:Rel w ρ S.heap)(h:Rw w w' o)(hn:ρ g=none):Fwd w ρ S.heap w' (upd ρ g w.heap.size) S.heap:=by
  have xu:∀g' b,ρ g'=some b→g'≠g:=fun g' b hb e=>by subst e;rw[hn]at hb;cases hb
  refine⟨rfl,fun b hb hg=>⟨h.old b hb,fun g'=>?_⟩,fun b q hi=>⟨Er (h.old b hi.1) q,by have:=h.size;have:=hi.1;omega,hi.2.1,fun g' hg=>?_⟩,fun g' o' ho=>?_⟩
  · simp only [upd];split
    · intro e;injection e with e;omega
    exact hg g'
  · simp only [upd] at hg;split at hg
    · injection hg with hg;have:=hi.1;omega
    exact hi.2.2 g' hg
  refine⟨o',ho,⟨Nat.le_refl _,rfl⟩,fun _=>⟨fun b hb=>by simp only[upd];rw[if_neg (xu g' b hb)];exact hb,rfl,rfl,Nat.le_refl _,fun b cur hb hc=>⟨cur,(h.old b (hr.lt hb)).trans hc,rfl⟩⟩⟩
theorem rel_fill{cur:Array Value}{ob:Rf}{g:Nat}(hr:Rel w ρ S.heap)(h:Rw w w' (.cells cur ob.elem (0,0)))(hn:ρ g=none)(hg:S.heap[g]?=some ob)(hz:0<ob.sz)(xC:∃c,cur.size=c*ob.sz∧ob.rows.length≤c∧c≤maxLen∧(ob.grow=false→c=ob.rows.length))
  (hl:∀r∈ob.rows,r.length=ob.sz) (hk:ob.kind=0∨ob.kind=1∨ob.kind=2)
  (hh:∀i r j d,ob.rows[i]?=some r→r[j]?=some d→d.Ru=true∧(ob.kind≠0→d.free=true)∧∃v,cur[i*ob.sz+j]?=some v∧VR w ρ S.heap d v) :
  Rel w' (upd ρ g w.heap.size) S.heap:=by
 have hs:=fwd_fill hr h hn
 refine⟨fun g1 g2 b yY wX=>?_,fun g' b hb=>?_,fun b q hx=>?_,fun g' row hG=>by
  obtain⟨q1,q2,cs,t,z,q3,q4⟩:=hr.glob g' row hG;have xJ:=(Array.getElem?_eq_some_iff.1 q3).1;refine⟨q1.fwd hs,fun k hk=>?_,cs,t,z,(h.old g' xJ).trans q3,q4⟩;simp only[upd]at hk;split at hk
  ·
   injection hk with hk;omega
  exact q2 k hk⟩
 ·
  simp only[upd]at yY wX;split at yY<;>split at wX
  ·
   omega
  ·
   injection yY with yY;have:=hr.lt wX;omega
  ·
   injection wX with wX;have:=hr.lt yY;omega
  exact hr.inj g1 g2 b yY wX
 ·
  simp only[upd]at hb;split at hb
  ·
   rename_i hgn;injection hb with hb;subst hb hgn;refine⟨ob,hg,fun _=>⟨cur,h.new,hz,xC,hl,hk,fun i r j d hi hj=>?_⟩,fun e=>by omega⟩;obtain⟨h1,h2,v,hv,zP⟩:=hh i r j d hi hj;exact⟨h1,h2,v,hv,zP.fwd hs⟩
  obtain⟨o',ho,hk'⟩:=hr.obj g' b hb;exact⟨o',ho,hk'.fwd hs (h.old b (hr.lt hb))⟩
 obtain⟨h1,h2⟩:=hr.hid b q hx;exact⟨by have:=h.size;omega,(hs.out b h1 h2).2⟩
theorem stp_fill{w0:World}{ρ0:Rm}{S0:St}{o:Obj}{g:Nat}(hs:Stp w0 ρ0 S0 w ρ S)(hr:Rel w ρ S.heap)(h:Rw w w' o)(hn:ρ g=none)(hg:S0.heap.length≤g):Stp w0 ρ0 S0 w' (upd ρ g w.heap.size) S:=by
  have hf:=fwd_fill hr h hn;refine⟨hs.hid,h.os.trans hs.os,h.tape.trans hs.tape,h.output.trans hs.output,by have:=h.size;have:=hs.size;omega,hs.low,fun b hb hg'=>?_,fun b q hi=>?_,fun g' b o' ho hg' hb=>?_,fun g' o' ho=>?_⟩
  · obtain ⟨h1, h2⟩ := hs.out b hb hg';obtain⟨k1,k2⟩:=hf.out b (Nat.lt_of_lt_of_le hb hs.size) h2;exact⟨k1.trans h1,k2⟩
  · obtain ⟨h1, h2⟩ := hs.imm b q hi;obtain⟨k1,k2⟩:=hf.imm b q h2;exact⟨k1.trans h1,k2⟩
  · obtain ⟨o2, ho2, _, he, hv⟩ := hs.obj g' o' ho;have he:=he hg';subst he;exact (h.old b (hr.lt ((hv rfl).1.trans hb))).trans (hs.keep g' b o2 ho hg' hb)
  have xJ:=lt_of_some ho;obtain⟨o2,ho2,h1,h2,h3⟩:=hs.obj g' o' ho;refine⟨o2,ho2,h1,h2,fun hv=>?_⟩;obtain⟨a1,a2,a3,a4,a5⟩:=h3 hv;refine⟨by simp only[upd];rw[if_neg (by omega)];exact a1,a2,a3,a4,fun b cur hb hc=>?_⟩;obtain⟨cur',h4,h5⟩:=a5 b cur hb hc;exact⟨cur',(h.old b (lt_of_heap h4)).trans h4,h5⟩
theorem stp_news(hr:Rel w ρ S.heap)(l:List Rf):Stp w ρ S w ρ ⟨S.heap++l,S.low⟩:=by
 have xu:∀g o,S.heap[g]?=some o→(S.heap++l)[g]?=some o:=fun g o ho=>by rw[La_ (lt_of_some ho)];exact ho
 refine⟨rfl,rfl,rfl,rfl,Nat.le_refl _,Nat.le_refl _,fun b _ h=>⟨rfl,h⟩,fun b q h=>⟨rfl,h.1,h.2.1,fun g hg=>?_⟩,fun _ _ _ _ _ _=>rfl,fun g o ho=>⟨o,xu g o ho,⟨Nat.le_refl _,rfl⟩,fun _=>rfl,fun _=>⟨rfl,rfl,rfl,Nat.le_refl _,fun b cur _ h=>⟨cur,h,rfl⟩⟩⟩⟩;obtain⟨o,ho,hk⟩:=h.2.2 g hg;exact⟨o,xu g o ho,hk⟩
end
open Go.RowKit
set_option linter.unusedSimpArgs false
section
variable {P:Program} {w:World} {ρ:Rm} {H:List Rf}
theorem Ad{α β:Type}{s:Sem α}{f:α→Sem β}{a:α}{w':World}(h:s.run P w=.ok a w'):(s >>= f).run P w=(f a).run P w':=by
 rw[Sem.run_bind,h,Result.andThen_ok]
theorem bin_ok {op : BinOp} {d1 d2 r : D} {v1 v2 : Value} {t : TypeId} {x y : Operand} (h1 : VR w ρ H d1 v1) (h2 : VR w ρ H d2 v2) (h : Cg op d1 d2 = some r) :
    ∃v,(do eqGuard op t x y v1 v2;binOp op t v1 v2).run P w=.ok v w∧VR w ρ H r v:=by
  unfold Cg at h;split at h
  all_goals first
    | (cases h1;cases h2;split at h<;>first
        | (simp only[Oi]at h;subst h;rename_i hk;first
            | (subst hk;refine⟨_,?_,.int _ _⟩;simp[eqGuard,binOp,Op.intArith,Op.intBits,Op.shift,Sem.run_bind];done)
            | (subst hk;refine⟨_,?_,.bool _⟩;simp[eqGuard,binOp,Op.intCmp,Sem.run_bind];done)
            | (obtain⟨rfl,h0⟩:=hk;refine⟨_,?_,.int _ _⟩;simp[eqGuard,binOp,Op.intDiv,h0,Sem.run_bind];done)
            | (refine⟨_,?_,.int _ _⟩;simp[eqGuard,binOp,Op.shift,hk,Sem.run_bind];done)
            | (refine⟨_,?_,.str _⟩;simp[eqGuard,binOp,Op.stringOp,hk,Sem.run_bind];done))
        | (simp at h;done))
    | (cases h1;cases h2;simp only[Oi]at h;subst h;refine⟨_,?_,.bool _⟩;simp[eqGuard,binOp,Op.stringOp,Sem.run_bind];done)
    | (simp at h;done)
    | (cases h1;cases h2;split at h
       · simp at h
       rename_i hk;simp only[Oi]at h;subst h;refine⟨_,?_,.str _⟩;simp only[eqGuard,binOp,Op.stringOp,if_neg hk,Sem.run_bind]
       simp)
theorem un_ok{op:UnOp}{d r:D}{v1:Value}(h1:VR w ρ H d v1)(h:unD op d=some r):∃v,(Op.unary op v1).run P w=.ok v w∧VR w ρ H r v:=by
  unfold unD at h;split at h
  · cases h1;simp only[Oi]at h;subst h;exact⟨_,by simp[Op.unary],.bool _⟩
  · cases h1;simp only[Oi]at h;subst h;exact⟨_,by simp[Op.unary,Op.intArith],.int _ _⟩
  · cases h1;simp only[Oi]at h;subst h;exact⟨_,by simp[Op.unary,Op.intBits],.int _ _⟩
  simp at h
theorem strT_iff{t:TypeId}:J5 P t=true↔P.underlying t=some .string:=by
 unfold J5;split
 ·
  rename_i h;simp[h]
 rename_i h;constructor
 ·
  intro h';simp at h'
 intro h';exact absurd h' h
theorem sliceT_iff{t e:TypeId}:sliceT P t=some e↔P.underlying t=some (.slice e):=by
 unfold sliceT;split
 ·
  rename_i e' h;simp[h]
 rename_i h;constructor
 ·
  intro h';simp at h'
 intro h';exact absurd h' (h e)
theorem arrayT_iff{t e:TypeId}{n:Nat}:arrayT P t=some (n,e)↔P.underlying t=some (.array n e):=by
 unfold arrayT;split
 ·
  rename_i e' h;simp[h]
 rename_i h;constructor
 ·
  intro h';simp at h'
 intro h';exact absurd h' (h n e)
theorem Cj{t:TypeId}{n:Nat}(h:Ch P t=some n):∃i d,P.info? t=some i∧P.underlying t=some d∧i.size=n∧0<n:=by
  unfold Ch at h;split at h
  · rename_i i d hi hd;split at h
    · simp at h
    rename_i h0;simp only[Oi]at h;exact⟨i,d,hi,hd,h,by omega⟩
  simp at h
theorem run_sizeOf{t:TypeId}{n:Nat}(h:Ch P t=some n):(sizeOf t).run P w=.ok n w:=by
 obtain⟨i,d,hi,hd,hs,_⟩:=Cj h;simp[sizeOf,typeInfo,hi,hs]
theorem Iu{t:TypeId}{n:Nat}(h:Ch P t=some n):(isAgg t).run P w=.ok (Ei P t) w:=by
 obtain⟨i,d,hi,hd,hs,_⟩:=Cj h;simp only[isAgg,Ei,Sem.run_bind,run_underlying hd,Result.andThen_ok,hd];cases d<;>rfl
theorem len_ok{st:Bool}{d r:D}{v1:Value}{t ty:TypeId}(ht:(st=true∧P.underlying t=some .string)∨(st=false∧∃e,P.underlying t=some (.slice e)))(h1:VR w ρ H d v1)(h:Jr st d=some r):∃v,(Builtin.len_ #[t] ty #[v1]).run P w=.ok v w∧VR w ρ H r v:=by
  rcases ht with⟨rfl,ht⟩ | ⟨rfl,e,ht⟩
  · unfold Jr at h
    split at h<;>first | (simp at h;done) | skip
    · cases h1;simp only[Oi]at h;subst h;exact⟨_,by simp[Builtin.len_,run_underlying ht,goInt],.int _ _⟩
    all_goals (rename_i hb;exact absurd hb (by simp))
  unfold Jr at h
  split at h<;>first | (simp at h;done) | skip
  · rename_i hb;exact absurd hb (by simp)
  all_goals
    cases h1;simp only[Oi]at h;subst h
    subst_vars
    exact⟨_,by simp[Builtin.len_,run_underlying ht,goInt],.int _ _⟩
theorem cap_ok{d r:D}{v1:Value}{t ty e:TypeId}(ht:P.underlying t=some (.slice e))(h1:VR w ρ H d v1)(h:capD d=some r):∃v,(Builtin.cap_ #[t] ty #[v1]).run P w=.ok v w∧VR w ρ H r v:=by
  unfold capD at h;split at h
  · cases h1;simp only[Oi]at h;subst h;exact⟨_,by simp[Builtin.cap_,run_underlying ht,goInt],.int _ _⟩
  · cases h1 with
    | sl _ _ _ A n c hn xS xC =>
      simp only[Oi]at h;subst h;have:=xC _ rfl;subst this;exact⟨_,by simp[Builtin.cap_,run_underlying ht,goInt],.int _ _⟩
  · cases h1 with
    | msl g v lo n _ A c ob xS xC =>
      simp only[Oi]at h;subst h;have:=xC _ rfl;subst this;exact⟨_,by simp[Builtin.cap_,run_underlying ht,goInt],.int _ _⟩
  simp at h
theorem extract_ok{ds:List D}{r:D}{v1:Value}{i:Nat}(h1:VR w ρ H (.tup ds) v1)(h:ds[i]?=some r):∃v,(Instr.extract v1 i).run P w=.ok v w∧VR w ρ H r v:=by
 cases h1 with
 | tup _ vs hl hh =>
  have hi:i<vs.length:=by rw[hl];exact lt_of_some h
  exact⟨vs[i],by simp[Instr.extract,hi],hh i r _ h (Lg hi)⟩
theorem index_ok{d1 d2 r:D}{v1 v2:Value}{t:TypeId}(ht:J5 P t=true)(h1:VR w ρ H d1 v1)(h2:VR w ρ H d2 v2)(h:Ha d1 d2=some r):∃v,(Instr.index t v1 v2).run P w=.ok v w∧VR w ρ H r v:=by
  have hu:P.underlying t=some .string:=strT_iff.1 ht;unfold Ha at h;split at h
  · cases h1; cases h2;split at h
    · rename_i hk;simp only[Om]at h;obtain⟨b,hb,rfl⟩:=h;exact⟨_,by simp[Instr.index,asIntOf,run_underlying hu,hk,hb],.int _ _⟩
    simp at h
  simp at h
end
open Go.RowKit
section
variable {P:Program} {w:World} {ρ:Rm} {H:List Rf}
inductive VO (w:World) (ρ:Rm) (H:List Rf):Option D→Option Value→Prop
 | none:VO w ρ H none none
 | some {d v} (h:VR w ρ H d v):VO w ρ H (some d) (some v)
theorem Et{d:D}{v:Value}{k y:Nat}{code:BoundsCode}(h:VR w ρ H d v)(hn:Gh d=some k)(hk:k≤y):(Instr.sliceBound v y code).run P w=.ok k w:=by
 cases h<;>simp[Gh]at hn;obtain⟨h0,rfl⟩:=hn;rename_i n;have h1:0≤n∧n≤(y:Int):=⟨h0,by omega⟩;simp[Instr.sliceBound,asIntOf,h1]
theorem L6{isS:Bool}{n c l h:Nat}{lo hi mx:Option D}{vlo vhi vmx:Option Value}(y9:VO w ρ H lo vlo)(hhi:VO w ρ H hi vhi)(hmx:VO w ρ H mx vmx)(hb:D5 n lo hi=some (l,h))(xS:n≤c)
  (hm:∀d,mx=some d→hi.isSome=true∧∃m,Gh d=some m∧h≤m∧m≤n) :
  l≤h∧h≤n∧∃m,(Instr.sliceBounds isS n c vlo vhi vmx).run P w=.ok (l,h,m) w∧h≤m∧m≤c∧(mx=none→m=c)∧(∀d,mx=some d→Gh d=some m):=by
 unfold D5 at hb
 cases hH:Ie n hi with
 | none=>simp[hH]at hb
 | some h' =>
  cases hL:Ie 0 lo with
  | none=>simp[hH,hL]at hb
  | some l' =>
   simp only[hH,hL]at hb;split at hb
   ·
    rename_i yB;simp only[Oi,Pi_]at hb;obtain⟨rfl,rfl⟩:=hb;refine⟨yB.1,yB.2,?_⟩
    cases hmx with
    | none =>
     refine⟨c,?_,by omega,Nat.le_refl _,fun _=>rfl,fun d hd=>by cases hd⟩
     cases hhi with
     | none =>
      simp only[Ie,Oi]at hH;subst hH
      cases y9 with
      | none =>
       simp only[Ie,Oi]at hL;subst hL;simp[Instr.sliceBounds]
      | some hv=>simp[Instr.sliceBounds,Et hv hL yB.1]
     | some hv =>
      have e1:=fun code=>Et (P:=P) (code:=code) hv hH (show _≤c by omega)
      cases y9 with
      | none =>
       simp only[Ie,Oi]at hL;subst hL;cases isS<;>simp[Instr.sliceBounds,e1]
      | some hv'=>cases isS<;>simp[Instr.sliceBounds,e1,Et hv' hL yB.1]
    | some hv =>
     obtain⟨hs,m,hm1,hm2,hm3⟩:=hm _ rfl;have e0:=fun code=>Et (P:=P) (code:=code) hv hm1 (show m≤c by omega);refine⟨m,?_,hm2,by omega,(fun h=>by cases h),fun d hd=>by injection hd with hd;subst hd;exact hm1⟩
     cases hhi with
     | none=>simp at hs
     | some wB =>
      have e1:=fun code=>Et (P:=P) (code:=code) wB hH hm2
      cases y9 with
      | none =>
       simp only[Ie,Oi]at hL;subst hL;cases isS<;>simp[Instr.sliceBounds,e0,e1]
      | some hv'=>cases isS<;>simp[Instr.sliceBounds,e0,e1,Et hv' hL yB.1]
   simp at hb
theorem sliceStr_ok{s:ByteArray}{l h:Nat}{lo hi:Option D}{vlo vhi:Option Value}{t:TypeId}(ht:P.underlying t=some .string)(y9:VO w ρ H lo vlo)(hhi:VO w ρ H hi vhi)(hb:D5 s.size lo hi=some (l,h)) :
  (Instr.sliceAt t (.string s) vlo vhi none).run P w=.ok (.string (s.extract l h)) w:=by
 obtain⟨_,_,m,hr,_⟩:=L6 (P:=P) (isS:=false) (c:=s.size) y9 hhi .none hb (Nat.le_refl _) (fun d hd=>by cases hd);simp[Instr.sliceAt,Instr.slice,run_underlying ht,hr]
theorem Cu{α:Type}{l:List α}{a n i:Nat}{x:α}(h:((l.drop a).take n)[i]?=some x):l[a+i]?=some x∧i<n:=by
  rw[List.getElem?_take]at h;split at h
  · rw [List.getElem?_drop] at h;exact⟨h,by assumption⟩
  cases h
theorem Dk{α:Type}{l:List α}{a n:Nat}{x:α}(h:x∈(l.drop a).take n):x∈l:=List.mem_of_mem_drop (List.mem_of_mem_take h)
theorem slice_ok {S : St} {sz : Nat} {x r : D} {v : Value} {lo hi mx : Option D} {vlo vhi vmx : Option Value} {t e : TypeId} (ht : P.underlying t = some (.slice e)) (xE : Ch P e = some sz) (hx : VR w ρ S.heap x v) (y9 : VO w ρ S.heap lo vlo) (hhi : VO w ρ S.heap hi vhi) (hmx : VO w ρ S.heap mx vmx)
    (hmh:mx.isSome=true→hi.isSome=true) (h:Ke S sz x lo hi mx=some r):∃v',(Instr.sliceAt t v vlo vhi vmx).run P w=.ok v' w∧VR w ρ S.heap r v':=by
  unfold Ke at h;split at h
  · -- nil
    cases hx
    cases hb:D5 0 lo hi with
    | none=>simp[hb]at h
    | some p =>
      obtain⟨l,hh⟩:=p
      have key:(∀d,mx=some d→Gh d=some 0)→∃v',(Instr.sliceAt t (.slice none 0 0) vlo vhi vmx).run P w=.ok v' w∧VR w ρ S.heap .R4 v':=by
        intro hm
        obtain⟨h1,h2,m,hr,h3,h4,h5,h6⟩:=L6 (P:=P) (isS:=true) (c:=0) y9 hhi hmx hb (Nat.le_refl _) (fun d hd=>⟨hmh (by simp[hd]),0,hm d hd,by
          have:hh≤0:=by
            unfold D5 at hb;split at hb<;>try (simp at hb;done)
            split at hb
            · rename_i yB;simp only[Oi,Pi_]at hb;omega
            simp at hb
          exact this,Nat.le_refl _⟩)
        have hl0:l=0:=by omega
        have hh0:hh=0:=by omega
        have qO:m=0:=by omega
        subst hl0 hh0 qO;exact⟨.slice none 0 0,by simp[Instr.sliceAt,Instr.slice,run_underlying ht,hr,run_sizeOf xE],.R4⟩
      cases mx with
      | none =>
        simp only[hb,Oi]at h;subst h;exact key (fun d hd=>by cases hd)
      | some d =>
        simp only[hb]at h;split at h
        · rename_i h0;simp only[Oi]at h;subst h;exact key (fun d' hd=>by injection hd with hd;subst hd;exact h0)
        simp at h
  · -- immutable
    rename_i s rows cap;split at h
    · simp at h
    rename_i hs;have hs:s=sz:=by simpa using hs
    subst hs
    cases hx with
    | sl _ _ _ A n c hn xS xC hz b o f hA hc hv =>
    cases hb:D5 rows.length lo hi with
    | none=>simp[hb]at h
    | some p =>
      obtain⟨l,hh⟩:=p;simp only[hb]at h
      have key:∀cap',(∀d,mx=some d→∃m,Gh d=some m∧hh≤m∧m≤rows.length)→(∀k,cap'=some k→(mx=none∧∃k',cap=some k'∧k=k'-l)∨(∃d m,mx=some d∧Gh d=some m∧k=m-l)) →
          ∃v',(Instr.sliceAt t (.slice (some A) n c) vlo vhi vmx).run P w=.ok v' w∧VR w ρ S.heap (.sl s ((rows.drop l).take (hh-l)) cap') v':=by
        intro cap' hm hk;subst hn;obtain⟨h1,h2,m,hr,h3,h4,h5,h6⟩:=L6 (P:=P) (isS:=true) (c:=c) y9 hhi hmx hb xS (fun d hd=>⟨hmh (by simp[hd]),hm d hd⟩);have xk:((rows.drop l).take (hh-l)).length=hh-l:=by simp;omega
        refine⟨.slice (some (if m=l then A else A.add (l*s))) (hh-l) (m-l),?_,?_⟩
        · simp only [Instr.sliceAt, Instr.slice, run_underlying ht, Sem.run_bind, Result.andThen_ok, hr, run_sizeOf xE, Sem.run_pure];split<;>rfl
        refine .sl s _ cap' _ _ _ xk.symm (by omega) (fun k hk'=>?_) (fun r hr'=>hz r (Dk hr')) b (o+l*s) (fun i j=>f (l+i) j) (fun xu=>?_) (fun i r' j d hi' hj=>?_) (fun i r' j d hi' hj=>?_)
        · rcases hk k hk' with ⟨hmn, k', zB, rfl⟩ | ⟨d, m', hd, hm', rfl⟩
          · rw[h5 hmn,xC k' zB]
          have:=h6 d hd;rw[hm']at this;injection this with this;rw[this]
        · have zh : 0 < hh - l := by
            rcases Nat.eq_zero_or_pos (hh-l) with h0 | h0
            · exact absurd (List.eq_nil_of_length_eq_zero (xk.trans h0)) xu
            exact h0
          rw[if_neg (by omega),hA (by rintro rfl;simp at h2;omega),add_plain]
        · obtain ⟨h7, h8⟩ := Cu hi';have:=hc (l+i) r' j d h7 hj;rw[show o+l*s+i*s+j=o+(l+i)*s+j by rw[Nat.add_mul];omega];exact this
        obtain⟨h7,h8⟩:=Cu hi';exact hv (l+i) r' j d h7 hj
      cases mx with
      | none =>
        simp only[Oi]at h;subst h;refine key _ (fun d hd=>by cases hd) (fun k hk=>.inl ⟨rfl,?_⟩)
        cases cap with
        | none=>simp at hk
        | some k'=>simp at hk;exact⟨k',rfl,hk.symm⟩
      | some d =>
        simp only at h;split at h
        · rename_i m hm;split at h
          · rename_i yB;simp only[Oi]at h;subst h;exact key _ (fun d' hd=>by injection hd with hd;subst hd;exact⟨m,hm,yB.1,yB.2⟩) (fun k hk=>.inr ⟨d,m,rfl,hm,by injection hk with hk;exact hk.symm⟩)
          simp at h
        simp at h
  · -- of the heap
    rename_i g ver o n cap
    cases hx with
    | msl _ _ _ _ _ A c ob xS xC hg yh xL xD =>
    cases hq:Ol S g ver sz n lo hi with
    | none=>simp[hq]at h
    | some p =>
      obtain⟨l,hh⟩:=p;simp only[hq]at h
      obtain⟨hvo,y7,hb⟩:ob.ver=ver∧ob.sz=sz∧D5 n lo hi=some (l,hh):=by
        unfold Ol rowsOf at hq;simp only[hg]at hq;by_cases hv':ob.ver=ver
        · simp only [hv', if_true] at hq;split at hq
          · rename_i hz';exact⟨hv',hz',hq⟩
          simp at hq
        simp[hv']at hq
      obtain⟨b,hρ,zV,hA,zO⟩:=xD hvo
      have key:∀cap',(∀d,mx=some d→∃m,Gh d=some m∧hh≤m∧m≤n)→(∀k,cap'=some k→(mx=none∧∃k',cap=some k'∧k=k'-l)∨(∃d m,mx=some d∧Gh d=some m∧k=m-l))→(cap'=none→mx=none∧cap=none) →
          ∃v',(Instr.sliceAt t (.slice (some A) n c) vlo vhi vmx).run P w=.ok v' w∧VR w ρ S.heap (.msl g ver (o+l) (hh-l) cap') v':=by
        intro cap' hm hk uF;obtain⟨h1,h2,m,hr,h3,h4,h5,h6⟩:=L6 (P:=P) (isS:=true) (c:=c) y9 hhi hmx hb xS (fun d hd=>⟨hmh (by simp[hd]),hm d hd⟩);refine⟨.slice (some (if m=l then A else A.add (l*sz))) (hh-l) (m-l),?_,?_⟩
        · simp only [Instr.sliceAt, Instr.slice, run_underlying ht, Sem.run_bind, Result.andThen_ok, hr, run_sizeOf xE, Sem.run_pure];split<;>rfl
        refine .msl g ver (o+l) (hh-l) cap' _ _ ob (by omega) (fun k hk'=>?_) hg yh xL (fun _=>⟨b,hρ,by omega,fun xu=>?_,fun hc'=>?_⟩)
        · rcases hk k hk' with ⟨hmn, k', zB, rfl⟩ | ⟨d, m', hd, hm', rfl⟩
          · rw[h5 hmn,xC k' zB]
          have:=h6 d hd;rw[hm']at this;injection this with this;rw[this]
        · by_cases hl0 : l = 0
          · subst hl0;have:=hA (by omega);split
            · simpa using this
            rw[this,add_plain];simp
          rw[if_neg (by omega),hA (by omega),add_plain,y7,Nat.add_mul]
        obtain⟨qO,hc0⟩:=uF hc';obtain⟨cur,hcur1,hcur2⟩:=zO hc0;refine⟨cur,hcur1,?_⟩;have:=h5 qO;subst this;rw[hcur2];congr 1;omega
      cases mx with
      | none =>
        simp only[Oi]at h;subst h;refine key _ (fun d hd=>by cases hd) (fun k hk=>.inl ⟨rfl,?_⟩) (fun hc'=>⟨rfl,by cases cap<;>simp_all⟩)
        cases cap with
        | none=>simp at hk
        | some k'=>simp at hk;exact⟨k',rfl,hk.symm⟩
      | some d =>
        simp only at h;split at h
        · rename_i m hm;split at h
          · rename_i yB;simp only[Oi]at h;subst h;exact key _ (fun d' hd=>by injection hd with hd;subst hd;exact⟨m,hm,yB.1,yB.2⟩) (fun k hk=>.inr ⟨d,m,rfl,hm,by injection hk with hk;exact hk.symm⟩) (fun hc'=>by cases hc')
          simp at h
        simp at h
  simp at h
end
open Go.RowKit
def CR (w:World) (ρ:Rm) (H:List Rf) (cs:List D) (vs:Array Value):Prop :=
 vs.size=cs.length∧∀(j:Nat) (d:D) (v:Value),cs[j]?=some d→vs[j]?=some v→VR w ρ H d v
section
variable {P:Program} {w:World} {ρ:Rm} {H:List Rf}
theorem VR.oneCell{d:D}{v:Value}(h:VR w ρ H d v)(hc:d.Ru=true):v.oneCell'=true∧v.cells=#[v]:=by
 cases h<;>simp[D.Ru]at hc<;>exact⟨rfl,rfl⟩
theorem VR.cells{d:D}{v:Value}(h:VR w ρ H d v)(hv:d.val=true):CR w ρ H d.cells v.cells∧(∀x∈d.cells,x.Ru=true)∧∀u∈v.cells.toList,u.oneCell'=true:=by
 have one:d.Ru=true→d.cells=[d]→CR w ρ H d.cells v.cells∧(∀x∈d.cells,x.Ru=true)∧∀u∈v.cells.toList,u.oneCell'=true:=by
  intro hc hd;obtain⟨h1,h2⟩:=h.oneCell hc;rw[hd,h2];refine⟨⟨rfl,fun j d' v' h3 h4=>?_⟩,by simpa using hc,by simpa using h1⟩
  cases j with
  | zero=>simp at h3 h4;subst h3 h4;exact h
  | succ j=>simp at h3
 cases d with
 | agg cs =>
  cases h with
  | agg _ vs hl hc hh =>
   simp only[D.val]at hv;refine⟨⟨by simpa [Value.cells,D.cells] using hl,fun j d v h1 h2=>hh j d v h1 (by simpa [Value.cells] using h2)⟩,fun x hx=>List.all_eq_true.1 hv x hx,fun u hu=>?_⟩;simp only[Value.cells]at hu;obtain⟨j,hj,rfl⟩:=List.mem_iff_getElem.1 hu;have hjc:j<cs.length:=by rw[←hl];exact hj
   exact ((hh j cs[j] vs[j] (Lg hjc) (Lg hj)).oneCell (List.all_eq_true.1 hv _ (List.getElem_mem hjc))).1
 | undef=>simp[D.val,D.Ru]at hv
 | tup cs=>simp[D.val,D.Ru]at hv
 | _=>exact one hv rfl
theorem CR.get{cs:List D}{vs:Array Value}(h:CR w ρ H cs vs){j:Nat}{d:D}(hd:cs[j]?=some d):∃v,vs[j]?=some v∧VR w ρ H d v:=by
 have hj:j<vs.size:=by rw[h.1];exact lt_of_some hd
 exact⟨vs[j],Array.getElem?_eq_getElem hj,h.2 j d _ hd (Array.getElem?_eq_getElem hj)⟩
theorem CR.agg{cs:List D}{vs:Array Value}(h:CR w ρ H cs vs)(hc:cs.all D.Ru=true):VR w ρ H (.agg cs) (.agg vs):=by
 have:=VR.agg (w:=w) (ρ:=ρ) (H:=H) cs vs.toList (by simpa using h.1) hc (fun j d v h1 h2=>h.2 j d v h1 (by simpa using h2));simpa using this
theorem part_cells{row:List D}{o sz:Nat}{agg:Bool}{r:D}{b q:Nat}{f:Nat→Value}(xI:row.all D.Ru=true)(hc:∀j d,row[o+j]?=some d→w.cell? ⟨b,q+j,none⟩=some (f (o+j))∧VR w ρ H d (f (o+j)))(h:Au row o sz agg=some r)
  {t:TypeId} (xE:Ch P t=some sz) (zF:Ei P t=agg):∃v,(Instr.loadAt t (.pointer (some ⟨b,q,none⟩))).run P w=.ok v w∧VR w ρ H r v:=by
 have xA:(Instr.loadAt t (.pointer (some ⟨b,q,none⟩))).run P w=(loadVar t ⟨b,q,none⟩).run P w:=by simp[Instr.loadAt,Instr.sureAddr]
 rw[xA];unfold Au at h
 cases agg with
 | true =>
  simp only[if_true]at h;split at h
  ·
   rename_i yB;simp only[Oi]at h;subst h
   have hl:=run_loadCells (P:=P) w ⟨b,q,none⟩ sz (fun j=>f (o+j)) (fun j hj=>by
    have hj':o+j<row.length:=by omega
    have:=(hc j row[o+j] (Lg hj')).1
    rwa [add_plain])
   refine⟨_,by simp only[loadVar,Sem.run_bind,Iu xE,zF,Result.andThen_ok,if_true,run_sizeOf xE,hl,Sem.run_pure];rfl,?_⟩;refine .agg _ _ (by simp;omega) (List.all_eq_true.2 fun x hx=>List.all_eq_true.1 xI x (Dk hx)) (fun j d v h1 h2=>?_);obtain⟨h3,h4⟩:=Cu h1;simp only[Lp_,List.getElem?_range h4,Option.map_some,Oi]at h2;subst h2;exact (hc j d h3).2
  simp at h
 | false =>
  simp only[Bool.false_eq_true,if_false]at h;obtain⟨h1,h2⟩:=hc 0 r (by simpa using h);simp only[Nat.add_zero]at h1 h2;exact⟨f o,by simp[loadVar,Iu xE,zF,h1],h2⟩
theorem Kl{cs:List D}{vs:List Value}{o sz:Nat}{agg:Bool}{r:D}(hl:vs.length=cs.length)(xI:cs.all D.Ru=true)(hv:∀(j:Nat) (d:D) (v:Value),cs[j]?=some d→vs[j]?=some v→VR w ρ H d v)(h:Au cs o sz agg=some r)
  {t:TypeId} (xE:Ch P t=some sz) (zF:Ei P t=agg):∃v,(part t vs.toArray o).run P w=.ok v w∧VR w ρ H r v:=by
 unfold Au at h
 cases agg with
 | true =>
  simp only[if_true]at h;split at h
  ·
   rename_i yB;simp only[Oi]at h;subst h;refine⟨.agg ((vs.drop o).take sz).toArray,by simp[part,Iu xE,zF,run_sizeOf xE,List.extract_eq_take_drop,Nat.add_sub_cancel_left],.agg _ _ (by simp;omega) (List.all_eq_true.2 fun x hx=>List.all_eq_true.1 xI x (Dk hx)) (fun j d v h1 h2=>?_)⟩;exact hv _ d v (Cu h1).1 (Cu h2).1
  simp at h
 | false =>
  simp only[Bool.false_eq_true,if_false]at h;have ho:o<vs.length:=by rw[hl];exact lt_of_some h
  exact⟨vs[o],by simp[part,Iu xE,zF,ho],hv o r _ h (Lg ho)⟩
theorem load_ok {S : St} (hr : Rel w ρ S.heap) {a r : D} {v : Value} {sz : Nat} {agg : Bool} (ha : VR w ρ S.heap a v) (h : Ig sz agg S a = some r) {t : TypeId} (xE : Ch P t = some sz) (zF : Ei P t = agg) :
    ∃v',(Instr.loadAt t v).run P w=.ok v' w∧VR w ρ S.heap r v':=by
  unfold Ig at h;split at h
  · rename_i row o
    cases ha with
    | R6 _ _ b q f hc hv =>
      have h0:row.drop o=row.drop o:=rfl
      -- only the cells from o on are known: the earlier ones are no part of the load
      unfold Au at h
      cases agg with
      | true =>
        simp only[if_true]at h;split at h
        · rename_i yB;simp only[Oi]at h;subst h
          have hp:Au (row.drop o) 0 sz true=some (.agg ((row.drop o).take sz)):=by
            simp only[Au,if_true,List.drop_zero];rw[if_pos (by simp;omega)]
          refine part_cells (f:=fun j=>f (o+j)) ?_ (fun j d hj=>?_) hp xE zF
          · refine List.all_eq_true.2 fun x hx => ?_;obtain⟨j,hj,rfl⟩:=List.mem_iff_getElem.1 hx;have h1:row[o+j]?=some (row.drop o)[j]:=by rw[←List.getElem?_drop,Lg hj]
            have h2:=(hc (o+j) _ h1 (by omega)).2.2;generalize (row.drop o)[j]=x at h2;cases x<;>simp[D.free,D.Rv,D.Ru]at h2 ⊢
          simp only[Nat.zero_add,List.getElem?_drop]at hj;have h1:=hc (o+j) d hj (by omega);have h2:=hv (o+j) d hj (by omega);simp only[Nat.zero_add];rw[show o+j-o=j by omega]at h1;exact⟨h1.1,h2⟩
        simp at h
      | false =>
        simp only[Bool.false_eq_true,if_false]at h;have h1:=hc o r h (Nat.le_refl _);rw[Nat.sub_self,Nat.add_zero]at h1;exact⟨f o,by simp[Instr.loadAt,Instr.sureAddr,loadVar,Iu xE,zF,h1.1],hv o r h (Nat.le_refl _)⟩
  · rename_i g ver i o
    cases ha with
    | ptr _ _ _ _ ad ob hg yh xL xD =>
      unfold rowsOf at h;simp only[hg]at h;by_cases hv:ob.ver=ver
      · simp only [hv, if_true] at h
        cases xY:ob.rows[i]? with
        | none=>simp[xY]at h
        | some row =>
          simp only[xY]at h;obtain⟨b,hρ,rfl⟩:=xD hv;obtain⟨o1,xG,cur,hc,hz,xC,hl,hk,hh⟩:=hr.cel hρ hg xL;rw[hg]at xG;injection xG with xG;subst xG;refine part_cells (f:=fun j=>cur.getD (i*ob.sz+j) undef) (List.all_eq_true.2 fun x hx=>?_) (fun j d hj=>?_) h xE zF
          · obtain ⟨j, hj, rfl⟩ := List.mem_iff_getElem.1 hx;exact (hh i row j _ xY (Lg hj)).1
          obtain⟨_,_,v,zH,wB⟩:=hh i row (o+j) d xY hj
          have yY:cur.getD (i*ob.sz+(o+j)) undef=v:=by
            obtain⟨h3,h4⟩:=Array.getElem?_eq_some_iff.1 zH;simp[Array.getD,h3,h4]
          refine⟨?_,by rw[yY];exact wB⟩;rw[yY,cell_of_row w b _ cur ob.elem (0,0) hc,Nat.add_assoc];exact zH
      simp[hv]at h
  simp at h
theorem faddr_ok{a r:D}{v:Value}{f:Field}{s:TypeId}{fs:Array Field}{k n:Nat}(hu:P.underlying s=some (.struct fs))(hf:fs[k]?=some f)(xE:Ch P f.type=some n)(ha:VR w ρ H a v)(h:Pj f.offset a=some r) :
    ∃v',(Instr.fieldAt s v k).run P w=.ok v' w∧VR w ρ H r v':=by
  have hn:n≠0:=by obtain⟨_,_,_,_,_,h0⟩:=Cj xE;omega
  have xA:∀ad:Addr,(Instr.fieldAt s (.pointer (some ad)) k).run P w=.ok (.pointer (some (ad.add f.offset))) w:=by
    intro ad;simp[Instr.fieldAt,run_underlying hu,hf,Instr.sureAddr,fieldPlace,run_sizeOf xE,hn]
  unfold Pj at h;split at h
  · rename_i g ver i o;simp only[Oi]at h;subst h
    cases ha with
    | ptr _ _ _ _ ad ob hg yh xL xD =>
      refine⟨_,xA ad,.ptr g ver i _ _ ob hg yh xL fun e=>?_⟩;obtain⟨b,hρ,rfl⟩:=xD e;exact⟨b,hρ,by rw[add_plain,Nat.add_assoc]⟩
  · rename_i row o;simp only[Oi]at h;subst h
    cases ha with
    | R6 _ _ b q g hc hv =>
      refine⟨_,xA _,?_⟩;rw[add_plain];refine .R6 row _ b _ g (fun j d hj ho=>?_) (fun j d hj ho=>hv j d hj (by omega));have:=hc j d hj (by omega);rw[show q+f.offset+(j-(o+f.offset))=q+(j-o) by omega];exact this
  simp at h
theorem iaddr_ok {S : St} {x i r : D} {vx vi : Value} {t e : TypeId} {sz : Nat} (hu : P.underlying t = some (.slice e)) (xE : Ch P e = some sz) (hx : VR w ρ S.heap x vx) (hi : VR w ρ S.heap i vi) (h : Hd S sz x i = some r) :
    ∃v',(Instr.indexAt t vx vi).run P w=.ok v' w∧VR w ρ S.heap r v':=by
  have xA:∀(ad:Addr) (n c:Nat) (k:IntKind) (j:Int),0≤j→j<n→(Instr.indexAt t (.slice (some ad) n c) (.int k j)).run P w=.ok (.pointer (some (ad.add (j.toNat*sz)))) w:=by
    intro ad n c k j h0 h1;simp[Instr.indexAt,asIntOf,run_underlying hu,h0,h1,run_sizeOf xE]
  unfold Hd at h;split at h
  · rename_i s rows cap k j;cases hi;split at h
    · rename_i hs;obtain⟨rfl,h0⟩:=hs;simp only[Om]at h;obtain⟨row,xY,rfl⟩:=h
      cases hx with
      | sl _ _ _ A n c hn xS xC hz b o f hA hc hv =>
        have xJ:=lt_of_some xY;refine⟨_,xA A n c _ j h0 (by omega),?_⟩;rw[hA (by rintro rfl;simp at xY),add_plain];refine .R6 row 0 b _ (fun jj=>f j.toNat jj) (fun jj d hj _=>?_) (fun jj d hj _=>hv _ row jj d xY hj);have:=hc _ row jj d xY hj;simpa using this
    simp at h
  · rename_i g ver lo n cap k j;cases hi
    cases hx with
    | msl _ _ _ _ _ A c ob xS xC hg yh xL xD =>
      unfold rowsOf at h;simp only[hg]at h;by_cases hv:ob.ver=ver
      · simp only [hv, if_true] at h;split at h
        · rename_i hj;simp only[Oi]at h;subst h;obtain⟨b,hρ,y9,hA,_⟩:=xD hv;refine⟨_,xA A n c _ j hj.2.1 hj.2.2,?_⟩;refine .ptr g ver _ 0 _ ob hg yh xL fun _=>⟨b,hρ,?_⟩;rw[hA (.inl (by omega)),add_plain,hj.1,Nat.add_mul,Nat.add_zero]
        simp at h
      simp[hv]at h
  simp at h
theorem aaddr_ok {x i r : D} {vx vi : Value} {t e : TypeId} {sz len : Nat} (hu : P.underlying t = some (.array len e)) (xE : Ch P e = some sz) (hx : VR w ρ H x vx) (hi : VR w ρ H i vi) (h : Nc sz len x i = some r) :
    ∃v',(Instr.indexAt t vx vi).run P w=.ok v' w∧VR w ρ H r v':=by
  have xA:∀(ad:Addr) (k:IntKind) (j:Int),0≤j→j<len→(Instr.indexAt t (.pointer (some ad)) (.int k j)).run P w=.ok (.pointer (some (ad.add (j.toNat*sz)))) w:=by
    intro ad k j h0 h1;simp[Instr.indexAt,asIntOf,run_underlying hu,Instr.sureAddr,h0,h1,run_sizeOf xE]
  unfold Nc at h;split at h
  · rename_i g ver i o k jx;cases hi;split at h
    · rename_i hj;simp only[Oi]at h;subst h
      cases hx with
      | ptr _ _ _ _ ad ob hg yh xL xD =>
        refine⟨_,xA ad _ _ hj.1 hj.2,.ptr g ver i _ _ ob hg yh xL fun e=>?_⟩;obtain⟨b,hρ,rfl⟩:=xD e;exact⟨b,hρ,by rw[add_plain,Nat.add_assoc]⟩
    simp at h
  · rename_i row o k jx;cases hi;split at h
    · rename_i hj;simp only[Oi]at h;subst h
      cases hx with
      | R6 _ _ b q g hc hv =>
        refine⟨_,xA _ _ _ hj.1 hj.2,?_⟩;rw[add_plain];refine .R6 row _ b _ g (fun jj d hjj ho=>?_) (fun jj d hjj ho=>hv jj d hjj (by omega));have:=hc jj d hjj (by omega);rw[show q+jx.toNat*sz+(jj-(o+jx.toNat*sz))=q+(jj-o) by omega];exact this
    simp at h
  simp at h
end
open Go.RowKit
inductive VL (w:World) (ρ:Rm) (H:List Rf):List D→List Value→Prop
 | nil:VL w ρ H [] []
 | cons {d v ds vs} (h:VR w ρ H d v) (t:VL w ρ H ds vs):VL w ρ H (d::ds) (v::vs)
section
variable {P:Program} {w:World} {ρ:Rm} {H:List Rf}
theorem VL.mono{w':World}{ρ':Rm}{S S':St}(hs:Stp w ρ S w' ρ' S'){ds:List D}{vs:List Value}(h:VL w ρ S.heap ds vs):VL w' ρ' S'.heap ds vs:=by
 induction h with
 | nil=>exact .nil
 | cons h _ ih=>exact .cons (h.mono hs) ih
theorem VL.len{ds:List D}{vs:List Value}(h:VL w ρ H ds vs):vs.length=ds.length:=by
 induction h with
 | nil=>rfl
 | cons _ _ ih=>simp[ih]
theorem VL.get{ds:List D}{vs:List Value}(h:VL w ρ H ds vs):∀{j:Nat} {d:D} {v:Value},ds[j]?=some d→vs[j]?=some v→VR w ρ H d v:=by
 induction h with
 | nil=>intro j d v h1;simp at h1
 | cons h _ ih =>
  intro j d v h1 h2
  cases j with
  | zero=>simp at h1 h2;subst h1 h2;exact h
  | succ j=>simp at h1 h2;exact ih h1 h2
theorem VL.append{ds es:List D}{vs us:List Value}(h:VL w ρ H ds vs)(k:VL w ρ H es us):VL w ρ H (ds++es) (vs++us):=by
 induction h with
 | nil=>exact k
 | cons h _ ih=>exact .cons h ih
theorem VL.of{ds:List D}:∀{vs:List Value},vs.length=ds.length→(∀(j:Nat) (d:D) (v:Value),ds[j]?=some d→vs[j]?=some v→VR w ρ H d v)→VL w ρ H ds vs:=by
 induction ds with
 | nil=>intro vs hl _;simp at hl;subst hl;exact .nil
 | cons d ds ih =>
  intro vs hl h
  cases vs with
  | nil=>simp at hl
  | cons v vs=>exact .cons (h 0 d v rfl rfl) (ih (by simpa using hl) fun j d v h1 h2=>h (j+1) d v (by simpa using h1) (by simpa using h2))
theorem snap_ok {m : Nat} (hr : Rel w ρ H) (hm : H.length ≤ m) {d r : D} {v : Value} (h : VR w ρ H d v) (hs : snap m H d = some r) : VR w ρ H r v ∧ (d.Ru = true → r.Ru = true) := by
  unfold snap at hs;split at hs
  · rename_i g ver lo n cap
    cases h with
    | msl _ _ _ _ _ A c ob xS xC hg yh xL xD =>
      simp only[hg]at hs;split at hs
      · rename_i hk;simp only[Oi]at hs;subst hs
        have zB:ob.kind=1:=by
          rcases hk.2 with h1 | h1
          · exact h1
          have:=lt_of_some hg;omega
        obtain⟨b,hρ,y9,hA,zO⟩:=xD hk.1;obtain⟨o1,xG,cur,hc,hz,⟨cc,yx,yg,w9,wD⟩,hl,zD,hh⟩:=hr.cel hρ hg xL;rw[hg]at xG;injection xG with xG;subst xG;have xk:((ob.rows.drop lo).take n).length=n:=by simp;omega
        refine⟨.sl ob.sz _ _ A n c xk.symm xS (fun k hk'=>?_) (fun r hr'=>hl r (Dk hr')) b (lo*ob.sz) (fun i j=>cur.getD ((lo+i)*ob.sz+j) undef) (fun xu=>hA ?_) (fun i r' j d hi hj=>?_) (fun i r' j d hi hj=>?_),fun _=>rfl⟩
        · cases cap with
          | some c'=>simp only[Oi]at hk';subst hk';exact xC _ rfl
          | none =>
            simp only at hk';split at hk'
            · simp at hk'
            rename_i hgr;simp only[Oi]at hk';obtain⟨cur',xW,za⟩:=zO rfl;rw[hc]at xW;injection xW with xW;injection xW with xW;subst xW;have h1:=wD (by simpa using hgr);rw[yx]at za;have:=Nat.eq_of_mul_eq_mul_right hz za;omega
        · left;intro h0;subst h0;simp at xu
        · obtain ⟨h1, h2⟩ := Cu hi;obtain⟨h3,h4,v,zH,wB⟩:=hh _ r' j d h1 hj;obtain⟨h5,h6⟩:=Array.getElem?_eq_some_iff.1 zH;have yY:cur.getD ((lo+i)*ob.sz+j) undef=v:=by simp[Array.getD,h5,h6]
          refine⟨?_,⟨lt_of_heap hc,fun hx=>(hr.hid _ _ hx).2 g hρ,fun g' hg'=>?_⟩,h4 (by omega)⟩
          · rw [yY, cell_of_row w b _ cur ob.elem (0, 0) hc, ← zH];congr 1;rw[Nat.add_mul]
          have:=hr.inj g' g b hg' hρ;subst this;refine⟨ob,hg,zB,?_⟩;have h7:j<ob.sz:=by rw[←hl r' (Lm h1)];exact lt_of_some hj
          have h8:lo+i<ob.rows.length:=lt_of_some h1
          calc lo*ob.sz+i*ob.sz+j=(lo+i)*ob.sz+j:=by rw[Nat.add_mul]
            _<(lo+i)*ob.sz+ob.sz:=by omega
            _=(lo+i+1)*ob.sz:=by rw[Nat.add_mul (lo+i) 1,Nat.one_mul]
            _≤ob.rows.length*ob.sz:=Nat.mul_le_mul_right _ h8
        obtain⟨h1,h2⟩:=Cu hi;obtain⟨h3,h4,v,zH,wB⟩:=hh _ r' j d h1 hj;obtain⟨h5,h6⟩:=Array.getElem?_eq_some_iff.1 zH;have yY:cur.getD ((lo+i)*ob.sz+j) undef=v:=by simp[Array.getD,h5,h6]
        rw[yY];exact wB
      simp only[Oi]at hs;subst hs;exact⟨.msl _ _ _ _ _ A c ob xS xC hg yh xL xD,id⟩
  · split at hs
    · rename_i g v hmg
      cases h with
      | mref _ _ r ob hg hv hh =>
        have:=lt_of_some hg;omega
    simp only[Oi]at hs;subst hs;exact⟨h,id⟩
  simp only[Oi]at hs;subst hs;exact⟨h,id⟩
theorem snaps_ok{m:Nat}(hr:Rel w ρ H)(hm:H.length≤m):∀{ds rs:List D} {vs:List Value},VL w ρ H ds vs→Cn m H ds=some rs→VL w ρ H rs vs∧(ds.all D.Ru=true→rs.all D.Ru=true)
 | [],rs,_,.nil,hs=>by simp only[Cn,Oi]at hs;subst hs;exact⟨.nil,id⟩
 | d :: ds, rs, _, .cons h t, hs => by
  unfold Cn at hs;split at hs
  ·
   rename_i x y hx hy;simp only[Oi]at hs;subst hs;obtain⟨h1,h2⟩:=snap_ok hr hm h hx;obtain⟨h3,h4⟩:=snaps_ok hr hm t hy;refine⟨.cons h1 h3,fun ha=>?_⟩;simp only[List.all_cons,Bool.and_eq_true]at ha ⊢;exact⟨h2 ha.1,h4 ha.2⟩
  simp at hs
theorem Ka{m:Nat}(hr:Rel w ρ H)(hm:H.length≤m){d r:D}{v:Value}(h:VR w ρ H d v)(hs:Ro m H d=some r):VR w ρ H r v:=by
 unfold Ro at hs;split at hs
 ·
  rename_i cs;simp only[Om]at hs;obtain⟨rs,qI,rfl⟩:=hs
  cases h with
  | agg _ vs hl hc hh =>
   obtain⟨h1,h2⟩:=snaps_ok hr hm (VL.of hl hh) qI;exact .agg rs vs h1.len (h2 hc) (fun j d v=>h1.get)
 exact (snap_ok hr hm h hs).1
theorem Le{m:Nat}(hr:Rel w ρ H)(hm:H.length≤m):∀{ds rs:List D} {vs:List Value},VL w ρ H ds vs→Ay m H ds=some rs→VL w ρ H rs vs
 | [],rs,_,.nil,hs=>by simp only[Ay,Oi]at hs;subst hs;exact .nil
 | d :: ds, rs, _, .cons h t, hs => by
  unfold Ay at hs;split at hs
  ·
   rename_i x y hx hy;simp only[Oi]at hs;subst hs;exact .cons (Ka hr hm h hx) (Le hr hm t hy)
  simp at hs
theorem snapR_ok{m:Nat}(hr:Rel w ρ H)(hm:H.length≤m){d r:D}{v:Value}(h:VR w ρ H d v)(hs:Rs m H d=some r):VR w ρ H r v:=by
 unfold Rs at hs;split at hs
 ·
  simp only[Om]at hs;obtain⟨rs,qI,rfl⟩:=hs
  cases h with
  | tup _ vs hl hh =>
   have h1:=Le hr hm (VL.of hl hh) qI;exact .tup rs vs h1.len (fun j d v=>h1.get)
 exact Ka hr hm h hs
theorem P6{cs new:List D}{o:Nat}(h:o+new.length≤cs.length):(overlay cs o new).length=cs.length:=by
 simp[overlay];omega
theorem P7{cs new:List D}{o:Nat}(h:o+new.length≤cs.length)(j:Nat):(overlay cs o new)[j]?=if o≤j∧j<o+new.length then new[j-o]? else cs[j]?:=by
  unfold overlay;have ht:(cs.take o).length=o:=by simp;omega
  by_cases h1:j<o
  · rw[La_ (by omega),if_neg (by omega),List.getElem?_take,if_pos h1]
  rw[Lr_ (by omega),ht];by_cases h2:j<o+new.length
  · rw[La_ (by omega),if_pos (by omega)]
  rw[Lr_ (by omega),if_neg (by omega),List.getElem?_drop];congr 1;omega
theorem foldl_set(off:Nat):∀(new:List Value) (k:Nat) (cs:Array Value) (q:Nat),((new.zipIdx k).foldl (fun cs (x:Value × Nat)=>cs.setIfInBounds (off+x.2) x.1) cs)[q]?=if off+k≤q∧q<off+k+new.length∧q<cs.size then new[q-(off+k)]? else cs[q]?
 | [],k,cs,q=>by
  simp only[List.zipIdx_nil,List.foldl_nil,List.length_nil];rw[if_neg (by omega)]
 | v :: new, k, cs, q => by
  rw[List.zipIdx_cons,List.foldl_cons,foldl_set off new (k+1)];simp only[Array.size_setIfInBounds,Array.getElem?_setIfInBounds,List.length_cons];by_cases h1:off+(k+1)≤q∧q<off+(k+1)+new.length∧q<cs.size
  ·
   rw[if_pos h1,if_pos (by omega)];rw[show q-(off+k)=(q-(off+(k+1)))+1 by omega];simp
  rw[if_neg h1];by_cases h2:off+k=q
  ·
   subst h2;by_cases h3:off+k<cs.size
   ·
    simp[h3]
   simp[h3]
  rw[if_neg h2,if_neg (by omega)]
theorem foldl_size(off:Nat):∀(new:List (Value × Nat)) (cs:Array Value),(new.foldl (fun cs (x:Value × Nat)=>cs.setIfInBounds (off+x.2) x.1) cs).size=cs.size
 | [],cs=>rfl
 | x::new,cs=>by rw[List.foldl_cons,foldl_size off new];simp
theorem Pi{place:Nat→Option (Nat × Nat)}{cells:Array Value}{i o sz:Nat}{v:Value}{rest:List (Nat × Value)}(hp:place i=some (o,sz))(hs:v.cells.size=sz)(yB:o+sz≤cells.size) :
    ∃cells',Instr.fill place cells ((i,v)::rest)=Instr.fill place cells' rest∧cells'.size=cells.size∧∀q:Nat,cells'[q]?=if o≤q∧q<o+sz then v.cells[q-o]? else cells[q]?:=by
  refine⟨v.cells.zipIdx.foldl (fun cs (x:Value × Nat)=>cs.setIfInBounds (o+x.2) x.1) cells,?_,?_,fun q=>?_⟩
  · simp only [Instr.fill, hp];rw[if_neg (by simp;omega)]
  · rw [← Array.foldl_toList];exact foldl_size o _ _
  rw[←Array.foldl_toList,Array.toList_zipIdx,foldl_set];have:v.cells.toList.length=sz:=by simpa using hs
  by_cases h:o≤q∧q<o+sz
  · rw[if_pos (by omega),if_pos h];simp
  rw[if_neg (by omega),if_neg h]
theorem CR.overlay{cs:List D}{vs vs':Array Value}{x:D}{v:Value}{o:Nat}(h:CR w ρ H cs vs)(hx:CR w ρ H x.cells v.cells)(yB:o+x.cells.length≤cs.length)(hs:vs'.size=vs.size)
  (hq:∀q:Nat,vs'[q]?=if o≤q∧q<o+x.cells.length then v.cells[q-o]? else vs[q]?):CR w ρ H (overlay cs o x.cells) vs':=by
 refine⟨by rw[hs,h.1,P6 yB],fun j d u h1 h2=>?_⟩;rw[P7 yB]at h1;rw[hq]at h2;split at h1
 ·
  rename_i yt;rw[if_pos yt]at h2;exact hx.2 _ d u h1 h2
 rename_i hout;rw[if_neg hout]at h2;exact h.2 j d u h1 h2
theorem all_overlay{p:D→Bool}{cs new:List D}{o:Nat}(h:cs.all p=true)(hn:new.all p=true):(overlay cs o new).all p=true:=by
 refine List.all_eq_true.2 fun x hx=>?_;unfold overlay at hx;rcases List.mem_append.1 hx with hx | hx
 ·
  exact List.all_eq_true.1 h x (List.mem_of_mem_take hx)
 rcases List.mem_append.1 hx with hx | hx
 ·
  exact List.all_eq_true.1 hn x hx
 exact List.all_eq_true.1 h x (List.mem_of_mem_drop hx)
theorem fill_ok {pl : Nat → Option (Nat × Nat)} : ∀ {ps : List (Nat × Operand)} {places : List (Nat × Nat)} {cs r : List D} {ds : List D} {vs : List Value} {cells : Array Value}, Li pl ps = some places → Gn cs places ds = some r → VL w ρ H ds vs → vs.length = ps.length → CR w ρ H cs cells → cs.all D.Ru = true →
    ∃cells',Instr.fill pl cells ((ps.map (·.1)).zip vs)=some cells'∧CR w ρ H r cells'∧r.all D.Ru=true
  | [], places, cs, r, ds, vs, cells, hp, hf, hv, hl, hc, ha => by
    simp only[Li,Oi]at hp;subst hp;have:vs=[]:=by simpa using hl
    subst this;cases hv;simp only[Gn,Oi]at hf;subst hf;exact⟨cells,by simp[Instr.fill],hc,ha⟩
  | (i, xo) :: ps, places, cs, r, ds, vs, cells, hp, hf, hv, hl, hc, ha => by
    unfold Li at hp;split at hp
    · rename_i pq rest hpi uq;simp only[Oi]at hp;subst hp;obtain⟨o,sz⟩:=pq
      cases hv with
      | nil=>simp at hl
      | cons hd ht =>
        rename_i d v ds vs;unfold Gn at hf;split at hf
        · rename_i xO;simp only[Bool.and_eq_true,beq_iff_eq,decide_eq_true_eq]at xO;obtain⟨⟨h1,h2⟩,h3⟩:=xO;obtain⟨yS,xI,_⟩:=hd.cells h1;subst h2;have vI:v.cells.size=d.cells.length:=yS.1;obtain⟨cells',he,hs,hq⟩:=Pi (rest:=(ps.map (·.1)).zip vs) hpi vI (by rw[hc.1];exact h3);obtain⟨c2,h4,h5⟩:=fill_ok uq hf ht (by simpa using hl) (hc.overlay yS h3 hs hq) (all_overlay ha (List.all_eq_true.2 xI));exact⟨c2,by rw[List.map_cons,List.zip_cons_cons,he];exact h4,h5⟩
        simp at hf
    simp at hp
theorem cellOf_ok{v:Value}{d:D}(h:cellOf v=some d):VR w ρ H d v∧d.Ru=true∧d.free=true:=by
 unfold cellOf at h;split at h<;>simp only[Oi,reduceCtorEq]at h<;>subst h
 ·
  exact⟨.int _ _,rfl,rfl⟩
 ·
  exact⟨.bool _,rfl,rfl⟩
 ·
  exact⟨.str _,rfl,rfl⟩
 ·
  exact⟨.nilp,rfl,rfl⟩
 ·
  exact⟨.R4,rfl,rfl⟩
 ·
  exact⟨.nilfn,rfl,rfl⟩
 ·
  exact⟨.nilm,rfl,rfl⟩
 exact⟨.nili,rfl,rfl⟩
theorem Na:∀{vs:List Value} {ds:List D},cellsOf vs=some ds→VL w ρ H ds vs∧ds.all D.Ru=true∧ds.all D.free=true
  | [],ds,h=>by simp only[cellsOf,Oi]at h;subst h;exact⟨.nil,rfl,rfl⟩
  | v :: vs, ds, h => by
    unfold cellsOf at h;split at h
    · rename_i x y hx hy;simp only[Oi]at h;subst h;obtain⟨h1,h2,h3⟩:=cellOf_ok (w:=w) (ρ:=ρ) (H:=H) hx;obtain⟨h4,h5,h6⟩:=Na hy;exact⟨.cons h1 h4,by simp[h2,h5],by simp[h3,h6]⟩
    simp at h
theorem Jy{v:Value}{d:D}(h:Og v=some d):VR w ρ H d v:=by
 unfold Og at h;split at h
 ·
  rename_i cs;simp only[Om]at h;obtain⟨ds,wK,rfl⟩:=h;obtain⟨h1,h2,_⟩:=Na (w:=w) (ρ:=ρ) (H:=H) wK;have:=VR.agg (w:=w) (ρ:=ρ) (H:=H) ds cs.toList h1.len h2 (fun j d v=>h1.get);simpa using this
 exact (cellOf_ok h).1
theorem VL.cr{ds:List D}{vs:Array Value}(h:VL w ρ H ds vs.toList):CR w ρ H ds vs:=⟨by simpa using h.len,fun j d v h1 h2=>h.get h1 (by simpa using h2)⟩
theorem El{t:TypeId}{z:List D}(h:Fx P t=some z):∃i zv,P.info? t=some i∧i.zero=some zv∧CR w ρ H z zv.cells∧z.all D.Ru=true∧z.all D.free=true:=by
 unfold Fx at h;split at h
 ·
  rename_i i hi;split at h
  ·
   rename_i zv hz;obtain⟨h1,h2,h3⟩:=Na (w:=w) (ρ:=ρ) (H:=H) h;exact⟨i,zv,hi,hz,h1.cr,h2,h3⟩
  simp at h
 simp at h
theorem build_ok{t:TypeId}{ps:Array (Nat × Operand)}{z:List D}{pl:Nat→Option (Nat × Nat)}{places:List (Nat × Nat)}{ds cs:List D}{vs:List Value}(hz:Fx P t=some z)(vN:placeT P t=some pl)(hp:Li pl ps.toList=some places)(hv:VL w ρ H ds vs)(hl:vs.length=ps.toList.length)
  (h:Gn z places ds=some cs):∃v,(Instr.build t ((ps.toList.map (·.1)).zip vs).toArray).run P w=.ok v w∧VR w ρ H (.agg cs) v:=by
 obtain⟨i,zv,hi,zC,yS,xq,_⟩:=El (w:=w) (ρ:=ρ) (H:=H) hz;obtain⟨cells',h1,h2,h3⟩:=fill_ok hp h hv hl yS xq;refine⟨.agg cells',run_build w t _ cells' ?_,h2.agg h3⟩;unfold Program.built;unfold placeT at vN
 cases hu:P.underlying t with
 | none=>simp[hu]at vN
 | some d =>
  cases d<;>simp only[hu,reduceCtorEq]at vN
  ·
   rename_i n e
   cases vY:P.info? e with
   | none=>simp[vY]at vN
   | some ie =>
    simp only[vY,Oi]at vN;subst vN;simp only[hi,zC,vY];exact h1
  rename_i fs
  cases hm:fs.toList.mapM (fun f=>(P.info? f.type).map fun i=>(f.offset,i.size)) with
  | none=>simp[hm]at vN
  | some pls =>
   simp only[hm,Oi]at vN;subst vN;simp only[hi,zC,hm];exact h1
end
open Go.RowKit
def Rt (w:World) (ρ:Rm) (S:St) (r:D) (S':St) (wr:Bool) (v:Value) (w':World):Prop :=
 ∃ρ',Rel w' ρ' S'.heap∧Stp w ρ S w' ρ' S'∧VR w' ρ' S'.heap r v∧(wr=false→Ext w w'∧ρ'=ρ∧S'=S)
section
variable {P:Program} {w:World} {ρ:Rm} {S:St}
theorem Rt.pure{r:D}{v:Value}(hr:Rel w ρ S.heap)(h:VR w ρ S.heap r v):Rt w ρ S r S false v w:=⟨ρ,hr,Stp.refl _ _ _,h,fun _=>⟨Ext.refl_ _,rfl,rfl⟩⟩
theorem new_post{w':World}{cur:Array Value}{ob:Rf}(hr:Rel w ρ S.heap)(h:Rw w w' (.cells cur ob.elem (0,0)))(hz:0<ob.sz)(hv0:ob.ver=0)(hk:ob.kind=0)(xY:∃row,ob.rows=[row]∧row.length=ob.sz∧row.all D.Ru=true∧CR w ρ S.heap row cur) :
    Rt w ρ S (.ptr S.heap.length 0 0 0) (newAt S ob) true (.pointer (some ⟨w.heap.size,0,none⟩)) w':=by
  obtain⟨row,xB,xk,xq,yS⟩:=xY;refine⟨_,Hg hr h hz ⟨1,by rw[yS.1,xk,Nat.one_mul],by rw[xB];simp,by simp[maxLen],by rw[xB];simp⟩ (by rw[xB];simpa using xk) (.inl hk) (fun i r j d hi hj=>?_),Eu hr h,?_,by simp⟩
  · rw [xB] at hi
    cases i with
    | succ i=>simp at hi
    | zero =>
      simp at hi;subst hi;obtain⟨v,h1,h2⟩:=yS.get hj;exact⟨List.all_eq_true.1 xq d (Lm hj),fun h=>absurd hk h,v,by simpa using h1,h2⟩
  refine .ptr _ 0 0 0 _ ob (by simp[newAt]) (by omega) (by omega) fun _=>⟨w.heap.size,by simp[upd],by simp⟩
theorem alloc_ok{e:TypeId}{z:List D}{n:Nat}(hr:Rel w ρ S.heap)(hz:Fx P e=some z)(hn:Ch P e=some n)(hl:z.length=n) :
  ∃v w',(Instr.alloc e true (.tuple #[])).run P w=.ok v w'∧Rt w ρ S (.ptr S.heap.length 0 0 0) (newAt S ⟨e,z.length,[z],0,0,false⟩) true v w':=by
 obtain⟨i,zv,hi,zC,yS,xq,_⟩:=El (w:=w) (ρ:=ρ) (H:=S.heap) hz;obtain⟨_,_,_,_,_,h0⟩:=Cj hn
 have xA:(Instr.alloc e true (.tuple #[])).run P w=.ok (.pointer (some ⟨w.heap.size,0,none⟩)) (w.alloc (.cells zv.cells e)):=by
  simp[Instr.alloc,zeroValue,typeInfo,hi,zC,newVar,newRow]
 exact⟨_,_,xA,new_post (ob:=⟨e,z.length,[z],0,0,false⟩) hr (Rw.alloc w _) (by simp only;omega) rfl rfl ⟨z,rfl,rfl,xq,yS⟩⟩
theorem alloc_fill{e:TypeId}{z:List D}{n g:Nat}(hr:Rel w ρ S.heap)(hz:Fx P e=some z)(hn:Ch P e=some n)(hl:z.length=n)(hg:S.heap[g]?=some ⟨e,z.length,[z],0,0,false⟩)(uF:ρ g=none) :
    ∃v w' o,(Instr.alloc e true (.tuple #[])).run P w=.ok v w'∧Rw w w' o∧Rel w' (upd ρ g w.heap.size) S.heap∧VR w' (upd ρ g w.heap.size) S.heap (.ptr g 0 0 0) v:=by
  obtain⟨i,zv,hi,zC,yS,xq,_⟩:=El (w:=w) (ρ:=ρ) (H:=S.heap) hz;obtain⟨_,_,_,_,_,h0⟩:=Cj hn
  have xA:(Instr.alloc e true (.tuple #[])).run P w=.ok (.pointer (some ⟨w.heap.size,0,none⟩)) (w.alloc (.cells zv.cells e)):=by
    simp[Instr.alloc,zeroValue,typeInfo,hi,zC,newVar,newRow]
  refine⟨_,_,_,xA,Rw.alloc w _,rel_fill (ob:=⟨e,z.length,[z],0,0,false⟩) hr (Rw.alloc w _) uF hg (by simp only;omega) ⟨1,by rw[yS.1,Nat.one_mul],by simp,by simp[maxLen],by simp⟩ (by simp) (.inl rfl) (fun i r j d hi hj=>?_),?_⟩
  · cases i with
    | succ i=>simp at hi
    | zero =>
      simp at hi;subst hi;obtain⟨v,h1,h2⟩:=yS.get hj;exact⟨List.all_eq_true.1 xq d (Lm hj),fun h=>absurd rfl h,v,by simpa using h1,h2⟩
  exact .ptr _ 0 0 0 _ _ hg (Nat.le_refl _) (by simp) fun _=>⟨w.heap.size,by simp[upd],by simp⟩
theorem box_ok{e:TypeId}{x:D}{v:Value}{n:Nat}(hr:Rel w ρ S.heap)(hn:Ch P e=some n)(hx:VR w ρ S.heap x v)(h1:x.val=true)(h2:x.cells.length=n) :
  ∃v' w',(Instr.box e v).run P w=.ok v' w'∧Rt w ρ S (.ptr S.heap.length 0 0 0) (newAt S ⟨e,n,[x.cells],0,0,false⟩) true v' w':=by
 obtain⟨_,_,_,_,_,h0⟩:=Cj hn;obtain⟨yS,xI,_⟩:=hx.cells h1
 have xA:(Instr.box e v).run P w=.ok (.pointer (some ⟨w.heap.size,0,none⟩)) (w.alloc (.cells v.cells e)):=by
  simp[Instr.box,newVar,newRow]
 exact⟨_,_,xA,new_post (ob:=⟨e,n,[x.cells],0,0,false⟩) hr (Rw.alloc w _) h0 rfl rfl ⟨x.cells,rfl,h2,List.all_eq_true.2 xI,yS⟩⟩
def RowsIn (kk:Prop) (w:World) (ρ:Rm) (H:List Rf) (sz:Nat) (rows:List (List D)) (cur:Array Value):Prop :=
 (∀r∈rows,r.length=sz)∧∀i r j d,rows[i]?=some r→r[j]?=some d→d.Ru=true∧(kk→d.free=true)∧∃v,cur[i*sz+j]?=some v∧VR w ρ H d v
theorem RowsIn.set{kk:Prop}{H:List Rf}{sz i:Nat}{rows:List (List D)}{cur cur':Array Value}{x:D}{v:Value}(h:RowsIn kk w ρ H sz rows cur)(hx:CR w ρ H x.cells v.cells)(hl:x.cells.length=sz)(hc:∀d∈x.cells,d.Ru=true∧(kk→d.free=true))
  (hq:∀q:Nat,cur'[q]?=if i*sz≤q∧q<i*sz+sz then v.cells[q-i*sz]? else cur[q]?):RowsIn kk w ρ H sz (rows.set i x.cells) cur':=by
 refine⟨fun r hr=>?_,fun k r j d hk hj=>?_⟩
 ·
  rcases List.mem_or_eq_of_mem_set hr with hr | rfl
  ·
   exact h.1 r hr
  exact hl
 have hkl:=lt_of_some hk;rw[List.length_set]at hkl;by_cases e:i=k
 ·
  subst e;rw[List.getElem?_set_self hkl]at hk;injection hk with hk;subst hk;obtain⟨u,h1,h2⟩:=hx.get hj;have yA:=lt_of_some hj;obtain⟨h3,h4⟩:=hc d (Lm hj);refine⟨h3,h4,u,?_,h2⟩;rw[hq,if_pos (by omega),show i*sz+j-i*sz=j by omega];exact h1
 rw[Ln_ e]at hk;obtain⟨h1,h2,u,h3,h4⟩:=h.2 k r j d hk hj;refine⟨h1,h2,u,?_,h4⟩;have yA:j<sz:=by rw[←h.1 r (Lm hk)];exact lt_of_some hj
 rw[hq,if_neg]
 ·
  exact h3
 rintro⟨h5,h6⟩;rcases Nat.lt_or_gt_of_ne e with xJ | wC
 ·
  have:=Nat.mul_le_mul_right sz xJ;rw[Nat.succ_mul]at this;omega
 have:=Nat.mul_le_mul_right sz wC;rw[Nat.succ_mul]at this;omega
theorem Qr {H : List Rf} {sz : Nat} : ∀ {is : List Nat} {rs r : List (List D)} {ds : List D} {vs : List Value} {cur : Array Value}, Cr rs sz is ds = some r → VL w ρ H ds vs → vs.length = is.length → RowsIn True w ρ H sz rs cur → cur.size = rs.length * sz →
    ∃cur',Instr.fill (fun i=>some (i*sz,sz)) cur (is.zip vs)=some cur'∧RowsIn True w ρ H sz r cur'∧cur'.size=cur.size∧r.length=rs.length
  | [], rs, r, ds, vs, cur, hf, hv, hl, yt, xE => by
    have:vs=[]:=by simpa using hl
    subst this;cases hv;simp only[Cr,Oi]at hf;subst hf;exact⟨cur,by simp[Instr.fill],yt,rfl,rfl⟩
  | i :: is, rs, r, ds, vs, cur, hf, hv, hl, yt, xE => by
    cases hv with
    | nil=>simp at hl
    | cons hd ht =>
      rename_i d v ds vs;unfold Cr at hf;split at hf
      · rename_i xO;simp only[Bool.and_eq_true,beq_iff_eq,decide_eq_true_eq]at xO;obtain⟨⟨⟨h1,q8⟩,h2⟩,h3⟩:=xO;obtain⟨yS,xI,_⟩:=hd.cells h1
        have yB:i*sz+sz≤cur.size:=by
          rw[xE,←Nat.succ_mul];exact Nat.mul_le_mul_right _ h3
        obtain⟨cells',he,hs,hq⟩:=Pi (place:=fun i=>some (i*sz,sz)) (rest:=is.zip vs) rfl (by rw[yS.1,h2]) yB;have qV:=yt.set (i:=i) yS h2 (fun d' hd'=>⟨xI d' hd',fun _=>List.all_eq_true.1 q8 d' hd'⟩) hq;obtain⟨c2,h4,h5,h6,h7⟩:=Qr hf ht (by simpa using hl) qV (by rw[hs,xE,List.length_set]);exact⟨c2,by rw[List.zip_cons_cons,he];exact h4,h5,h6.trans hs,by rw[h7,List.length_set]⟩
      simp at hf
theorem Oa {H : List Rf} {sz : Nat} : ∀ {is : List Nat} {rs r : List (List D)} {ds : List D} {vs : List Value} {cur : Array Value}, D7 rs sz is ds = some r → VL w ρ H ds vs → vs.length = is.length → RowsIn False w ρ H sz rs cur → cur.size = rs.length * sz →
    ∃cur',Instr.fill (fun i=>some (i*sz,sz)) cur (is.zip vs)=some cur'∧RowsIn False w ρ H sz r cur'∧cur'.size=cur.size∧r.length=rs.length
  | [], rs, r, ds, vs, cur, hf, hv, hl, yt, xE => by
    have:vs=[]:=by simpa using hl
    subst this;cases hv;simp only[D7,Oi]at hf;subst hf;exact⟨cur,by simp[Instr.fill],yt,rfl,rfl⟩
  | i :: is, rs, r, ds, vs, cur, hf, hv, hl, yt, xE => by
    cases hv with
    | nil=>simp at hl
    | cons hd ht =>
      rename_i d v ds vs;unfold D7 at hf;split at hf
      · rename_i xO;simp only[Bool.and_eq_true,beq_iff_eq,decide_eq_true_eq]at xO;obtain⟨⟨h1,h2⟩,h3⟩:=xO;obtain⟨yS,xI,_⟩:=hd.cells h1
        have yB:i*sz+sz≤cur.size:=by
          rw[xE,←Nat.succ_mul];exact Nat.mul_le_mul_right _ h3
        obtain⟨cells',he,hs,hq⟩:=Pi (place:=fun i=>some (i*sz,sz)) (rest:=is.zip vs) rfl (by rw[yS.1,h2]) yB;have qV:=yt.set (i:=i) yS h2 (fun d' hd'=>⟨xI d' hd',fun h=>h.elim⟩) hq;obtain⟨c2,h4,h5,h6,h7⟩:=Oa hf ht (by simpa using hl) qV (by rw[hs,xE,List.length_set]);exact⟨c2,by rw[List.zip_cons_cons,he];exact h4,h5,h6.trans hs,by rw[h7,List.length_set]⟩
      simp at hf
theorem RowsIn.replicate{kk:Prop}{H:List Rf}{z:List D}{zv:Array Value}(h:CR w ρ H z zv)(h1:z.all D.Ru=true)(h2:z.all D.free=true)(n:Nat)(h0:0<z.length) :
  RowsIn kk w ρ H z.length (List.replicate n z) ((Array.range (n*z.length)).map (zv[· % zv.size]!)):=by
 refine⟨fun r hr=>by rw[List.eq_of_mem_replicate hr],fun i r j d hi hj=>?_⟩;have hr:=List.eq_of_mem_replicate (Lm hi);subst hr;have yJ:i<n:=by have:=lt_of_some hi;simpa using this
 have yA:=lt_of_some hj;obtain⟨v,h3,h4⟩:=h.get hj;refine⟨List.all_eq_true.1 h1 d (Lm hj),fun _=>List.all_eq_true.1 h2 d (Lm hj),v,?_,h4⟩
 have xJ:i*r.length+j<n*r.length:=by
  calc i*r.length+j<i*r.length+r.length:=by omega
   _=(i+1)*r.length:=by rw[Nat.succ_mul]
   _≤n*r.length:=Nat.mul_le_mul_right _ yJ
 have hm:(i*r.length+j) % zv.size=j:=by
  rw[h.1,Nat.mul_comm,Nat.mul_add_mod,Nat.mod_eq_of_lt yA]
 obtain⟨h5,h6⟩:=Array.getElem?_eq_some_iff.1 h3;rw[Array.getElem?_map,Array.getElem?_range,if_pos xJ,Option.map_some,hm];simp[h5,h6]
theorem bslice_run{t e:TypeId}{len n:Nat}{z:List D}{ps:Array (Nat × Operand)}{vs:List Value}{i:TypeInfo}{zv:Value}{cur:Array Value}(hu:P.underlying t=some (.slice e))(hi:P.info? e=some i)(zC:i.zero=some zv)(wH:zv.cells.size=z.length)(hn:Ch P e=some z.length)(hsm:len*z.length≤16777216)
  (zJ:Instr.fill (fun i=>some (i*z.length,z.length)) ((Array.range (len*z.length)).map (zv.cells[· % zv.cells.size]!)) ((ps.toList.map (·.1)).zip vs)=some cur) :
  (Instr.buildSlice t len ((ps.toList.map (·.1)).zip vs).toArray).run P w=.ok (.slice (some ⟨w.heap.size,0,none⟩) len len) (w.alloc (.cells cur e)):=by
 obtain⟨i',d',hi',hd',hs',h0⟩:=Cj hn;rw[hi]at hi';injection hi' with hi';subst hi';by_cases zh:len*i.size=0
 ·
  have hlen0:len=0:=by
   rcases Nat.mul_eq_zero.1 zh with h | h
   ·
    exact h
   omega
  subst hlen0;have hA:∀f:Nat→Value,(Array.range (0*z.length)).map f=#[]:=fun f=>by apply Array.eq_empty_of_size_eq_zero;simp
  have hA':∀f:Nat→Value,(Array.range 0).map f=#[]:=fun f=>by apply Array.eq_empty_of_size_eq_zero;simp
  rw[hA]at zJ;simp only[Instr.buildSlice,Sem.run_bind,run_underlying hu,Result.andThen_ok,run_sizeOf hn,Nat.zero_mul,hA',zJ];simp[newRow,hA',zJ]
 refine run_buildSlice w t e len _ cur i zv hu hi zC (by rw[hs'];omega) zh ?_;rw[hs'];exact zJ
theorem bslice_ok{t e:TypeId}{len n kind:Nat}{z:List D}{ps:Array (Nat × Operand)}{xs ys:List D}{rs:List (List D)}{vs:List Value}{r:D}{S':St}{wr:Bool}(hr:Rel w ρ S.heap)(hu:P.underlying t=some (.slice e))(hz:Fx P e=some z)(hn:Ch P e=some n)(hl:z.length=n)(hsm:len*n≤16777216)
    (hv:VL w ρ S.heap xs vs) (qm:vs.length=ps.toList.length) (uR:Ay S.heap.length S.heap xs=some ys) (hf:Cr (List.replicate len z) n (ps.toList.map (·.1)) ys=some rs)
    (h:(if kind=2 then some (D.msl S.heap.length 0 0 len none,newAt S ⟨e,n,rs,0,2,false⟩,true) else some (D.sl n rs (some len),S,false))=some (r,S',wr)) :
    ∃v w',(Instr.buildSlice t len ((ps.toList.map (·.1)).zip vs).toArray).run P w=.ok v w'∧Rt w ρ S r S' wr v w':=by
  obtain⟨i,zv,hi,zC,yS,xq,y8⟩:=El (w:=w) (ρ:=ρ) (H:=S.heap) hz;obtain⟨_,_,_,_,_,h0⟩:=Cj hn;have wB:=Le hr (Nat.le_refl _) hv uR;subst hl;obtain⟨cur,zJ,yt,hcz,yN⟩:=Qr hf wB (by simpa using qm) (RowsIn.replicate yS xq y8 len h0) (by simp);simp only[List.length_replicate]at yN;simp only[Array.size_map,Array.size_range]at hcz;have xA:=bslice_run (w:=w) (n:=z.length) hu hi zC yS.1 hn hsm zJ;refine⟨_,_,xA,?_⟩;have xw:=Rw.alloc w (.cells cur e);split at h
  · simp only [Oi, Pi_] at h;obtain⟨rfl,rfl,rfl⟩:=h;refine⟨_,Hg (ob:=⟨e,z.length,rs,0,2,false⟩) hr xw h0 ⟨len,hcz,by simp[yN],?_,by simp[yN]⟩ yt.1 (.inr (.inr rfl)) (fun i' r' j d yG hj=>?_),Eu hr xw,?_,by simp⟩
    · simp only [maxLen];have:len*1≤len*z.length:=Nat.mul_le_mul_left _ h0;omega
    · obtain ⟨h1, h2, h3⟩ := yt.2 i' r' j d yG hj;exact⟨h1,fun _=>h2 trivial,h3⟩
    refine .msl _ 0 0 len none _ len ⟨e,z.length,rs,0,2,false⟩ (Nat.le_refl _) (fun k hk=>by cases hk) (by simp[newAt]) (Nat.le_refl _) (by simp) fun _=>⟨w.heap.size,by simp[upd],by simp[yN],fun _=>by simp,fun _=>⟨cur,xw.new,by simpa using hcz⟩⟩
  simp only[Oi,Pi_]at h;obtain⟨rfl,rfl,rfl⟩:=h;have qH:=Fy hr xw;refine⟨ρ,Ki hr xw,qH,?_,fun _=>⟨ext_add xw,rfl,rfl⟩⟩;refine .sl z.length rs (some len) _ len len yN.symm (Nat.le_refl _) (fun k hk=>by injection hk) yt.1 w.heap.size 0 (fun i j=>cur.getD (i*z.length+j) undef) (fun _=>rfl) (fun i' r' j d yG hj=>?_) (fun i' r' j d yG hj=>?_)
  · obtain ⟨h1, h2, v, h3, h4⟩ := yt.2 i' r' j d yG hj;obtain⟨h5,h6⟩:=Array.getElem?_eq_some_iff.1 h3;refine⟨?_,⟨by rw[xw.size];omega,fun hx=>by have:=(hr.hid _ _ hx).1;omega,fun g hg=>by have:=hr.lt hg;omega⟩,h2 trivial⟩;rw[cell_of_row _ _ _ cur e (0,0) xw.new,Nat.zero_add,h3];simp[Array.getD,h5,h6]
  obtain⟨h1,h2,v,h3,h4⟩:=yt.2 i' r' j d yG hj;obtain⟨h5,h6⟩:=Array.getElem?_eq_some_iff.1 h3;have:cur.getD (i'*z.length+j) undef=v:=by simp[Array.getD,h5,h6]
  rw[this];exact h4.mono qH
theorem bslice0_ok{t e:TypeId}{len n:Nat}{z:List D}{ps:Array (Nat × Operand)}{xs:List D}{rs:List (List D)}{vs:List Value}(hr:Rel w ρ S.heap)(hu:P.underlying t=some (.slice e))(hz:Fx P e=some z)(hn:Ch P e=some n)(hl:z.length=n)(hsm:len*n≤16777216)
    (hv:VL w ρ S.heap xs vs) (qm:vs.length=ps.toList.length) (hf:D7 (List.replicate len z) n (ps.toList.map (·.1)) xs=some rs) :
    ∃v w',(Instr.buildSlice t len ((ps.toList.map (·.1)).zip vs).toArray).run P w=.ok v w'∧Rt w ρ S (.msl S.heap.length 0 0 len none) (newAt S ⟨e,n,rs,0,0,false⟩) true v w':=by
  obtain⟨i,zv,hi,zC,yS,xq,y8⟩:=El (w:=w) (ρ:=ρ) (H:=S.heap) hz;obtain⟨_,_,_,_,_,h0⟩:=Cj hn;subst hl;obtain⟨cur,zJ,yt,hcz,yN⟩:=Oa hf hv (by simpa using qm) (RowsIn.replicate yS xq y8 len h0) (by simp);simp only[List.length_replicate]at yN;simp only[Array.size_map,Array.size_range]at hcz;have xA:=bslice_run (w:=w) (n:=z.length) hu hi zC yS.1 hn hsm zJ;refine⟨_,_,xA,?_⟩;have xw:=Rw.alloc w (.cells cur e);refine⟨_,Hg (ob:=⟨e,z.length,rs,0,0,false⟩) hr xw h0 ⟨len,hcz,by simp[yN],?_,by simp[yN]⟩ yt.1 (.inl rfl) (fun i' r' j d yG hj=>?_),Eu hr xw,?_,by simp⟩
  · simp only [maxLen];have:len*1≤len*z.length:=Nat.mul_le_mul_left _ h0;omega
  · obtain ⟨h1, h2, h3⟩ := yt.2 i' r' j d yG hj;exact⟨h1,fun h=>absurd rfl h,h3⟩
  refine .msl _ 0 0 len none _ len ⟨e,z.length,rs,0,0,false⟩ (Nat.le_refl _) (fun k hk=>by cases hk) (by simp[newAt]) (Nat.le_refl _) (by simp) fun _=>⟨w.heap.size,by simp[upd],by simp[yN],fun _=>by simp,fun _=>⟨cur,xw.new,by simpa using hcz⟩⟩
theorem boxc_ok{e:TypeId}{x:D}{v:Value}(hr:Rel w ρ S.heap)(hx:VR w ρ S.heap x v)(h1:x.val=true)(h3:x.cells.all D.free=true) :
  ∃v' w',(Instr.box e v).run P w=.ok v' w'∧Rt w ρ S (.R6 x.cells 0) S false v' w':=by
 obtain⟨yS,xI,_⟩:=hx.cells h1
 have xA:(Instr.box e v).run P w=.ok (.pointer (some ⟨w.heap.size,0,none⟩)) (w.alloc (.cells v.cells e)):=by
  simp[Instr.box,newVar,newRow]
 have xw:=Rw.alloc w (.cells v.cells e);have qH:=Fy hr xw;refine⟨_,_,xA,ρ,Ki hr xw,qH,?_,fun _=>⟨ext_add xw,rfl,rfl⟩⟩;refine .R6 x.cells 0 w.heap.size 0 (fun j=>v.cells.getD j undef) (fun j d hj _=>?_) (fun j d hj _=>?_)
 ·
  obtain⟨v',h5,h6⟩:=yS.get hj;obtain⟨h7,h8⟩:=Array.getElem?_eq_some_iff.1 h5;refine⟨?_,⟨by rw[xw.size];omega,fun hx=>by have:=(hr.hid _ _ hx).1;omega,fun g hg=>by have:=hr.lt hg;omega⟩,List.all_eq_true.1 h3 d (Lm hj)⟩;rw[cell_of_row _ _ _ v.cells e (0,0) xw.new,Nat.zero_add,Nat.sub_zero,h5];simp[Array.getD,h7,h8]
 obtain⟨v',h5,h6⟩:=yS.get hj;obtain⟨h7,h8⟩:=Array.getElem?_eq_some_iff.1 h5;have:v.cells.getD j undef=v':=by simp[Array.getD,h7,h8]
 rw[this];exact h6.mono qH
end
open Go.RowKit
section
variable {P:Program} {w:World} {ρ:Rm} {S:St}
theorem Jf{cur vs:List Value}{o:Nat}(h:o+vs.length≤cur.length)(q:Nat):(cur.take o++vs++cur.drop (o+vs.length))[q]?=if o≤q∧q<o+vs.length then vs[q-o]? else cur[q]?:=by
  have ht:(cur.take o).length=o:=by simp;omega
  rw[Lo_];by_cases h1:q<o
  · rw[La_ (by omega),if_neg (by omega),List.getElem?_take,if_pos h1]
  rw[Lr_ (by omega),ht];by_cases h2:q<o+vs.length
  · rw[La_ (by omega),if_pos (by omega)]
  rw[Lr_ (by omega),if_neg (by omega),List.getElem?_drop];congr 1;omega
theorem row_apart{i k sz j o n:Nat}(xu:i≠k)(hj:j<sz)(ho:o+n≤sz):¬(i*sz+o≤k*sz+j∧k*sz+j<i*sz+o+n):=by
 rintro⟨h5,h6⟩;rcases Nat.lt_or_gt_of_ne xu with xJ | wC
 ·
  have:=Nat.mul_le_mul_right sz xJ;rw[Nat.succ_mul]at this;omega
 have:=Nat.mul_le_mul_right sz wC;rw[Nat.succ_mul]at this;omega
theorem row_in{i n sz j:Nat}(hi:i<n)(hj:j<sz):i*sz+j<n*sz:=by
 have:=Nat.mul_le_mul_right sz hi;rw[Nat.succ_mul]at this;omega
theorem store_ok {a x : D} {va vx : Value} {sz : Nat} {S' : St} {t : TypeId} (hr : Rel w ρ S.heap) (ha : VR w ρ S.heap a va) (hx : VR w ρ S.heap x vx) (xE : Ch P t = some sz) (h : Ca sz S a x = some S') :
    ∃w',(Instr.storeAt t va vx).run P w=.ok () w'∧Rt w ρ S .undef S' true undef w':=by
  unfold Ca at h;split at h
  · rename_i g ver i o
    cases ha with
    | ptr _ _ _ _ ad ob hg yh xL xD =>
      unfold rowsOf at h;simp only[hg]at h;by_cases hv:ob.ver=ver
      · subst hv;simp only[if_true]at h
        cases xY:ob.rows[i]? with
        | none=>simp[xY]at h
        | some row =>
          simp only[xY]at h;obtain⟨b,hρ,rfl⟩:=xD rfl;obtain⟨o1,xG,cur,hc,hz,⟨cc,yx,yg,w9,wD⟩,hl,hk,hh⟩:=hr.cel hρ hg xL;rw[hg]at xG;injection xG with xG;subst xG;split at h
          · rename_i y hy
            have hyv:VR w ρ S.heap y vx:=by
              split at hy
              · simp only[Oi]at hy;subst hy;exact hx
              exact Ka hr (Nat.le_refl _) hx hy
            split at h
            · rename_i xO;simp only[Bool.and_eq_true,beq_iff_eq,decide_eq_true_eq,Bool.or_eq_true]at xO;obtain⟨⟨⟨h1,h2⟩,h3⟩,h4⟩:=xO;simp only[Oi]at h;subst h;obtain⟨yS,xI,zU⟩:=hyv.cells h1;have yN:row.length=ob.sz:=hl row (Lm xY);have yJ:=lt_of_some xY;have vI:vx.cells.toList.length=sz:=by rw[←h2,←yS.1];simp
              have hend:i*ob.sz+ob.sz≤cur.size:=by
                rw[yx,←Nat.succ_mul];exact Nat.mul_le_mul_right _ (by omega)
              have xM:=run_storeCells_at P b (i*ob.sz+o) ob.elem vx.cells.toList 0 cur w hc (by rw[vI];omega) zU;simp only[Nat.add_zero]at xM
              have xA:(Instr.storeAt t (.pointer (some ⟨b,i*ob.sz+o,none⟩)) vx).run P w=.ok () (w.setRow b (cur.toList.take (i*ob.sz+o)++vx.cells.toList++cur.toList.drop (i*ob.sz+o+vx.cells.toList.length)).toArray):=by
                have hsz2:vx.cells.size=sz:=by simpa using vI
                simp only[Instr.storeAt,Instr.sureAddr,storeVar,Sem.run_bind,Sem.run_pure,Result.andThen_ok,run_sizeOf xE,hsz2];simp[xM]
              refine⟨_,xA,?_⟩;have xH:=Rx.setRow (cs:=(cur.toList.take (i*ob.sz+o)++vx.cells.toList++cur.toList.drop (i*ob.sz+o+vx.cells.toList.length)).toArray) hc
              have xV:∀q:Nat,(cur.toList.take (i*ob.sz+o)++vx.cells.toList++cur.toList.drop (i*ob.sz+o+vx.cells.toList.length)).toArray[q]?=if i*ob.sz+o≤q∧q<i*ob.sz+o+sz then vx.cells[q-(i*ob.sz+o)]? else cur[q]?:=by
                intro q;have:=Jf (cur:=cur.toList) (vs:=vx.cells.toList) (o:=i*ob.sz+o) (by rw[vI];simp;omega) q;rw[vI]at this;simpa [vI] using this
              have xR:(cur.toList.take (i*ob.sz+o)++vx.cells.toList++cur.toList.drop (i*ob.sz+o+vx.cells.toList.length)).toArray.size=cur.size:=by
                have hvs2:vx.cells.size=sz:=by simpa using vI
                simp only[List.size_toArray,Ll_,List.length_take,List.length_drop,Array.length_toList];omega
              have hnk1:ob.kind≠1:=by
                rcases h4 with h4 | h4
                · omega
                omega
              generalize (cur.toList.take (i*ob.sz+o)++vx.cells.toList++cur.toList.drop (i*ob.sz+o+vx.cells.toList.length)).toArray=cur' at xH xV xR;have hol:(overlay row o y.cells).length=ob.sz:=by rw[P6 (by omega),yN]
              have he:({ ob with rows:=ob.rows.set i (overlay row o y.cells) }:Rf).sz=ob.sz∧({ ob with rows:=ob.rows.set i (overlay row o y.cells) }:Rf).elem=ob.elem∧({ ob with rows:=ob.rows.set i (overlay row o y.cells) }:Rf).kind=ob.kind∧ob.rows.length≤({ ob with rows:=ob.rows.set i (overlay row o y.cells) }:Rf).rows.length∧ob.ver≤({ ob with rows:=ob.rows.set i (overlay row o y.cells) }:Rf).ver :=
                ⟨rfl,rfl,rfl,by simp,Nat.le_refl _⟩
              refine⟨ρ,Jj xL hr hρ hg hc xH xR he (fun e=>absurd e hnk1) ⟨cc,by rw[xR,yx],by simpa using yg,w9,by simpa using wD⟩ (fun r hr'=>?_) (fun i' r j d hi' hj=>?_),H9 hr hρ hg hc xH xR he (fun e=>absurd e hnk1),.undef _,by simp⟩
              · rcases List.mem_or_eq_of_mem_set hr' with hr' | rfl
                · exact hl r hr'
                exact hol
              by_cases e:i=i'
              · subst e;simp only[List.getElem?_set_self yJ,Oi]at hi';subst hi';have yA:j<ob.sz:=by rw[←hol];exact lt_of_some hj
                rw[P7 (by omega)]at hj;split at hj
                · rename_i yt;obtain⟨u,wY,vJ⟩:=yS.get hj;refine⟨xI d (Lm hj),fun hk0=>?_,u,?_,vJ⟩
                  · rcases h4 with h4 | h4
                    · exact absurd h4 hk0
                    exact List.all_eq_true.1 h4.2 d (Lm hj)
                  rw[xV,if_pos (by simp only;omega)];rw[show i*ob.sz+j-(i*ob.sz+o)=j-o by omega];exact wY
                rename_i hout;obtain⟨k1,k2,u,wY,vJ⟩:=hh i row j d xY hj;refine⟨k1,k2,u,?_,vJ⟩;rw[xV,if_neg (by simp only;omega)];exact wY
              simp only[Ln_ e]at hi';obtain⟨k1,k2,u,wY,vJ⟩:=hh i' r j d hi' hj;have yA:j<ob.sz:=by rw[←hl r (Lm hi')];exact lt_of_some hj
              refine⟨k1,k2,u,?_,vJ⟩;rw[xV,if_neg (row_apart e yA (by omega))];exact wY
            simp at h
          simp at h
      simp[hv]at h
  simp at h
def flat (m sz:Nat) (f:Nat→Nat→Value):List Value:=(List.range (m*sz)).map fun q=>f (q / sz) (q % sz)
theorem Kw(m sz:Nat)(f:Nat→Nat→Value):(flat m sz f).length=m*sz:=by simp[flat]
theorem flat_get{m sz i j:Nat}{f:Nat→Nat→Value}(hi:i<m)(hj:j<sz):(flat m sz f)[i*sz+j]?=some (f i j):=by
 have h0:0<sz:=by omega
 simp only[flat,Lp_,List.getElem?_range (row_in hi hj),Option.map_some];rw[Nat.mul_comm,Nat.mul_add_div h0,Nat.div_eq_of_lt hj,Nat.mul_add_mod,Nat.mod_eq_of_lt hj,Nat.add_zero]
theorem flat_back{m sz q:Nat}{f:Nat→Nat→Value}{u:Value}(h0:0<sz)(h:(flat m sz f)[q]?=some u):q / sz<m∧q % sz<sz∧u=f (q / sz) (q % sz)∧q=q / sz*sz+q % sz:=by
 have hq:q<m*sz:=by rw[←Kw m sz f];exact lt_of_some h
 simp only[flat,Lp_,List.getElem?_range hq,Option.map_some,Oi]at h;refine⟨Nat.div_lt_of_lt_mul (by rwa [Nat.mul_comm]at hq),Nat.mod_lt _ h0,h.symm,?_⟩;rw[Nat.mul_comm];exact (Nat.div_add_mod q sz).symm
theorem kA_eq(kind k:Nat):(if kind=0 then k=0 else (k=1∨k=2))=(kA kind k=true):=by
 unfold kA;split<;>simp
theorem kW_eq(kind k:Nat):(if kind=0 then k=0 else k=2)=(kW kind k=true):=by
 unfold kW;split<;>simp
theorem kW_ok{kind k:Nat}(h:kW kind k=true):k≠1∧(k≠0→kind≠0)∧(kind≠0→k≠0):=by
 unfold kW at h;split at h<;>simp at h<;>omega
theorem kA_ok{kind k:Nat}(h:kA kind k=true):(k≠0→kind≠0)∧(kind≠0→k≠0):=by
 unfold kA at h;split at h<;>simp at h<;>omega
def SrcAt (kk:Prop) (w:World) (ρ:Rm) (H:List Rf) (sz:Nat) (rows:List (List D)) (v:Value):Prop :=
 ∃A c,v=.slice A rows.length c∧(∀r∈rows,r.length=sz)∧(rows≠[]→∃(b o:Nat) (f:Nat→Nat→Value),A=some ⟨b,o,none⟩∧∀i r j d,rows[i]?=some r→r[j]?=some d→w.cell? ⟨b,o+i*sz+j,none⟩=some (f i j)∧VR w ρ H d (f i j)∧d.Ru=true∧(kk→d.free=true))
theorem I9{d:D}(h:d.free=true):d.Ru=true:=by cases d<;>simp[D.free,D.Rv,D.Ru]at h ⊢
theorem src_ok {kk : Prop} {sz : Nat} {x : D} {v : Value} {rows : List (List D)} (hr : Rel w ρ S.heap) (hx : VR w ρ S.heap x v) (h : Co S sz x = some rows) : SrcAt kk w ρ S.heap sz rows v := by
  unfold Co at h;split at h
  · cases hx;simp only[Oi]at h;subst h;exact⟨none,0,rfl,by simp,fun h=>absurd rfl h⟩
  · split at h
    · rename_i hs;subst hs;simp only[Oi]at h;subst h
      cases hx with
      | sl _ _ _ A n c hn xS xC hz b o f hA hc hv =>
        refine⟨some A,c,by rw[hn],hz,fun xu=>⟨b,o,f,by rw[hA xu],fun i r j d hi hj=>?_⟩⟩;obtain⟨h1,h2,h3⟩:=hc i r j d hi hj;exact⟨h1,hv i r j d hi hj,I9 h3,fun _=>h3⟩
    simp at h
  · rename_i g ver lo n cap
    cases hx with
    | msl _ _ _ _ _ A c ob xS xC hg yh xL xD =>
      unfold rowsOf at h;simp only[hg]at h;by_cases hv:ob.ver=ver
      · simp only [hv, if_true] at h;split at h
        · rename_i hs;simp only[Oi]at h;subst h;obtain⟨b,hρ,y9,hA,_⟩:=xD hv;obtain⟨o1,xG,cur,hc,hz,wm,hl,hk,hh⟩:=hr.cel hρ hg xL;rw[hg]at xG;injection xG with xG;subst xG;have xk:((ob.rows.drop lo).take n).length=n:=by simp;omega
          refine⟨some A,c,by rw[xk],fun r hr'=>by rw[←hs.1];exact hl r (Dk hr'),fun xu=>⟨b,lo*ob.sz,fun i j=>cur.getD ((lo+i)*ob.sz+j) undef,?_,fun i r j d hi hj=>?_⟩⟩
          · rw [hA];left;intro h0;subst h0;simp at xu
          obtain⟨h1,h2⟩:=Cu hi;obtain⟨h3,h4,u,wY,vJ⟩:=hh _ r j d h1 hj;obtain⟨h5,h6⟩:=Array.getElem?_eq_some_iff.1 wY;have yY:cur.getD ((lo+i)*ob.sz+j) undef=u:=by simp[Array.getD,h5,h6]
          simp only[yY];refine⟨?_,vJ,h3,fun _=>h4 (by omega)⟩;rw[cell_of_row w b _ cur ob.elem (0,0) hc,←wY,←hs.1];congr 1;rw[Nat.add_mul]
        simp at h
      simp[hv]at h
  simp at h
theorem src0_ok {sz : Nat} {x : D} {v : Value} {rows : List (List D)} (hr : Rel w ρ S.heap) (hx : VR w ρ S.heap x v) (h : Fa S sz x = some rows) : SrcAt False w ρ S.heap sz rows v := by
  unfold Fa at h;split at h
  · cases hx;simp only[Oi]at h;subst h;exact⟨none,0,rfl,by simp,fun h=>absurd rfl h⟩
  · split at h
    · rename_i hs;subst hs;simp only[Oi]at h;subst h
      cases hx with
      | sl _ _ _ A n c hn xS xC hz b o f hA hc hv =>
        refine⟨some A,c,by rw[hn],hz,fun xu=>⟨b,o,f,by rw[hA xu],fun i r j d hi hj=>?_⟩⟩;obtain⟨h1,h2,h3⟩:=hc i r j d hi hj;exact⟨h1,hv i r j d hi hj,I9 h3,fun _=>h3⟩
    simp at h
  · rename_i g ver lo n cap
    cases hx with
    | msl _ _ _ _ _ A c ob xS xC hg yh xL xD =>
      unfold rowsOf at h;simp only[hg]at h;by_cases hv:ob.ver=ver
      · simp only [hv, if_true] at h;split at h
        · rename_i hs;simp only[Oi]at h;subst h;obtain⟨b,hρ,y9,hA,_⟩:=xD hv;obtain⟨o1,xG,cur,hc,hz,wm,hl,hk,hh⟩:=hr.cel hρ hg xL;rw[hg]at xG;injection xG with xG;subst xG;have xk:((ob.rows.drop lo).take n).length=n:=by simp;omega
          refine⟨some A,c,by rw[xk],fun r hr'=>by rw[←hs.1];exact hl r (Dk hr'),fun xu=>⟨b,lo*ob.sz,fun i j=>cur.getD ((lo+i)*ob.sz+j) undef,?_,fun i r j d hi hj=>?_⟩⟩
          · rw [hA];left;intro h0;subst h0;simp at xu
          obtain⟨h1,h2⟩:=Cu hi;obtain⟨h3,h4,u,wY,vJ⟩:=hh _ r j d h1 hj;obtain⟨h5,h6⟩:=Array.getElem?_eq_some_iff.1 wY;have yY:cur.getD ((lo+i)*ob.sz+j) undef=u:=by simp[Array.getD,h5,h6]
          simp only[yY];refine⟨?_,vJ,h3,fun h=>h.elim⟩;rw[cell_of_row w b _ cur ob.elem (0,0) hc,←wY,←hs.1];congr 1;rw[Nat.add_mul]
        simp at h
      simp[hv]at h
  simp at h
theorem srcK_ok{kind sz:Nat}{x:D}{v:Value}{rows:List (List D)}(hr:Rel w ρ S.heap)(hx:VR w ρ S.heap x v)(h:P5 kind S sz x=some rows):SrcAt (kind≠0) w ρ S.heap sz rows v:=by
 unfold P5 at h;split at h
 ·
  rename_i h0;obtain⟨A,c,h1,h2,h3⟩:=src0_ok hr hx h
  exact⟨A,c,h1,h2,fun xu=>by
   obtain⟨b,o,f,k1,k2⟩:=h3 xu
   exact⟨b,o,f,k1,fun i r j d hi hj=>by
    obtain⟨q1,q2,q3,_⟩:=k2 i r j d hi hj
    exact⟨q1,q2,q3,fun hk=>absurd h0 hk⟩⟩⟩
 exact src_ok hr hx h
theorem Ji{kk:Prop}{H:List Rf}{sz n:Nat}{rows new:List (List D)}{olds news:List Value}{cur:Array Value}(hn:n=rows.length)
  (h1:∀r∈rows,r.length=sz) (h2:∀r∈new,r.length=sz)
  (ho:∀i r j d,rows[i]?=some r→r[j]?=some d→d.Ru=true∧(kk→d.free=true)∧∃v,olds[i*sz+j]?=some v∧VR w ρ H d v) (hol:olds.length=n*sz)
  (hw:∀i r j d,new[i]?=some r→r[j]?=some d→d.Ru=true∧(kk→d.free=true)∧∃v,news[i*sz+j]?=some v∧VR w ρ H d v)
  (hc:∀(q:Nat) (u:Value),(olds++news)[q]?=some u→cur[q]?=some u):RowsIn kk w ρ H sz (rows++new) cur:=by
 refine⟨fun r hr=>?_,fun i r j d hi hj=>?_⟩
 ·
  rcases List.mem_append.1 hr with h | h
  ·
   exact h1 r h
  exact h2 r h
 by_cases xJ:i<rows.length
 ·
  rw[La_ xJ]at hi;obtain⟨k1,k2,v,k3,k4⟩:=ho i r j d hi hj;refine⟨k1,k2,v,hc _ _ ?_,k4⟩;rw[La_ (lt_of_some k3)];exact k3
 rw[Lr_ (by omega)]at hi;obtain⟨k1,k2,v,k3,k4⟩:=hw _ r j d hi hj;refine⟨k1,k2,v,hc _ _ ?_,k4⟩
 have e:i*sz+j=n*sz+((i-rows.length)*sz+j):=by
  rw[hn,←Nat.add_assoc,←Nat.add_mul];congr 2;omega
 rw[e,Lr_ (by omega),hol,Nat.add_sub_cancel_left];exact k3
theorem appNone{t ty e:TypeId}{i:TypeInfo}(ht:P.underlying t=some (.slice e))(hi:P.info? e=some i){A B:Option Addr}{n c c':Nat}(xS:n≤c) :
  (Builtin.append_ #[t,t] ty #[.slice A n c,.slice B 0 c']).run P w=.ok (.slice A n c) w:=by
 cases A with
 | none=>cases B<;>simp[Builtin.append_,run_underlying ht,sizeOf,typeInfo,hi,Builtin.lenOf,Builtin.firstCells,xS,loadCells,loadCellsFrom]
 | some a=>cases B<;>simp[Builtin.append_,run_underlying ht,sizeOf,typeInfo,hi,Builtin.lenOf,Builtin.firstCells,xS,loadCells,loadCellsFrom,storeCells]
theorem append_over {t u ty e : TypeId} {i : TypeInfo} {n n' g kind : Nat} {vx : Value} {A' : Addr} {c' : Nat} {ob : Rf} {new : List (List D)} (hr : Rel w ρ S.heap) (xE : i.size = n)
    (wW:n'≤c') (hg:S.heap[g]?=some ob) (xL:ob.kind≠3)
    (xD:∃b,ρ g=some b∧0+n'≤ob.rows.length∧(n'≠0∨0=0→A'=⟨b,0*ob.sz,none⟩)∧((none:Option Nat)=none→∃cur,w.heap[b]?=some (.cells cur ob.elem (0,0))∧cur.size=(0+c')*ob.sz))
    (y7:ob.sz=n) (hel:ob.elem=e) (zD:kW kind ob.kind=true) (hin':n'+new.length≤ob.rows.length)
    (yN:∀r∈new,r.length=n) (yj:new=[]→∀(A:Option Addr) (m c:Nat),m≤c→(Builtin.append_ #[t,u] ty #[.slice A m c,vx]).run P w=.ok (.slice A m c) w)
    (zR:new≠[]→∃(news:List Value),news.length=new.length*n ∧
      (∀i r j d,new[i]?=some r→r[j]?=some d→d.Ru=true∧(kind≠0→d.free=true)∧∃v,news[i*n+j]?=some v∧VR w ρ S.heap d v) ∧
      (∀(g sLen sCap:Nat) (cur:Array Value),w.heap[g]?=some (.cells cur e (0,0))→sLen+new.length≤sCap→sLen*i.size+news.length≤cur.size →
        (Builtin.append_ #[t,u] ty #[.slice (some ⟨g,0,none⟩) sLen sCap,vx]).run P w=.ok (.slice (some ⟨g,0,none⟩) (sLen+new.length) sCap) (w.setRow g (cur.toList.take (sLen*i.size)++news++cur.toList.drop (sLen*i.size+news.length)).toArray))) :
    ∃v w',(Builtin.append_ #[t,u] ty #[.slice (some A') n' c',vx]).run P w=.ok v w'∧Rt w ρ S (.msl g ob.ver 0 (n'+new.length) none) (setAt S g { ob with rows:=ob.rows.take n'++new++ob.rows.drop (n'+new.length) }) true v w':=by
  obtain⟨b0,hρ,y9,hA',zO⟩:=xD;have qb:=hA' (.inr rfl);simp only[Nat.zero_mul]at qb;subst qb;obtain⟨o1,xG,cur,hc,hz,⟨cc,yx,yg,w9,wD⟩,hl,hkk',hh⟩:=hr.cel hρ hg xL;rw[hg]at xG;injection xG with xG;subst xG;obtain⟨cur1,xW,za⟩:=zO rfl;rw[hc]at xW;injection xW with xW;injection xW with xW;subst xW
  have hcc':c'=cc:=by
    rw[yx,Nat.zero_add]at za;exact (Nat.eq_of_mul_eq_mul_right hz za).symm
  subst hcc'
  have hrl':(ob.rows.take n'++new++ob.rows.drop (n'+new.length)).length=ob.rows.length:=by
    simp only[Ll_,List.length_take,List.length_drop];omega
  have zi:({ ob with rows:=ob.rows.take n'++new++ob.rows.drop (n'+new.length) }:Rf).sz=ob.sz∧({ ob with rows:=ob.rows.take n'++new++ob.rows.drop (n'+new.length) }:Rf).elem=ob.elem∧({ ob with rows:=ob.rows.take n'++new++ob.rows.drop (n'+new.length) }:Rf).kind=ob.kind∧ob.rows.length≤({ ob with rows:=ob.rows.take n'++new++ob.rows.drop (n'+new.length) }:Rf).rows.length∧ob.ver≤({ ob with rows:=ob.rows.take n'++new++ob.rows.drop (n'+new.length) }:Rf).ver:=⟨rfl,rfl,rfl,by show ob.rows.length≤(ob.rows.take n'++new++ob.rows.drop (n'+new.length)).length;omega,Nat.le_refl _⟩;have zI:∀r∈ob.rows,r.length=n:=fun r hr'=>by rw[←y7];exact hl r hr'
  have zW:∀r∈ob.rows.take n'++new++ob.rows.drop (n'+new.length),r.length=ob.sz:=by
    intro r hr';rw[y7];rcases List.mem_append.1 hr' with h1 | h1
    · rcases List.mem_append.1 h1 with h2 | h2
      · exact zI r (List.mem_of_mem_take h2)
      exact yN r h2
    exact zI r (List.mem_of_mem_drop h1)
  by_cases he:new=[]
  · subst he;have xH:Rx w w b0 (.cells cur ob.elem (0,0)):=⟨rfl,rfl,rfl,rfl,hc,fun _ _=>rfl⟩;have yC:ob.rows.take n'++[]++ob.rows.drop (n'+([]:List (List D)).length)=ob.rows:=by simp
    refine⟨_,w,yj rfl _ _ _ wW,ρ,Jj xL hr hρ hg hc xH rfl zi (fun _ _ _=>rfl) ⟨c',yx,by show _≤c';rw[yC];exact yg,w9,by intro h;show _=(_:List (List D)).length;rw[yC];exact wD h⟩ zW (by rw[show ({ ob with rows:=ob.rows.take n'++[]++ob.rows.drop (n'+([]:List (List D)).length) }:Rf).rows=ob.rows from yC];exact hh),H9 hr hρ hg hc xH rfl zi (fun _ _ _=>rfl),?_,by simp⟩;refine .msl g _ 0 _ none _ _ { ob with rows:=ob.rows.take n'++[]++ob.rows.drop (n'+([]:List (List D)).length) } (by simpa using wW) (fun k hk=>by cases hk) (by simp[setAt,lt_of_some hg]) (Nat.le_refl _) xL fun _=>⟨b0,hρ,by rw[show ({ ob with rows:=ob.rows.take n'++[]++ob.rows.drop (n'+([]:List (List D)).length) }:Rf).rows=ob.rows from yC];simpa using y9,fun _=>by simp,fun _=>⟨cur,hc,za⟩⟩
  obtain⟨news,zM,vP,zL⟩:=zR he
  have yE:n'*n+news.length≤cur.size:=by
    rw[zM,yx,y7,←Nat.add_mul];exact Nat.mul_le_mul_right _ (by omega)
  have xA:=zL b0 n' c' cur (by rw[←hel];exact hc) (by omega) (by rw[xE];exact yE);rw[xE]at xA;have xH:=Rx.setRow (cs:=(cur.toList.take (n'*n)++news++cur.toList.drop (n'*n+news.length)).toArray) hc
  have xV:∀q:Nat,(cur.toList.take (n'*n)++news++cur.toList.drop (n'*n+news.length)).toArray[q]?=if n'*n≤q∧q<n'*n+news.length then news[q-n'*n]? else cur[q]?:=by
    intro q;have:=Jf (cur:=cur.toList) (vs:=news) (o:=n'*n) (by simpa using yE) q;simpa using this
  have xR:(cur.toList.take (n'*n)++news++cur.toList.drop (n'*n+news.length)).toArray.size=cur.size:=by
    simp only[List.size_toArray,Ll_,List.length_take,List.length_drop,Array.length_toList];omega
  generalize (cur.toList.take (n'*n)++news++cur.toList.drop (n'*n+news.length)).toArray=cur' at xH xV xR xA;obtain⟨hk01,vX,vW⟩:=kW_ok zD;have zN:ob.kind=1→∀q,q<ob.rows.length*ob.sz→cur'[q]?=cur[q]?:=fun h=>absurd h hk01
  have uE:∀(k:Nat) r j d,ob.rows[k]?=some r→r[j]?=some d→d.Ru=true∧(kind≠0→d.free=true)∧∃v,cur[k*n+j]?=some v∧VR w ρ S.heap d v:=by
    intro k r j d h1 h2;obtain⟨q1,q2,q3⟩:=hh k r j d h1 h2;rw[y7]at q3;exact⟨q1,fun h=>q2 (vW h),q3⟩
  have xB:∀i' r' j d,(ob.rows.take n'++new++ob.rows.drop (n'+new.length))[i']?=some r'→r'[j]?=some d→d.Ru=true∧(kind≠0→d.free=true)∧∃v,cur'[i'*n+j]?=some v∧VR w ρ S.heap d v:=by
    intro i' r' j d hi' hj
    have hjn:j<n:=by
      have:=zW r' (Lm hi');rw[←y7,←this];exact lt_of_some hj
    have wZ:(ob.rows.take n').length=n':=by rw[List.length_take];omega
    rw[Lo_]at hi';by_cases c1:i'<n'
    · rw [La_ (by omega), List.getElem?_take_of_lt c1] at hi';obtain⟨q1,q2,v,q3,q4⟩:=uE i' r' j d hi' hj;refine⟨q1,q2,v,?_,q4⟩;rw[xV,if_neg (by have:=row_in c1 hjn;omega)];exact q3
    rw[Lr_ (by omega),wZ]at hi';by_cases c2:i'-n'<new.length
    · rw [La_ c2] at hi';obtain⟨q1,q2,v,q3,q4⟩:=vP (i'-n') r' j d hi' hj;refine⟨q1,q2,v,?_,q4⟩
      have e1:i'*n+j-n'*n=(i'-n')*n+j:=by
        have:i'*n=n'*n+(i'-n')*n:=by rw[←Nat.add_mul];congr 1;omega
        omega
      have e2:=row_in c2 hjn;have e3:i'*n=n'*n+(i'-n')*n:=by rw[←Nat.add_mul];congr 1;omega
      rw[xV,if_pos ⟨by omega,by rw[zM];omega⟩,e1];exact q3
    rw[Lr_ (by omega),List.getElem?_drop]at hi';obtain⟨q1,q2,v,q3,q4⟩:=uE _ r' j d hi' hj;have e0:n'+new.length+(i'-n'-new.length)=i':=by omega
    rw[e0]at q3;refine⟨q1,q2,v,?_,q4⟩;have e3:(n'+new.length)*n≤i'*n:=Nat.mul_le_mul_right _ (by omega);rw[Nat.add_mul]at e3;rw[xV,if_neg (by rw[zM];omega)];exact q3
  refine⟨_,_,xA,ρ,Jj xL hr hρ hg hc xH xR zi zN ⟨c',by rw[xR];exact yx,by show (ob.rows.take n'++new++ob.rows.drop (n'+new.length)).length≤c';omega,w9,fun h=>by show c'=(ob.rows.take n'++new++ob.rows.drop (n'+new.length)).length;rw[hrl'];exact wD h⟩ zW (fun i' r' j d hi' hj=>?_),H9 hr hρ hg hc xH xR zi zN,?_,by simp⟩
  · obtain ⟨q1, q2, q3⟩ := xB i' r' j d hi' hj;exact⟨q1,fun h=>q2 (vX h),by rw[←y7]at q3;exact q3⟩
  refine .msl g _ 0 _ none _ _ { ob with rows:=ob.rows.take n'++new++ob.rows.drop (n'+new.length) } (by omega) (fun k hk=>by cases hk) (by simp[setAt,lt_of_some hg]) (Nat.le_refl _) xL fun _=>⟨b0,hρ,by show 0+(n'+new.length)≤(ob.rows.take n'++new++ob.rows.drop (n'+new.length)).length;omega,fun _=>by simp,fun _=>⟨cur',xH.new,by rw[xR];exact za⟩⟩
theorem Qx {t u ty e : TypeId} {i : TypeInfo} {n kind : Nat} {z : List D} {s r : D} {zv vs vx : Value} {S' : St} {wr : Bool} {new : List (List D)} (hr : Rel w ρ S.heap) (hi : P.info? e = some i) (hn : Ch P e = some n) (hzc : CR w ρ S.heap z zv.cells) (hzl : z.length = n) (hb : 0 < i.bytes) (hk : kind = 0 ∨ kind = 1 ∨ kind = 2)
    (hs:VR w ρ S.heap s vs)
    (yN:∀r∈new,r.length=n) (yj:new=[]→∀(A:Option Addr) (m c:Nat),m≤c→(Builtin.append_ #[t,u] ty #[.slice A m c,vx]).run P w=.ok (.slice A m c) w)
    (zR:new≠[]→∃(news:List Value),news.length=new.length*n∧(∀u∈news,u.oneCell'=true) ∧
      (∀i r j d,new[i]?=some r→r[j]?=some d→d.Ru=true∧(kind≠0→d.free=true)∧∃v,news[i*n+j]?=some v∧VR w ρ S.heap d v) ∧
      (0<new.length→((new.length:Nat):Int)≤9223372036854775807→new.length*i.bytes≤281474976710656→(Builtin.append_ #[t,u] ty #[.slice none 0 0,vx]).run P w=.ok (.slice (some ⟨w.heap.size,0,none⟩) new.length (grownCap w new.length 0 e)) (w.drew.alloc (.cells (news.toArray++Builtin.zeroCells zv.cells (grownCap w new.length 0 e-new.length)) e))) ∧
      (∀(b:Addr) (sLen sCap:Nat) (olds:List Value),olds.length=sLen*i.size→(∀j v,olds[j]?=some v→w.cell? (b.add j)=some v)→sCap<sLen+new.length→((sLen+new.length:Nat):Int)≤9223372036854775807→Builtin.nextslicecap (sLen+new.length) sCap*i.bytes≤281474976710656 →
        (Builtin.append_ #[t,u] ty #[.slice (some b) sLen sCap,vx]).run P w=.ok (.slice (some ⟨w.heap.size,0,none⟩) (sLen+new.length) (grownCap w (sLen+new.length) sCap e)) (w.drew.alloc (.cells (olds.toArray++news.toArray++Builtin.zeroCells zv.cells (grownCap w (sLen+new.length) sCap e-(sLen+new.length))) e))) ∧
      (∀(g sLen sCap:Nat) (cur:Array Value),w.heap[g]?=some (.cells cur e (0,0))→sLen+new.length≤sCap→sLen*i.size+news.length≤cur.size →
        (Builtin.append_ #[t,u] ty #[.slice (some ⟨g,0,none⟩) sLen sCap,vx]).run P w=.ok (.slice (some ⟨g,0,none⟩) (sLen+new.length) sCap) (w.setRow g (cur.toList.take (sLen*i.size)++news++cur.toList.drop (sLen*i.size+news.length)).toArray)))
    (h:Bt e n i.bytes kind s new S=some (r,S',wr)) :
    ∃v w',(Builtin.append_ #[t,u] ty #[vs,vx]).run P w=.ok v w'∧Rt w ρ S r S' wr v w':=by
  obtain⟨i2,d2,yG,hd2,xE,h0⟩:=Cj hn;rw[hi]at yG;injection yG with yG;subst yG;have hzs:zv.cells.size=n:=by rw[hzc.1,hzl]
  unfold Bt at h;simp only[kA_eq,kW_eq]at h
  have hm63:∀m:Nat,m*i.bytes≤140737488355328→m≤9223372036854775807∧m≤maxLen:=by
    intro m hm;have:m*1≤m*i.bytes:=Nat.mul_le_mul_left _ hb;simp only[maxLen];omega
  split at h
  · -- onto nil
    cases hs;split at h
    · rename_i he;simp only[Oi,Pi_]at h;obtain⟨rfl,rfl,rfl⟩:=h;have he:new=[]:=by simpa using he
      subst he;exact⟨_,w,yj rfl none 0 0 (Nat.le_refl _),Rt.pure hr .R4⟩
    rename_i he;have he:new≠[]:=by simpa using he
    split at h
    · rename_i vS;simp only[Oi,Pi_]at h;obtain⟨rfl,rfl,rfl⟩:=h;obtain⟨news,zM,uG,vP,hNil,wN,zL⟩:=zR he;have zh:0<new.length:=List.length_pos_iff.2 he;obtain⟨k1,k2⟩:=hm63 _ vS;have xA:=hNil zh (by omega) (by omega);have xw:=Rw.drewAlloc w (.cells (news.toArray++Builtin.zeroCells zv.cells (grownCap w new.length 0 e-new.length)) e);have wJ:=grownCap_ge w new.length 0 e;have w9:=grownCap_le_maxLen w new.length 0 e k2
      have yt:RowsIn (kind≠0) w ρ S.heap n new (news.toArray++Builtin.zeroCells zv.cells (grownCap w new.length 0 e-new.length)) :=
        ⟨yN,fun i' r' j d hi' hj=>by
          obtain⟨q1,q2,v,q3,q4⟩:=vP i' r' j d hi' hj;refine⟨q1,q2,v,?_,q4⟩;rw[Array.getElem?_append_left (by have:=lt_of_some q3;simpa using this)]
          simpa using q3⟩
      have wH:(news.toArray++Builtin.zeroCells zv.cells (grownCap w new.length 0 e-new.length)).size=grownCap w new.length 0 e*n:=by
        simp only[Array.size_append,List.size_toArray,size_zeroCells,hzs,zM,←Nat.add_mul];congr 1;omega
      refine⟨_,_,xA,_,Hg (ob:=⟨e,n,new,0,kind,true⟩) hr xw h0 ⟨_,wH,wJ,w9,by simp⟩ yN hk (fun i' r' j d hi' hj=>?_),Eu hr xw,?_,by simp⟩
      · obtain ⟨q1, q2, q3⟩ := yt.2 i' r' j d hi' hj;exact⟨q1,q2,q3⟩
      refine .msl _ 0 0 _ none _ _ ⟨e,n,new,0,kind,true⟩ wJ (fun k hk=>by cases hk) (by simp[newAt]) (Nat.le_refl _) (by rcases hk with rfl | rfl | rfl<;>simp) fun _=>⟨w.heap.size,by simp[upd],by simp,fun _=>by simp,fun _=>⟨_,xw.new,by simpa using wH⟩⟩
    simp at h
  · -- onto an immutable slice
    rename_i s' rows cap
    cases hs with
    | sl _ _ _ A' n' c' hn' wW wm hz' b' o' f' hA' hc' hv' =>
    split at h
    · rename_i he;simp only[Oi,Pi_]at h;obtain⟨rfl,rfl,rfl⟩:=h;have he:new=[]:=by simpa using he
      subst he;exact⟨_,w,yj rfl _ _ _ wW,Rt.pure hr (.sl _ _ _ A' n' c' hn' wW wm hz' b' o' f' hA' hc' hv')⟩
    rename_i he;have he:new≠[]:=by simpa using he
    split at h
    · rename_i xO;obtain⟨rfl,zO,vS⟩:=xO;simp only[Oi,Pi_]at h;obtain⟨rfl,rfl,rfl⟩:=h;obtain⟨news,zM,uG,vP,hNil,wN,zL⟩:=zR he;have zh:0<new.length:=List.length_pos_iff.2 he;obtain⟨k1,k2⟩:=hm63 _ vS;have yx:=wm _ zO;subst yx hn'
      have holds:∀(q:Nat) (u:Value),(flat rows.length s' f')[q]?=some u→w.cell? (A'.add q)=some u:=by
        intro q u hq;obtain⟨h1,h2,h3,h4⟩:=flat_back h0 hq;have hr1:=hz' _ (List.getElem_mem h1);have:=(hc' _ _ _ _ (Lg h1) (Lg (show q % s'<(rows[q / s']).length by rw[hr1];exact h2))).1;rw[hA' (by rintro rfl;simp at h1),add_plain,h3];rw[Nat.add_assoc,←h4]at this;exact this
      have xA:=wN A' rows.length rows.length (flat rows.length s' f') (by rw[Kw,xE]) holds (by omega) (by omega) (growslice_fits (by omega) vS);have xw:=Rw.drewAlloc w (.cells ((flat rows.length s' f').toArray++news.toArray++Builtin.zeroCells zv.cells (grownCap w (rows.length+new.length) rows.length e-(rows.length+new.length))) e);have wJ:=grownCap_ge w (rows.length+new.length) rows.length e;have w9:=grownCap_le_maxLen w (rows.length+new.length) rows.length e k2
      have yt:RowsIn (kind≠0) w ρ S.heap s' (rows++new) ((flat rows.length s' f').toArray++news.toArray++Builtin.zeroCells zv.cells (grownCap w (rows.length+new.length) rows.length e-(rows.length+new.length))):=by
        refine Ji (olds:=flat rows.length s' f') (news:=news) rfl hz' yN (fun i' r' j d hi' hj=>?_) (Kw _ _ _) vP (fun q u hq=>?_)
        · have yA : j < s' := by rw [← hz' r' (Lm hi')]; exact lt_of_some hj
          have q8:=(hc' i' r' j d hi' hj).2.2;exact⟨I9 q8,fun _=>q8,_,flat_get (lt_of_some hi') yA,hv' i' r' j d hi' hj⟩
        have qy:=lt_of_some hq;rw[Array.getElem?_append_left (by simpa using qy)];simpa using hq
      have wH:((flat rows.length s' f').toArray++news.toArray++Builtin.zeroCells zv.cells (grownCap w (rows.length+new.length) rows.length e-(rows.length+new.length))).size=grownCap w (rows.length+new.length) rows.length e*s':=by
        simp only[Array.size_append,List.size_toArray,size_zeroCells,hzs,zM,Kw,←Nat.add_mul];congr 1;omega
      refine⟨_,_,xA,_,Hg (ob:=⟨e,s',rows++new,0,kind,true⟩) hr xw h0 ⟨_,wH,by simpa using wJ,w9,by simp⟩ yt.1 hk (fun i' r' j d hi' hj=>?_),Eu hr xw,?_,by simp⟩
      · obtain ⟨q1, q2, q3⟩ := yt.2 i' r' j d hi' hj;exact⟨q1,q2,q3⟩
      refine .msl _ 0 0 _ none _ _ ⟨e,s',rows++new,0,kind,true⟩ wJ (fun k hk=>by cases hk) (by simp[newAt]) (Nat.le_refl _) (by rcases hk with rfl | rfl | rfl<;>simp) fun _=>⟨w.heap.size,by simp[upd],by simp,fun _=>by simp,fun _=>⟨_,xw.new,by simpa using wH⟩⟩
    simp at h
  · -- onto rows of the heap
    rename_i g ver lo n' cap
    cases hs with
    | msl _ _ _ _ _ A' c' ob wW wm hg yh xL xD =>
    unfold rowsOf at h;simp only[hg]at h;by_cases hv:ob.ver=ver
    · subst hv;simp only[if_true]at h;split at h
      · rename_i xO;obtain⟨y7,rfl,rfl,rfl,rfl,zD,vS⟩:=xO;simp only[Oi,Pi_]at h;obtain⟨rfl,rfl,rfl⟩:=h;obtain⟨vX,vW⟩:=kA_ok zD;obtain⟨b0,hρ,y9,hA',zO⟩:=xD rfl;have qb:=hA' (.inr rfl);simp only[Nat.zero_mul]at qb;subst qb;obtain⟨o1,xG,cur,hc,hz,⟨cc,yx,yg,w9,wD⟩,hl,hkk',hh⟩:=hr.cel hρ hg xL;rw[hg]at xG;injection xG with xG;subst xG;obtain⟨cur1,xW,za⟩:=zO rfl;rw[hc]at xW;injection xW with xW;injection xW with xW;subst xW
        have hcc':c'=cc:=by
          rw[yx,Nat.zero_add]at za;exact (Nat.eq_of_mul_eq_mul_right hz za).symm
        subst hcc';obtain⟨k1,k2⟩:=hm63 _ vS
        have uE:∀i r j d,ob.rows[i]?=some r→r[j]?=some d→d.Ru=true∧(kind≠0→d.free=true)∧∃v,(cur.toList.take (ob.rows.length*n))[i*n+j]?=some v∧VR w ρ S.heap d v:=by
          intro i' r' j d hi' hj;obtain⟨q1,q2,v,q3,q4⟩:=hh i' r' j d hi' hj;have yA:j<ob.sz:=by rw[←hl r' (Lm hi')];exact lt_of_some hj
          refine⟨q1,fun h=>q2 (vW h),v,?_,q4⟩;rw[←y7,List.getElem?_take,if_pos (row_in (lt_of_some hi') yA)];simpa using q3
        have wZ:(cur.toList.take (ob.rows.length*n)).length=ob.rows.length*n:=by
          rw[List.length_take,Array.length_toList,yx,y7];exact Nat.min_eq_left (Nat.mul_le_mul_right _ yg)
        have vM:∀q,q<ob.rows.length*n→(cur.toList.take (ob.rows.length*n))[q]?=cur[q]?:=fun q hq=>by
          rw[List.getElem?_take,if_pos hq];simp
        have zI:∀r∈ob.rows,r.length=n:=fun r hr'=>by rw[←y7];exact hl r hr'
        by_cases he:new=[]
        · subst he;have xH:Rx w w b0 (.cells cur ob.elem (0,0)):=⟨rfl,rfl,rfl,rfl,hc,fun _ _=>rfl⟩;have zi:({ ob with rows:=ob.rows++[],ver:=ob.ver+1,grow:=true }:Rf).sz=ob.sz∧({ ob with rows:=ob.rows++[],ver:=ob.ver+1,grow:=true }:Rf).elem=ob.elem∧({ ob with rows:=ob.rows++[],ver:=ob.ver+1,grow:=true }:Rf).kind=ob.kind∧ob.rows.length≤({ ob with rows:=ob.rows++[],ver:=ob.ver+1,grow:=true }:Rf).rows.length∧ob.ver≤({ ob with rows:=ob.rows++[],ver:=ob.ver+1,grow:=true }:Rf).ver:=⟨rfl,rfl,rfl,by simp,by simp⟩;refine⟨_,w,yj rfl _ _ _ wW,ρ,Jj xL hr hρ hg hc xH rfl zi (fun _ _ _=>rfl) ⟨c',yx,by simpa using yg,w9,by simp⟩ (by simpa using hl) (by simpa using hh),H9 hr hρ hg hc xH rfl zi (fun _ _ _=>rfl),?_,by simp⟩;refine .msl g _ 0 _ none _ _ { ob with rows:=ob.rows++[],ver:=ob.ver+1,grow:=true } (by simpa using wW) (fun k hk=>by cases hk) (by simp[setAt,lt_of_some hg]) (Nat.le_refl _) xL fun _=>⟨b0,hρ,by simp,fun _=>by simp,fun _=>⟨cur,hc,za⟩⟩
        obtain⟨news,zM,uG,vP,hNil,wN,zL⟩:=zR he;have zh:0<new.length:=List.length_pos_iff.2 he;by_cases zu:ob.rows.length+new.length≤c'
        · have yE : ob.rows.length * n + news.length ≤ cur.size := by rw [zM, yx, y7, ← Nat.add_mul]; exact Nat.mul_le_mul_right _ zu
          have xA:=zL b0 ob.rows.length c' cur hc zu (by rw[xE];exact yE);rw[xE]at xA;have xH:=Rx.setRow (cs:=(cur.toList.take (ob.rows.length*n)++news++cur.toList.drop (ob.rows.length*n+news.length)).toArray) hc
          have xV:∀q:Nat,(cur.toList.take (ob.rows.length*n)++news++cur.toList.drop (ob.rows.length*n+news.length)).toArray[q]?=if ob.rows.length*n≤q∧q<ob.rows.length*n+news.length then news[q-ob.rows.length*n]? else cur[q]?:=by
            intro q;have:=Jf (cur:=cur.toList) (vs:=news) (o:=ob.rows.length*n) (by simpa using yE) q;simpa using this
          have xR:(cur.toList.take (ob.rows.length*n)++news++cur.toList.drop (ob.rows.length*n+news.length)).toArray.size=cur.size:=by
            simp only[List.size_toArray,Ll_,List.length_take,List.length_drop,Array.length_toList];omega
          generalize (cur.toList.take (ob.rows.length*n)++news++cur.toList.drop (ob.rows.length*n+news.length)).toArray=cur' at xH xV xR xA
          have yt:RowsIn (kind≠0) w ρ S.heap n (ob.rows++new) cur':=by
            refine Ji rfl zI yN uE wZ vP (fun q u hq=>?_);by_cases hq1:q<ob.rows.length*n
            · rw [La_ (by omega), vM q hq1] at hq;rw[xV,if_neg (by omega)];exact hq
            rw[Lr_ (by omega),wZ]at hq;rw[xV,if_pos ⟨by omega,by have:=lt_of_some hq;omega⟩];exact hq
          have zi:({ ob with rows:=ob.rows++new,ver:=ob.ver+1,grow:=true }:Rf).sz=ob.sz∧({ ob with rows:=ob.rows++new,ver:=ob.ver+1,grow:=true }:Rf).elem=ob.elem∧({ ob with rows:=ob.rows++new,ver:=ob.ver+1,grow:=true }:Rf).kind=ob.kind∧ob.rows.length≤({ ob with rows:=ob.rows++new,ver:=ob.ver+1,grow:=true }:Rf).rows.length∧ob.ver≤({ ob with rows:=ob.rows++new,ver:=ob.ver+1,grow:=true }:Rf).ver:=⟨rfl,rfl,rfl,by simp,by simp⟩;have zN:ob.kind=1→∀q,q<ob.rows.length*ob.sz→cur'[q]?=cur[q]?:=fun _ q hq=>by rw[xV,if_neg (by rw[y7]at hq;omega)]
          refine⟨_,_,xA,ρ,Jj xL hr hρ hg hc xH xR zi zN ⟨c',by rw[xR];exact yx,by simpa using zu,w9,by simp⟩ (by simpa [y7] using yt.1) (fun i' r' j d hi' hj=>?_),H9 hr hρ hg hc xH xR zi zN,?_,by simp⟩
          · obtain ⟨q1, q2, q3⟩ := yt.2 i' r' j d hi' hj;exact⟨q1,fun h=>q2 (vX h),by simpa [y7] using q3⟩
          refine .msl g _ 0 _ none _ _ { ob with rows:=ob.rows++new,ver:=ob.ver+1,grow:=true } zu (fun k hk=>by cases hk) (by simp[setAt,lt_of_some hg]) (Nat.le_refl _) xL fun _=>⟨b0,hρ,by simp,fun _=>by simp,fun _=>⟨cur',xH.new,by rw[xR];exact za⟩⟩
        have holds:∀(q:Nat) (u:Value),(cur.toList.take (ob.rows.length*n))[q]?=some u→w.cell? ((⟨b0,0,none⟩:Addr).add q)=some u:=by
          intro q u hq;have qy:=lt_of_some hq;rw[wZ]at qy;rw[vM q qy]at hq;rw[add_plain,Nat.zero_add,cell_of_row w b0 q cur ob.elem (0,0) hc];exact hq
        have xA:=wN ⟨b0,0,none⟩ ob.rows.length c' (cur.toList.take (ob.rows.length*n)) (by rw[wZ,xE]) holds (by omega) (by omega) (growslice_fits (by omega) vS);have xw:=Rw.drewAlloc w (.cells ((cur.toList.take (ob.rows.length*n)).toArray++news.toArray++Builtin.zeroCells zv.cells (grownCap w (ob.rows.length+new.length) c' ob.elem-(ob.rows.length+new.length))) ob.elem);have wJ:=grownCap_ge w (ob.rows.length+new.length) c' ob.elem;have hcm':=grownCap_le_maxLen w (ob.rows.length+new.length) c' ob.elem k2
        have wH:((cur.toList.take (ob.rows.length*n)).toArray++news.toArray++Builtin.zeroCells zv.cells (grownCap w (ob.rows.length+new.length) c' ob.elem-(ob.rows.length+new.length))).size=grownCap w (ob.rows.length+new.length) c' ob.elem*n:=by
          simp only[Array.size_append,List.size_toArray,size_zeroCells,hzs,zM,wZ,←Nat.add_mul];congr 1;omega
        have yt:RowsIn (kind≠0) w ρ S.heap n (ob.rows++new) ((cur.toList.take (ob.rows.length*n)).toArray++news.toArray++Builtin.zeroCells zv.cells (grownCap w (ob.rows.length+new.length) c' ob.elem-(ob.rows.length+new.length))):=by
          refine Ji rfl zI yN uE wZ vP (fun q u hq=>?_);have qy:=lt_of_some hq;rw[Array.getElem?_append_left (by simpa using qy)];simpa using hq
        generalize ((cur.toList.take (ob.rows.length*n)).toArray++news.toArray++Builtin.zeroCells zv.cells (grownCap w (ob.rows.length+new.length) c' ob.elem-(ob.rows.length+new.length)))=cur' at xw yt wH xA;refine⟨_,_,xA,_,rel_move (o':={ ob with rows:=ob.rows++new,ver:=ob.ver+1,grow:=true }) hr hρ hg xw (by simp) rfl (by simpa [y7] using h0) hkk' ⟨_,by rw[wH,←y7],by simpa using wJ,hcm',by simp⟩ (by simpa [y7] using yt.1) (fun i' r' j d hi' hj=>?_),stp_move (o':={ ob with rows:=ob.rows++new,ver:=ob.ver+1,grow:=true }) hr hρ hg xw (by simp) rfl,?_,by simp⟩
        · obtain ⟨q1, q2, q3⟩ := yt.2 i' r' j d hi' hj;exact⟨q1,fun h=>q2 (vX h),by simpa [y7] using q3⟩
        refine .msl g _ 0 _ none _ _ { ob with rows:=ob.rows++new,ver:=ob.ver+1,grow:=true } wJ (fun k hk=>by cases hk) (by simp[setAt,lt_of_some hg]) (Nat.le_refl _) xL fun _=>⟨w.heap.size,by simp[upd],by simp,fun _=>by simp,fun _=>⟨cur',xw.new,by rw[wH,y7];simp⟩⟩
      split at h
      · rename_i xO;obtain⟨y7,hel,rfl,rfl,zD,hin'⟩:=xO;simp only[Oi,Pi_]at h;obtain⟨rfl,rfl,rfl⟩:=h
        exact append_over hr xE wW hg xL (xD rfl) y7 hel zD hin' yN yj (fun he=>by
          obtain⟨news,zM,_,vP,_,_,zL⟩:=zR he
          exact⟨news,zM,vP,zL⟩)
      split at h
      · rename_i xO;obtain⟨y7,rfl,rfl,zD,vS⟩:=xO;obtain⟨vX,vW⟩:=kA_ok zD;have yx:=wm _ rfl;subst yx;obtain⟨b0,hρ,y9,hA',_⟩:=xD rfl;obtain⟨o1,xG,cur,hc,hz,⟨cc,yx,yg,w9,wD⟩,hl,hkk',hh⟩:=hr.cel hρ hg xL;rw[hg]at xG;injection xG with xG;subst xG;split at h
        · rename_i he;simp only[Oi,Pi_]at h;obtain⟨rfl,rfl,rfl⟩:=h;have he:new=[]:=by simpa using he
          subst he;exact⟨_,w,yj rfl _ _ _ (Nat.le_refl _),Rt.pure hr (.msl _ _ _ _ _ A' c' ob (Nat.le_refl _) wm hg (Nat.le_refl _) xL xD)⟩
        rename_i he;have he:new≠[]:=by simpa using he
        simp only[Oi,Pi_]at h;obtain⟨rfl,rfl,rfl⟩:=h;obtain⟨news,zM,uG,vP,hNil,wN,zL⟩:=zR he;have zh:0<new.length:=List.length_pos_iff.2 he;obtain⟨k1,k2⟩:=hm63 _ vS;have zI:∀r∈(ob.rows.drop lo).take c',r.length=n:=fun r hr'=>by rw[←y7];exact hl r (Dk hr')
        have xB:((ob.rows.drop lo).take c').length=c':=by simp;omega
        have wV:((cur.toList.drop (lo*n)).take (c'*n)).length=c'*n:=by
          rw[List.length_take,List.length_drop,Array.length_toList,yx,y7,←Nat.sub_mul];exact Nat.min_eq_left (Nat.mul_le_mul_right _ (by omega))
        have xV:∀q,q<c'*n→((cur.toList.drop (lo*n)).take (c'*n))[q]?=cur[lo*n+q]?:=fun q hq=>by
          rw[List.getElem?_take,if_pos hq,List.getElem?_drop];simp
        have uE:∀i r j d,((ob.rows.drop lo).take c')[i]?=some r→r[j]?=some d→d.Ru=true∧(kind≠0→d.free=true)∧∃v,((cur.toList.drop (lo*n)).take (c'*n))[i*n+j]?=some v∧VR w ρ S.heap d v:=by
          intro i' r' j d hi' hj;obtain⟨p1,p2⟩:=Cu hi';obtain⟨q1,q2,v,q3,q4⟩:=hh _ r' j d p1 hj;have yA:j<n:=by rw[←zI r' (Lm hi')];exact lt_of_some hj
          refine⟨q1,fun h=>q2 (vW h),v,?_,q4⟩;rw[xV _ (row_in p2 yA),←q3,y7];congr 1;rw[Nat.add_mul,Nat.add_assoc]
        have holds:∀(q:Nat) (u:Value),((cur.toList.drop (lo*n)).take (c'*n))[q]?=some u→w.cell? (A'.add q)=some u:=by
          intro q u hq;have qy:=lt_of_some hq;rw[wV]at qy;rw[xV q qy]at hq;have hn0:c'≠0:=by rintro rfl;simp at qy
          rw[hA' (.inl hn0),add_plain,cell_of_row w b0 _ cur ob.elem (0,0) hc,y7];exact hq
        have xA:=wN A' c' c' ((cur.toList.drop (lo*n)).take (c'*n)) (by rw[wV,xE]) holds (by omega) (by omega) (growslice_fits (by omega) vS);have xw:=Rw.drewAlloc w (.cells (((cur.toList.drop (lo*n)).take (c'*n)).toArray++news.toArray++Builtin.zeroCells zv.cells (grownCap w (c'+new.length) c' ob.elem-(c'+new.length))) ob.elem);have wJ:=grownCap_ge w (c'+new.length) c' ob.elem;have hcm':=grownCap_le_maxLen w (c'+new.length) c' ob.elem k2
        have wH:(((cur.toList.drop (lo*n)).take (c'*n)).toArray++news.toArray++Builtin.zeroCells zv.cells (grownCap w (c'+new.length) c' ob.elem-(c'+new.length))).size=grownCap w (c'+new.length) c' ob.elem*n:=by
          simp only[Array.size_append,List.size_toArray,size_zeroCells,hzs,zM,wV,←Nat.add_mul];congr 1;omega
        have yt:RowsIn (kind≠0) w ρ S.heap n ((ob.rows.drop lo).take c'++new) (((cur.toList.drop (lo*n)).take (c'*n)).toArray++news.toArray++Builtin.zeroCells zv.cells (grownCap w (c'+new.length) c' ob.elem-(c'+new.length))):=by
          refine Ji xB.symm zI yN uE wV vP (fun q u hq=>?_);have qy:=lt_of_some hq;rw[Array.getElem?_append_left (by simpa using qy)];simpa using hq
        refine⟨_,_,xA,_,Hg (ob:=⟨ob.elem,n,(ob.rows.drop lo).take c'++new,0,kind,true⟩) hr xw h0 ⟨_,wH,by simp only[Ll_,xB];exact wJ,hcm',by simp⟩ yt.1 hk (fun i' r' j d hi' hj=>?_),Eu hr xw,?_,by simp⟩
        · obtain ⟨q1, q2, q3⟩ := yt.2 i' r' j d hi' hj;exact⟨q1,q2,q3⟩
        refine .msl _ 0 0 _ none _ _ ⟨ob.elem,n,(ob.rows.drop lo).take c'++new,0,kind,true⟩ wJ (fun k hk=>by cases hk) (by simp[newAt]) (Nat.le_refl _) (by rcases hk with rfl | rfl | rfl<;>simp) fun _=>⟨w.heap.size,by simp[upd],by simp only[Ll_,xB];omega,fun _=>by simp,fun _=>⟨_,xw.new,by simpa using wH⟩⟩
      simp at h
    simp[hv]at h
  simp at h
theorem append_ok{t ty e:TypeId}{i:TypeInfo}{n kind:Nat}{z:List D}{s x r:D}{vs vx:Value}{S':St}{wr:Bool}(hr:Rel w ρ S.heap)(ht:P.underlying t=some (.slice e))(hi:P.info? e=some i)(hn:Ch P e=some n)(hz:Fx P e=some z)(hzl:z.length=n)(hb:0<i.bytes)(hk:kind=0∨kind=1∨kind=2)
    (hs:VR w ρ S.heap s vs) (hx:VR w ρ S.heap x vx) (h:Ct e n i.bytes kind s x S=some (r,S',wr)) :
    ∃v w',(Builtin.append_ #[t,t] ty #[vs,vx]).run P w=.ok v w'∧Rt w ρ S r S' wr v w':=by
  obtain⟨i1,zv,wG,zC,hzc,_,_⟩:=El (w:=w) (ρ:=ρ) (H:=S.heap) hz;rw[hi]at wG;injection wG with wG;subst wG;obtain⟨i2,d2,yG,hd2,xE,h0⟩:=Cj hn;rw[hi]at yG;injection yG with yG;subst yG;unfold Ct at h;change (match P5 kind S n x with | none=>none | some new=>Bt e n i.bytes kind s new S)=_ at h
  cases qN:P5 kind S n x with
  | none=>simp[qN]at h
  | some new =>
    simp only[qN]at h;obtain⟨A,c,rfl,yN,wR⟩:=srcK_ok hr hx qN;refine Qx hr hi hn hzc hzl hb hk hs yN ?_ ?_ h
    · rintro rfl A' m c' hm;exact appNone ht hi hm
    intro xu;obtain⟨b,o,f,rfl,hf⟩:=wR xu
    have hat:∀(q:Nat) (u:Value),(flat new.length n f)[q]?=some u→∃(r:List D) (d:D),new[q / n]?=some r∧r[q % n]?=some d∧u=f (q / n) (q % n)∧q=q / n*n+q % n:=by
      intro q u hq;obtain⟨h1,h2,h3,h4⟩:=flat_back h0 hq;have hr1:=yN _ (List.getElem_mem h1);exact⟨new[q / n],(new[q / n])[q % n]'(by rw[hr1];exact h2),Lg h1,Lg _,h3,h4⟩
    have zM:(flat new.length n f).length=new.length*n:=Kw _ _ _
    have xS:∀j u,(flat new.length n f)[j]?=some u→w.cell? ((⟨b,o,none⟩:Addr).add j)=some u:=fun j u hj=>by
      obtain⟨r,d,h1,h2,h3,h4⟩:=hat j u hj;rw[add_plain,h3];have:=(hf _ r _ d h1 h2).1;rw[Nat.add_assoc,←h4]at this;exact this
    have uG:∀u∈flat new.length n f,u.oneCell'=true:=fun u hu=>by
      obtain⟨q,hq,rfl⟩:=List.mem_iff_getElem.1 hu;obtain⟨r,d,h1,h2,h3,h4⟩:=hat q _ (Lg hq);rw[h3];exact ((hf _ r _ d h1 h2).2.1.oneCell (hf _ r _ d h1 h2).2.2.1).1
    refine⟨flat new.length n f,zM,uG,fun i r j d hi' hj=>?_,fun zh k1 k2=>?_,fun bb sLen sCap olds y9 holds hg k1 k2=>?_,fun g sLen sCap cur hg zu yE=>?_⟩
    · obtain ⟨h1, h2, h3, h4⟩ := hf i r j d hi' hj;have yA:j<n:=by rw[←yN r (Lm hi')];exact lt_of_some hj
      exact⟨h3,h4,_,flat_get (lt_of_some hi') yA,h2⟩
    · exact run_append_nil (P:=P) w t ty e i zv ht hi zC ⟨b,o,none⟩ new.length c _ (by rw[xE];exact zM) xS zh k1 k2
    · exact run_append_grow (P:=P) w t ty e i zv ht hi zC bb sLen sCap olds y9 holds ⟨b,o,none⟩ new.length c _ (by rw[xE];exact zM) xS hg k1 k2
    exact run_append_room (P:=P) w t ty e i ht hi g sLen sCap cur hg ⟨b,o,none⟩ new.length c _ (by rw[xE];exact zM) xS uG zu yE
end
open Go.RowKit
section
variable {P:Program} {w:World} {ρ:Rm} {S:St}
def nilV:Nat→Value
 | 0=>.slice none 0 0
 | 1=>.pointer none
 | 2=>.nilFunc
 | 3=>.map none
 | _=>.nilIface
def someV:Nat→Value→Prop
 | 0,v=>∃a n c,v=.slice (some a) n c
 | 1,v=>∃a,v=.pointer (some a)
 | 2,v=>∃f a b,v=.func f a b
 | 3,v=>∃r,v=.map (some r)
 | _,v=>∃t x,v=.iface t x
theorem nil_true{H:List Rf}{d:D}{v:Value}{fam:Nat}(h:VR w ρ H d v)(hn:isNil fam d=some true):v=nilV fam∧fam≤4:=by
 unfold isNil at hn;split at hn
 all_goals first
  | (simp at hn;done)
  | (cases h;exact⟨rfl,by omega⟩)
theorem nil_false{H:List Rf}{d:D}{v:Value}{fam:Nat}(h:VR w ρ H d v)(hn:isNil fam d=some false):someV fam v∧fam≤4:=by
 unfold isNil at hn;split at hn
 all_goals first
  | (simp at hn;done)
  | (cases h<;>exact⟨⟨_,_,_,rfl⟩,by omega⟩)
  | (cases h<;>exact⟨⟨_,rfl⟩,by omega⟩)
  | (cases h<;>exact⟨⟨_,_,rfl⟩,by omega⟩)
theorem nilT_desc{t:TypeId}{fam:Nat}(ht:nilT P t=some fam):(fam=0∧∃e,P.underlying t=some (.slice e))∨(fam=1∧∃e,P.underlying t=some (.pointer e))∨(fam=2∧∃a b c,P.underlying t=some (.func a b c))∨(fam=3∧∃a b,P.underlying t=some (.map a b))∨(fam=4∧∃m,P.underlying t=some (.interface m)):=by
 unfold nilT at ht;split at ht<;>simp only[Oi,reduceCtorEq]at ht
 ·
  rename_i e hu;exact .inl ⟨ht.symm,_,hu⟩
 ·
  rename_i e hu;exact .inr (.inl ⟨ht.symm,_,hu⟩)
 ·
  rename_i a b c hu;exact .inr (.inr (.inl ⟨ht.symm,_,_,_,hu⟩))
 ·
  rename_i a b hu;exact .inr (.inr (.inr (.inl ⟨ht.symm,_,_,hu⟩)))
 rename_i m hu;exact .inr (.inr (.inr (.inr ⟨ht.symm,_,hu⟩)))
theorem eqnil_ok {H : List Rf} {d1 d2 : D} {v1 v2 : Value} {t : TypeId} {b : Bool} {fam : Nat} {op : BinOp} {x y : Operand} (ho : op = .eql ∨ op = .neq) (ht : nilT P t = some fam) (hf1 : fam ≠ 1) (hcon : fam = 4 → isConst x = true ∨ isConst y = true) (h1 : VR w ρ H d1 v1) (h2 : VR w ρ H d2 v2) (h : eqnilD fam d1 d2 = some b) :
    ∃v,(do eqGuard op t x y v1 v2;binOp op t v1 v2).run P w=.ok v w∧VR w ρ H (.bool (b != decide (op=.neq))) v:=by
  have key:(∀d:Nat,(Op.equalIn (d+1) t v1 v2).run P w=.ok b w)→(eqGuard op t x y v1 v2).run P w=.ok () w→(op=.eql→binOp op t v1 v2=(do pure (.bool (←Op.equal t v1 v2))))→(op=.neq→binOp op t v1 v2=(do pure (.bool (!(←Op.equal t v1 v2))))) →
      ∃v,(do eqGuard op t x y v1 v2;binOp op t v1 v2).run P w=.ok v w∧VR w ρ H (.bool (b != decide (op=.neq))) v:=by
    intro he hg hb1 hb2;have hq:(Op.equal t v1 v2).run P w=.ok b w:=he 9999;rcases ho with rfl | rfl
    · exact⟨.bool b,by rw[Ad hg,hb1 rfl,Ad hq];rfl,by cases b<;>exact .bool _⟩
    exact⟨.bool !b,by rw[Ad hg,hb2 rfl,Ad hq];rfl,by cases b<;>exact .bool _⟩
  have hcon':fam=4→(eqGuard op t x y .nilIface .nilIface).run P w=.ok () w:=by
    intro hf;rcases hcon hf with hc | hc
    · cases x <;> simp [isConst] at hc;rcases ho with rfl | rfl<;>simp[eqGuard]
    cases y<;>simp[isConst]at hc;rcases ho with rfl | rfl<;>simp[eqGuard]
  have fin:∀{u1 u2:Value},v1=u1→v2=u2→(∀d:Nat,(Op.equalIn (d+1) t u1 u2).run P w=.ok b w)→(eqGuard op t x y u1 u2).run P w=.ok () w→(op=.eql→binOp op t u1 u2=(do pure (.bool (←Op.equal t u1 u2))))→(op=.neq→binOp op t u1 u2=(do pure (.bool (!(←Op.equal t u1 u2))))) →
      ∃v,(do eqGuard op t x y v1 v2;binOp op t v1 v2).run P w=.ok v w∧VR w ρ H (.bool (b != decide (op=.neq))) v:=by
    rintro u1 u2 rfl rfl;exact key
  have xq:=nilT_desc ht;unfold eqnilD at h;split at h
  · rename_i b' uG hn2;simp only[Oi]at h;subst h;obtain⟨e1,_⟩:=nil_true h1 uG
    cases b' with
    | true =>
      obtain⟨e2,_⟩:=nil_true h2 hn2;rcases xq with⟨rfl,e,hu⟩ | ⟨rfl,e,hu⟩ | ⟨rfl,a,b,c,hu⟩ | ⟨rfl,a,b,hu⟩ | ⟨rfl,m,hu⟩
      · exact fin e1 e2 (fun d=>by unfold Op.equalIn;rw[Ad (run_underlying hu w)];rfl) (by rcases ho with rfl | rfl<;>rfl) (by rintro rfl;rfl) (by rintro rfl;rfl)
      · exact absurd rfl hf1
      · exact fin e1 e2 (fun d=>by unfold Op.equalIn;rw[Ad (run_underlying hu w)];rfl) (by rcases ho with rfl | rfl<;>rfl) (by rintro rfl;rfl) (by rintro rfl;rfl)
      · exact fin e1 e2 (fun d=>by unfold Op.equalIn;rw[Ad (run_underlying hu w)];rfl) (by rcases ho with rfl | rfl<;>rfl) (by rintro rfl;rfl) (by rintro rfl;rfl)
      have hc:=hcon' rfl;exact fin e1 e2 (fun d=>by unfold Op.equalIn;rw[Ad (run_underlying hu w)];rfl) hc (by rintro rfl;rfl) (by rintro rfl;rfl)
    | false =>
      obtain⟨e2,_⟩:=nil_false h2 hn2;rcases xq with⟨rfl,e,hu⟩ | ⟨rfl,e,hu⟩ | ⟨rfl,a,b,c,hu⟩ | ⟨rfl,a,b,hu⟩ | ⟨rfl,m,hu⟩
      · obtain ⟨p, q, r, e2⟩ := e2;exact fin e1 e2 (fun d=>by unfold Op.equalIn;rw[Ad (run_underlying hu w)];rfl) (by rcases ho with rfl | rfl<;>rfl) (by rintro rfl;rfl) (by rintro rfl;rfl)
      · exact absurd rfl hf1
      · obtain ⟨p, q, r, e2⟩ := e2;exact fin e1 e2 (fun d=>by unfold Op.equalIn;rw[Ad (run_underlying hu w)];rfl) (by rcases ho with rfl | rfl<;>rfl) (by rintro rfl;rfl) (by rintro rfl;rfl)
      · obtain ⟨p, e2⟩ := e2;exact fin e1 e2 (fun d=>by unfold Op.equalIn;rw[Ad (run_underlying hu w)];rfl) (by rcases ho with rfl | rfl<;>rfl) (by rintro rfl;rfl) (by rintro rfl;rfl)
      obtain⟨p,q,e2⟩:=e2;exact fin e1 e2 (fun d=>by unfold Op.equalIn;rw[Ad (run_underlying hu w)];rfl) (by rcases ho with rfl | rfl<;>rfl) (by rintro rfl;rfl) (by rintro rfl;rfl)
  · rename_i uG hn2;simp only[Oi]at h;subst h;obtain⟨e1,_⟩:=nil_false h1 uG;obtain⟨e2,_⟩:=nil_true h2 hn2;rcases xq with⟨rfl,e,hu⟩ | ⟨rfl,e,hu⟩ | ⟨rfl,a,b,c,hu⟩ | ⟨rfl,a,b,hu⟩ | ⟨rfl,m,hu⟩
    · obtain ⟨p, q, r, e1⟩ := e1;exact fin e1 e2 (fun d=>by unfold Op.equalIn;rw[Ad (run_underlying hu w)];rfl) (by rcases ho with rfl | rfl<;>rfl) (by rintro rfl;rfl) (by rintro rfl;rfl)
    · exact absurd rfl hf1
    · obtain ⟨p, q, r, e1⟩ := e1;exact fin e1 e2 (fun d=>by unfold Op.equalIn;rw[Ad (run_underlying hu w)];rfl) (by rcases ho with rfl | rfl<;>rfl) (by rintro rfl;rfl) (by rintro rfl;rfl)
    · obtain ⟨p, e1⟩ := e1;exact fin e1 e2 (fun d=>by unfold Op.equalIn;rw[Ad (run_underlying hu w)];rfl) (by rcases ho with rfl | rfl<;>rfl) (by rintro rfl;rfl) (by rintro rfl;rfl)
    obtain⟨p,q,e1⟩:=e1;exact fin e1 e2 (fun d=>by unfold Op.equalIn;rw[Ad (run_underlying hu w)];rfl) (by rcases ho with rfl | rfl<;>rfl) (by rintro rfl;rfl) (by rintro rfl;rfl)
  simp at h
theorem mkslice_ok{t e:TypeId}{i:TypeInfo}{n kind:Nat}{z:List D}{kl kc:IntKind}{l c:Int}{r:D}{S':St}{wr:Bool}(hr:Rel w ρ S.heap)(ht:P.underlying t=some (.slice e))(hi:P.info? e=some i)(hn:Ch P e=some n)(hz:Fx P e=some z)(hzl:z.length=n)(hb:0<i.bytes)(hk:kind=0∨kind=1∨kind=2)
    (h:(if 0≤l∧l≤c∧c.toNat*i.bytes≤140737488355328 then some (D.msl S.heap.length 0 0 l.toNat none,newAt S ⟨e,n,List.replicate l.toNat z,0,kind,decide (l≠c)⟩,true) else none)=some (r,S',wr)) :
    ∃v w',(Instr.makeSlice t (.int kl l) (.int kc c)).run P w=.ok v w'∧Rt w ρ S r S' wr v w':=by
  obtain⟨i1,zv,wG,zC,hzc,xq,y8⟩:=El (w:=w) (ρ:=ρ) (H:=S.heap) hz;rw[hi]at wG;injection wG with wG;subst wG;obtain⟨i2,d2,yG,hd2,xE,h0⟩:=Cj hn;rw[hi]at yG;injection yG with yG;subst yG;split at h
  · rename_i hc;obtain⟨hl0,wF,vS⟩:=hc;simp only[Oi,Pi_]at h;obtain⟨rfl,rfl,rfl⟩:=h;have h1:c.toNat*1≤c.toNat*i.bytes:=Nat.mul_le_mul_left _ hb
    have hb48:(i.bytes:Int)*c≤281474976710656:=by
      have h2:((c.toNat*i.bytes:Nat):Int)≤140737488355328:=Int.ofNat_le.2 vS;rw[Int.natCast_mul,Int.toNat_of_nonneg (by omega),Int.mul_comm]at h2;omega
    have xA:=run_make (P:=P) w t e i zv ht hi zC kl kc l c hl0 wF hb48 (by omega);have xw:=Rw.alloc w (.cells (madeCells zv.cells (c.toNat*i.size)) e);rw[xE]at xA xw;subst hzl;have wH:(madeCells zv.cells (c.toNat*z.length)).size=c.toNat*z.length:=size_madeCells _ _;have yt:=RowsIn.replicate (kk:=True) hzc xq y8 c.toNat h0
    have hrep:∀(j:Nat) (r:List D),(List.replicate l.toNat z)[j]?=some r→(List.replicate c.toNat z)[j]?=some r:=by
      intro j r hj;have yA:=lt_of_some hj;rw[List.length_replicate]at yA;have:r=z:=List.eq_of_mem_replicate (Lm hj);subst this;rw[List.getElem?_replicate,if_pos (by omega)]
    refine⟨_,_,xA,_,Hg (ob:=⟨e,z.length,List.replicate l.toNat z,0,kind,decide (l≠c)⟩) hr xw h0 ⟨c.toNat,wH,by simp;omega,by simp only[maxLen];omega,fun hg=>?_⟩ (fun r hr'=>by rw[List.eq_of_mem_replicate hr']) hk (fun i' r' j d hi' hj=>?_),Eu hr xw,?_,by simp⟩
    · have : l = c := by simpa using hg
      simp[this]
    · obtain ⟨q1, q2, q3⟩ := yt.2 i' r' j d (hrep _ _ hi') hj;exact⟨q1,fun _=>q2 trivial,q3⟩
    refine .msl _ 0 0 _ none _ _ ⟨e,z.length,List.replicate l.toNat z,0,kind,decide (l≠c)⟩ (by omega) (fun k hk=>by cases hk) (by simp[newAt]) (Nat.le_refl _) (by rcases hk with rfl | rfl | rfl<;>simp) fun _=>⟨w.heap.size,by simp[upd],by simp,fun _=>by simp,fun _=>⟨_,xw.new,by simpa using wH⟩⟩
  simp at h
theorem foldl_push(ns:List Int):∀r:ByteArray,ns.foldl (fun r n=>r.push (UInt8.ofNat n.toNat)) r=⟨r.data++(ns.map fun n=>UInt8.ofNat n.toNat).toArray⟩:=by
 induction ns with
 | nil=>intro r;simp
 | cons n ns ih =>
  intro r;rw[List.foldl_cons,ih];simp[ByteArray.push]
theorem Oj:∀{rows:List (List D)} {b:List UInt8},bytesOf rows=some b→∃ns:List Int,rows=ns.map (fun n=>[D.int .u8 n])∧b=ns.map fun n=>UInt8.ofNat n.toNat
  | [],b,h=>by simp only[bytesOf,Oi]at h;subst h;exact⟨[],rfl,rfl⟩
  | r :: rows, b, h => by
    unfold bytesOf at h;split at h
    · simp at *
    · rename_i n l uK;simp only[List.cons.injEq]at uK;obtain⟨rfl,rfl⟩:=uK;simp only[Om]at h;obtain⟨b',hb',rfl⟩:=h;obtain⟨ns,h1,h2⟩:=Oj hb';exact⟨n::ns,by rw[h1];rfl,by rw[h2];rfl⟩
    simp at h
theorem bstr_ok{x:D}{v:Value}{rows:List (List D)}{b:List UInt8}{s d e:TypeId}(hr:Rel w ρ S.heap)(hs:P.underlying s=some (.slice e))(he:P.underlying e=some (.int .u8))(hd:P.underlying d=some .string)(hx:VR w ρ S.heap x v)(xB:Co S 1 x=some rows)(hb:bytesOf rows=some b) :
    (convert s d v).run P w=.ok (.string ⟨b.toArray⟩) w:=by
  obtain⟨A,c,rfl,hl,wR⟩:=src_ok (kk:=True) hr hx xB;obtain⟨ns,rfl,rfl⟩:=Oj hb;rw[run_convert_bytes_string w s d e A _ c hs he hd];by_cases xu:ns=[]
  · subst xu
    cases A with
    | none=>simp[Conv.bytesToString];rfl
    | some a =>
      exact run_bytesToString (P:=P) w a 0 c [] (by simp[loadCells,loadCellsFrom])
  obtain⟨bb,o,f,rfl,hf⟩:=wR (by simpa using xu)
  have xI:∀j v,(ns.map (Value.int .u8))[j]?=some v→w.cell? ((⟨bb,o,none⟩:Addr).add j)=some v:=by
    intro j v hj;simp only[Lp_,Om]at hj;obtain⟨n,hn,rfl⟩:=hj;have xY:(ns.map fun n=>[D.int .u8 n])[j]?=some [D.int .u8 n]:=by simp[hn]
    obtain⟨h1,h2,_⟩:=hf j _ 0 (.int .u8 n) xY rfl;rw[Nat.mul_one,Nat.add_zero]at h1;generalize f j 0=u at h1 h2;cases h2;rw[add_plain];exact h1
  have hload:=run_loadCells_list (P:=P) w ⟨bb,o,none⟩ (ns.map (Value.int .u8)) xI;rw[List.length_map]at hload;have:=run_bytesToString (P:=P) w ⟨bb,o,none⟩ ns.length c ns hload;rw[List.length_map,this,foldl_push];simp[ByteArray.empty,ByteArray.emptyWithCapacity];rfl
theorem strb_ok {s : ByteArray} {ss d e : TypeId} (hr : Rel w ρ S.heap) (hs : P.underlying ss = some .string) (hd : P.underlying d = some (.slice e)) (he : P.underlying e = some (.int .u8)) :
    ∃v w',(convert ss d (.string s)).run P w=.ok v w'∧Rt w ρ S (.sl 1 (Ck s) none) S false v w':=by
  obtain⟨cap,xC,wJ⟩:∃cap,cap=(Question.appendCap s.size 0 e).cut (w.tape w.drawn (.appendCap s.size 0 e))∧s.size≤cap:=⟨_,rfl,by simp[Question.cut]⟩
  let cs:Array Value:=(s.data.map fun b=>(.int .u8 b.toNat:Value))++Array.replicate (cap-s.size) (.int .u8 0)
  have xA:(convert ss d (.string s)).run P w=.ok (.slice (some ⟨w.heap.size,0,none⟩) s.size cap) ((w.drew.alloc (.cells cs e)).freeze ⟨w.heap.size,cs.size,none⟩ 1):=by
    have h0:(convert ss d (.string s)).run P w=(Conv.stringToBytes e s).run P w:=by
      simp[convert,run_underlying hs,run_underlying hd,run_underlying he]
    have h1:(choose (.appendCap s.size 0 e)).run P w=.ok cap w.drew:=by rw[xC];rfl
    have h2:(newRow e cs).run P w.drew=.ok ⟨w.heap.size,0,none⟩ (w.drew.alloc (.cells cs e)):=rfl
    have h3:(markStringish ⟨w.heap.size,0,none⟩).run P (w.drew.alloc (.cells cs e))=.ok () ((w.drew.alloc (.cells cs e)).freeze ⟨w.heap.size,cs.size,none⟩ 1):=by
      have hsh:(w.drew.alloc (.cells cs e)).shape? w.heap.size=some (e,cs.size):=by
        unfold World.shape?;rw[show (w.drew.alloc (.cells cs e)).heap[w.heap.size]?=some (.cells cs e) from heap_alloc_new w.drew _]
      unfold markStringish;rw[Ad (run_shape P _ _),hsh];rfl
    rw[h0];unfold Conv.stringToBytes;rw[Ad h1];show (do let a ←newRow e cs;markStringish a;pure (.slice (some a) s.size cap):Sem Value).run P w.drew=_;rw[Ad h2,Ad h3];rfl
  have xw:Rw w ((w.drew.alloc (.cells cs e)).freeze ⟨w.heap.size,cs.size,none⟩ 1) (.cells cs e (cs.size,cs.size+1)):=by
    have h1:=Rw.drewAlloc w (.cells cs e);refine⟨rfl,rfl,rfl,?_,?_,fun k hk=>?_⟩
    · simp[World.freeze]
    · have xu : ¬ ((1 : Nat) = 0) := by omega
      unfold World.freeze;rw[if_neg xu];show (Array.modify _ _ _)[w.heap.size]?=_;rw[Array.getElem?_modify,h1.new,if_pos rfl];rfl
    have xu:¬((1:Nat)=0):=by omega
    unfold World.freeze;rw[if_neg xu];show (Array.modify _ _ _)[k]?=_;rw[Array.getElem?_modify,if_neg (show ¬w.heap.size=k by omega)];exact h1.old k hk
  refine⟨_,_,xA,ρ,Ki hr xw,Fy hr xw,?_,fun _=>⟨ext_add xw,rfl,rfl⟩⟩;have xk:(Ck s).length=s.size:=by unfold Ck;rw[List.length_map,Array.length_toList];rfl
  refine .sl 1 (Ck s) none _ s.size cap xk.symm wJ (fun k hk=>by cases hk) (fun r hr'=>?_) w.heap.size 0 (fun i j=>cs.getD i undef) (fun _=>rfl) (fun i r j d hi hj=>?_) (fun i r j d hi hj=>?_)
  · unfold Ck at hr';obtain⟨b,_,rfl⟩:=List.mem_map.1 hr';rfl
  · simp only [Ck, Lp_, Om] at hi;obtain⟨b,hb,rfl⟩:=hi
    cases j with
    | succ j=>simp at hj
    | zero =>
      simp at hj;subst hj;have yJ:i<s.data.size:=by have:=lt_of_some hb;simpa using this
      have hci:cs[i]?=some (.int .u8 b.toNat):=by
        simp only[cs];rw[Array.getElem?_append_left (by simpa using yJ)];simp at hb;simp[hb]
      refine⟨?_,⟨by rw[xw.size];omega,fun hx=>by have:=(hr.hid _ _ hx).1;omega,fun g hg=>by have:=hr.lt hg;omega⟩,rfl⟩;rw[cell_of_row _ _ _ cs e _ xw.new,Nat.zero_add,Nat.mul_one,Nat.add_zero,hci];obtain⟨h5,h6⟩:=Array.getElem?_eq_some_iff.1 hci;simp[Array.getD,h5,h6]
  simp only[Ck,Lp_,Om]at hi;obtain⟨b,hb,rfl⟩:=hi
  cases j with
  | succ j=>simp at hj
  | zero =>
    simp at hj;subst hj;have yJ:i<s.data.size:=by have:=lt_of_some hb;simpa using this
    have hci:cs[i]?=some (.int .u8 b.toNat):=by
      simp only[cs];rw[Array.getElem?_append_left (by simpa using yJ)];simp at hb;simp[hb]
    obtain⟨h5,h6⟩:=Array.getElem?_eq_some_iff.1 hci;have:cs.getD i undef=.int .u8 b.toNat:=by simp[Array.getD,h5,h6]
    rw[this];exact .int _ _
theorem keyT_some{t:TypeId}{kf:Nat}(h:keyT P t=some kf):∃kd,P.underlying t=some kd∧((kf=0∧∃q,kd=.int q)∨(kf=1∧kd=.string)∨(kf=2∧kd=.bool)):=by
 unfold keyT at h;split at h<;>simp only[Oi,reduceCtorEq]at h<;>subst h
 ·
  rename_i q hu;exact⟨_,hu,.inl ⟨rfl,q,rfl⟩⟩
 ·
  rename_i hu;exact⟨_,hu,.inr (.inl ⟨rfl,rfl⟩)⟩
 rename_i hu;exact⟨_,hu,.inr (.inr ⟨rfl,rfl⟩)⟩
theorem same_now{H:List Rf}{k a:D}{vk va:Value}{b:Bool}{kd:TypeDesc}{kf:Nat}(ug:(kf=0∧∃q,kd=.int q)∨(kf=1∧kd=.string)∨(kf=2∧kd=.bool))(xU:isKey kf k=true)(hk:VR w ρ H k vk)(ha:VR w ρ H a va)(h:Eh k a=some b):Instr.sameNow kd vk va=some b:=by
 rcases ug with⟨rfl,q,rfl⟩ | ⟨rfl,rfl⟩ | ⟨rfl,rfl⟩
 ·
  cases k<;>simp only[isKey,reduceCtorEq,Bool.false_eq_true]at xU;cases a<;>simp only[Eh,reduceCtorEq]at h;cases hk;cases ha;simpa [Instr.sameNow] using h
 ·
  cases k<;>simp only[isKey,reduceCtorEq,Bool.false_eq_true]at xU;cases a<;>simp only[Eh,reduceCtorEq]at h;cases hk;cases ha;simpa [Instr.sameNow] using h
 cases k<;>simp only[isKey,reduceCtorEq,Bool.false_eq_true]at xU;cases a<;>simp only[Eh,reduceCtorEq]at h;cases hk;cases ha;simpa [Instr.sameNow] using h
theorem find_now {H : List Rf} {k : D} {vk : Value} {kd : TypeDesc} {kf : Nat} (ug : (kf = 0 ∧ ∃ q, kd = .int q) ∨ (kf = 1 ∧ kd = .string) ∨ (kf = 2 ∧ kd = .bool)) (xU : isKey kf k = true) (hk : VR w ρ H k vk) : ∀ {rows : List (List D)} {es : List MapEntry} {i : Nat} {x : Option (Nat × D)}, es.length = rows.length → (∀ (j : Nat) (r : List D), rows[j]? = some r → ∃ (e : MapEntry) (a v : D), es[j]? = some e ∧ r = [a, v] ∧ VR w ρ H a e.key ∧ VR w ρ H v e.val) → Qq k rows i = some x →
    (x=none∧Instr.findNow kd vk es i=some none)∨∃(j:Nat) (v:D) (e:MapEntry) (a:D),x=some (i+j,v)∧rows[j]?=some [a,v]∧es[j]?=some e∧VR w ρ H v e.val∧VR w ρ H a e.key∧Eh k a=some true∧Instr.findNow kd vk es i=some (some (i+j,e.val))
  | [], es, i, x, hl, hh, h => by
    have:es=[]:=by simpa using hl
    subst this;simp only[Qq,Oi]at h;subst h;exact .inl ⟨rfl,rfl⟩
  | r :: rows, es, i, x, hl, hh, h => by
    cases es with
    | nil=>simp at hl
    | cons e es =>
      obtain⟨e',a,v,h1,h2,h3,h4⟩:=hh 0 r rfl;simp at h1;subst h1 h2;simp only[Qq]at h
      cases hb:Eh k a with
      | none=>simp[hb]at h
      | some bb =>
        have uR:=same_now ug xU hk h3 hb
        cases bb with
        | true =>
          simp only[hb,Oi]at h;subst h;exact .inr ⟨0,v,e,a,rfl,rfl,rfl,h4,h3,hb,by simp[Instr.findNow,uR]⟩
        | false =>
          simp only[hb]at h;rcases find_now ug xU hk (es:=es) (by simpa using hl) (fun j r hj=>by simpa using hh (j+1) r (by simpa using hj)) h with⟨rfl,hf⟩ | ⟨j,v2,e2,a2,hx,hr,he,q1,q2,q3,hf⟩
          · exact .inl ⟨rfl,by simp[Instr.findNow,uR,hf]⟩
          refine .inr ⟨j+1,v2,e2,a2,by rw[hx];congr 2;omega,by simpa using hr,by simpa using he,q1,q2,q3,?_⟩;simp only[Instr.findNow,uR,hf];congr 3;omega
theorem run_checkKey{t:TypeId}{kd:TypeDesc}{kf:Nat}{b:Bool}{v:Value}(hu:P.underlying t=some kd)(ug:(kf=0∧∃q,kd=.int q)∨(kf=1∧kd=.string)∨(kf=2∧kd=.bool)):(Instr.checkKey b 10000 t v).run P w=.ok () w:=by
 have:∀n:Nat,(Instr.checkKey b (n+1) t v).run P w=.ok () w:=by
  intro n;unfold Instr.checkKey;rw[Ad (run_underlying hu w)];rcases ug with⟨_,q,rfl⟩ | ⟨_,rfl⟩ | ⟨_,rfl⟩<;>rfl
 exact this 9999
theorem run_findKey{t:TypeId}{kd:TypeDesc}{v:Value}{es:List MapEntry}{x:Option (Nat × Value)}(hu:P.underlying t=some kd)(h:Instr.findNow kd v es 0=some x):(Instr.findKey t v es).run P w=.ok x w:=by
 unfold Instr.findKey;rw[Ad (run_underlying hu w),h];rfl
theorem Ez{b:Nat}{es:Array MapEntry}{clock:Nat}(h:w.heap[b]?=some (.map es clock)):(getObj b).run P w=.ok (.map es clock) w:=by
 simp[getObj,Sem.run,h]
theorem map_rows {m : D} {vm : Value} {rows : List (List D)} (hr : Rel w ρ S.heap) (hm : VR w ρ S.heap m vm) (h : Lr S m = some rows) :
    ∃es:Array MapEntry,(vm=.map none∧es=#[]∨∃b clock,vm=.map (some b)∧w.heap[b]?=some (.map es clock))∧es.size=rows.length∧(∀(j:Nat) (r:List D),rows[j]?=some r→∃(e:MapEntry) (a v:D),es[j]?=some e∧r=[a,v]∧VR w ρ S.heap a e.key∧VR w ρ S.heap v e.val):=by
  unfold Lr at h;split at h
  · cases hm;simp only[Oi]at h;subst h;exact⟨#[],.inl ⟨rfl,rfl⟩,rfl,fun j r hj=>by simp at hj⟩
  · simp only [Oi] at h;subst h
    cases hm with
    | mp _ b clock es f hb hx hf hl hz he hc hh =>
      refine⟨es,.inr ⟨b,clock,rfl,hb⟩,hl,fun j r hj=>?_⟩;obtain⟨e,h1,h2,h3⟩:=he j (lt_of_some hj);have yN:=hz r (Lm hj)
      match r,yN with
      | [a,v],_=>exact⟨e,a,v,h1,rfl,by rw[h2];exact hh j _ 0 a hj rfl,by rw[h3];exact hh j _ 1 v hj rfl⟩
  · rename_i g v
    cases hm with
    | mref _ _ r ob hg hv hh =>
      unfold rowsOf at h;simp only[hg]at h;by_cases qG:ob.ver=v
      · simp only [qG, if_true] at h;split at h
        · rename_i hk;simp only[Oi]at h;subst h;obtain⟨es,clock,hc,hs,hl,xq⟩:=hr.map (hh qG) hg hk.1 hk.2;refine⟨es,.inr ⟨r,clock,rfl,hc⟩,hs,fun j r' hj=>?_⟩;obtain⟨e,k,v,h1,h2,_,_,h5,h6⟩:=xq j r' hj;exact⟨e,k,v,h1,h2,h5,h6⟩
        simp at h
      simp[qG]at h
  simp at h
theorem mapget_ok {t kt e : TypeId} {kf : Nat} {z m k r : D} {vm vk : Value} {ok : Bool} (hr : Rel w ρ S.heap) (ht : P.underlying t = some (.map kt e)) (uf : keyT P kt = some kf) (hz : J6 P e = some z) (hm : VR w ρ S.heap m vm) (hk : VR w ρ S.heap k vk)
    (h:Lp S kf z ok m k=some r):∃v,(Instr.lookup t vm vk ok).run P w=.ok v w∧VR w ρ S.heap r v:=by
  obtain⟨kd,hu,ug⟩:=keyT_some uf;unfold Lp at h;split at h
  · rename_i rows xB;obtain⟨es,hes,xE,xq⟩:=map_rows hr hm xB;split at h
    · rename_i xU
      obtain⟨zv,zG,yI⟩:∃zv,(zeroValue e).run P w=.ok zv w∧VR w ρ S.heap z zv:=by
        unfold J6 at hz;split at hz
        · rename_i i hi;split at hz
          · rename_i zv zC;exact⟨zv,by simp[zeroValue,typeInfo,hi,zC],Jy hz⟩
          simp at hz
        simp at hz
      have wI:∀j v,Instr.findNow kd vk es.toList 0=some (some (j,v))→(Instr.lookup t vm vk ok).run P w=.ok (if ok then .tuple #[v,.bool true] else v) w:=by
        intro j v hx;unfold Instr.lookup;rw[Ad (run_underlying ht w)];rcases hes with⟨rfl,rfl⟩ | ⟨b,clock,rfl,hb⟩
        · simp only;rw[Ad (a:=(#[]:Array MapEntry)) (w':=w) rfl,Ad (run_checkKey hu ug),Ad (run_findKey hu hx)];rfl
        simp only;rw[Ad (Ez hb)];simp only;rw[Ad (a:=es) (w':=w) rfl,Ad (run_checkKey hu ug),Ad (run_findKey hu hx)];rfl
      have yj:Instr.findNow kd vk es.toList 0=some none→(Instr.lookup t vm vk ok).run P w=.ok (if ok then .tuple #[zv,.bool false] else zv) w:=by
        intro hx;unfold Instr.lookup;rw[Ad (run_underlying ht w)];rcases hes with⟨rfl,rfl⟩ | ⟨b,clock,rfl,hb⟩
        · simp only;rw[Ad (a:=(#[]:Array MapEntry)) (w':=w) rfl,Ad (run_checkKey hu ug),Ad (run_findKey hu hx)];simp only;rw[Ad zG];rfl
        simp only;rw[Ad (Ez hb)];simp only;rw[Ad (a:=es) (w':=w) rfl,Ad (run_checkKey hu ug),Ad (run_findKey hu hx)];simp only;rw[Ad zG];rfl
      have zQ:∀(x:D) (v:Value) (b:Bool),VR w ρ S.heap x v→VR w ρ S.heap (.tup [x,.bool b]) (.tuple #[v,.bool b]):=by
        intro x v b hx;have hv:VL w ρ S.heap [x,.bool b] [v,.bool b]:=.cons hx (.cons (.bool _) .nil);exact .tup [x,.bool b] [v,.bool b] rfl (fun j d v=>hv.get)
      cases hf:Qq k rows 0 with
      | none=>simp[hf]at h
      | some x =>
        rcases find_now ug xU hk (es:=es.toList) (by simpa using xE) (fun j r hj=>by obtain⟨e,a,v,h1,h2⟩:=xq j r hj;exact⟨e,a,v,by simpa using h1,h2⟩) hf with⟨rfl,z8⟩ | ⟨j,v,e2,a,rfl,xY,he,q1,q2,q3,z8⟩
        · simp only [hf, Oi] at h;subst h;refine⟨_,yj z8,?_⟩;cases ok
          · exact yI
          exact zQ _ _ _ yI
        simp only[hf,Oi]at h;subst h;refine⟨_,wI _ _ z8,?_⟩;cases ok
        · exact q1
        exact zQ _ _ _ q1
    simp at h
  simp at h
theorem mkmap_ok{t:TypeId}(hr:Rel w ρ S.heap):∃v w',(Instr.makeMap t none).run P w=.ok v w'∧Rt w ρ S (.mref S.heap.length 0) (newAt S ⟨0,2,[],0,3,false⟩) true v w':=by
 have xw:=Rw.alloc w (.map #[] 0);refine⟨.map (some w.heap.size),w.alloc (.map #[] 0),rfl,_,rel_newmap (ob:=⟨0,2,[],0,3,false⟩) hr xw rfl rfl rfl,Eu hr xw,?_,by simp⟩;exact .mref _ 0 _ ⟨0,2,[],0,3,false⟩ (by simp[newAt]) (Nat.le_refl _) (fun _=>by simp[upd])
theorem ba1(a b:ByteArray)(h:(a==b)=true):a=b:=by
 obtain⟨x⟩:=a;obtain⟨y⟩:=b;have:(x==y)=true:=h;simp at this;rw[this]
theorem ba2(a:ByteArray):(a==a)=true:=by
 obtain⟨x⟩:=a;show (x==x)=true;simp
theorem Nn{H:List Rf}{k a:D}{vk va:Value}{kf n:Nat}(xU:isKey kf k=true)(hk:VR w ρ H k vk)(ha:VR w ρ H a va)(h:Eh k a=some true):Instr.sameBits (n+1) va vk=true:=by
 have hcases:(∃q x,k=.int q x)∨(∃s,k=.str s)∨∃b,k=.bool b:=by
  cases k<;>first | exact .inl ⟨_,_,rfl⟩ | exact .inr (.inl ⟨_,rfl⟩) | exact .inr (.inr ⟨_,rfl⟩) | (unfold isKey at xU;split at xU<;>simp at *)
 rcases hcases with⟨q,x,rfl⟩ | ⟨s,rfl⟩ | ⟨b,rfl⟩
 ·
  cases a<;>simp only[Eh,reduceCtorEq]at h;cases hk;cases ha;split at h
  ·
   rename_i e;subst e;simp only[Oi,beq_iff_eq]at h;subst h;simp[Instr.sameBits]
  simp at h
 ·
  cases a<;>simp only[Eh,reduceCtorEq]at h;cases hk;cases ha;simp only[Oi]at h;have:=ba1 _ _ h;subst this;simp only[Instr.sameBits];exact ba2 _
 cases a<;>simp only[Eh,reduceCtorEq]at h;cases hk;cases ha;simp only[Oi,beq_iff_eq]at h;subst h;simp[Instr.sameBits]
theorem Jh{b:Nat}{es:Array MapEntry}{clock:Nat}{o:Obj}(h:w.heap[b]?=some (.map es clock)):(setObj b o).run P w=.ok () { w with heap:=w.heap.setIfInBounds b o }:=by
 simp[setObj,Sem.run,h]
theorem Rx.setObj{b:Nat}{o:Obj}(hb:b<w.heap.size):Rx w { w with heap:=w.heap.setIfInBounds b o } b o :=
 ⟨rfl,rfl,rfl,by simp,by simp[hb],fun k hk=>by simp[Array.getElem?_setIfInBounds,Ne.symm hk]⟩
theorem mapset_ok {t kt e : TypeId} {kf : Nat} {m k v : D} {vm vk vv : Value} {S' : St} (hr : Rel w ρ S.heap) (ht : P.underlying t = some (.map kt e)) (uf : keyT P kt = some kf) (hm : VR w ρ S.heap m vm) (hk : VR w ρ S.heap k vk) (hv : VR w ρ S.heap v vv) (h : Q6 S kf m k v = some S') :
    ∃w',(Instr.mapUpdate t vm vk vv).run P w=.ok () w'∧Rt w ρ S .undef S' true undef w':=by
  obtain⟨kd,hu,ug⟩:=keyT_some uf;unfold Q6 at h;split at h
  · rename_i g ver
    cases hm with
    | mref _ _ r ob hg yh hh =>
      unfold rowsOf at h;simp only[hg]at h;by_cases qG:ob.ver=ver
      · subst qG;simp only[if_true]at h;split at h
        · rename_i zD;obtain⟨xL,vD,xU⟩:=zD;split at h
          · rename_i v' uR;have hv':=Ka hr (Nat.le_refl _) hv uR;split at h
            · rename_i hfc;simp only[Bool.and_eq_true]at hfc;have hρ:=hh rfl;obtain⟨es,clock,hc,hs,hl,xq⟩:=hr.map hρ hg xL vD
              have zX:k.Rp=true∧k.val=true:=by
                unfold isKey at xU;split at xU<;>simp_all [D.Rp,D.val,D.free,D.Rv,D.Ru]
              have wu:=lt_of_heap hc;have xS:∀c e f,Obj.map es clock≠.cells c e f:=fun _ _ _ e=>by cases e
              cases hf:Qq k ob.rows 0 with
              | none=>simp[hf]at h
              | some x =>
                rcases find_now ug xU hk (es:=es.toList) (by simpa using hs) (fun j r hj=>by obtain⟨e,a,v,h1,h2,_,_,h5,h6⟩:=xq j r hj;exact⟨e,a,v,by simpa using h1,h2,h5,h6⟩) hf with⟨rfl,z8⟩ | ⟨j,v0,e2,a,rfl,xY,he,q1,q2,q3,z8⟩
                · simp only [hf, Oi] at h;subst h;refine⟨{ w with heap:=w.heap.setIfInBounds r (.map (es.push ⟨vk,vv,clock⟩) (clock+1)) },?_,ρ,?_,Ia hr hρ hg xL hc xS (Rx.setObj wu) ⟨rfl,rfl,rfl,by simp,rfl⟩,.undef _,by simp⟩
                  · unfold Instr.mapUpdate;rw[Ad (run_underlying ht w)];simp only;rw[Ad (Ez hc)];simp only;rw[Ad (run_checkKey hu ug),Ad (run_findKey hu z8)];exact Jh hc
                  refine Q4 hr hρ hg xL vD hc xS (Rx.setObj wu) ⟨rfl,rfl,rfl,by simp,rfl⟩ (by simp[hs]) ?_ ?_
                  · intro r' hr';simp only[List.mem_append,List.mem_singleton]at hr';rcases hr' with hr' | rfl
                    · exact hl r' hr'
                    rfl
                  intro i r' hi;simp only at hi;by_cases yJ:i<ob.rows.length
                  · rw [La_ yJ] at hi;obtain⟨e3,k3,v3,z1,z2⟩:=xq i r' hi;exact⟨e3,k3,v3,by rw[Array.getElem?_push_lt (by omega)];rw[Array.getElem?_eq_getElem (by omega)]at z1;exact z1,z2⟩
                  rw[Lr_ (by omega)]at hi;have hi0:i-ob.rows.length=0:=by have:=lt_of_some hi;simp at this;omega
                  rw[hi0]at hi;simp at hi;subst hi;have vY:i=es.size:=by omega
                  subst vY;exact⟨⟨vk,vv,clock⟩,k,v',by simp,rfl,zX,hfc,hk,hv'⟩
                simp only[hf,Oi,Nat.zero_add]at h;subst h;have he':es[j]?=some e2:=by simpa using he
                have yA:=(Array.getElem?_eq_some_iff.1 he').1
                have hkts:(Instr.keyThatStays (((es[0+j]?).map (·.key)).getD vk) vk).run P w=.ok vk w:=by
                  rw[Nat.zero_add,he'];unfold Instr.keyThatStays;simp only[Option.map_some,Option.getD_some];rw[if_pos (Nn (n:=9999) xU hk q2 q3)];rfl
                refine⟨{ w with heap:=w.heap.setIfInBounds r (.map (es.modify j fun e=>{ e with key:=vk,val:=vv }) clock) },?_,ρ,?_,Ia hr hρ hg xL hc xS (Rx.setObj wu) ⟨rfl,rfl,rfl,by simp,rfl⟩,.undef _,by simp⟩
                · unfold Instr.mapUpdate;rw[Ad (run_underlying ht w)];simp only;rw[Ad (Ez hc)];simp only;rw[Ad (run_checkKey hu ug),Ad (run_findKey hu z8)];simp only;rw[Ad hkts];rw[Nat.zero_add];exact Jh hc
                refine Q4 hr hρ hg xL vD hc xS (Rx.setObj wu) ⟨rfl,rfl,rfl,by simp,rfl⟩ (by simp[hs]) ?_ ?_
                · intro r' hr';rcases List.mem_or_eq_of_mem_set hr' with hr' | rfl
                  · exact hl r' hr'
                  rfl
                intro i r' hi;simp only at hi;by_cases qW:j=i
                · subst qW;rw[List.getElem?_set_self (by omega)]at hi;simp only[Oi]at hi;subst hi;exact⟨{ e2 with key:=vk,val:=vv },k,v',by simp[Array.getElem?_modify,he'],rfl,zX,hfc,hk,hv'⟩
                rw[Ln_ qW]at hi;obtain⟨e3,k3,v3,z1,z2⟩:=xq i r' hi;exact⟨e3,k3,v3,by rw[Array.getElem?_modify,if_neg qW];exact z1,z2⟩
            simp at h
          simp at h
        simp at h
      simp[qG]at h
  simp at h
end
open Go.RowKit
section
variable {P:Program} {w:World} {ρ:Rm} {H:List Rf}
theorem Qt : ∀ {fs gs : List Nat} {a b : List D} {r : Bool}, Bv (fs ++ gs) a b = some r → ∃ x y, Bv fs (a.take fs.length) (b.take fs.length) = some x ∧ Bv gs (a.drop fs.length) (b.drop fs.length) = some y ∧ r = (x && y)
  | [],gs,a,b,r,h=>⟨true,r,by simp[Bv],by simpa using h,by simp⟩
  | f :: fs, gs, a :: l, b :: m, r, h => by
    simp only[List.cons_append,Bv]at h;split at h
    · rename_i hk;split at h
      · rename_i x y h1 h2;obtain⟨x',y',e1,e2,e3⟩:=Qt h2;refine⟨x&&x',y',?_,by simpa using e2,?_⟩
        · simp only[List.length_cons,List.take_succ_cons,Bv,hk,if_true,h1,e1]
        simp only[Oi]at h;subst h e3;cases x<;>cases x'<;>rfl
      simp at h
    simp at h
  | f::fs,gs,[],b,r,h=>by simp[Bv]at h
  | f::fs,gs,a::l,[],r,h=>by simp[Bv]at h
theorem K8:∀{fs:List Nat} {a b:List D} {r:Bool},Bv fs a b=some r→a.length=fs.length∧b.length=fs.length
 | [],[],[],r,h=>⟨rfl,rfl⟩
 | f :: fs, a :: l, b :: m, r, h => by
  simp only[Bv]at h;split at h
  ·
   split at h
   ·
    rename_i h2;have:=K8 h2;simp[this]
   simp at h
  simp at h
 | [],[],_::_,r,h=>by simp[Bv]at h
 | [],_::_,_,r,h=>by simp[Bv]at h
 | f::fs,[],b,r,h=>by simp[Bv]at h
 | f::fs,a::l,[],r,h=>by simp[Bv]at h
theorem eqCells_one{f:Nat}{a b:D}{r:Bool}(h:Bv [f] [a] [b]=some r):isKey f a=true∧isKey f b=true∧Eh a b=some r:=by
 simp only[Bv]at h;split at h
 ·
  rename_i hk;simp only[Bool.and_eq_true]at hk;split at h
  ·
   rename_i x y h1 h2;simp only[Oi]at h h2;subst h2;refine⟨hk.1,hk.2,?_⟩;rw[h1,←h];simp
  simp at h
 simp at h
theorem aggT_of{t:TypeId}{td:TypeDesc}(hu:P.underlying t=some td)(h:(match td with | .struct _ | .array _ _=>true | _=>false)=false):Ei P t=false:=by
 unfold Ei;rw[hu];cases td<;>simp_all
theorem Pn : ∀ (d : Nat) (t : TypeId) (R5 : List Nat), Dv P d t = some R5 → ∀ (k : Nat) (a b : D) (va vb : Value) (r : Bool), VR w ρ H a va → VR w ρ H b vb → a.val = true → b.val = true → Bv R5 a.cells b.cells = some r → (Ei P t = true → (∃ cs, a = .agg cs) ∧ ∃ cs, b = .agg cs) → (Ei P t = false → (∀ cs, a ≠ .agg cs) ∧ ∀ cs, b ≠ .agg cs) →
    (Op.equalIn (d+k) t va vb).run P w=.ok r w
  | 0,t,R5,h=>by simp[Dv]at h
  | d + 1, t, R5, h => by
    intro k a b va vb r h1 h2 ha hb he hag hna;rw[show d+1+k=(d+k)+1 by omega];simp only[Dv]at h
    have prim:∀f:Nat,R5=[f]→(∀cs,a≠.agg cs)→(∀cs,b≠.agg cs)→isKey f a=true∧isKey f b=true∧Eh a b=some r:=by
      rintro f rfl n1 n2
      have e1:a.cells=[a]:=by cases a<;>first | rfl | exact absurd rfl (n1 _)
      have e2:b.cells=[b]:=by cases b<;>first | rfl | exact absurd rfl (n2 _)
      rw[e1,e2]at he;exact eqCells_one he
    split at h
    · rename_i kk hu;simp only[Oi]at h;obtain⟨n1,n2⟩:=hna (aggT_of hu rfl);obtain⟨p1,p2,p3⟩:=prim 0 h.symm n1 n2;cases a<;>simp[isKey]at p1;cases b<;>simp[isKey]at p2;cases h1;cases h2;simp only[Eh]at p3;split at p3
      · rename_i hk;simp only[Oi]at p3;subst p3;simp[Op.equalIn,run_underlying hu,hk]
      simp at p3
    · rename_i hu;simp only[Oi]at h;obtain⟨n1,n2⟩:=hna (aggT_of hu rfl);obtain⟨p1,p2,p3⟩:=prim 1 h.symm n1 n2;cases a<;>simp[isKey]at p1;cases b<;>simp[isKey]at p2;cases h1;cases h2;simp only[Eh,Oi]at p3;subst p3;simp[Op.equalIn,run_underlying hu]
    · rename_i hu;simp only[Oi]at h;obtain⟨n1,n2⟩:=hna (aggT_of hu rfl);obtain⟨p1,p2,p3⟩:=prim 2 h.symm n1 n2;cases a<;>simp[isKey]at p1;cases b<;>simp[isKey]at p2;cases h1;cases h2;simp only[Eh,Oi]at p3;subst p3;simp[Op.equalIn,run_underlying hu]
    · rename_i fs hu;split at h
      · simp at h
      rename_i xM;simp only[Bool.or_eq_true,not_or,Bool.not_eq_true]at xM;have zF:Ei P t=true:=by unfold Ei;rw[hu]
      obtain⟨⟨xs,rfl⟩,⟨bs,rfl⟩⟩:=hag zF
      cases h1 with | agg _ va hl1 xW hh1 =>
      cases h2 with | agg _ vb zI za hh2 =>
      simp only[D.cells]at he;have ih:=Pn d
      have key:∀(fl:List Field) (o:Nat) (fm:List Nat) (r:Bool),o≤xs.length→o≤bs.length→eqFields P (Dv P d) fl o=some fm→Bv fm (xs.drop o) (bs.drop o)=some r →
          (forIn fl (none, PUnit.unit) (fun (f : Field) (_ : Option Bool × PUnit) => (if f.name ≠ "_" then (do
            let x ←part f.type va.toArray f.offset
            let y ←part f.type vb.toArray f.offset
            let q ←Op.equalIn (d+k) f.type x y
            if (!q)=true then pure (ForInStep.done (some false,PUnit.unit)) else pure (ForInStep.yield (none,PUnit.unit))) else pure (ForInStep.yield (none,PUnit.unit)):Sem (ForInStep (Option Bool × PUnit))))).run P w=.ok (if r then (none,PUnit.unit) else (some false,PUnit.unit)) w:=by
        intro fl
        induction fl with
        | nil =>
          intro o fm r xG ho2 hf hc;simp only[eqFields,Oi]at hf;subst hf
          have:r=true:=by
            cases e1:xs.drop o<;>cases e2:bs.drop o<;>simp[e1,e2,Bv]at hc;exact hc
          subst this;simp
        | cons f fl ihl =>
          intro o fm r xG ho2 hf hc;simp only[eqFields]at hf;split at hf
          · simp at hf
          rename_i uF;simp only[not_or,ne_eq,Decidable.not_not]at uF;obtain⟨zy,hoff⟩:=uF;split at hf
          · rename_i fa m yH xE;split at hf
            · rename_i xk;simp only[Om]at hf;obtain⟨fm',hf',rfl⟩:=hf;obtain⟨x,y,e1,e2,rfl⟩:=Qt hc;rw[List.drop_drop]at e2;rw[List.drop_drop]at e2;rw[xk]at e1 e2;obtain⟨l1,l2⟩:=K8 e1;obtain⟨l3,l4⟩:=K8 hc;have q1:o+m≤xs.length:=by simp only[List.length_drop,Ll_]at l3;omega
              have q2:o+m≤bs.length:=by simp only[List.length_drop,Ll_]at l4;omega
              have mk:∀(cs:List D),o+m≤cs.length→cs.all D.Ru=true→(Ei P f.type=false→m=1)→∃p,Au cs o m (Ei P f.type)=some p∧p.cells=(cs.drop o).take m∧p.val=true∧(Ei P f.type=true→∃c,p=.agg c)∧(Ei P f.type=false→∀c,p≠.agg c):=by
                intro cs yB xI h1
                cases hg:Ei P f.type with
                | true =>
                  refine⟨.agg ((cs.drop o).take m),by simp[Au,yB],rfl,?_,fun _=>⟨_,rfl⟩,fun h=>by simp at h⟩;simp only[D.val,List.all_eq_true]at xI ⊢;intro c hc';exact xI c (List.mem_of_mem_drop (List.mem_of_mem_take hc'))
                | false =>
                  have:=h1 hg;subst this;have xJ:o<cs.length:=by omega
                  have yg:cs[o].Ru=true:=by
                    simp only[List.all_eq_true]at xI;exact xI _ (List.getElem_mem xJ)
                  refine⟨cs[o],by simp[Au,xJ],?_,?_,fun h=>by simp at h,fun _ c hc'=>by rw[hc']at yg;simp[D.Ru]at yg⟩
                  · rw [List.drop_eq_getElem_cons xJ]
                    cases e:cs[o]<;>first | rfl | (rw[e]at yg;simp[D.Ru]at yg)
                  cases e:cs[o]<;>first | rfl | (rw[e]at yg;simp[D.Ru]at yg)
              have zU:Ei P f.type=false→m=1:=by
                intro hg
                cases d with
                | zero=>simp[Dv]at yH
                | succ d' =>
                  simp only[Dv]at yH;split at yH
                  · simp only[Oi]at yH;subst yH;exact xk.symm
                  · simp only[Oi]at yH;subst yH;exact xk.symm
                  · simp only[Oi]at yH;subst yH;exact xk.symm
                  · rename_i hu';unfold Ei at hg;rw[hu']at hg;simp at hg
                  simp at yH
              obtain⟨pa,a1,a2,a3,a4,a5⟩:=mk xs q1 xW zU;obtain⟨pb,b1,b2,b3,b4,b5⟩:=mk bs q2 za zU;obtain⟨xa,x1,x2⟩:=Kl (P:=P) hl1 xW hh1 a1 xE rfl;obtain⟨xb,y1,y2⟩:=Kl (P:=P) zI za hh2 b1 xE rfl;rw[←a2,←b2]at e1;have hq:=ih f.type fa yH k pa pb xa xb x x2 y2 a3 b3 e1 (fun hg=>⟨a4 hg,b4 hg⟩) (fun hg=>⟨a5 hg,b5 hg⟩);simp only[List.forIn_cons,Sem.run_bind,zy,ne_eq,not_false_eq_true,if_true,hoff,x1,y1,Result.andThen_ok,hq]
              cases x with
              | false=>simp
              | true =>
                simp only[Bool.not_true,Bool.false_eq_true,if_false,Sem.run_pure,Result.andThen_ok,Bool.true_and];exact ihl (o+m) fm' y q1 q2 hf' e2
            simp at hf
          simp at hf
      have hk:=key fs.toList 0 R5 r (Nat.zero_le _) (Nat.zero_le _) h (by simpa using he);rw[Array.forIn_toList]at hk;simp only[Op.equalIn,Sem.run_bind,run_underlying hu,Result.andThen_ok];have hp:Sem.run P program w=.ok P w:=rfl;rw[hp,Result.andThen_ok,xM.1,if_neg (by simp),Sem.run_bind];refine Eq.trans (congrArg (fun z=>Result.andThen z _) hk) ?_;cases r<;>rfl
    simp at h
theorem eqs_ok{op:BinOp}{t:TypeId}{x y:Operand}{R5:List Nat}{neg:Bool}{as' bs:List D}{va vb:Value}{r:Bool}(ho:op=.eql∨op=.neq)(hn:neg=decide (op=.neq))(hg:Ei P t=true)(hf:Dv P 9 t=some R5)(h1:VR w ρ H (.agg as') va)(h2:VR w ρ H (.agg bs) vb)(he:Bv R5 as' bs=some r) :
  ∃v,(do eqGuard op t x y va vb;binOp op t va vb).run P w=.ok v w∧VR w ρ H (.bool (r != neg)) v:=by
 have zH:(D.agg as').val=true:=by cases h1 with | agg _ _ _ hc _=>exact hc
 have wB:(D.agg bs).val=true:=by cases h2 with | agg _ _ _ hc _=>exact hc
 have key:=Pn 9 t R5 hf 9991 _ _ _ _ r h1 h2 zH wB he (fun _=>⟨⟨_,rfl⟩,⟨_,rfl⟩⟩) (fun h=>by rw[hg]at h;simp at h)
 have wC:P.eqGuardType P.depth t=false:=by
  simp only[Dv]at hf;unfold Ei at hg;split at hf
  ·
   rename_i hu;rw[hu]at hg;simp at hg
  ·
   rename_i hu;rw[hu]at hg;simp at hg
  ·
   rename_i hu;rw[hu]at hg;simp at hg
  ·
   split at hf
   ·
    simp at hf
   rename_i h;simp only[Bool.or_eq_true,not_or,Bool.not_eq_true]at h;exact h.2
  simp at hf
 cases h1 with | agg _ va hl1 xW hh1 =>
 cases h2 with | agg _ vb zI za hh2 =>
 have wX:(eqGuard op t x y (.agg va.toArray) (.agg vb.toArray)).run P w=.ok () w:=by
  have hp:Sem.run P program w=.ok P w:=rfl;rcases ho with rfl | rfl<;>simp[eqGuard,hp,wC]
 rcases ho with rfl | rfl
 ·
  subst hn;refine⟨.bool r,?_,by cases r<;>exact .bool _⟩;rw[Sem.run_bind,wX];simp[binOp,Op.equal,Op.maxDepth,key]
 subst hn;refine⟨.bool !r,?_,by cases r<;>exact .bool _⟩;rw[Sem.run_bind,wX];simp[binOp,Op.equal,Op.maxDepth,key]
end
end Go.Proofs.YtbhnlppboegmjaaGreatDoor
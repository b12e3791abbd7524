/- Defined here: an abstract machine for the given form of Go functions: pure data, an abstract heap for variables and rows that are written; no theorem on the program. -/
import Derived.Test.YtabgobmeibjeeaaGreatDoorRows
import Derived.WalkKit
import Derived.Orders
namespace Go.Proofs.YtabgobmeibjeeaaGreatDoor
set_option linter.unusedVariables false

/-- abstract values -/
inductive D where
  | undef
  | skip
  | int (k : IntKind) (n : Int)
  | bool (b : Bool)
  | str (s : ByteArray)
  | agg (cs : List D)
  | tup (cs : List D)
  | nilp
  | ptr (g v i o : Nat)
  | cptr (row : List D) (o : Nat)
  | nils
  | sl (sz : Nat) (rows : List (List D)) (cap : Option Nat)
  | msl (g v lo n : Nat) (cap : Option Nat)
  | fn (f : FuncId) (caps : List D)
  | nilfn
  | mref (g v : Nat)
  | mp (rows : List (List D))
  | nilm
  | nili
  | ifc (t : TypeId) (d : D)
  | ifr (t : TypeId) (d : D)
  | iter (g v : Nat)
  deriving Inhabited

/-- an object of the abstract heap: rows of cells; kind 0: a variable, 1: rows that are only appended to, 2: rows that are written -/
structure AObj where
  elem : TypeId
  sz : Nat
  rows : List (List D)
  ver : Nat
  kind : Nat
  grow : Bool
structure St where
  heap : List AObj
  low : Nat

def D.cells : D → List D
  | .agg cs => cs
  | d => [d]
def D.isCell : D → Bool
  | .agg _ | .tup _ | .undef | .skip => false
  | _ => true
def D.val : D → Bool
  | .agg cs => cs.all D.isCell
  | d => d.isCell

/-- how two values of a type are compared -/
inductive EqT where
  | prim
  | parts (l : List (Nat × Nat × Bool × EqT))

inductive LOp where
  | mv
  | pick
  | bin (op : BinOp)
  | eqb (neg : Bool)
  | eqs (neg : Bool) (fams : List Nat)
  | un (op : UnOp)
  | field (o sz : Nat) (agg : Bool)
  | alloc (e : TypeId) (z : List D)
  | box (e : TypeId) (sz : Nat)
  | build (z : List D) (ps : List (Nat × Nat))
  | bslice (e sz len : Nat) (z : List D) (ps : List Nat) (kind : Nat)
  | nilck
  | load (sz : Nat) (agg : Bool)
  | store (sz : Nat)
  | faddr (o : Nat)
  | iaddr (sz : Nat)
  | aaddr (sz len : Nat)
  | index
  | aindex (sz len : Nat) (agg : Bool)
  | slice (str : Bool) (sz : Nat) (lo hi mx : Bool)
  | len (str : Bool)
  | lenc (n : Nat)
  | cap
  | append (e sz bytes : Nat) (kind : Nat)
  | max
  | min
  | mkfn (f : FuncId)
  | extract (i : Nat)
  | conv (k : IntKind)
  | sconv
  | mkslice (e sz bytes : Nat) (z : List D) (kind : Nat)
  | bstr
  | strb
  | eqnil (neg : Bool) (fam : Nat)
  | mkmap
  | mapset (kf : Nat)
  | mapget (kf : Nat) (z : D) (ok : Bool)
  | idxb
  | cntb
  | appstr (e bytes : Nat) (kind : Nat)
  | eqp (neg : Bool)
  | toU (t : TypeId) (n : Nat)
  | ofU (t : TypeId) (n : Nat)
  | sdata
  | ustr (e : TypeId)
  | strsh
  | rngs
  | nexts
  | fail
  | call (f : FuncId)
  | callv

inductive LOpd where
  | env (j : Nat)
  | loc (d : Nat)
  | const (d : D)

/-- a list of marks, out of a number -/
def ob (n k : Nat) : List Bool := ((List.range k).map fun j => n.testBit j).reverse
/-- ord: for each earlier operation of a region that draws its order (the newest first): must it lie before this one? hoist: a new variable, made at the region's entry -/
structure LOper where
  op : LOp
  args : List LOpd
  guard : Option (Nat × Bool)
  ord : List Bool
  hoist : Option Nat

inductive LCode where
  | skip
  | ret
  | exit (i : Nat)
  | region (ops : List LOper) (exps : List (Nat × Nat))
  | drawn (ops : List LOper) (exps : List (Nat × Nat)) (news : List (TypeId × List D))
  | seq (a b : LCode)
  | cond (c : LOpd) (a b : LCode)
  | block (i : Nat) (c : LCode)
  | loop (c : LCode)
  | fail

inductive LRes where
  | tmp (j : Nat)
  | cell (j sz : Nat) (agg : Bool)

structure LFunc where
  slots : List Nat
  nargs : Nat
  body : LCode
  res : List LRes

/-! the operations -/
def binD : BinOp → D → D → Option D
  | .add, .int k a, .int k' b => if k = k' then some (.int k (k.wrap (a + b))) else none
  | .sub, .int k a, .int k' b => if k = k' then some (.int k (k.wrap (a - b))) else none
  | .mul, .int k a, .int k' b => if k = k' then some (.int k (k.wrap (a * b))) else none
  | .quo, .int k a, .int k' b => if k = k' ∧ b ≠ 0 then some (.int k (k.wrap (a.tdiv b))) else none
  | .rem, .int k a, .int k' b => if k = k' ∧ b ≠ 0 then some (.int k (a.tmod b)) else none
  | .and, .int k a, .int k' b => if k = k' then some (.int k (k.wrap ((BitVec.ofInt k.bits a &&& BitVec.ofInt k.bits b).toNat : Int))) else none
  | .or, .int k a, .int k' b => if k = k' then some (.int k (k.wrap ((BitVec.ofInt k.bits a ||| BitVec.ofInt k.bits b).toNat : Int))) else none
  | .xor, .int k a, .int k' b => if k = k' then some (.int k (k.wrap ((BitVec.ofInt k.bits a ^^^ BitVec.ofInt k.bits b).toNat : Int))) else none
  | .andNot, .int k a, .int k' b => if k = k' then some (.int k (k.wrap ((BitVec.ofInt k.bits a &&& ~~~(BitVec.ofInt k.bits b)).toNat : Int))) else none
  | .shl, .int k a, .int _ b => if b < 0 then none else some (.int k (k.wrap (a * 2 ^ (min b.toNat k.bits))))
  | .shr, .int k a, .int _ b => if b < 0 then none else some (.int k (a.fdiv (2 ^ (min b.toNat k.bits))))
  | .eql, .int k a, .int k' b => if k = k' then some (.bool (a == b)) else none
  | .neq, .int k a, .int k' b => if k = k' then some (.bool (a != b)) else none
  | .lss, .int k a, .int k' b => if k = k' then some (.bool (decide (a < b))) else none
  | .leq, .int k a, .int k' b => if k = k' then some (.bool (decide (a ≤ b))) else none
  | .gtr, .int k a, .int k' b => if k = k' then some (.bool (decide (a > b))) else none
  | .geq, .int k a, .int k' b => if k = k' then some (.bool (decide (a ≥ b))) else none
  | .add, .str a, .str b => if ((a.size + b.size : Nat) : Int) > IntKind.i64.max then none else some (.str (a ++ b))
  | .eql, .str a, .str b => some (.bool (a.toList == b.toList))
  | .neq, .str a, .str b => some (.bool !(a.toList == b.toList))
  | .lss, .str a, .str b => some (.bool (Op.bytesLess a.toList b.toList))
  | .leq, .str a, .str b => some (.bool (Op.bytesLess a.toList b.toList || a.toList == b.toList))
  | .gtr, .str a, .str b => some (.bool !(Op.bytesLess a.toList b.toList || a.toList == b.toList))
  | .geq, .str a, .str b => some (.bool !(Op.bytesLess a.toList b.toList))
  | _, _, _ => none

/-- equality of cells of plain kinds -/
def eqCell : D → D → Option Bool
  | .int k a, .int k' b => if k = k' then some (a == b) else none
  | .str a, .str b => some (a == b)
  | .bool a, .bool b => some (a == b)
  | _, _ => none
/-- a key of the family of its type: integers, strings, bools -/
def isKey : Nat → D → Bool
  | 0, .int .. | 1, .str _ | 2, .bool _ => true
  | _, _ => false
/-- cells of these families, one by one -/
def eqCells : List Nat → List D → List D → Option Bool
  | [], [], [] => some true
  | f :: fs, a :: l, b :: m => if isKey f a && isKey f b then (match eqCell a b, eqCells fs l m with
    | some x, some y => some (x && y)
    | _, _ => none) else none
  | _, _, _ => none

def unD : UnOp → D → Option D
  | .not, .bool b => some (.bool !b)
  | .neg, .int k n => some (.int k (k.wrap (0 - n)))
  | _, _ => none

/-- no reference to the abstract heap -/
def D.free : D → Bool
  | .ptr .. | .msl .. | .undef | .skip | .mref .. | .iter .. | .ifr .. => false
  | .fn _ caps => caps.isEmpty
  | .agg _ | .tup _ => false
  | _ => true
def D.freeV : D → Bool
  | .agg cs => cs.all D.free
  | d => d.free
def D.freeR : D → Bool
  | .tup ds => ds.all D.freeV
  | d => d.freeV

/-- a part of some cells -/
def partD (cs : List D) (o sz : Nat) (agg : Bool) : Option D :=
  if agg then (if o + sz ≤ cs.length then some (.agg ((cs.drop o).take sz)) else none)
  else cs[o]?

/-- some cells laid over others from a place on -/
def overlay (cs : List D) (o : Nat) (new : List D) : List D := cs.take o ++ (new ++ cs.drop (o + new.length))
def fillD : List D → List (Nat × Nat) → List D → Option (List D)
  | cs, [], [] => some cs
  | cs, (o, sz) :: ps, x :: xs =>
    if x.val && x.cells.length == sz && decide (o + sz ≤ cs.length) then fillD (overlay cs o x.cells) ps xs else none
  | _, _, _ => none
/-- rows of a literal: each part is one row -/
def fillRows : List (List D) → Nat → List Nat → List D → Option (List (List D))
  | rs, _, [], [] => some rs
  | rs, sz, i :: ps, x :: xs => if x.val && x.cells.all D.free && x.cells.length == sz && decide (i < rs.length) then fillRows (rs.set i x.cells) sz ps xs else none
  | _, _, _, _ => none

def rowsOf (S : St) (g v : Nat) : Option AObj :=
  match S.heap[g]? with
  | some o => if o.ver = v then some o else none
  | none => none

/-- a slice of the abstract heap as an immutable one; rows that are written only from object number m on -/
def snap (m : Nat) (H : List AObj) : D → Option D
  | .msl g v lo n cap => match H[g]? with
    | some o => if o.ver = v ∧ (o.kind = 1 ∨ (m ≤ g ∧ o.kind = 2)) then some (.sl o.sz ((o.rows.drop lo).take n) (match cap with | some c => some c | none => if o.grow then none else some (o.rows.length - lo))) else none
    | none => none
  | .mref g v => if m ≤ g then (match H[g]? with | some o => if o.ver = v ∧ o.kind = 3 ∧ o.elem = 0 then some (.mp o.rows) else none | none => none) else some (.mref g v)
  | d => some d
/-- the same in the cells of an aggregate, and in a tuple of values -/
def snaps (m : Nat) (H : List AObj) : List D → Option (List D)
  | [] => some []
  | d :: l => match snap m H d, snaps m H l with
    | some x, some y => some (x :: y)
    | _, _ => none
def snapV (m : Nat) (H : List AObj) : D → Option D
  | .agg cs => (snaps m H cs).map .agg
  | d => snap m H d
def snapVs (m : Nat) (H : List AObj) : List D → Option (List D)
  | [] => some []
  | d :: l => match snapV m H d, snapVs m H l with
    | some x, some y => some (x :: y)
    | _, _ => none
def snapR (m : Nat) (H : List AObj) : D → Option D
  | .tup ds => (snapVs m H ds).map .tup
  | d => snapV m H d

def natOf : D → Option Nat
  | .int _ n => if 0 ≤ n then some n.toNat else none
  | _ => none
def sliceArgs (lo hi mx : Bool) (xs : List D) : Option (Option D × Option D × Option D) :=
  match lo, hi, mx, xs with
  | false, false, false, [] => some (none, none, none)
  | true, false, false, [a] => some (some a, none, none)
  | false, true, false, [b] => some (none, some b, none)
  | true, true, false, [a, b] => some (some a, some b, none)
  | true, true, true, [a, b, c] => some (some a, some b, some c)
  | false, true, true, [b, c] => some (none, some b, some c)
  | _, _, _, _ => none
def natOr (n : Nat) : Option D → Option Nat
  | some d => natOf d
  | none => some n
/-- low, high -/
def boundsD (n : Nat) (lo hi : Option D) : Option (Nat × Nat) :=
  match natOr n hi, natOr 0 lo with
  | some h, some l => if l ≤ h ∧ h ≤ n then some (l, h) else none
  | _, _ => none
def boundsAt (S : St) (g v sz n : Nat) (lo hi : Option D) : Option (Nat × Nat) :=
  match rowsOf S g v with
  | some ob => if ob.sz = sz then boundsD n lo hi else none
  | none => none

def sliceD (S : St) (sz : Nat) (x : D) (lo hi mx : Option D) : Option D :=
  match x with
  | .nils => match boundsD 0 lo hi, mx with
    | some _, none => some .nils
    | some _, some d => if natOf d = some 0 then some .nils else none
    | none, _ => none
  | .sl s rows cap => if s ≠ sz then none else
    match boundsD rows.length lo hi with
    | none => none
    | some (l, h) => match mx with
      | none => some (.sl s ((rows.drop l).take (h - l)) (cap.map (· - l)))
      | some d => match natOf d with
        | some m => if h ≤ m ∧ m ≤ rows.length then some (.sl s ((rows.drop l).take (h - l)) (some (m - l))) else none
        | none => none
  | .msl g v o n cap => match boundsAt S g v sz n lo hi with
    | none => none
    | some (l, h) => match mx with
      | none => some (.msl g v (o + l) (h - l) (cap.map (· - l)))
      | some d => match natOf d with
        | some m => if h ≤ m ∧ m ≤ n then some (.msl g v (o + l) (h - l) (some (m - l))) else none
        | none => none
  | _ => none

/-- the rows of a slice that is read -/
def readRows (S : St) (sz : Nat) : D → Option (List (List D))
  | .nils => some []
  | .sl s rows _ => if s = sz then some rows else none
  | .msl g v lo n _ => match rowsOf S g v with
    | some o => if o.sz = sz ∧ (o.kind = 1 ∨ o.kind = 2) then some ((o.rows.drop lo).take n) else none
    | none => none
  | _ => none
def setAt (S : St) (g : Nat) (o : AObj) : St := ⟨S.heap.set g o, min S.low g⟩
def newAt (S : St) (o : AObj) : St := ⟨S.heap ++ [o], S.low⟩

def appendRows (e sz bytes kind : Nat) (s : D) (new : List (List D)) (S : St) : Option (D × St × Bool) :=
  match s with
  | .nils => if new.isEmpty then some (.nils, S, false) else
    if new.length * bytes ≤ 140737488355328 then some (.msl S.heap.length 0 0 new.length none, newAt S ⟨e, sz, new, 0, kind, true⟩, true) else none
  | .sl s' rows cap => if new.isEmpty then some (.sl s' rows cap, S, false) else
    if s' = sz ∧ cap = some rows.length ∧ (rows.length + new.length) * bytes ≤ 140737488355328 then
      some (.msl S.heap.length 0 0 (rows.length + new.length) none, newAt S ⟨e, sz, rows ++ new, 0, kind, true⟩, true) else none
  | .msl g v lo n cap => match rowsOf S g v with
    | none => none
    | some o =>
      if o.sz = sz ∧ o.elem = e ∧ lo = 0 ∧ n = o.rows.length ∧ cap = none ∧ (o.kind = 1 ∨ o.kind = 2) ∧ (n + new.length) * bytes ≤ 140737488355328 then
        some (.msl g (v + 1) 0 (n + new.length) none, setAt S g { o with rows := o.rows ++ new, ver := v + 1, grow := true }, true) else none
  | _ => none
def appendD (e sz bytes kind : Nat) (s x : D) (S : St) : Option (D × St × Bool) :=
  match readRows S sz x with
  | none => none
  | some new => appendRows e sz bytes kind s new S

def maxD : D → D → Option D
  | .int k a, .int k' b => if k = k' then some (.int k (if b > a then b else a)) else none
  | _, _ => none
def minD : D → D → Option D
  | .int k a, .int k' b => if k = k' then some (.int k (if b < a then b else a)) else none
  | _, _ => none

def foldD (f : D → D → Option D) : D → List D → Option D
  | x, [] => some x
  | x, y :: l => match f x y with
    | some z => foldD f z l
    | none => none

def lenD : Bool → D → Option D
  | true, .str s => some (.int .i64 s.size)
  | false, .nils => some (.int .i64 0)
  | false, .sl _ rows _ => some (.int .i64 rows.length)
  | false, .msl _ _ _ n _ => some (.int .i64 n)
  | _, _ => none
def capD : D → Option D
  | .nils => some (.int .i64 0)
  | .sl _ _ (some c) => some (.int .i64 c)
  | .msl _ _ _ _ (some c) => some (.int .i64 c)
  | _ => none

def indexD : D → D → Option D
  | .str s, .int _ i => if 0 ≤ i then s[i.toNat]?.map (fun b => .int .u8 b.toNat) else none
  | _, _ => none
def iaddrD (S : St) (sz : Nat) : D → D → Option D
  | .sl s rows _, .int _ i => if s = sz ∧ 0 ≤ i then rows[i.toNat]?.map (fun r => .cptr r 0) else none
  | .msl g v lo n _, .int _ i => match rowsOf S g v with
    | some ob => if ob.sz = sz ∧ 0 ≤ i ∧ i < n then some (.ptr g v (lo + i.toNat) 0) else none
    | none => none
  | _, _ => none
def aaddrD (sz len : Nat) : D → D → Option D
  | .ptr g v i o, .int _ j => if 0 ≤ j ∧ j < len then some (.ptr g v i (o + j.toNat * sz)) else none
  | .cptr row o, .int _ j => if 0 ≤ j ∧ j < len then some (.cptr row (o + j.toNat * sz)) else none
  | _, _ => none
def faddrD (f : Nat) : D → Option D
  | .ptr g v i o => some (.ptr g v i (o + f))
  | .cptr row o => some (.cptr row (o + f))
  | _ => none
def loadD (sz : Nat) (agg : Bool) (S : St) : D → Option D
  | .cptr row o => partD row o sz agg
  | .ptr g v i o => match rowsOf S g v with
    | some x => match x.rows[i]? with
      | some row => partD row o sz agg
      | none => none
    | none => none
  | _ => none
def storeD (sz : Nat) (S : St) (a x : D) : Option St :=
  match a with
  | .ptr g v i o => match rowsOf S g v with
    | some ob => match ob.rows[i]? with
      | some row =>
        match (if ob.kind = 0 then some x else snapV S.heap.length S.heap x) with
        | some y => if y.val && y.cells.length == sz && decide (o + sz ≤ row.length) && (decide (ob.kind = 0) || (decide (ob.kind = 2) && y.cells.all D.free)) then
            some (setAt S g { ob with rows := ob.rows.set i (overlay row o y.cells) }) else none
        | none => none
      | none => none
    | none => none
  | _ => none

/-- the bytes of rows of bytes -/
def bytesOf : List (List D) → Option (List UInt8)
  | [] => some []
  | [.int .u8 n] :: l => (bytesOf l).map (UInt8.ofNat n.toNat :: ·)
  | _ :: _ => none
/-- the bytes of rows of bytes that are within their bounds -/
def bytesOfS : List (List D) → Option (List UInt8)
  | [] => some []
  | [.int .u8 n] :: l => if 0 ≤ n ∧ n < 256 then (bytesOfS l).map (UInt8.ofNat n.toNat :: ·) else none
  | _ :: _ => none
def byteRows (s : ByteArray) : List (List D) := s.data.toList.map fun b => [.int .u8 b.toNat]
/-- is it nil? by the family of the type: slices, pointers, functions, maps -/
def isNil : Nat → D → Option Bool
  | 0, .nils | 1, .nilp | 2, .nilfn | 3, .nilm | 4, .nili => some true
  | 0, .sl .. | 0, .msl .. | 1, .ptr .. | 1, .cptr .. | 2, .fn .. | 3, .mref .. | 3, .mp .. | 4, .ifc .. | 4, .ifr .. => some false
  | _, _ => none
def eqnilD (fam : Nat) (x y : D) : Option Bool :=
  match isNil fam x, isNil fam y with
  | some true, some b => some b
  | some false, some true => some false
  | _, _ => none

/-- an operation on values alone -/
def pop : LOp → List D → Option D
  | .mv, [x] => some x
  | .pick, [.bool c, a, b] => some (if c then a else b)
  | .bin op, [x, y] => binD op x y
  | .eqb neg, [.bool a, .bool b] => some (.bool ((a == b) != neg))
  | .eqs neg fams, [.agg a, .agg b] => (eqCells fams a b).map fun r => .bool (r != neg)
  | .un op, [x] => unD op x
  | .field o sz agg, [.agg cs] => partD cs o sz agg
  | .build z ps, xs => (fillD z ps xs).map .agg
  | .nilck, [.ptr g v i o] => some (.ptr g v i o)
  | .nilck, [.cptr r o] => some (.cptr r o)
  | .nilck, [.fn f c] => some (.fn f c)
  | .faddr o, [a] => faddrD o a
  | .aaddr sz len, [x, i] => aaddrD sz len x i
  | .index, [x, i] => indexD x i
  | .aindex sz len agg, [.agg cs, .int _ i] => if 0 ≤ i ∧ i < len then partD cs (i.toNat * sz) sz agg else none
  | .slice true _ lo hi mx, .str s :: xs => match sliceArgs lo hi mx xs with
    | some (a, b, none) => (boundsD s.size a b).map fun (l, h) => .str (s.extract l h)
    | _ => none
  | .len st, [x] => lenD st x
  | .lenc n, [_] => some (.int .i64 n)
  | .cap, [x] => capD x
  | .max, x :: l => foldD maxD x l
  | .min, x :: l => foldD minD x l
  | .mkfn f, xs => some (.fn f xs)
  | .extract i, [.tup ds] => ds[i]?
  | .conv k, [.int _ n] => some (.int k (k.wrap n))
  | .sconv, [.str s] => some (.str s)
  | .idxb, [.str s, .int .u8 c] => some (.int .i64 (match (List.range s.size).find? (fun i => s[i]! == UInt8.ofNat c.toNat) with | some i => (i : Int) | none => -1))
  | .cntb, [.str s, .int .u8 c] => some (.int .i64 (s.foldl (fun n x => if x == UInt8.ofNat c.toNat then n + 1 else n) (0 : Nat)))
  | .eqnil neg fam, [x, y] => (eqnilD fam x y).map fun b => .bool (b != neg)
  | _, _ => none

/-- where a key lies in a map -/
def findD (k : D) : List (List D) → Nat → Option (Option (Nat × D))
  | [], _ => some none
  | [a, v] :: l, i => match eqCell k a with
    | some true => some (some (i, v))
    | some false => findD k l (i + 1)
    | none => none
  | _ :: _, _ => none
def mapRows (S : St) : D → Option (List (List D))
  | .nilm => some []
  | .mp rows => some rows
  | .mref g v => match rowsOf S g v with
    | some o => if o.kind = 3 ∧ o.elem = 0 then some o.rows else none
    | none => none
  | _ => none
def mapgetD (S : St) (kf : Nat) (z : D) (ok : Bool) (m k : D) : Option D :=
  match mapRows S m with
  | some rows => if isKey kf k then (match findD k rows 0 with
    | some (some (_, v)) => some (if ok then .tup [v, .bool true] else v)
    | some none => some (if ok then .tup [z, .bool false] else z)
    | none => none) else none
  | none => none
def mapsetD (S : St) (kf : Nat) (m k v : D) : Option St :=
  match m with
  | .mref g ver => match rowsOf S g ver with
    | some o => if o.kind = 3 ∧ o.elem = 0 ∧ isKey kf k = true then (match snapV S.heap.length S.heap v with
      | some v' => if v'.freeV && v'.val then (match findD k o.rows 0 with
        | some (some (i, _)) => some (setAt S g { o with rows := o.rows.set i [k, v'] })
        | some none => some (setAt S g { o with rows := o.rows ++ [[k, v']] })
        | none => none) else none
      | none => none) else none
    | none => none
  | _ => none

/-- are two pointers equal? -/
def eqpD (S : St) : D → D → Option Bool
  | .nilp, .nilp => some true
  | .nilp, .ptr .. | .ptr .., .nilp | .nilp, .cptr .. | .cptr .., .nilp => some false
  | .ptr g v i o, .ptr g' v' i' o' => match rowsOf S g v, rowsOf S g' v' with
    | some ob, some _ => if g = g' then some (decide (i * ob.sz + o = i' * ob.sz + o')) else none
    | _, _ => none
  | _, _ => none
/-- a pointer to a whole variable of a type -/
def wholeD (S : St) (t : TypeId) (n : Nat) : D → Option D
  | .nilp => some .nilp
  | .ptr g v 0 0 => match rowsOf S g v with
    | some ob => if ob.kind = 0 ∧ ob.elem = t ∧ ob.sz = n ∧ ob.rows.length = 1 ∧ ob.grow = false then some (.ptr g v 0 0) else none
    | none => none
  | _ => none
def sdataD (S : St) : D → Option D
  | .nils => some .nilp
  | .msl g v 0 (_ + 1) none => match rowsOf S g v with
    | some ob => if ob.kind = 1 ∨ ob.kind = 2 then some (.ptr g v 0 0) else none
    | none => none
  | _ => none
/-- bytes that become a string: nobody looks at them any more -/
def ustrD (S : St) (e : TypeId) (p : D) (n : Int) : Option (D × St × Bool) :=
  match p with
  | .nilp => if n = 0 then some (.str ⟨#[]⟩, S, false) else none
  | .ptr g v 0 0 => match rowsOf S g v with
    | some ob => if (ob.kind = 1 ∨ ob.kind = 2) ∧ ob.sz = 1 ∧ ob.elem = e ∧ n = ob.rows.length then
        (match bytesOfS ob.rows with
        | some b => some (.str ⟨b.toArray⟩, setAt S g { ob with ver := v + 1 }, true)
        | none => none) else none
    | none => none
  | _ => none
/-- bytes of a literal -/
def strshD (S : St) : D → Option (D × St × Bool)
  | .msl g v 0 n none => match rowsOf S g v with
    | some ob => if ob.kind = 2 ∧ ob.sz = 1 ∧ n = ob.rows.length ∧ ob.grow = false then some (.sl 1 ob.rows (some n), setAt S g { ob with ver := v + 1 }, true) else none
    | none => none
  | _ => none
def nextsD (S : St) (g v : Nat) : Option (D × St × Bool) :=
  match rowsOf S g v with
  | some ob => if ob.kind = 3 ∧ ob.elem = 1 then (match ob.rows with
    | [[.str s, .int .i64 pos]] => if pos.toNat < s.size then
        some (.tup [.bool true, .int .i64 pos, .int .i32 (Utf8.decode s pos.toNat).1], setAt S g { ob with rows := [[.str s, .int .i64 (pos.toNat + (Utf8.decode s pos.toNat).2 : Nat)]] }, true)
      else some (.tup [.bool false], S, false)
    | _ => none) else none
  | none => none

/-- an operation that looks at the heap: its value, the state behind it, and whether the heap has changed -/
def lop : LOp → List D → St → Option (D × St × Bool)
  | .alloc e z, [], S => some (.ptr S.heap.length 0 0 0, newAt S ⟨e, z.length, [z], 0, 0, false⟩, true)
  | .box e sz, [x], S => if x.val && x.cells.length == sz then some (.ptr S.heap.length 0 0 0, newAt S ⟨e, sz, [x.cells], 0, 0, false⟩, true) else none
  | .bslice e sz len z ps kind, xs, S => match snapVs S.heap.length S.heap xs with
    | some ys => match fillRows (List.replicate len z) sz ps ys with
      | some rs => if kind = 2 then some (.msl S.heap.length 0 0 len none, newAt S ⟨e, sz, rs, 0, 2, false⟩, true) else some (.sl sz rs (some len), S, false)
      | none => none
    | none => none
  | .load sz agg, [a], S => (loadD sz agg S a).map fun r => (r, S, false)
  | .store sz, [a, x], S => (storeD sz S a x).map fun S' => (.undef, S', true)
  | .iaddr sz, [x, i], S => (iaddrD S sz x i).map fun r => (r, S, false)
  | .slice false sz lo hi mx, x :: xs, S => match sliceArgs lo hi mx xs with
    | some (a, b, m) => (sliceD S sz x a b m).map fun r => (r, S, false)
    | none => none
  | .append e sz bytes kind, [s, x], S => appendD e sz bytes kind s x S
  | .mkslice e sz bytes z kind, [.int _ l, .int _ c], S => if 0 ≤ l ∧ l ≤ c ∧ c.toNat * bytes ≤ 140737488355328 then
      some (.msl S.heap.length 0 0 l.toNat none, newAt S ⟨e, sz, List.replicate l.toNat z, 0, kind, decide (l ≠ c)⟩, true) else none
  | .bstr, [x], S => match readRows S 1 x with
    | some rows => (bytesOf rows).map fun b => (.str ⟨b.toArray⟩, S, false)
    | none => none
  | .strb, [.str s], S => some (.sl 1 (byteRows s) none, S, false)
  | .appstr e bytes kind, [s, .str t], S => appendRows e 1 bytes kind s (byteRows t) S
  | .eqp neg, [x, y], S => (eqpD S x y).map fun b => (.bool (b != neg), S, false)
  | .toU t n, [x], S => (wholeD S t n x).map fun r => (r, S, false)
  | .ofU t n, [x], S => (wholeD S t n x).map fun r => (r, S, false)
  | .sdata, [x], S => (sdataD S x).map fun r => (r, S, false)
  | .ustr e, [p, .int .i64 n], S => ustrD S e p n
  | .strsh, [x], S => strshD S x
  | .rngs, [.str s], S => some (.iter S.heap.length 0, newAt S ⟨1, 2, [[.str s, .int .i64 0]], 0, 3, false⟩, true)
  | .nexts, [.iter g v], S => nextsD S g v
  | .mkmap, [], S => some (.mref S.heap.length 0, newAt S ⟨0, 2, [], 0, 3, false⟩, true)
  | .mapset kf, [m, k, v], S => (mapsetD S kf m k v).map fun S' => (.undef, S', true)
  | .mapget kf z ok, [m, k], S => (mapgetD S kf z ok m k).map fun r => (r, S, false)
  | _, _, _ => none

/-- operations that look at memory -/
def LOp.loud : LOp → Bool
  | .slice false .. | .iaddr .. | .alloc .. | .box .. | .bslice .. | .load .. | .store .. | .append .. | .appstr .. | .eqp .. | .toU .. | .ofU .. | .sdata | .ustr .. | .strsh | .rngs | .nexts | .mkslice .. | .bstr | .strb | .mkmap | .mapset .. | .mapget .. | .call .. | .callv => true
  | _ => false

/-- an operation that is no call of a function -/
def aop (l : LOp) (ds : List D) (S : St) : Option (D × St × Bool) :=
  if l.loud then lop l ds S else (pop l ds).map fun r => (r, S, false)

def opd (vals env : List D) : LOpd → D
  | .env j => env.getD j .undef
  | .loc d => vals.getD d .undef
  | .const d => d

abbrev CallF := FuncId → List D → St → Option (D × St × Bool)

def exOp (call : CallF) (o : LOp) (xs : List D) (S : St) : Option (D × St × Bool) :=
  match o with
  | .call f => call f xs S
  | .callv => match xs with
    | .fn f caps :: ys => call f (ys ++ caps) S
    | _ => none
  | o => aop o xs S

/-- is an operation to be carried out? -/
def onG (vals : List D) : Option (Nat × Bool) → Option Bool
  | none => some true
  | some (d, b) => match vals.getD d .undef with
    | .bool b' => some (b' == b)
    | .skip => some false
    | _ => none

def exOps (call : CallF) : List LOper → List D → List D → St → Option (List D × St)
  | [], vals, env, S => some (vals, S)
  | o :: os, vals, env, S =>
    match onG vals o.guard with
    | none => none
    | some false => exOps call os (.skip :: vals) env S
    | some true => match exOp call o.op (o.args.map (opd vals env)) S with
      | none => none
      | some (r, S', wr) => exOps call os (r :: vals) env S'

/-! regions that draw their order -/
/-- which objects an operation looks at (none: all), which it changes or makes (none: unknown), whether it makes one; hoist: the variable that was made at the region's entry -/
structure FP where
  loud : Bool
  reads : Option (List Nat)
  writes : Option (List Nat)
  creates : Bool
  hoist : Option Nat
def plain1 : D → Bool
  | .msl .. | .mref .. => false
  | _ => true
def plainV : D → Bool
  | .agg cs => cs.all plain1
  | d => plain1 d
def fpAll (wr : Bool) : FP := if wr then ⟨true, none, none, true, none⟩ else ⟨true, none, some [], false, none⟩
def fpRead (l : List Nat) : FP := ⟨true, some l, some [], false, none⟩
def fpQuiet : FP := ⟨false, some [], some [], false, none⟩
def fpOf (l : LOp) (ds : List D) (r : D) (wr : Bool) : FP :=
  match l with
  | .load .. => match ds with
    | [.ptr g _ _ _] => fpRead [g]
    | _ => fpRead []
  | .store .. => match ds with
    | [.ptr g _ _ _, x] => if plainV x then ⟨true, some [g], some [g], false, none⟩ else fpAll wr
    | _ => fpAll wr
  | .iaddr .. => match ds with
    | [.msl g _ _ _ _, _] => fpRead [g]
    | _ => fpRead []
  | .slice false .. => match ds with
    | .msl g _ _ _ _ :: _ => fpRead [g]
    | _ => fpRead []
  | .mapget .. => match ds with
    | [.mref g _, _] => fpRead [g]
    | _ => fpRead []
  | .box .. => match r with
    | .ptr g _ _ _ => ⟨true, some [], some [g], true, none⟩
    | _ => fpAll wr
  | .mkslice .. => match r with
    | .msl g _ _ _ _ => ⟨true, some [], some [g], true, none⟩
    | _ => fpAll wr
  | .strb => fpRead []
  | l => if l.loud then fpAll wr else fpQuiet
def dj : Option (List Nat) → Option (List Nat) → Bool
  | some [], _ => true
  | some l, some m => l.all fun g => !(m.contains g)
  | _, _ => false
def apartW (g : Nat) : Option (List Nat) → Bool
  | some l => !(l.contains g)
  | none => true
def indep (a b : FP) : Bool :=
  !a.loud || !b.loud ||
    (dj a.writes b.reads && dj a.writes b.writes && dj b.writes a.reads && !(a.creates && b.creates) && !(a.creates && b.reads.isNone) && !(b.creates && a.reads.isNone))
/-- an earlier operation's f and a later one's x; b: must f lie before x? -/
def okPair (b : Bool) (f x : FP) : Bool :=
  match f.hoist, x.hoist with
  | some _, some _ => true
  | some g, none => b || apartW g x.writes
  | none, some g => apartW g f.writes
  | none, none => b || indep f x
def okFP : List Bool → List FP → FP → Bool
  | b :: bs, f :: fs, x => okPair b f x && okFP bs fs x
  | [], [], _ => true
  | _, _, _ => false
/-- the new variables that lie before an operation in every order -/
def doneFP : List Bool → List FP → List Nat
  | b :: bs, f :: fs => match b, f.hoist with
    | true, some g => g :: doneFP bs fs
    | _, _ => doneFP bs fs
  | _, _ => []
def sameD : D → D → Bool
  | .int k n, .int k' n' => decide (k = k') && decide (n = n')
  | .bool a, .bool b => a == b
  | .str a, .str b => decide (a = b)
  | .nilp, .nilp | .nils, .nils | .nilfn, .nilfn | .nilm, .nilm => true
  | _, _ => false
def sameDs : List D → List D → Bool
  | [], [] => true
  | a :: l, b :: m => sameD a b && sameDs l m
  | _, _ => false
/-- a variable as it was made -/
def sameNew (p : TypeId × List D) : Option AObj → Bool
  | some ⟨e, sz, [row], 0, 0, false⟩ => decide (e = p.1) && decide (sz = p.2.length) && sameDs row p.2
  | _ => false
/-- an operation that may change any object has not changed the new variables that may lie behind it -/
def sparesFP (n : Nat) (dn : List Nat) (H : List AObj) : List (TypeId × List D) → Nat → Bool
  | [], _ => true
  | p :: l, r => (dn.contains (n + r) || sameNew p H[n + r]?) && sparesFP n dn H l (r + 1)
def fpHere (n : Nat) (o : LOper) (ds : List D) (r : D) (wr : Bool) : FP :=
  match o.hoist with
  | some k => ⟨false, some [], some [], false, some (n + k)⟩
  | none => fpOf o.op ds r wr
def okHere (n : Nat) (news : List (TypeId × List D)) (o : LOper) (fps : List FP) (fp : FP) (S : St) : Bool :=
  okFP o.ord fps fp && (fp.writes.isSome || sparesFP n (doneFP o.ord fps) S.heap news 0)

def exDrw (call : CallF) (n : Nat) (news : List (TypeId × List D)) : List LOper → List FP → List D → List D → St → Option (List D × St)
  | [], _, vals, env, S => some (vals, S)
  | o :: os, fps, vals, env, S =>
    match onG vals o.guard with
    | none => none
    | some false => exDrw call n news os (fpQuiet :: fps) (.skip :: vals) env S
    | some true => match exOp call o.op (o.args.map (opd vals env)) S with
      | none => none
      | some (r, S', wr) => if okHere n news o fps (fpHere n o (o.args.map (opd vals env)) r wr) S' then exDrw call n news os (fpHere n o (o.args.map (opd vals env)) r wr :: fps) (r :: vals) env S' else none
def newsObj (p : TypeId × List D) : AObj := ⟨p.1, p.2.length, [p.2], 0, 0, false⟩
def newsVals (n k : Nat) : List D := ((List.range k).map fun r => D.ptr (n + r) 0 0 0).reverse

def exports : List (Nat × Nat) → List D → List D → List D
  | [], vals, env => env
  | (j, d) :: es, vals, env => exports es vals (env.set j (vals.getD d .undef))

inductive LExit where
  | normal | ret | exit (i : Nat)

def loopN (body : List D → St → Option (LExit × List D × St)) : Nat → List D → St → Option (LExit × List D × St)
  | 0, _, _ => none
  | n + 1, env, S => match body env S with
    | some (.normal, env', S') => loopN body n env' S'
    | r => r

def exCode (call : CallF) (N : Nat) : LCode → List D → St → Option (LExit × List D × St)
  | .skip, env, S => some (.normal, env, S)
  | .ret, env, S => some (.ret, env, S)
  | .exit i, env, S => some (.exit i, env, S)
  | .region ops exps, env, S => match exOps call ops [] env S with
    | some (vals, S') => some (.normal, exports exps vals env, S')
    | none => none
  | .drawn ops exps news, env, S => match exDrw call S.heap.length news ops [] (newsVals S.heap.length news.length) env ⟨S.heap ++ news.map newsObj, S.low⟩ with
    | some (vals, S') => some (.normal, exports exps vals env, S')
    | none => none
  | .seq a b, env, S => match exCode call N a env S with
    | some (.normal, env', S') => exCode call N b env' S'
    | r => r
  | .cond c a b, env, S => match opd [] env c with
    | .bool true => exCode call N a env S
    | .bool false => exCode call N b env S
    | _ => none
  | .block i c, env, S => match exCode call N c env S with
    | some (.exit j, env', S') => if j = i then some (.normal, env', S') else some (.exit j, env', S')
    | r => r
  | .loop c, env, S => loopN (exCode call N c) N env S
  | .fail, _, _ => none

def resD (env : List D) (S : St) : LRes → Option D
  | .tmp j => some (env.getD j .undef)
  | .cell j sz agg => loadD sz agg S (env.getD j .undef)
def resDs (env : List D) (S : St) : List LRes → Option (List D)
  | [] => some []
  | r :: l => match resD env S r, resDs env S l with
    | some x, some y => some (x :: y)
    | _, _ => none
def resultD (env : List D) (S : St) (l : List LRes) : Option D :=
  match resDs env S l with
  | some [x] => some x
  | some xs => some (.tup xs)
  | none => none

/-- what a call leaves: the result as plain data and the heap as it was, where that can be -/
def leave (raw : Bool) (S : St) (r : D) (S' : St) : Option (D × St × Bool) :=
  if raw then some (r, ⟨S'.heap, min S.low S'.low⟩, true) else
  match (if S.heap.length ≤ S'.low then (match snapR S.heap.length S'.heap r with | some r' => if r'.freeR then some r' else none | none => none) else none) with
  | some r' => some (r', S, false)
  | none => match snapR S'.heap.length S'.heap r with
    | some r' => some (r', ⟨S'.heap, min S.low S'.low⟩, true)
    | none => none

/-- pure: run on an empty heap where the arguments have no references -/
structure Prg where
  fns : FuncId → Option LFunc
  raw : FuncId → Bool
  pure : FuncId → Bool
/-- what a call on the empty heap leaves -/
def leaveP (S : St) (r : D) (S' : St) : Option (D × St × Bool) :=
  match leave false ⟨[], 0⟩ r S' with
  | some (r', _, false) => if r'.freeR then some (r', S, false) else none
  | _ => none

def runF (L : Prg) (N : Nat) : Nat → CallF
  | 0, _, _, _ => none
  | d + 1, f, args, S => match L.fns f with
    | none => none
    | some F => match (if L.raw f then some args else snapVs S.heap.length S.heap args) with
      | none => none
      | some args' =>
        if args'.length ≠ F.nargs then none else
        if L.pure f && args'.all D.freeV then
          match exCode (runF L N d) N F.body (F.slots.map fun s => args'.getD s .undef) ⟨[], 0⟩ with
          | some (.exit _, _, _) | none => none
          | some (_, env', S') => match resultD env' S' F.res with
            | none => none
            | some r => leaveP S r S'
        else
        match exCode (runF L N d) N F.body (F.slots.map fun s => args'.getD s .undef) ⟨S.heap, S.heap.length⟩ with
        | some (.exit _, _, _) | none => none
        | some (_, env', S') => match resultD env' S' F.res with
          | none => none
          | some r => leave (L.raw f) S r S'
end Go.Proofs.YtabgobmeibjeeaaGreatDoor

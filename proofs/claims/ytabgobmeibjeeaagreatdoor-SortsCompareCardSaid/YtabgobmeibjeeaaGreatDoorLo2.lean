/- Defined here: how a function of the given form is brought to the abstract machine's; no theorem on the program. -/
import Derived.Test.YtabgobmeibjeeaaGreatDoorLo1
namespace Go.Proofs.YtabgobmeibjeeaaGreatDoor
set_option linter.unusedVariables false

def cellOf : Value → Option D
  | .int k n => some (.int k n)
  | .bool b => some (.bool b)
  | .string s => some (.str s)
  | .pointer none => some .nilp
  | .slice none 0 0 => some .nils
  | .nilFunc => some .nilfn
  | .map none => some .nilm
  | .nilIface => some .nili
  | _ => none
def cellsOf : List Value → Option (List D)
  | [] => some []
  | v :: l => match cellOf v, cellsOf l with
    | some x, some y => some (x :: y)
    | _, _ => none
def constOf : Value → Option D
  | .agg cs => (cellsOf cs.toList).map .agg
  | v => cellOf v

def locOf : List (Option Tmp) → Tmp → Option Nat
  | [], _ => none
  | o :: l, t => if o = some t then some 0 else (locOf l t).map (· + 1)
def idxOf : List Nat → Nat → Option Nat
  | [], _ => none
  | s :: l, t => if s = t then some 0 else (idxOf l t).map (· + 1)

def lowOpd (slots : List Nat) (prev : List (Option Tmp)) : Operand → Option LOpd
  | .tmp t => match locOf prev t with
    | some d => some (.loc d)
    | none => (idxOf slots t).map .env
  | .const v => some (.const ((constOf v).getD .undef))
  | .func f => some (.const (.fn f []))
  | .global _ => some (.const .undef)

section
variable (P : Program)
def sizeT (t : TypeId) : Option Nat := match P.info? t, P.underlying t with
  | some i, some _ => if i.size = 0 then none else some i.size
  | _, _ => none
def aggT (t : TypeId) : Bool := match P.underlying t with
  | some (.struct _) | some (.array _ _) => true
  | _ => false
def zeroT (t : TypeId) : Option (List D) := match P.info? t with
  | some i => match i.zero with
    | some z => cellsOf z.cells.toList
    | none => none
  | none => none
def zero1T (t : TypeId) : Option D := match P.info? t with
  | some i => match i.zero with
    | some z => constOf z
    | none => none
  | none => none
def fieldT (s : TypeId) (f : Nat) : Option Field := match P.underlying s with
  | some (.struct fs) => fs[f]?
  | _ => none
def boolT (t : TypeId) : Bool := match P.underlying t with | some .bool => true | _ => false
def intT (t : TypeId) : Option IntKind := match P.underlying t with | some (.int k) => some k | _ => none
def strT (t : TypeId) : Bool := match P.underlying t with | some .string => true | _ => false
def sliceT (t : TypeId) : Option TypeId := match P.underlying t with | some (.slice e) => some e | _ => none
def arrayT (t : TypeId) : Option (Nat × TypeId) := match P.underlying t with | some (.array n e) => some (n, e) | _ => none

def nilT (t : TypeId) : Option Nat := match P.underlying t with | some (.slice _) => some 0 | some (.pointer _) => some 1 | some (.func _ _ _) => some 2 | some (.map _ _) => some 3 | some (.interface _) => some 4 | _ => none
def keyT (t : TypeId) : Option Nat := match P.underlying t with | some (.int _) => some 0 | some .string => some 1 | some .bool => some 2 | _ => none
def mapT (t : TypeId) : Option (TypeId × TypeId) := match P.underlying t with | some (.map k e) => some (k, e) | _ => none
/-- where a composite's parts lie: place and size of each -/
def placeT (t : TypeId) : Option (Nat → Option (Nat × Nat)) := match P.underlying t with
  | some (.array _ e) => match P.info? e with
    | some ie => some fun i => some (i * ie.size, ie.size)
    | none => none
  | some (.struct fields) => match fields.toList.mapM (fun f => (P.info? f.type).map fun i => (f.offset, i.size)) with
    | some places => some (places.toArray[·]?)
    | none => none
  | _ => none
def placesT (pl : Nat → Option (Nat × Nat)) : List (Nat × Operand) → Option (List (Nat × Nat))
  | [] => some []
  | (i, _) :: l => match pl i, placesT pl l with
    | some x, some y => some (x :: y)
    | _, _ => none

/-- the families of the cells of a type whose values are compared cell by cell -/
def eqFields (rec : TypeId → Option (List Nat)) : List Field → Nat → Option (List Nat)
  | [], _ => some []
  | f :: l, o => if f.name = "_" ∨ f.offset ≠ o then none else match rec f.type, sizeT P f.type with
    | some a, some m => if a.length = m then (eqFields rec l (o + m)).map (a ++ ·) else none
    | _, _ => none
def eqFlat : Nat → TypeId → Option (List Nat)
  | 0, _ => none
  | d + 1, t => match P.underlying t with
    | some (.int _) => some [0]
    | some .string => some [1]
    | some .bool => some [2]
    | some (.struct fs) => if P.stoodInHeld t || P.eqGuardType P.depth t then none else eqFields P (eqFlat d) fs.toList 0
    | _ => none

def opnds (l : List (Option Operand)) : List Operand := l.filterMap id

def isConst : Operand → Bool
  | .const _ => true
  | _ => false
/-- functions of the library that the model carries out itself -/
def externT (s : String) : Option LOp :=
  if s = "internal/bytealg.IndexByteString" then some .idxb
  else if s = "internal/bytealg.CountString" then some .cntb
  else if s = "internal/abi.NoEscape" then some .mv
  else none
def ptrT (t : TypeId) : Option TypeId := match P.underlying t with | some (.pointer e) => some e | _ => none
def unsT (t : TypeId) : Bool := match P.underlying t with | some .unsafePointer => true | _ => false

def lowOp (mt : Bool) (o : Oper) : Option (LOp × List Operand) :=
  match o.op with
  | .move x | .assign x => some (.mv, [x])
  | .pick c a b => some (.pick, [c, a, b])
  | .binOp op t x y _ =>
    if op = .eql ∨ op = .neq then
      (if boolT P t then some (.eqb (op = .neq), [x, y])
       else if (intT P t).isSome || strT P t then some (.bin op, [x, y])
       else match nilT P t with
        | some fam => if fam = 1 then (match ptrT P t with
            | some e => (sizeT P e).map fun _ => (.eqp (op = .neq), [x, y])
            | none => none) else if fam = 4 ∧ isConst x = false ∧ isConst y = false then none else some (.eqnil (op = .neq) fam, [x, y])
        | none => if aggT P t then (match eqFlat P 9 t with
          | some fams => some (.eqs (op = .neq) fams, [x, y])
          | none => none) else none)
    else some (.bin op, [x, y])
  | .unOp op _ x => some (.un op, [x])
  | .alloc e => match zeroT P e, sizeT P e with
    | some z, some n => if z.length = n then some (.alloc e z, []) else none
    | _, _ => none
  | .box e x => (sizeT P e).map fun n => (.box e n, [x])
  | .build t ps => match zeroT P t, placeT P t with
    | some z, some pl => match placesT pl ps.toList with
      | some l => some (.build z l, ps.toList.map (·.2))
      | none => none
    | _, _ => none
  | .buildSlice t len ps => match sliceT P t with
    | some e => match zeroT P e, sizeT P e with
      | some z, some n => if z.length = n ∧ len * n ≤ 16777216 then some (.bslice e n len z (ps.toList.map (·.1)) (if mt then 2 else 1), ps.toList.map (·.2)) else none
      | _, _ => none
    | none => none
  | .load t a => (sizeT P t).map fun n => (.load n (aggT P t), [a])
  | .store t a v => (sizeT P t).map fun n => (.store n, [a, v])
  | .nilCheck x => some (.nilck, [x])
  | .fieldAddr s x f => match fieldT P s f with
    | some fd => (sizeT P fd.type).map fun _ => (.faddr fd.offset, [x])
    | none => none
  | .field s x f => match fieldT P s f with
    | some fd => (sizeT P fd.type).map fun n => (.field fd.offset n (aggT P fd.type), [x])
    | none => none
  | .indexAddr t x i => match sliceT P t with
    | some e => (sizeT P e).map fun n => (.iaddr n, [x, i])
    | none => match arrayT P t with
      | some (len, e) => (sizeT P e).map fun n => (.aaddr n len, [x, i])
      | none => none
  | .index t x i => if strT P t then some (.index, [x, i]) else match arrayT P t with
    | some (len, e) => (sizeT P e).map fun n => (.aindex n len (aggT P e), [x, i])
    | none => none
  | .slice t x lo hi mx => if strT P t then some (.slice true 0 lo.isSome hi.isSome mx.isSome, x :: opnds [lo, hi, mx]) else match sliceT P t with
    | some e => (sizeT P e).map fun n => (.slice false n lo.isSome hi.isSome mx.isSome, x :: opnds [lo, hi, mx])
    | none => none
  | .extract x i => some (.extract i, [x])
  | .makeSlice t l c => match sliceT P t with
    | some e => match P.info? e, zeroT P e, sizeT P e with
      | some i, some z, some n => if z.length = n ∧ 0 < i.bytes then some (.mkslice e n i.bytes z (if mt then 2 else 1), [l, c]) else none
      | _, _, _ => none
    | none => none
  | .makeMap t r => if r.isNone then some (.mkmap, []) else none
  | .insert t m k v | .mapUpdate t m k v => match mapT P t with
    | some (kt, _) => (keyT P kt).map fun kf => (.mapset kf, [m, k, v])
    | none => none
  | .lookup t m k ok => match mapT P t with
    | some (kt, e) => match zero1T P e, keyT P kt with
      | some z, some kf => some (.mapget kf z ok, [m, k])
      | _, _ => none
    | none => none
  | .makeFunc (.func f) first caps => if first.isEmpty then some (.mkfn f, caps.toList) else none
  | .convert s d x => match intT P s, intT P d with
    | some _, some k => some (.conv k, [x])
    | _, _ => if strT P s && strT P d then some (.sconv, [x]) else
      if unsT P d then (match ptrT P s with | some t => (sizeT P t).map fun n => (.toU t n, [x]) | none => none) else
      if unsT P s then (match ptrT P d with | some t => (sizeT P t).map fun n => (.ofU t n, [x]) | none => none) else
      match sliceT P s, sliceT P d with
      | some e, some _ => if s = d ∧ intT P e = some .u8 ∧ sizeT P e = some 1 then some (.strsh, [x]) else none
      | some e, none => if intT P e = some .u8 && strT P d && (sizeT P e == some 1) then some (.bstr, [x]) else none
      | none, some e => if intT P e = some .u8 && strT P s && (sizeT P e == some 1) then some (.strb, [x]) else none
      | _, _ => none
  | .call c => match c.callee with
    | .value (.func f) => match P.funcs[f]? with
      | some fn => if fn.body.isNone then (match (if fn.origin = "" then externT fn.name else none) with
        | some l => some (l, c.args.toList)
        | none => none) else some (.call f, c.args.toList)
      | none => none
    | .value (.tmp t) => some (.callv, .tmp t :: c.args.toList)
    | .builtin .len => match c.args.toList, c.argTypes.toList with
      | [x], [t] => if strT P t || (sliceT P t).isSome then some (.len (strT P t), [x]) else match arrayT P t with
        | some (n, _) => some (.lenc n, [x])
        | none => none
      | _, _ => none
    | .builtin .cap => match c.args.toList, c.argTypes.toList with
      | [x], [t] => if (sliceT P t).isSome then some (.cap, [x]) else none
      | _, _ => none
    | .builtin .append => match c.args.toList, c.argTypes.toList with
      | [s, x], [t, t'] => if strT P t' then (match sliceT P t with
        | some e => match P.info? e, zeroT P e with
          | some i, some z => if intT P e = some .u8 ∧ sizeT P e = some 1 ∧ z.length = 1 ∧ 0 < i.bytes then some (.appstr e i.bytes (if mt then 2 else 1), [s, x]) else none
          | _, _ => none
        | none => none) else if t = t' then (match sliceT P t with
        | some e => match P.info? e, sizeT P e, zeroT P e with
          | some i, some n, some z => if z.length = n ∧ 0 < i.bytes then some (.append e n i.bytes (if mt then 2 else 1), [s, x]) else none
          | _, _, _ => none
        | none => none) else none
      | _, _ => none
    | .builtin .max => some (.max, c.args.toList)
    | .builtin .min => some (.min, c.args.toList)
    | .builtin .unsafeSliceData => match c.args.toList with
      | [x] => some (.sdata, [x])
      | _ => none
    | .builtin .unsafeString => match c.args.toList, c.argTypes.toList with
      | [x, y], [t, _] => (match ptrT P t with
        | some e => if intT P e = some .u8 ∧ sizeT P e = some 1 then some (.ustr e, [x, y]) else none
        | none => none)
      | _, _ => none
    | _ => none
  | .range t x => if strT P t then some (.rngs, [x]) else none
  | .next it isString => if isString then some (.nexts, [it]) else none
  | _ => none

/-- an operation that the machine does not know fails when it is met -/
def lowOpF (mt : Bool) (o : Oper) : Option (LOp × List Operand) := match lowOp P mt o with
  | some x => some x
  | none => some (.fail, [])

def lowOpds (slots : List Nat) (prev : List (Option Tmp)) : List Operand → Option (List LOpd)
  | [] => some []
  | x :: l => match lowOpd slots prev x, lowOpds slots prev l with
    | some y, some m => some (y :: m)
    | _, _ => none

/-- bs: for each operation the set of those that must lie before it -/
def ordered (bs : List Nat) (i j : Nat) : Bool := (bs.getD (Nat.max i j) 0).testBit (Nat.min i j)
/-- for the operations before number i, the newest first: must they lie before it? -/
def ordOf (bs : List Nat) (i : Nat) : List Bool := ((List.range i).map fun j => (bs.getD i 0).testBit j).reverse

def lowGuard (prev : List (Option Tmp)) : Option (Nat × Bool) → Option (Option (Nat × Bool))
  | none => some none
  | some (j, b) =>
    if j < prev.length then
      match prev.getD (prev.length - 1 - j) none with
      | some t => if locOf prev t = some (prev.length - 1 - j) then some (some (prev.length - 1 - j, b)) else none
      | none => none
    else none

def dstIn (nt : Nat) : Option Tmp → Bool
  | some d => decide (d < nt)
  | none => true
/-- is a slice that an operation makes turned to the bytes of a literal? -/
def litOf (o : Oper) (os : List Oper) : Bool := match o.dst with
  | some d => os.any fun o' => match o'.op with
    | .convert s t (.tmp t') => s == t && t' == d
    | _ => false
  | none => false
def lowOps (mt : Bool) (nt : Nat) (slots : List Nat) : List Oper → List (Option Tmp) → Option (List LOper)
  | [], _ => some []
  | o :: os, prev => match lowOpF P (mt || litOf o os) o with
    | none => none
    | some (l, xs) => match lowOpds slots prev xs, lowGuard prev o.guard, lowOps mt nt slots os (o.dst :: prev) with
      | some args, some g, some rest => if dstIn nt o.dst then some (⟨l, args, g, [], none⟩ :: rest) else none
      | _, _, _ => none

/-- the variables that a region makes without a condition -/
def newOf (o : Oper) : Option (TypeId × List D) :=
  match o.op, o.guard with
  | .alloc e, none => match zeroT P e, sizeT P e with
    | some z, some n => if z.length = n then some (e, z) else none
    | _, _ => none
  | _, _ => none
def newsOf (ops : List Oper) : List (TypeId × List D) := ops.filterMap (newOf P)
/-- k: how many variables the region makes in all; r: how many so far; i: operations so far -/
def lowDrw (mt : Bool) (nt : Nat) (slots : List Nat) (bs : List Nat) (k : Nat) : List Oper → List (Option Tmp) → Nat → Option (List LOper)
  | [], _, _ => some []
  | o :: os, prev, r => if dstIn nt o.dst then (match newOf P o with
    | some _ => match lowDrw mt nt slots bs k os (o.dst :: prev) (r + 1) with
      | some rest => some (⟨.mv, [.loc (prev.length + (k - 1 - r))], none, ordOf bs prev.length, some r⟩ :: rest)
      | none => none
    | none => match lowOpF P (mt || litOf o os) o with
      | none => none
      | some (l, xs) => match lowOpds slots prev xs, lowGuard prev o.guard, lowDrw mt nt slots bs k os (o.dst :: prev) r with
        | some args, some g, some rest => some (⟨l, args, g, ordOf bs prev.length, none⟩ :: rest)
        | _, _, _ => none) else none

def dstsOf (ops : List Oper) : List (Option Tmp) := (ops.map (·.dst)).reverse
def expsOf (dsts : List (Option Tmp)) : List Nat → Nat → List (Nat × Nat)
  | [], _ => []
  | s :: l, j => match locOf dsts s with
    | some d => (j, d) :: expsOf dsts l (j + 1)
    | none => expsOf dsts l (j + 1)

/-- no two operations write one slot; operations wait for earlier ones alone; whoever names a slot that another one writes is ordered with it -/
def drawOk (mt : Bool) (ops : Array Oper) (bs : List Nat) : Bool :=
  (List.range ops.size).all fun i => match ops[i]? with
    | none => true
    | some o =>
      (o.after.toList.all fun e => !(Region.binds .any e) || decide (e.on < i)) &&
      ((List.range ops.size).all fun k => match ops[k]? with
        | none => true
        | some o' => match o'.dst with
          | none => true
          | some d => k == i || (o.dst != some d &&
            (ordered bs i k || (((match lowOpF P true o with | some (_, xs) => xs.all (fun x => match x with | .tmp t => t != d | _ => true) | none => false) && (match lowOpF P false o with | some (_, xs) => xs.all (fun x => match x with | .tmp t => t != d | _ => true) | none => false)) &&
              (match o.guard with | some (j, _) => (match ops[j]? with | some oj => oj.dst != some d | none => true) | none => true)))))
def lowRegion (mt : Bool) (nt : Nat) (slots : List Nat) (ops : Array Oper) (draw : Bool) : Option LCode :=
  if draw then
    if drawOk P mt ops (Region.before ops).toList then
      (lowDrw P mt nt slots (Region.before ops).toList (newsOf P ops.toList).length ops.toList [] 0).map fun l => .drawn l (expsOf (dstsOf ops.toList) slots 0) (newsOf P ops.toList)
    else none
  else (lowOps P mt nt slots ops.toList []).map fun l => .region l (expsOf (dstsOf ops.toList) slots 0)

def lowCode (mt : Bool) (nt : Nat) (slots : List Nat) : Code → Option LCode
  | .skip => some .skip
  | .ret => some .ret
  | .exit i => some (.exit i)
  | .region _ ops draw => lowRegion P mt nt slots ops draw
  | .seq a b => match lowCode mt nt slots a, lowCode mt nt slots b with
    | some x, some y => some (.seq x y)
    | _, _ => none
  | .cond c a b => match lowOpd slots [] c, lowCode mt nt slots a, lowCode mt nt slots b with
    | some z, some x, some y => some (.cond z x y)
    | _, _, _ => none
  | .block i c => (lowCode mt nt slots c).map (.block i)
  | .loop c => (lowCode mt nt slots c).map .loop
  | .scope c => lowCode mt nt slots c
  | .label _ => some .skip
  | _ => some .fail

def lowRes (slots : List Nat) : List ResultVar → Option (List LRes)
  | [] => some []
  | .tmp t :: l => match idxOf slots t, lowRes slots l with
    | some j, some m => some (.tmp j :: m)
    | _, _ => none
  | .cell a t :: l => match idxOf slots a, sizeT P t, lowRes slots l with
    | some j, some n, some m => some (.cell j n (aggT P t) :: m)
    | _, _, _ => none

def lowFn (mt : Bool) (slots : List Nat) (fn : Func) : Option LFunc :=
  match fn.body with
  | none => none
  | some c => match lowCode P mt fn.ntmps slots c, lowRes P slots fn.results.toList with
    | some b, some r => if fn.name = "runtime.NumGoroutine" then none else if slots.all (· < fn.ntmps) && decide (fn.params.size + fn.nfree ≤ fn.ntmps) then some ⟨slots, fn.params.size + fn.nfree, b, r⟩ else none
    | _, _ => none
end
end Go.Proofs.YtabgobmeibjeeaaGreatDoor

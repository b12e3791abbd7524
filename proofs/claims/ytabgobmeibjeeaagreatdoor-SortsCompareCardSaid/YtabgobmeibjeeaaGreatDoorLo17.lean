/- Proved here: slices as lists of rows for the abstract machine's walks, whether they are nil or not; no condition. -/
import Derived.Test.YtabgobmeibjeeaaGreatDoorLo16
namespace Go.Proofs.YtabgobmeibjeeaaGreatDoor
set_option linter.unusedVariables false
set_option linter.unusedSimpArgs false

/-! equations, one for each kind of value -/
theorem snap_int (m : Nat) (H : List AObj) (k : IntKind) (n : Int) : snap m H (.int k n) = some (.int k n) := rfl
theorem snapV_int (m : Nat) (H : List AObj) (k : IntKind) (n : Int) : snapV m H (.int k n) = some (.int k n) := rfl
theorem snap_bool (m : Nat) (H : List AObj) (b : Bool) : snap m H (.bool b) = some (.bool b) := rfl
theorem snapV_bool (m : Nat) (H : List AObj) (b : Bool) : snapV m H (.bool b) = some (.bool b) := rfl
theorem snap_str (m : Nat) (H : List AObj) (s : ByteArray) : snap m H (.str s) = some (.str s) := rfl
theorem snapV_str (m : Nat) (H : List AObj) (s : ByteArray) : snapV m H (.str s) = some (.str s) := rfl
theorem snap_nilp (m : Nat) (H : List AObj)  : snap m H .nilp = some .nilp := rfl
theorem snapV_nilp (m : Nat) (H : List AObj)  : snapV m H .nilp = some .nilp := rfl
theorem snap_nils (m : Nat) (H : List AObj)  : snap m H .nils = some .nils := rfl
theorem snapV_nils (m : Nat) (H : List AObj)  : snapV m H .nils = some .nils := rfl
theorem snap_nilfn (m : Nat) (H : List AObj)  : snap m H .nilfn = some .nilfn := rfl
theorem snapV_nilfn (m : Nat) (H : List AObj)  : snapV m H .nilfn = some .nilfn := rfl
theorem snap_nilm (m : Nat) (H : List AObj)  : snap m H .nilm = some .nilm := rfl
theorem snapV_nilm (m : Nat) (H : List AObj)  : snapV m H .nilm = some .nilm := rfl
theorem snap_sl (m : Nat) (H : List AObj) (sz : Nat) (rows : List (List D)) (cap : Option Nat) : snap m H (.sl sz rows cap) = some (.sl sz rows cap) := rfl
theorem snapV_sl (m : Nat) (H : List AObj) (sz : Nat) (rows : List (List D)) (cap : Option Nat) : snapV m H (.sl sz rows cap) = some (.sl sz rows cap) := rfl
theorem snap_cptr (m : Nat) (H : List AObj) (row : List D) (o : Nat) : snap m H (.cptr row o) = some (.cptr row o) := rfl
theorem snapV_cptr (m : Nat) (H : List AObj) (row : List D) (o : Nat) : snapV m H (.cptr row o) = some (.cptr row o) := rfl
theorem snap_mp (m : Nat) (H : List AObj) (rows : List (List D)) : snap m H (.mp rows) = some (.mp rows) := rfl
theorem snapV_mp (m : Nat) (H : List AObj) (rows : List (List D)) : snapV m H (.mp rows) = some (.mp rows) := rfl
theorem snap_ptr (m : Nat) (H : List AObj) (g v i o : Nat) : snap m H (.ptr g v i o) = some (.ptr g v i o) := rfl
theorem snapV_ptr (m : Nat) (H : List AObj) (g v i o : Nat) : snapV m H (.ptr g v i o) = some (.ptr g v i o) := rfl
theorem snap_fn (m : Nat) (H : List AObj) (f : FuncId) (cs : List D) : snap m H (.fn f cs) = some (.fn f cs) := rfl
theorem snapV_fn (m : Nat) (H : List AObj) (f : FuncId) (cs : List D) : snapV m H (.fn f cs) = some (.fn f cs) := rfl
theorem snapV_msl (m : Nat) (H : List AObj) (g v lo n : Nat) (cap : Option Nat) : snapV m H (.msl g v lo n cap) = snap m H (.msl g v lo n cap) := rfl
theorem snapV_mref (m : Nat) (H : List AObj) (g v : Nat) : snapV m H (.mref g v) = snap m H (.mref g v) := rfl
theorem snap_msl (m : Nat) (H : List AObj) (g v lo n : Nat) (cap : Option Nat) : snap m H (.msl g v lo n cap) = match H[g]? with | some o => if o.ver = v ∧ (o.kind = 1 ∨ (m ≤ g ∧ o.kind = 2)) then some (.sl o.sz ((o.rows.drop lo).take n) (match cap with | some c => some c | none => if o.grow then none else some (o.rows.length - lo))) else none | none => none := rfl
theorem snap_mref (m : Nat) (H : List AObj) (g v : Nat) : snap m H (.mref g v) = if m ≤ g then (match H[g]? with | some o => if o.ver = v ∧ o.kind = 3 ∧ o.elem = 0 then some (.mp o.rows) else none | none => none) else some (.mref g v) := rfl
theorem snapV_agg (m : Nat) (H : List AObj) (cs : List D) : snapV m H (.agg cs) = (snaps m H cs).map .agg := rfl
theorem snapR_tup (m : Nat) (H : List AObj) (cs : List D) : snapR m H (.tup cs) = (snapVs m H cs).map .tup := rfl
theorem snapR_int (m : Nat) (H : List AObj) (k : IntKind) (n : Int) : snapR m H (.int k n) = snapV m H (.int k n) := rfl
theorem snapR_bool (m : Nat) (H : List AObj) (b : Bool) : snapR m H (.bool b) = snapV m H (.bool b) := rfl
theorem snapR_str (m : Nat) (H : List AObj) (s : ByteArray) : snapR m H (.str s) = snapV m H (.str s) := rfl
theorem snapR_nilp (m : Nat) (H : List AObj)  : snapR m H .nilp = snapV m H .nilp := rfl
theorem snapR_nils (m : Nat) (H : List AObj)  : snapR m H .nils = snapV m H .nils := rfl
theorem snapR_nilfn (m : Nat) (H : List AObj)  : snapR m H .nilfn = snapV m H .nilfn := rfl
theorem snapR_nilm (m : Nat) (H : List AObj)  : snapR m H .nilm = snapV m H .nilm := rfl
theorem snapR_sl (m : Nat) (H : List AObj) (sz : Nat) (rows : List (List D)) (cap : Option Nat) : snapR m H (.sl sz rows cap) = snapV m H (.sl sz rows cap) := rfl
theorem snapR_cptr (m : Nat) (H : List AObj) (row : List D) (o : Nat) : snapR m H (.cptr row o) = snapV m H (.cptr row o) := rfl
theorem snapR_mp (m : Nat) (H : List AObj) (rows : List (List D)) : snapR m H (.mp rows) = snapV m H (.mp rows) := rfl
theorem snapR_ptr (m : Nat) (H : List AObj) (g v i o : Nat) : snapR m H (.ptr g v i o) = snapV m H (.ptr g v i o) := rfl
theorem snapR_fn (m : Nat) (H : List AObj) (f : FuncId) (cs : List D) : snapR m H (.fn f cs) = snapV m H (.fn f cs) := rfl
theorem snapR_msl (m : Nat) (H : List AObj) (g v lo n : Nat) (cap : Option Nat) : snapR m H (.msl g v lo n cap) = snapV m H (.msl g v lo n cap) := rfl
theorem snapR_mref (m : Nat) (H : List AObj) (g v : Nat) : snapR m H (.mref g v) = snapV m H (.mref g v) := rfl
theorem snapR_agg (m : Nat) (H : List AObj) (cs : List D) : snapR m H (.agg cs) = snapV m H (.agg cs) := rfl
theorem free_int (k : IntKind) (n : Int) : D.free (.int k n) = true := rfl
theorem freeV_int (k : IntKind) (n : Int) : D.freeV (.int k n) = true := rfl
theorem freeR_int (k : IntKind) (n : Int) : D.freeR (.int k n) = true := rfl
theorem isCell_int (k : IntKind) (n : Int) : D.isCell (.int k n) = true := rfl
theorem val_int (k : IntKind) (n : Int) : D.val (.int k n) = true := rfl
theorem cells_int (k : IntKind) (n : Int) : D.cells (.int k n) = [(.int k n)] := rfl
theorem free_bool (b : Bool) : D.free (.bool b) = true := rfl
theorem freeV_bool (b : Bool) : D.freeV (.bool b) = true := rfl
theorem freeR_bool (b : Bool) : D.freeR (.bool b) = true := rfl
theorem isCell_bool (b : Bool) : D.isCell (.bool b) = true := rfl
theorem val_bool (b : Bool) : D.val (.bool b) = true := rfl
theorem cells_bool (b : Bool) : D.cells (.bool b) = [(.bool b)] := rfl
theorem free_str (s : ByteArray) : D.free (.str s) = true := rfl
theorem freeV_str (s : ByteArray) : D.freeV (.str s) = true := rfl
theorem freeR_str (s : ByteArray) : D.freeR (.str s) = true := rfl
theorem isCell_str (s : ByteArray) : D.isCell (.str s) = true := rfl
theorem val_str (s : ByteArray) : D.val (.str s) = true := rfl
theorem cells_str (s : ByteArray) : D.cells (.str s) = [(.str s)] := rfl
theorem free_nilp  : D.free .nilp = true := rfl
theorem freeV_nilp  : D.freeV .nilp = true := rfl
theorem freeR_nilp  : D.freeR .nilp = true := rfl
theorem isCell_nilp  : D.isCell .nilp = true := rfl
theorem val_nilp  : D.val .nilp = true := rfl
theorem cells_nilp  : D.cells .nilp = [.nilp] := rfl
theorem free_nils  : D.free .nils = true := rfl
theorem freeV_nils  : D.freeV .nils = true := rfl
theorem freeR_nils  : D.freeR .nils = true := rfl
theorem isCell_nils  : D.isCell .nils = true := rfl
theorem val_nils  : D.val .nils = true := rfl
theorem cells_nils  : D.cells .nils = [.nils] := rfl
theorem free_nilfn  : D.free .nilfn = true := rfl
theorem freeV_nilfn  : D.freeV .nilfn = true := rfl
theorem freeR_nilfn  : D.freeR .nilfn = true := rfl
theorem isCell_nilfn  : D.isCell .nilfn = true := rfl
theorem val_nilfn  : D.val .nilfn = true := rfl
theorem cells_nilfn  : D.cells .nilfn = [.nilfn] := rfl
theorem free_nilm  : D.free .nilm = true := rfl
theorem freeV_nilm  : D.freeV .nilm = true := rfl
theorem freeR_nilm  : D.freeR .nilm = true := rfl
theorem isCell_nilm  : D.isCell .nilm = true := rfl
theorem val_nilm  : D.val .nilm = true := rfl
theorem cells_nilm  : D.cells .nilm = [.nilm] := rfl
theorem free_sl (sz : Nat) (rows : List (List D)) (cap : Option Nat) : D.free (.sl sz rows cap) = true := rfl
theorem freeV_sl (sz : Nat) (rows : List (List D)) (cap : Option Nat) : D.freeV (.sl sz rows cap) = true := rfl
theorem freeR_sl (sz : Nat) (rows : List (List D)) (cap : Option Nat) : D.freeR (.sl sz rows cap) = true := rfl
theorem isCell_sl (sz : Nat) (rows : List (List D)) (cap : Option Nat) : D.isCell (.sl sz rows cap) = true := rfl
theorem val_sl (sz : Nat) (rows : List (List D)) (cap : Option Nat) : D.val (.sl sz rows cap) = true := rfl
theorem cells_sl (sz : Nat) (rows : List (List D)) (cap : Option Nat) : D.cells (.sl sz rows cap) = [(.sl sz rows cap)] := rfl
theorem free_cptr (row : List D) (o : Nat) : D.free (.cptr row o) = true := rfl
theorem freeV_cptr (row : List D) (o : Nat) : D.freeV (.cptr row o) = true := rfl
theorem freeR_cptr (row : List D) (o : Nat) : D.freeR (.cptr row o) = true := rfl
theorem isCell_cptr (row : List D) (o : Nat) : D.isCell (.cptr row o) = true := rfl
theorem val_cptr (row : List D) (o : Nat) : D.val (.cptr row o) = true := rfl
theorem cells_cptr (row : List D) (o : Nat) : D.cells (.cptr row o) = [(.cptr row o)] := rfl
theorem free_mp (rows : List (List D)) : D.free (.mp rows) = true := rfl
theorem freeV_mp (rows : List (List D)) : D.freeV (.mp rows) = true := rfl
theorem freeR_mp (rows : List (List D)) : D.freeR (.mp rows) = true := rfl
theorem isCell_mp (rows : List (List D)) : D.isCell (.mp rows) = true := rfl
theorem val_mp (rows : List (List D)) : D.val (.mp rows) = true := rfl
theorem cells_mp (rows : List (List D)) : D.cells (.mp rows) = [(.mp rows)] := rfl
theorem free_ptr (g v i o : Nat) : D.free (.ptr g v i o) = false := rfl
theorem freeV_ptr (g v i o : Nat) : D.freeV (.ptr g v i o) = false := rfl
theorem freeR_ptr (g v i o : Nat) : D.freeR (.ptr g v i o) = false := rfl
theorem isCell_ptr (g v i o : Nat) : D.isCell (.ptr g v i o) = true := rfl
theorem val_ptr (g v i o : Nat) : D.val (.ptr g v i o) = true := rfl
theorem cells_ptr (g v i o : Nat) : D.cells (.ptr g v i o) = [(.ptr g v i o)] := rfl
theorem free_fn (f : FuncId) (cs : List D) : D.free (.fn f cs) = cs.isEmpty := rfl
theorem freeV_fn (f : FuncId) (cs : List D) : D.freeV (.fn f cs) = cs.isEmpty := rfl
theorem freeR_fn (f : FuncId) (cs : List D) : D.freeR (.fn f cs) = cs.isEmpty := rfl
theorem isCell_fn (f : FuncId) (cs : List D) : D.isCell (.fn f cs) = true := rfl
theorem val_fn (f : FuncId) (cs : List D) : D.val (.fn f cs) = true := rfl
theorem cells_fn (f : FuncId) (cs : List D) : D.cells (.fn f cs) = [(.fn f cs)] := rfl
theorem free_msl (g v lo n : Nat) (cap : Option Nat) : D.free (.msl g v lo n cap) = false := rfl
theorem freeV_msl (g v lo n : Nat) (cap : Option Nat) : D.freeV (.msl g v lo n cap) = false := rfl
theorem freeR_msl (g v lo n : Nat) (cap : Option Nat) : D.freeR (.msl g v lo n cap) = false := rfl
theorem isCell_msl (g v lo n : Nat) (cap : Option Nat) : D.isCell (.msl g v lo n cap) = true := rfl
theorem val_msl (g v lo n : Nat) (cap : Option Nat) : D.val (.msl g v lo n cap) = true := rfl
theorem cells_msl (g v lo n : Nat) (cap : Option Nat) : D.cells (.msl g v lo n cap) = [(.msl g v lo n cap)] := rfl
theorem free_mref (g v : Nat) : D.free (.mref g v) = false := rfl
theorem freeV_mref (g v : Nat) : D.freeV (.mref g v) = false := rfl
theorem freeR_mref (g v : Nat) : D.freeR (.mref g v) = false := rfl
theorem isCell_mref (g v : Nat) : D.isCell (.mref g v) = true := rfl
theorem val_mref (g v : Nat) : D.val (.mref g v) = true := rfl
theorem cells_mref (g v : Nat) : D.cells (.mref g v) = [(.mref g v)] := rfl
theorem freeV_agg (cs : List D) : D.freeV (.agg cs) = cs.all D.free := rfl
theorem freeR_agg (cs : List D) : D.freeR (.agg cs) = cs.all D.free := rfl
theorem freeR_tup (cs : List D) : D.freeR (.tup cs) = cs.all D.freeV := rfl
theorem val_agg (cs : List D) : D.val (.agg cs) = cs.all D.isCell := rfl
theorem cells_agg (cs : List D) : D.cells (.agg cs) = cs := rfl
theorem val_undef  : D.val .undef = false := rfl
theorem snap_nili (m : Nat) (H : List AObj)  : snap m H .nili = some .nili := rfl
theorem snapV_nili (m : Nat) (H : List AObj)  : snapV m H .nili = some .nili := rfl
theorem snapR_nili (m : Nat) (H : List AObj)  : snapR m H .nili = snapV m H .nili := rfl
theorem free_nili  : D.free .nili = true := rfl
theorem freeV_nili  : D.freeV .nili = true := rfl
theorem freeR_nili  : D.freeR .nili = true := rfl
theorem isCell_nili  : D.isCell .nili = true := rfl
theorem val_nili  : D.val .nili = true := rfl
theorem cells_nili  : D.cells .nili = [.nili] := rfl
theorem snap_ifc (m : Nat) (H : List AObj) (t : TypeId) (d : D) : snap m H (.ifc t d) = some (.ifc t d) := rfl
theorem snapV_ifc (m : Nat) (H : List AObj) (t : TypeId) (d : D) : snapV m H (.ifc t d) = some (.ifc t d) := rfl
theorem snapR_ifc (m : Nat) (H : List AObj) (t : TypeId) (d : D) : snapR m H (.ifc t d) = snapV m H (.ifc t d) := rfl
theorem free_ifc (t : TypeId) (d : D) : D.free (.ifc t d) = true := rfl
theorem freeV_ifc (t : TypeId) (d : D) : D.freeV (.ifc t d) = true := rfl
theorem freeR_ifc (t : TypeId) (d : D) : D.freeR (.ifc t d) = true := rfl
theorem isCell_ifc (t : TypeId) (d : D) : D.isCell (.ifc t d) = true := rfl
theorem val_ifc (t : TypeId) (d : D) : D.val (.ifc t d) = true := rfl
theorem cells_ifc (t : TypeId) (d : D) : D.cells (.ifc t d) = [(.ifc t d)] := rfl
theorem snap_ifr (m : Nat) (H : List AObj) (t : TypeId) (d : D) : snap m H (.ifr t d) = some (.ifr t d) := rfl
theorem snapV_ifr (m : Nat) (H : List AObj) (t : TypeId) (d : D) : snapV m H (.ifr t d) = some (.ifr t d) := rfl
theorem snapR_ifr (m : Nat) (H : List AObj) (t : TypeId) (d : D) : snapR m H (.ifr t d) = snapV m H (.ifr t d) := rfl
theorem free_ifr (t : TypeId) (d : D) : D.free (.ifr t d) = false := rfl
theorem freeV_ifr (t : TypeId) (d : D) : D.freeV (.ifr t d) = false := rfl
theorem freeR_ifr (t : TypeId) (d : D) : D.freeR (.ifr t d) = false := rfl
theorem isCell_ifr (t : TypeId) (d : D) : D.isCell (.ifr t d) = true := rfl
theorem val_ifr (t : TypeId) (d : D) : D.val (.ifr t d) = true := rfl
theorem cells_ifr (t : TypeId) (d : D) : D.cells (.ifr t d) = [(.ifr t d)] := rfl
theorem snap_iter (m : Nat) (H : List AObj) (g v : Nat) : snap m H (.iter g v) = some (.iter g v) := rfl
theorem snapV_iter (m : Nat) (H : List AObj) (g v : Nat) : snapV m H (.iter g v) = some (.iter g v) := rfl
theorem snapR_iter (m : Nat) (H : List AObj) (g v : Nat) : snapR m H (.iter g v) = snapV m H (.iter g v) := rfl
theorem free_iter (g v : Nat) : D.free (.iter g v) = false := rfl
theorem freeV_iter (g v : Nat) : D.freeV (.iter g v) = false := rfl
theorem freeR_iter (g v : Nat) : D.freeR (.iter g v) = false := rfl
theorem isCell_iter (g v : Nat) : D.isCell (.iter g v) = true := rfl
theorem val_iter (g v : Nat) : D.val (.iter g v) = true := rfl
theorem cells_iter (g v : Nat) : D.cells (.iter g v) = [(.iter g v)] := rfl
theorem lenD_str (s : ByteArray) : lenD true (.str s) = some (.int .i64 s.size) := rfl
theorem lenD_nils : lenD false .nils = some (.int .i64 0) := rfl
theorem lenD_sl (sz : Nat) (rows : List (List D)) (cap : Option Nat) : lenD false (.sl sz rows cap) = some (.int .i64 rows.length) := rfl
theorem lenD_msl (g v lo n : Nat) (cap : Option Nat) : lenD false (.msl g v lo n cap) = some (.int .i64 n) := rfl
theorem capD_nils : capD .nils = some (.int .i64 0) := rfl
theorem capD_sl (sz : Nat) (rows : List (List D)) (c : Nat) : capD (.sl sz rows (some c)) = some (.int .i64 c) := rfl
theorem capD_msl (g v lo n c : Nat) : capD (.msl g v lo n (some c)) = some (.int .i64 c) := rfl
theorem iaddrD_sl (S : St) (sz s : Nat) (rows : List (List D)) (cap : Option Nat) (k : IntKind) (i : Int) : iaddrD S sz (.sl s rows cap) (.int k i) = if s = sz ∧ 0 ≤ i then rows[i.toNat]?.map (fun r => .cptr r 0) else none := rfl
theorem iaddrD_msl (S : St) (sz g v lo n : Nat) (cap : Option Nat) (k : IntKind) (i : Int) : iaddrD S sz (.msl g v lo n cap) (.int k i) = match rowsOf S g v with | some ob => if ob.sz = sz ∧ 0 ≤ i ∧ i < n then some (.ptr g v (lo + i.toNat) 0) else none | none => none := rfl
theorem readRows_nils (S : St) (sz : Nat) : readRows S sz .nils = some [] := rfl
theorem readRows_sl (S : St) (sz s : Nat) (rows : List (List D)) (cap : Option Nat) : readRows S sz (.sl s rows cap) = if s = sz then some rows else none := rfl
theorem readRows_msl (S : St) (sz g v lo n : Nat) (cap : Option Nat) : readRows S sz (.msl g v lo n cap) = match rowsOf S g v with | some o => if o.sz = sz ∧ (o.kind = 1 ∨ o.kind = 2) then some ((o.rows.drop lo).take n) else none | none => none := rfl
theorem loadD_cptr (sz : Nat) (agg : Bool) (S : St) (row : List D) (o : Nat) : loadD sz agg S (.cptr row o) = partD row o sz agg := rfl
theorem loadD_ptr (sz : Nat) (agg : Bool) (S : St) (g v i o : Nat) : loadD sz agg S (.ptr g v i o) = match rowsOf S g v with | some x => (match x.rows[i]? with | some row => partD row o sz agg | none => none) | none => none := rfl
theorem faddrD_ptr (f g v i o : Nat) : faddrD f (.ptr g v i o) = some (.ptr g v i (o + f)) := rfl
theorem faddrD_cptr (f : Nat) (row : List D) (o : Nat) : faddrD f (.cptr row o) = some (.cptr row (o + f)) := rfl
/-- an immutable slice with these rows, or nil where there are none -/
def SlD (sz : Nat) (rows : List (List D)) (x : D) : Prop := (x = .nils ∧ rows = []) ∨ ∃ cap, x = .sl sz rows cap
section
variable {sz : Nat} {rows : List (List D)} {x : D} (h : SlD sz rows x)
include h
theorem SlD.free : x.free = true := by rcases h with ⟨rfl, rfl⟩ | ⟨c, rfl⟩ <;> rfl
theorem SlD.freeV : x.freeV = true := by rcases h with ⟨rfl, rfl⟩ | ⟨c, rfl⟩ <;> rfl
theorem SlD.freeR : x.freeR = true := by rcases h with ⟨rfl, rfl⟩ | ⟨c, rfl⟩ <;> rfl
theorem SlD.isCell : x.isCell = true := by rcases h with ⟨rfl, rfl⟩ | ⟨c, rfl⟩ <;> rfl
theorem SlD.val : x.val = true := by rcases h with ⟨rfl, rfl⟩ | ⟨c, rfl⟩ <;> rfl
theorem SlD.cells : x.cells = [x] := by rcases h with ⟨rfl, rfl⟩ | ⟨c, rfl⟩ <;> rfl
theorem SlD.snap (m : Nat) (H : List AObj) : snap m H x = some x := by rcases h with ⟨rfl, rfl⟩ | ⟨c, rfl⟩ <;> rfl
theorem SlD.snapV (m : Nat) (H : List AObj) : snapV m H x = some x := by rcases h with ⟨rfl, rfl⟩ | ⟨c, rfl⟩ <;> rfl
theorem SlD.snapR (m : Nat) (H : List AObj) : snapR m H x = some x := by rcases h with ⟨rfl, rfl⟩ | ⟨c, rfl⟩ <;> rfl
theorem SlD.plain : plain1 x = true := by rcases h with ⟨rfl, rfl⟩ | ⟨c, rfl⟩ <;> rfl
theorem SlD.plainV : plainV x = true := by rcases h with ⟨rfl, rfl⟩ | ⟨c, rfl⟩ <;> rfl
theorem SlD.len : lenD false x = some (.int .i64 rows.length) := by rcases h with ⟨rfl, rfl⟩ | ⟨c, rfl⟩ <;> rfl
theorem SlD.read (S : St) : readRows S sz x = some rows := by
  rcases h with ⟨rfl, rfl⟩ | ⟨c, rfl⟩
  · rfl
  · simp [readRows]
theorem SlD.iaddr (S : St) (k : IntKind) {i : Int} {r : List D} (h0 : 0 ≤ i) (hr : rows[i.toNat]? = some r) : iaddrD S sz x (.int k i) = some (.cptr r 0) := by
  rcases h with ⟨rfl, rfl⟩ | ⟨c, rfl⟩
  · simp at hr
  · simp [iaddrD, h0, hr]
theorem SlD.iaddrN (S : St) (k : IntKind) {i : Nat} {r : List D} (hr : rows[i]? = some r) : iaddrD S sz x (.int k i) = some (.cptr r 0) := h.iaddr S k (by omega) (by simpa using hr)
theorem SlD.fpi (n : Nat) (i r : D) (wr : Bool) : fpOf (.iaddr n) [x, i] r wr = fpRead [] := by rcases h with ⟨rfl, rfl⟩ | ⟨c, rfl⟩ <;> rfl
end
theorem SlD.of (sz : Nat) (rows : List (List D)) (c : Option Nat) : SlD sz rows (.sl sz rows c) := .inr ⟨c, rfl⟩
theorem SlD.nil (sz : Nat) : SlD sz [] .nils := .inl ⟨rfl, rfl⟩
/-- texts -/
def strRows (l : List ByteArray) : List (List D) := l.map fun s => [.str s]
def strsD : List ByteArray → D
  | [] => .nils
  | l => .sl 1 (strRows l) none
theorem strsD_S (l : List ByteArray) : SlD 1 (strRows l) (strsD l) := by
  cases l with
  | nil => exact .nil 1
  | cons a l => exact .of _ _ _
theorem strRows_at {l : List ByteArray} {i : Nat} (h : i < l.length) : (strRows l)[i]? = some [.str l[i]] := by simp [strRows, h]
theorem strRows_len (l : List ByteArray) : (strRows l).length = l.length := by simp [strRows]
/-- a table of values of the machine gives each of its values -/
theorem tab_at {α : Type} {n : Nat} {f g : Nat → α} (h : (List.range n).map f = (List.range n).map g) (i : Nat) (hi : i < n) : f i = g i := by
  have := congrArg (·[i]?) h
  simpa [hi] using this
/-- the first place where a test holds, or -1 -/
def idxI {α : Type} (p : α → Bool) (l : List α) : Int := match l.findIdx? p with | some i => i | none => -1
theorem idxI_none {α : Type} {p : α → Bool} {l : List α} (h : l.any p = false) : idxI p l = -1 := by
  have : l.findIdx? p = none := by
    rw [List.findIdx?_eq_none_iff]
    intro x hx
    have := List.any_eq_false.1 h x hx
    simpa using this
  simp [idxI, this]
theorem idxI_at {α : Type} {p : α → Bool} {l : List α} {i : Nat} (hi : i < l.length) (hp : p l[i] = true) (hb : (l.take i).any p = false) : idxI p l = i := by
  have : l.findIdx? p = some i := by
    rw [List.findIdx?_eq_some_iff_getElem]
    refine ⟨hi, hp, fun j hj => ?_⟩
    have := List.any_eq_false.1 hb l[j] (by
      rw [List.mem_take_iff_getElem]
      exact ⟨j, by omega, rfl⟩)
    simpa using this
  simp [idxI, this]
theorem any_take_succ {α : Type} {p : α → Bool} {l : List α} {i : Nat} (hi : i < l.length) (hb : (l.take i).any p = false) (hp : p l[i] = false) : (l.take (i + 1)).any p = false := by
  rw [List.take_add_one, List.getElem?_eq_getElem hi, List.any_append, hb]
  simp [hp]
theorem idxI_nonneg {α : Type} (p : α → Bool) (l : List α) : decide (idxI p l ≥ 0) = l.any p := by
  cases h : l.any p with
  | false => rw [idxI_none h]; rfl
  | true =>
    unfold idxI
    cases hf : l.findIdx? p with
    | some i => simp
    | none =>
      rw [List.findIdx?_eq_none_iff] at hf
      obtain ⟨x, hx, hp⟩ := List.any_eq_true.1 h
      rw [hf x hx] at hp
      simp at hp
theorem wrap_nat (k : Nat) (h : k < 1000000000) : IntKind.i64.wrap ((k : Int) + 1) = ((k + 1 : Nat) : Int) := by rw [IntKind.wrap_i64]; omega
/-! footprints, one equation for each kind of value -/
theorem fp_load_cptr (sz : Nat) (agg : Bool) (row : List D) (o : Nat) (r : D) (wr : Bool) : fpOf (.load sz agg) [.cptr row o] r wr = fpRead [] := rfl
theorem fp_load_ptr (sz : Nat) (agg : Bool) (g v i o : Nat) (r : D) (wr : Bool) : fpOf (.load sz agg) [.ptr g v i o] r wr = fpRead [g] := rfl
theorem fp_iaddr_sl (n sz : Nat) (rows : List (List D)) (cap : Option Nat) (i r : D) (wr : Bool) : fpOf (.iaddr n) [.sl sz rows cap, i] r wr = fpRead [] := rfl
theorem fp_iaddr_msl (n g v lo m : Nat) (cap : Option Nat) (i r : D) (wr : Bool) : fpOf (.iaddr n) [.msl g v lo m cap, i] r wr = fpRead [g] := rfl
theorem fp_call (f : FuncId) (ds : List D) (r : D) (wr : Bool) : fpOf (.call f) ds r wr = fpAll wr := rfl
theorem fp_callv (ds : List D) (r : D) (wr : Bool) : fpOf .callv ds r wr = fpAll wr := rfl
theorem fp_append (e sz b k : Nat) (ds : List D) (r : D) (wr : Bool) : fpOf (.append e sz b k) ds r wr = fpAll wr := rfl
theorem fp_bslice (e sz n : Nat) (z : List D) (ps : List Nat) (k : Nat) (ds : List D) (r : D) (wr : Bool) : fpOf (.bslice e sz n z ps k) ds r wr = fpAll wr := rfl
theorem fp_store (sz g v i o : Nat) (x r : D) (wr : Bool) : fpOf (.store sz) [.ptr g v i o, x] r wr = if plainV x then ⟨true, some [g], some [g], false, none⟩ else fpAll wr := rfl
theorem fp_box (e sz : Nat) (ds : List D) (g v i o : Nat) (wr : Bool) : fpOf (.box e sz) ds (.ptr g v i o) wr = ⟨true, some [], some [g], true, none⟩ := rfl
theorem fp_alloc (e : Nat) (z ds : List D) (r : D) (wr : Bool) : fpOf (.alloc e z) ds r wr = fpAll wr := rfl
theorem fp_bstr (ds : List D) (r : D) (wr : Bool) : fpOf .bstr ds r wr = fpAll wr := rfl
theorem fp_strb (ds : List D) (r : D) (wr : Bool) : fpOf .strb ds r wr = fpRead [] := rfl
theorem fp_slice_sl (n sz : Nat) (rows : List (List D)) (cap : Option Nat) (a b c : Bool) (ds : List D) (r : D) (wr : Bool) : fpOf (.slice false n a b c) (.sl sz rows cap :: ds) r wr = fpRead [] := rfl
theorem fp_slice_msl (n g v lo m : Nat) (cap : Option Nat) (a b c : Bool) (ds : List D) (r : D) (wr : Bool) : fpOf (.slice false n a b c) (.msl g v lo m cap :: ds) r wr = fpRead [g] := rfl
theorem fp_mapget (kf : Nat) (z : D) (ok : Bool) (rows : List (List D)) (k r : D) (wr : Bool) : fpOf (.mapget kf z ok) [.mp rows, k] r wr = fpRead [] := rfl
theorem fp_mkslice (e sz b : Nat) (z : List D) (k : Nat) (ds : List D) (g v lo n : Nat) (c : Option Nat) (wr : Bool) : fpOf (.mkslice e sz b z k) ds (.msl g v lo n c) wr = ⟨true, some [], some [g], true, none⟩ := rfl
theorem fpAll_f : fpAll false = ⟨true, none, some [], false, none⟩ := rfl
theorem fpAll_t : fpAll true = ⟨true, none, none, true, none⟩ := rfl
/-! strings -/
theorem natOf_nat (k : IntKind) (n : Nat) : natOf (.int k (n : Int)) = some n := by simp [natOf]
section
variable {call : CallF} {S : St}
theorem x_strslice {s : ByteArray} {lo hi : Nat} (k k' : IntKind) (h1 : lo ≤ hi) (h2 : hi ≤ s.size) : exOp call (.slice true 0 true true false) [.str s, .int k lo, .int k' hi] S = some (.str (s.extract lo hi), S, false) := by
  simp [exOp, aop, LOp.loud, pop, sliceArgs, boundsD, natOr, natOf_nat, h1, h2]
theorem x_stradd {a b : ByteArray} (h : a.size + b.size ≤ 4611686018427387904) : exOp call (.bin .add) [.str a, .str b] S = some (.str (a ++ b), S, false) := by
  have : ¬ (((a.size + b.size : Nat) : Int) > IntKind.i64.max) := by simp only [IntKind.max, IntKind.signed, IntKind.bits]; simp; omega
  simp only [exOp, aop, LOp.loud, pop, binD, this, if_false, Bool.false_eq_true, Option.map_some]
end
/-! rows that a loop appends to: an object behind the heap H, or nothing yet -/
def AppS (H : List AObj) (lo : Nat) (e : TypeId) (sz : Nat) (rows : List (List D)) (S : St) (x : D) : Prop :=
  (rows = [] ∧ S = ⟨H, lo⟩ ∧ x = .nils) ∨ ∃ v, S = ⟨H ++ [⟨e, sz, rows, v, 1, true⟩], lo⟩ ∧ x = .msl H.length v 0 rows.length none
theorem AppS.nil (H : List AObj) (lo : Nat) (e : TypeId) (sz : Nat) : AppS H lo e sz [] ⟨H, lo⟩ .nils := .inl ⟨rfl, rfl, rfl⟩
theorem AppS.app {H : List AObj} {lo : Nat} {e sz : Nat} {rows : List (List D)} {S : St} {x : D} (h : AppS H lo e sz rows S x) (hlo : lo ≤ H.length) (bytes : Nat) {new : List (List D)} {c : Option Nat} (hn : new.isEmpty = false) (hb : (rows.length + new.length) * bytes ≤ 140737488355328) :
    ∃ x' S', appendD e sz bytes 1 x (.sl sz new c) S = some (x', S', true) ∧ AppS H lo e sz (rows ++ new) S' x' := by
  rcases h with ⟨rfl, rfl, rfl⟩ | ⟨v, rfl, rfl⟩
  · refine ⟨.msl H.length 0 0 new.length none, newAt ⟨H, lo⟩ ⟨e, sz, new, 0, 1, true⟩, ?_, .inr ⟨0, rfl, by simp⟩⟩
    simp only [List.length_nil, Nat.zero_add] at hb
    simp [appendD, appendRows, readRows, hn, hb]
  · refine ⟨.msl H.length (v + 1) 0 (rows.length + new.length) none, ⟨H ++ [⟨e, sz, rows ++ new, v + 1, 1, true⟩], lo⟩, ?_, .inr ⟨v + 1, rfl, by simp⟩⟩
    have hm : min lo H.length = lo := by omega
    simp [appendD, appendRows, readRows, rowsOf, hb, setAt, hm]
theorem AppS.len {H : List AObj} {lo : Nat} {e sz : Nat} {rows : List (List D)} {S : St} {x : D} (h : AppS H lo e sz rows S x) : lenD false x = some (.int .i64 rows.length) := by
  rcases h with ⟨rfl, rfl, rfl⟩ | ⟨v, rfl, rfl⟩ <;> rfl
/-- as an immutable slice -/
theorem AppS.snap {H : List AObj} {lo : Nat} {e sz : Nat} {rows : List (List D)} {S : St} {x : D} (h : AppS H lo e sz rows S x) (m : Nat) : ∃ y, SlD sz rows y ∧ snapV m S.heap x = some y := by
  rcases h with ⟨rfl, rfl, rfl⟩ | ⟨v, rfl, rfl⟩
  · exact ⟨.nils, .nil sz, rfl⟩
  · exact ⟨.sl sz rows none, .of _ _ _, by simp [snapV_msl, snap_msl]⟩
/-- a call may be looked at with its arguments as plain data -/
theorem run_snap {L : Prg} {N d : Nat} {f : FuncId} {args args' : List D} {S : St} (hraw : L.raw f = false) (h : snapVs S.heap.length S.heap args = some args') (h' : snapVs S.heap.length S.heap args' = some args') : runF L N d f args S = runF L N d f args' S := by
  cases d with
  | zero => rfl
  | succ d => simp only [runF, hraw, h, h', Bool.false_eq_true, if_false]
theorem St.eta (S : St) : (⟨S.heap, S.low⟩ : St) = S := rfl
/-- a search that goes down: what is found in the places from k on, or else what was there before -/
def selW {α : Type} (p : α → Bool) (l : List α) (w : Int) (t : Bool) (k : Nat) : Int × Bool := if (l.drop k).any p then (k + idxI p (l.drop k), true) else (w, t)
theorem idxI_cons {α : Type} (p : α → Bool) (a : α) (l : List α) : idxI p (a :: l) = if p a then 0 else if l.any p then idxI p l + 1 else -1 := by
  unfold idxI
  rw [List.findIdx?_cons]
  by_cases h : p a = true
  · simp [h]
  · simp only [h, Bool.false_eq_true, if_false]
    cases hf : l.findIdx? p with
    | none =>
      have : l.any p = false := by
        rw [List.any_eq_false]
        intro x hx
        rw [List.findIdx?_eq_none_iff] at hf
        simp [hf x hx]
      simp [this]
    | some i =>
      have : l.any p = true := by
        rw [List.findIdx?_eq_some_iff_getElem] at hf
        obtain ⟨hi, hp, _⟩ := hf
        exact List.any_eq_true.2 ⟨_, List.getElem_mem hi, hp⟩
      simp [this]
theorem selW_len {α : Type} (p : α → Bool) (l : List α) (w : Int) (t : Bool) : selW p l w t l.length = (w, t) := by simp [selW]
theorem selW_hit {α : Type} {p : α → Bool} {l : List α} {w : Int} {t : Bool} {k : Nat} (hk : k < l.length) (h : p l[k] = true) : selW p l w t k = ((k : Int), true) := by
  rw [selW, List.drop_eq_getElem_cons hk]
  simp only [List.any_cons, h, Bool.true_or, if_true, idxI_cons, Int.add_zero]
theorem selW_miss {α : Type} {p : α → Bool} {l : List α} {w : Int} {t : Bool} {k : Nat} (hk : k < l.length) (h : p l[k] = false) : selW p l w t k = selW p l w t (k + 1) := by
  rw [selW, selW, List.drop_eq_getElem_cons hk]
  simp only [List.any_cons, h, Bool.false_or, idxI_cons, Bool.false_eq_true, if_false]
  split
  · simp; omega
  · rfl
theorem selW_zero {α : Type} (p : α → Bool) (l : List α) (w : Int) (t : Bool) : selW p l w t 0 = if l.any p then (idxI p l, true) else (w, t) := by simp [selW]
theorem idxI_map {α β : Type} (p : β → Bool) (f : α → β) (l : List α) : idxI p (l.map f) = idxI (fun x => p (f x)) l := by
  induction l with
  | nil => rfl
  | cons a l ih => rw [List.map_cons, idxI_cons, idxI_cons, ih, List.any_map]; rfl
theorem wrap_sub (k : Int) (h1 : -1000000000 < k) (h2 : k < 1000000000) : IntKind.i64.wrap (k - 1) = k - 1 := by rw [IntKind.wrap_i64]; omega
theorem tmod_nat (a b : Nat) : (a : Int).tmod (b : Int) = ((a % b : Nat) : Int) := by
  rw [Int.tmod_eq_emod_of_nonneg (by omega)]; omega
theorem wrap_u8 (a : Nat) (h : a < 256) : IntKind.u8.wrap (a : Int) = a := by
  simp only [IntKind.wrap, IntKind.signed, IntKind.bits, Bool.false_and, Bool.false_eq_true, if_false]
  omega
/-- a slice without its first rows -/
def dropD (n : Nat) : D → D
  | .sl s rows cap => .sl s (rows.drop n) (cap.map (· - n))
  | d => d
theorem SlD.drop {sz : Nat} {rows : List (List D)} {x : D} (h : SlD sz rows x) (n : Nat) : SlD sz (rows.drop n) (dropD n x) := by
  rcases h with ⟨rfl, rfl⟩ | ⟨c, rfl⟩
  · exact .inl ⟨rfl, by simp⟩
  · exact .inr ⟨_, rfl⟩
theorem SlD.slice_lo {sz : Nat} {rows : List (List D)} {x : D} (h : SlD sz rows x) (S : St) (k : IntKind) {n : Nat} (hn : n ≤ rows.length) : sliceD S sz x (some (.int k n)) none none = some (dropD n x) := by
  rcases h with ⟨rfl, rfl⟩ | ⟨c, rfl⟩
  · simp at hn; subst hn; simp [sliceD, boundsD, natOr, natOf, dropD]
  · simp only [sliceD, ne_eq, not_true_eq_false, if_false, boundsD, natOr, natOf_nat]
    simp only [hn, Nat.le_refl, and_self, if_true, dropD]
    rw [List.take_of_length_le (by simp)]
theorem SlD.slice_1 {sz : Nat} {rows : List (List D)} {x : D} (h : SlD sz rows x) (S : St) (hn : 1 ≤ rows.length) : sliceD S sz x (some (.int .i64 1)) none none = some (dropD 1 x) := h.slice_lo S .i64 hn
/-- a slice with its length for its capacity -/
def clipD : D → D
  | .sl s rows _ => .sl s rows (some rows.length)
  | d => d
theorem SlD.clip {sz : Nat} {rows : List (List D)} {x : D} (h : SlD sz rows x) : SlD sz rows (clipD x) := by
  rcases h with ⟨rfl, rfl⟩ | ⟨c, rfl⟩
  · exact .nil _
  · exact .of _ _ _
theorem SlD.slice_clip {sz : Nat} {rows : List (List D)} {x : D} (h : SlD sz rows x) (S : St) : sliceD S sz x none (some (.int .i64 rows.length)) (some (.int .i64 rows.length)) = some (clipD x) := by
  rcases h with ⟨rfl, rfl⟩ | ⟨c, rfl⟩
  · simp [sliceD, boundsD, natOr, natOf, clipD]
  · simp [sliceD, boundsD, natOr, natOf_nat, clipD]
theorem SlD.cap_clip {sz : Nat} {rows : List (List D)} {x : D} (h : SlD sz rows x) : capD (clipD x) = some (.int .i64 rows.length) := by
  rcases h with ⟨rfl, rfl⟩ | ⟨c, rfl⟩ <;> rfl
theorem SlD.fps {sz : Nat} {rows : List (List D)} {x : D} (h : SlD sz rows x) (n : Nat) (a b c : Bool) (ds : List D) (r : D) (wr : Bool) : fpOf (.slice false n a b c) (x :: ds) r wr = fpRead [] := by
  rcases h with ⟨rfl, rfl⟩ | ⟨c, rfl⟩ <;> rfl
/-! operations in a short form -/
abbrev qo (l : LOp) (a : List LOpd) : LOper := ⟨l, a, none, [], none⟩
abbrev qg (l : LOp) (a : List LOpd) (d : Nat) (b : Bool) : LOper := ⟨l, a, some (d, b), [], none⟩
abbrev qw (l : LOp) (a : List LOpd) (n k : Nat) : LOper := ⟨l, a, none, ob n k, none⟩
abbrev qh (l : LOp) (a : List LOpd) (d : Nat) (b : Bool) (n k : Nat) : LOper := ⟨l, a, some (d, b), ob n k, none⟩
end Go.Proofs.YtabgobmeibjeeaaGreatDoor

/- Proved here: parts of the proof, joined (Lo9d, Lo9e, Lo10, Lo11, Lo12, Lo13, Lo14, Lo14b): an abstract machine, its soundness, what functions of the program compute in it; no condition. -/
import Derived.Lib.UnsafeStr
import Derived.Lib.Builder
import Derived.Lib.Bytealg
import Derived.Lib.AppendStr
import Derived.Lib.AppendZeros
import Derived.Lib.MakeNoZero
import Derived.Laws.CopyRow
import Derived.Laws.IdiomCopy
import Derived.Lib.BufferWrite
import Derived.StillTail
import Derived.Test.YtbhnlppboegmjaaGreatDoorM1
namespace Go.Proofs.YtbhnlppboegmjaaGreatDoor
open Go.RowKit
set_option linter.unusedVariables false
set_option linter.unusedSimpArgs false
section
variable {P:Program} {w:World} {ρ:Rm} {S:St}
theorem ptrT_iff{t e:TypeId}:ptrT P t=some e↔P.underlying t=some (.pointer e):=by
 unfold ptrT;split
 ·
  rename_i e' h;simp[h]
 rename_i h;constructor
 ·
  intro h';simp at h'
 intro h';exact absurd h' (h e)
theorem unsT_iff{t:TypeId}:unsT P t=true↔P.underlying t=some .unsafePointer:=by
 unfold unsT;split
 ·
  rename_i h;simp[h]
 rename_i h;constructor
 ·
  intro h';simp at h'
 intro h';exact absurd h' h
theorem eqp_ok {d1 d2 : D} {v1 v2 : Value} {t e : TypeId} {n : Nat} {b : Bool} {op : BinOp} {x y : Operand} (ho : op = .eql ∨ op = .neq) (ht : ptrT P t = some e) (hn : Ch P e = some n) (h1 : VR w ρ S.heap d1 v1) (h2 : VR w ρ S.heap d2 v2) (h : eqpD S d1 d2 = some b) :
    ∃v,(do eqGuard op t x y v1 v2;binOp op t v1 v2).run P w=.ok v w∧VR w ρ S.heap (.bool (b != decide (op=.neq))) v:=by
  have hu:=ptrT_iff.1 ht
  have key:(∀d:Nat,(Op.equalIn (d+1) t v1 v2).run P w=.ok b w)→(eqGuard op t x y v1 v2).run P w=.ok () w→(op=.eql→binOp op t v1 v2=(do pure (.bool (←Op.equal t v1 v2))))→(op=.neq→binOp op t v1 v2=(do pure (.bool (!(←Op.equal t v1 v2))))) →
      ∃v,(do eqGuard op t x y v1 v2;binOp op t v1 v2).run P w=.ok v w∧VR w ρ S.heap (.bool (b != decide (op=.neq))) v:=by
    intro he hg hb1 hb2;have hq:(Op.equal t v1 v2).run P w=.ok b w:=he 9999;rcases ho with rfl | rfl
    · exact⟨.bool b,by rw[Ad hg,hb1 rfl,Ad hq];rfl,by cases b<;>exact .bool _⟩
    exact⟨.bool !b,by rw[Ad hg,hb2 rfl,Ad hq];rfl,by cases b<;>exact .bool _⟩
  unfold eqpD at h;split at h
  · simp only [Oi] at h;subst h;cases h1;cases h2;exact key (fun d=>by unfold Op.equalIn;rw[Ad (run_underlying hu w)];rfl) (by rcases ho with rfl | rfl<;>rfl) (by rintro rfl;rfl) (by rintro rfl;rfl)
  · simp only [Oi] at h;subst h;cases h1;cases h2;exact key (fun d=>by unfold Op.equalIn;rw[Ad (run_underlying hu w)];rfl) (by rcases ho with rfl | rfl<;>rfl) (by rintro rfl;rfl) (by rintro rfl;rfl)
  · simp only [Oi] at h;subst h;cases h1;cases h2;exact key (fun d=>by unfold Op.equalIn;rw[Ad (run_underlying hu w)];rfl) (by rcases ho with rfl | rfl<;>rfl) (by rintro rfl;rfl) (by rintro rfl;rfl)
  · simp only [Oi] at h;subst h;cases h1;cases h2;exact key (fun d=>by unfold Op.equalIn;rw[Ad (run_underlying hu w)];rfl) (by rcases ho with rfl | rfl<;>rfl) (by rintro rfl;rfl) (by rintro rfl;rfl)
  · simp only [Oi] at h;subst h;cases h1;cases h2;exact key (fun d=>by unfold Op.equalIn;rw[Ad (run_underlying hu w)];rfl) (by rcases ho with rfl | rfl<;>rfl) (by rintro rfl;rfl) (by rintro rfl;rfl)
  · rename_i g v i o g' v' i' o';split at h
    · rename_i ob ob' yP uY;split at h
      · rename_i uj;subst uj;simp only[Oi]at h
        cases h1 with | ptr _ _ _ _ a1 ob1 yY zH zB xW =>
        cases h2 with | ptr _ _ _ _ a2 ob2 wX wB uh za =>
        unfold rowsOf at yP uY;simp only[yY]at yP uY;rw[yY]at wX;injection wX with wX;subst wX;split at yP
        · rename_i e1;split at uY
          · rename_i e2;simp only[Oi]at yP uY;subst yP;obtain⟨b1,r1,rfl⟩:=xW e1;obtain⟨b2,r2,rfl⟩:=za e2;rw[r1]at r2;injection r2 with r2;subst r2;obtain⟨i2,d2,yG,hd2,xE,h0⟩:=Cj hn;refine key (fun d=>?_) (by rcases ho with rfl | rfl<;>rfl) (by rintro rfl;rfl) (by rintro rfl;rfl);unfold Op.equalIn;rw[Ad (run_underlying hu w)];simp only;rw[Ad (run_sizeOf hn)];have hn0:n≠0:=by omega
            simp only[hn0,ne_eq,not_false_eq_true,if_true];unfold sameAddr;simp only[beq_self_eq_true,if_true]
            have:((⟨b1,i*ob1.sz+o,none⟩:Addr)==⟨b1,i'*ob1.sz+o',none⟩)=b:=by
              rw[←h];by_cases hq:i*ob1.sz+o=i'*ob1.sz+o'
              · simp[hq]
              simp[hq]
            rw[this];rfl
          simp at uY
        simp at yP
      simp at h
    simp at h
  simp at h
theorem shape_of{b:Nat}{cur:Array Value}{e:TypeId}{f:Nat × Nat}(h:w.heap[b]?=some (.cells cur e f)):w.shape? b=some (e,cur.size):=by simp[World.shape?,h]
theorem whole_ptr{t:TypeId}{n:Nat}{x r:D}{v:Value}(hr:Rel w ρ S.heap)(hx:VR w ρ S.heap x v)(h:J7 S t n x=some r) :
  VR w ρ S.heap r v∧(v=.pointer none∨∃b,v=.pointer (some ⟨b,0,none⟩)∧w.shape? b=some (t,n)):=by
 unfold J7 at h;split at h
 ·
  simp only[Oi]at h;subst h;cases hx;exact⟨.nilp,.inl rfl⟩
 ·
  rename_i g ver;split at h
  ·
   rename_i ob yP;split at h
   ·
    rename_i hk;obtain⟨hk0,rfl,rfl,zB,uh⟩:=hk;simp only[Oi]at h;subst h;refine⟨hx,.inr ?_⟩
    cases hx with | ptr _ _ _ _ a ob1 hg hv xL hc =>
    unfold rowsOf at yP;simp only[hg]at yP;split at yP
    ·
     rename_i e1;simp only[Oi]at yP;subst yP;obtain⟨b,hb,rfl⟩:=hc e1;obtain⟨o1,xG,cur,xD,hz,⟨c,yx,yg,_,wD⟩,hl,zD,hh⟩:=hr.cel hb hg xL;rw[hg]at xG;injection xG with xG;subst xG;refine⟨b,by simp,?_⟩;rw[shape_of xD,yx,wD uh,zB,Nat.one_mul]
    simp at yP
   simp at h
  simp at h
 simp at h
theorem cellsOf_size{t:TypeId}{n:Nat}(h:Ch P t=some n):P.cellsOf t=n:=by
 obtain⟨i,d,hi,hd,xE,h0⟩:=Cj h;simp[Program.cellsOf,hi,xE]
theorem toU_ok{s d t:TypeId}{n:Nat}{x r:D}{v:Value}(hr:Rel w ρ S.heap)(hs:ptrT P s=some t)(hd:unsT P d=true)(hn:Ch P t=some n)(hx:VR w ρ S.heap x v)(h:J7 S t n x=some r) :
  (convert s d v).run P w=.ok v w∧VR w ρ S.heap r v:=by
 obtain⟨h1,h2⟩:=whole_ptr hr hx h;refine⟨?_,h1⟩;obtain⟨i,td,hi,htd,xE,h0⟩:=Cj hn;rcases h2 with rfl | ⟨b,rfl,hsh⟩
 ·
  simp[convert,run_underlying (ptrT_iff.1 hs),run_underlying (unsT_iff.1 hd),Conv.unsafePointer]
 exact Lib.run_to_unsafe w ⟨b,0,none⟩ (ptrT_iff.1 hs) (unsT_iff.1 hd) hi (by omega) hsh (by simpa using h0)
theorem liesAt_whole{t:TypeId}{n:Nat}(hc:P.cellsOf t=n)(h0:0<n):liesAt P P.depth t (n / P.cellsOf t) 0 t 1=true:=by
 have hd:P.depth=(2*(P.types.size+Made.depth)+1)+1:=rfl;rw[hd];simp only[liesAt,Bool.or_eq_true];left;rw[hd];have h1:n / n=1:=Nat.div_self h0;have hn0:n≠0:=by omega
 simp[rowAt,hc,h1,sameLayout,hn0]
theorem ofU_ok{s d t:TypeId}{n:Nat}{x r:D}{v:Value}(hr:Rel w ρ S.heap)(hs:unsT P s=true)(hd:ptrT P d=some t)(hn:Ch P t=some n)(hx:VR w ρ S.heap x v)(h:J7 S t n x=some r) :
  (convert s d v).run P w=.ok v w∧VR w ρ S.heap r v:=by
 obtain⟨h1,h2⟩:=whole_ptr hr hx h;refine⟨?_,h1⟩;obtain⟨i,td,hi,htd,xE,h0⟩:=Cj hn;rcases h2 with rfl | ⟨b,rfl,hsh⟩
 ·
  simp[convert,run_underlying (unsT_iff.1 hs),run_underlying (ptrT_iff.1 hd),Conv.unsafePointer]
 exact Lib.run_from_unsafe w ⟨b,0,none⟩ (unsT_iff.1 hs) (ptrT_iff.1 hd) hi hsh (liesAt_whole (cellsOf_size hn) h0)
theorem sdata_ok {ts : Array TypeId} {ty : TypeId} {x r : D} {v : Value} (hr : Rel w ρ S.heap) (hx : VR w ρ S.heap x v) (h : sdataD S x = some r) : ∃ u, (Builtin.unsafeSliceData_ ts ty #[v]).run P w = .ok u w ∧ VR w ρ S.heap r u := by
  unfold sdataD at h;split at h
  · simp only [Oi] at h;subst h;cases hx;exact⟨_,Lib.run_unsafeSliceData_nil w ts ty 0 0,.nilp⟩
  · rename_i g ver m;split at h
    · rename_i ob yP;split at h
      · simp only [Oi] at h;subst h
        cases hx with | msl _ _ _ _ _ A c ob1 xS xC hg hv xL hc =>
        refine⟨_,Lib.run_unsafeSliceData_row w ts ty A _ c (by omega),.ptr g ver 0 0 A ob1 hg hv xL fun e=>?_⟩;obtain⟨b,hb,_,hA,_⟩:=hc e;exact⟨b,hb,by rw[hA (.inr rfl)];simp⟩
      simp at h
    simp at h
  simp at h
theorem freeze_set{b n:Nat}{cur:Array Value}{e:TypeId}(h:w.heap[b]?=some (.cells cur e (0,0)))(o:Nat)(hn:n≠0):Rx w (w.freeze ⟨b,o,none⟩ n) b (.cells cur e (o,o+n)):=by
  have xJ:=lt_of_heap h;refine⟨by simp[World.freeze,hn],by simp[World.freeze,hn],by simp[World.freeze,hn],by simp[World.freeze,hn],?_,fun k hk=>?_⟩
  · simp[World.freeze,hn,Array.getElem?_modify,h]
  simp[World.freeze,hn,Array.getElem?_modify,Ne.symm hk]
theorem Qw : ∀ {rows : List (List D)} {l : List UInt8}, La rows = some l → rows.length = l.length ∧ ∀ (j : Nat) (x : UInt8), l[j]? = some x → rows[j]? = some [D.int .u8 (x.toNat : Int)]
  | [], l, h => by
    simp only[La,Oi]at h;subst h;exact⟨rfl,fun j x h=>by simp at h⟩
  | r :: rows, l, h => by
    unfold La at h;split at h
    · simp at *
    · rename_i n l' uK;simp only[List.cons.injEq]at uK;obtain⟨rfl,rfl⟩:=uK;split at h
      · rename_i hb;simp only[Om]at h;obtain⟨l2,zI,rfl⟩:=h;obtain⟨h1,h2⟩:=Qw zI;refine⟨by simp[h1],fun j x hj=>?_⟩
        cases j with
        | zero =>
          simp at hj;subst hj;have:(UInt8.ofNat n.toNat).toNat=n.toNat:=by simp;omega
          simp[this];omega
        | succ j=>simpa using h2 j x (by simpa using hj)
      simp at h
    simp at h
theorem ustr_ok {pt it ty e : TypeId} {p r : D} {n : Int} {v : Value} {S' : St} {wr : Bool} (hr : Rel w ρ S.heap) (hp : ptrT P pt = some e) (hc : Ch P e = some 1) (hx : VR w ρ S.heap p v) (h : ustrD S e p n = some (r, S', wr)) :
    ∃u w',(Builtin.unsafeString_ #[pt,it] ty #[v,.int .i64 n]).run P w=.ok u w'∧Rt w ρ S r S' wr u w':=by
  unfold ustrD at h;split at h
  · split at h
    · rename_i hn;subst hn;simp only[Oi,Pi_]at h;obtain⟨rfl,rfl,rfl⟩:=h;cases hx;exact⟨_,w,Lib.run_unsafeString_none w pt it ty none,Rt.pure hr (.str _)⟩
    simp at h
  · rename_i g ver;split at h
    · rename_i ob yP;split at h
      · rename_i xO;obtain⟨hkind,xE,he,hn,zM⟩:=xO;split at h
        · rename_i l hl;simp only[Oi,Pi_]at h;obtain⟨rfl,rfl,rfl⟩:=h
          cases hx with | ptr _ _ _ _ a ob1 hg hv xL zO =>
          unfold rowsOf at yP;simp only[hg]at yP;split at yP
          · rename_i e1;simp only[Oi]at yP;subst yP;subst e1;obtain⟨b,hb,rfl⟩:=zO rfl;obtain⟨o1,xG,cur,xD,hz,⟨c,yx,yg,w9,wD⟩,yN,zD,hh⟩:=hr.cel hb hg xL;rw[hg]at xG;injection xG with xG;subst xG;obtain⟨xk,hat0⟩:=Qw hl
            have hat:∀(j:Nat) (x:UInt8),l[j]?=some x→ob1.rows[j]?=some [D.int .u8 (x.toNat:Int)]:=fun j x hj=>by
              have h1:=hat0 j x hj;rw[List.getElem?_take]at h1;split at h1
              · exact h1
              simp at h1
            rw[List.length_take,Nat.min_eq_left zM]at xk;obtain⟨m,rfl⟩:∃m:Nat,n=m:=⟨n.toNat,by omega⟩;simp only[Int.toNat_natCast]at xk zM;subst he;subst xk;by_cases xu:l=[]
            · subst xu;simp only[List.length_nil];refine⟨_,w,Lib.run_unsafeString_none w pt it ty _,updN ρ g,?_,?_,.str _,by simp⟩
              · exact rel_drop (o':={ ob1 with ver:=ob1.ver+1 }) hr hb hg xD (⟨rfl,rfl,rfl,rfl,xD,fun _ _=>rfl⟩:Rx w w b (.cells cur ob1.elem (0,0))) (by simp) rfl
              exact J9 (o':={ ob1 with ver:=ob1.ver+1 }) hr hb hg xD (⟨rfl,rfl,rfl,rfl,xD,fun _ _=>rfl⟩:Rx w w b (.cells cur ob1.elem (0,0))) (by simp) rfl
            have hl0:l.length≠0:=by simpa using xu
            have xH:=freeze_set xD 0 hl0
            have xA:=Lib.run_unsafeString_row (P:=P) w pt it ty ob1.elem (ptrT_iff.1 hp) (cellsOf_size hc) b cur.size (shape_of xD) l xu (by rw[yx,xE];omega) (by unfold maxLen at w9;omega) (fun j x hj=>by
              have xY:=hat j x hj;obtain⟨_,_,v,zH,wB⟩:=hh j _ 0 _ xY rfl;cases wB;rw[add_plain,Nat.zero_add];simp only[World.cell?,xD]
              simpa [xE] using zH)
            simp only[Nat.zero_mul,Nat.zero_add]at xA ⊢;refine⟨_,_,xA,updN ρ g,?_,?_,.str _,by simp⟩
            · exact rel_drop (o':={ ob1 with ver:=ob1.ver+1 }) hr hb hg xD xH (by simp) rfl
            exact J9 (o':={ ob1 with ver:=ob1.ver+1 }) hr hb hg xD xH (by simp) rfl
          simp at yP
        simp at h
      simp at h
    simp at h
  simp at h
theorem strsh_ok {s e : TypeId} {x r : D} {v : Value} {S' : St} {wr : Bool} (hr : Rel w ρ S.heap) (hs : P.underlying s = some (.slice e)) (he : P.underlying e = some (.int .u8)) (hx : VR w ρ S.heap x v) (h : Oy S x = some (r, S', wr)) :
    ∃u w',(convert s s v).run P w=.ok u w'∧Rt w ρ S r S' wr u w':=by
  unfold Oy at h;split at h
  · rename_i g ver n;split at h
    · rename_i ob yP;split at h
      · rename_i xO;obtain⟨uh,xE,rfl,hgr⟩:=xO;simp only[Oi,Pi_]at h;obtain⟨rfl,rfl,rfl⟩:=h
        cases hx with | msl _ _ _ _ _ A c ob1 xS xC hg hv xL hc =>
        unfold rowsOf at yP;simp only[hg]at yP;split at yP
        · rename_i e1;simp only[Oi]at yP;subst yP;subst e1;obtain⟨b,hb,y9,hA,zO⟩:=hc rfl;obtain⟨o1,xG,cur,xD,hz,⟨cc,yx,yg,w9,wD⟩,yN,zD,hh⟩:=hr.cel hb hg xL;rw[hg]at xG;injection xG with xG;subst xG;obtain⟨cur1,xW,za⟩:=zO rfl;rw[xD]at xW;injection xW with xW;injection xW with xW;subst xW
          have hce:c=ob1.rows.length:=by
            have h1:=wD hgr;rw[yx,h1,xE]at za;omega
          have qb:=hA (.inr rfl);simp only[Nat.zero_mul]at qb;subst qb;have xH:=freeze_set xD cur.size (show (1:Nat)≠0 by decide)
          have xA:(convert s s (.slice (some ⟨b,0,none⟩) ob1.rows.length c)).run P w=.ok (.slice (some ⟨b,0,none⟩) ob1.rows.length c) (w.freeze ⟨b,cur.size,none⟩ 1):=by
            simp[convert,run_underlying hs,run_underlying he,markStringish,shape_of xD]
          refine⟨_,_,xA,updN ρ g,rel_drop (o':={ ob1 with ver:=ob1.ver+1 }) hr hb hg xD xH (by simp) rfl,J9 (o':={ ob1 with ver:=ob1.ver+1 }) hr hb hg xD xH (by simp) rfl,?_,by simp⟩;have xM:=J9 (o':={ ob1 with ver:=ob1.ver+1 }) hr hb hg xD xH (by simp) rfl;refine .sl 1 ob1.rows (some ob1.rows.length) ⟨b,0,none⟩ ob1.rows.length c rfl xS (fun k hk=>by simp at hk;omega) (fun r hr'=>by rw[yN r hr',xE]) b 0 (fun i j=>(cur[i*1+j]?).getD .nilFunc) (fun _=>rfl) (fun i r j d hi hj=>?_) (fun i r j d hi hj=>?_)
          · obtain ⟨q1, q2, u, q3, q4⟩ := hh i r j d hi hj;rw[xE]at q3;refine⟨?_,⟨by rw[xH.size];exact lt_of_heap xD,?_,?_⟩,q2 (by omega)⟩
            · simp only[World.cell?,xH.new,Nat.zero_add,q3,Option.isSome_none,Bool.false_eq_true,if_false,Option.getD_some]
            · intro hX;exact (hr.hid b _ hX).2 g hb
            intro g' hg';simp only[updN]at hg';split at hg'
            · simp at hg'
            rename_i xu;exact absurd (hr.inj g' g b hg' hb) xu
          obtain⟨q1,q2,u,q3,q4⟩:=hh i r j d hi hj;rw[xE]at q3;rw[q3];exact q4.mono xM
        simp at yP
      simp at h
    simp at h
  simp at h
theorem rngs_ok{t:TypeId}{s:ByteArray}(hr:Rel w ρ S.heap)(ht:P.underlying t=some .string):∃v w',(Instr.range t (.string s)).run P w=.ok v w'∧Rt w ρ S (.iter S.heap.length 0) (newAt S ⟨1,2,[[.str s,.int .i64 0]],0,3,false⟩) true v w':=by
  have xw:=Rw.alloc w (.stringIter s 0);refine⟨.pointer (some ⟨w.heap.size,0,none⟩),w.alloc (.stringIter s 0),?_,_,rel_newiter (ob:=⟨1,2,[[.str s,.int .i64 0]],0,3,false⟩) hr xw rfl (show (1:Nat)≠0 by decide) rfl,Eu hr xw,?_,by simp⟩
  · unfold Instr.range;rw[Ad (run_underlying ht w)];rfl
  exact .iter _ 0 _ ⟨1,2,[[.str s,.int .i64 0]],0,3,false⟩ (by simp[newAt]) (Nat.le_refl _) (fun _=>by simp[upd])
theorem Pz{b pos:Nat}{s:ByteArray}(h:w.heap[b]?=some (.stringIter s pos)):(getObj b).run P w=.ok (.stringIter s pos) w:=by
 simp[getObj,Sem.run,h]
theorem run_setIter{b pos:Nat}{s:ByteArray}{o:Obj}(h:w.heap[b]?=some (.stringIter s pos)):(setObj b o).run P w=.ok () { w with heap:=w.heap.setIfInBounds b o }:=by
 simp[setObj,Sem.run,h]
theorem nexts_ok {ty : TypeId} {g ver : Nat} {r : D} {v : Value} {S' : St} {wr : Bool} (hr : Rel w ρ S.heap) (hx : VR w ρ S.heap (.iter g ver) v) (h : nextsD S g ver = some (r, S', wr)) :
    ∃u w',(Instr.next v true ty).run P w=.ok u w'∧Rt w ρ S r S' wr u w':=by
  unfold nextsD at h;split at h
  · rename_i ob yP;split at h
    · rename_i hk;split at h
      · rename_i s pos xB
        cases hx with | iter _ _ b ob1 hg hv hc =>
        unfold rowsOf at yP;simp only[hg]at yP;split at yP
        · rename_i e1;simp only[Oi]at yP;subst yP;subst e1;have hb:=hc rfl;obtain⟨s1,p1,h1,h2⟩:=hr.iter hb hg hk.1 (by rw[hk.2];decide);rw[xB]at h2;simp only[List.cons.injEq,D.str.injEq,D.int.injEq,and_true,true_and]at h2;obtain⟨rfl,rfl⟩:=h2;rw[Int.toNat_natCast]at h;have xS:∀c e f,Obj.stringIter s p1≠.cells c e f:=fun _ _ _ e=>by cases e
          have wu:=lt_of_heap h1;split at h
          · rename_i xJ;simp only[Oi,Pi_]at h;obtain⟨rfl,rfl,rfl⟩:=h;have xH:=Rx.setObj (w:=w) (o:=.stringIter s (p1+(Utf8.decode s p1).2)) wu;refine⟨.tuple #[.bool true,goInt p1,.int .i32 (Utf8.decode s p1).1],_,?_,ρ,rel_iter hr hb hg hk.1 (by rw[hk.2];decide) h1 xS xH ⟨rfl,rfl,rfl,by simp[xB],rfl⟩ rfl,Ia hr hb hg hk.1 h1 xS xH ⟨rfl,rfl,rfl,by simp[xB],rfl⟩,?_,by simp⟩
            · unfold Instr.next
              simp only;rw[Ad (Pz h1)];simp only[xJ,if_true];rw[Ad (run_setIter h1)];rfl
            have hv:VL w ρ S.heap [D.bool true,.int .i64 p1,.int .i32 (Utf8.decode s p1).1] [.bool true,goInt p1,.int .i32 (Utf8.decode s p1).1]:=.cons (.bool _) (.cons (.int _ _) (.cons (.int _ _) .nil));have xM:=Ia hr hb hg hk.1 h1 xS xH (o':={ ob1 with rows:=[[.str s,.int .i64 (p1+(Utf8.decode s p1).2:Nat)]] }) ⟨rfl,rfl,rfl,by simp[xB],rfl⟩;exact .tup _ [.bool true,goInt p1,.int .i32 (Utf8.decode s p1).1] rfl (fun j d v e1 e2=>(hv.get e1 e2).mono xM)
          rename_i xJ;simp only[Oi,Pi_]at h;obtain⟨rfl,rfl,rfl⟩:=h;refine⟨.tuple #[.bool false],w,?_,Rt.pure hr (.tup [.bool false] [.bool false] rfl (fun j d v=>VL.get (.cons (.bool _) .nil)))⟩;unfold Instr.next
          simp only;rw[Ad (Pz h1)];simp only[xJ,if_false];rfl
        simp at yP
      simp at h
    simp at h
  simp at h
theorem ext_none : Extern.allNextRows.lookup "" = none := by kernel_rfl
theorem ext_idx : Extern.allNextRows.lookup "internal/bytealg.IndexByteString" = none ∧ Extern.allGenericRows.lookup "internal/bytealg.IndexByteString" = none ∧ Extern.allTypedRows.lookup "internal/bytealg.IndexByteString" = none ∧ Extern.allRows.lookup "internal/bytealg.IndexByteString" = some Extern.BytealgIndexByte.indexByte := ⟨by kernel_rfl, by kernel_rfl, by kernel_rfl, by kernel_rfl⟩
theorem ext_cnt : Extern.allNextRows.lookup "internal/bytealg.CountString" = none ∧ Extern.allGenericRows.lookup "internal/bytealg.CountString" = none ∧ Extern.allTypedRows.lookup "internal/bytealg.CountString" = none ∧ Extern.allRows.lookup "internal/bytealg.CountString" = some Extern.BytealgCount.count := ⟨by kernel_rfl, by kernel_rfl, by kernel_rfl, by kernel_rfl⟩
theorem ext_esc : Extern.allNextRows.lookup "internal/abi.NoEscape" = none ∧ Extern.allGenericRows.lookup "internal/abi.NoEscape" = none ∧ Extern.allTypedRows.lookup "internal/abi.NoEscape" = none ∧ Extern.allRows.lookup "internal/abi.NoEscape" = some Extern.AbiNoEscape.same := ⟨by kernel_rfl, by kernel_rfl, by kernel_rfl, by kernel_rfl⟩
theorem run_ext {f : FuncId} {fn : Func} {name : String} {g : Array Value → Sem Value} {vs : Array Value} {v : Value} {w' : World} (hf : P.funcs[f]? = some fn) (hb : fn.body.isNone = true) (hn : fn.name = name) (ho : fn.origin = "") (xu : (name == "runtime.NumGoroutine") = false)
  (hx:Extern.allNextRows.lookup name=none∧Extern.allGenericRows.lookup name=none∧Extern.allTypedRows.lookup name=none∧Extern.allRows.lookup name=some g) (h:(g vs).run P w=.ok v w'):(callFunc f vs).run P w=.ok (.value v) w':=by
 obtain⟨h1,h2,h3,h4⟩:=hx;have hp:Sem.run P program w=.ok P w:=rfl;have z8:Extern.findNext fn=none:=by simp[Extern.findNext,hn,ho,h1,ext_none]
 have hfd:Extern.find fn=some g:=by simp[Extern.find,hn,h2,h3,h4]
 unfold callFunc;rw[Ad hp];simp only[hf];rw[if_neg (by rw[hn,xu];simp),if_pos hb];rw[Ad (a:=()) (w':=w) rfl];simp only[z8,hfd];rw[Ad h];rfl
theorem idxb_run{s:ByteArray}{c:Int}:(Extern.BytealgIndexByte.indexByte #[.string s,.int .u8 c]).run P w=.ok (.int .i64 (match (List.range s.size).find? (fun i=>s[i]! == UInt8.ofNat c.toNat) with | some i=>(i:Int) | none=>-1)) w:=by
 have qZ:Extern.BytealgIndexByte.indexByte #[.string s,.int .u8 c]=(do
   let b ←Extern.Bytes.bytesOf (.string s)
   let c ←Extern.Bytes.asByte (.int .u8 c)
   match (List.range b.size).find? fun i=>b[i]! == c with
   | some i=>pure (goInt i)
   | none=>pure (goInt (-1))):=rfl
 rw[qZ,Ad (a:=s) (w':=w) rfl,Ad (a:=UInt8.ofNat c.toNat) (w':=w) rfl];cases (List.range s.size).find? (fun i=>s[i]! == UInt8.ofNat c.toNat)<;>rfl
theorem cntb_run{s:ByteArray}{c:Int}:(Extern.BytealgCount.count #[.string s,.int .u8 c]).run P w=.ok (.int .i64 (s.foldl (fun n x=>if x==UInt8.ofNat c.toNat then n+1 else n) (0:Nat))) w:=by
 have qZ:Extern.BytealgCount.count #[.string s,.int .u8 c]=(do
   let b ←Extern.Bytes.bytesOf (.string s)
   let c ←Extern.Bytes.asByte (.int .u8 c)
   pure (goInt (b.foldl (fun n x=>if x==c then n+1 else n) (0:Nat)))):=rfl
 rw[qZ,Ad (a:=s) (w':=w) rfl,Ad (a:=UInt8.ofNat c.toNat) (w':=w) rfl];rfl
theorem appNoneS{t u ty e:TypeId}{i:TypeInfo}(ht:P.underlying t=some (.slice e))(hu:P.underlying u=some .string)(hi:P.info? e=some i){A:Option Addr}{n c:Nat}(xS:n≤c){s:ByteArray}(hs:s.size=0) :
  (Builtin.append_ #[t,u] ty #[.slice A n c,.string s]).run P w=.ok (.slice A n c) w:=by
 cases A with
 | none=>simp[Builtin.append_,run_underlying ht,run_underlying hu,sizeOf,typeInfo,hi,Builtin.lenOf,Builtin.firstCells,xS,hs]
 | some a=>simp[Builtin.append_,run_underlying ht,run_underlying hu,sizeOf,typeInfo,hi,Builtin.lenOf,Builtin.firstCells,xS,hs,storeCells]
theorem appstr_ok{t u ty e:TypeId}{i:TypeInfo}{kind:Nat}{z:List D}{s r:D}{vs:Value}{str:ByteArray}{S':St}{wr:Bool}(hr:Rel w ρ S.heap)(ht:P.underlying t=some (.slice e))(hu:P.underlying u=some .string)(hi:P.info? e=some i)(hn:Ch P e=some 1)(hz:Fx P e=some z)(hzl:z.length=1)(hb:0<i.bytes)(hk:kind=0∨kind=1∨kind=2)
    (hs:VR w ρ S.heap s vs) (h:Bt e 1 i.bytes kind s (Ck str) S=some (r,S',wr)) :
    ∃v w',(Builtin.append_ #[t,u] ty #[vs,.string str]).run P w=.ok v w'∧Rt w ρ S r S' wr v w':=by
  obtain⟨i1,zv,wG,zC,hzc,_,_⟩:=El (w:=w) (ρ:=ρ) (H:=S.heap) hz;rw[hi]at wG;injection wG with wG;subst wG;obtain⟨i2,d2,yG,hd2,xE,h0⟩:=Cj hn;rw[hi]at yG;injection yG with yG;subst yG;have xk:(Ck str).length=str.size:=by simp[Ck]
  refine Qx hr hi hn hzc hzl hb hk hs (fun r hr'=>by
    simp only[Ck,List.mem_map]at hr';obtain⟨b,_,rfl⟩:=hr'
    rfl) ?_ ?_ h
  · intro xu A m c hm;exact appNoneS ht hu hi hm (by rw[←xk,xu];rfl)
  intro xu;refine⟨Lib.strCells str,by rw[Lib.strCells_length,xk,Nat.mul_one],Lib.strCells_oneCell str,fun i r j d hi' hj=>?_,fun zh k1 k2=>?_,fun bb sLen sCap olds y9 holds hg k1 k2=>?_,fun g sLen sCap cur hg zu yE=>?_⟩
  · simp only [Ck, Lp_, Om] at hi';obtain⟨b,hb',rfl⟩:=hi';have hj0:j=0:=by have:=lt_of_some hj;simp at this;exact this
    subst hj0;simp at hj;subst hj;refine⟨rfl,fun _=>rfl,.int .u8 b.toNat,?_,.int _ _⟩;simp[Lib.strCells,hb']
  · rw [xk] at zh k1 k2 ⊢;have:=run_append_nil_string (P:=P) w t u ty e i zv ht hu hi zC str zh k1 k2;have e:Array.map (fun b:UInt8=>Value.int .u8 (b.toNat:Int)) str.data=(Lib.strCells str).toArray:=by apply Array.ext';simp[Lib.strCells]
    rw[this,e]
  · rw [xk] at hg k1 k2 ⊢;exact Lib.run_append_grow_string (P:=P) w t u ty e i zv ht hu hi zC bb sLen sCap olds y9 holds str hg k1 k2
  rw[xk]at zu ⊢;rw[Lib.strCells_length,xE,Nat.mul_one]at yE ⊢;exact Lib.run_append_room_string (P:=P) w t u ty e i ht hu hi xE g sLen sCap cur hg str zu yE
theorem appmk_ok{t u ty e:TypeId}{i:TypeInfo}{n:Nat}{z:List D}{k kn:IntKind}{m:Int}{r:D}{S':St}{wr:Bool}(hr:Rel w ρ S.heap)(ht:P.underlying t=some (.slice e))(hu:P.underlying u=some (.int kn))(hi:P.info? e=some i)(hn:Ch P e=some n)(hz:Fx P e=some z)(hzl:z.length=n){kd:Nat}(ug:kd=0∨kd=2)(hb:0<i.bytes)
    (h:(if 0<m∧m.toNat*i.bytes≤140737488355328 then some (D.msl S.heap.length 0 0 m.toNat none,newAt S ⟨e,n,List.replicate m.toNat z,0,kd,true⟩,true) else none)=some (r,S',wr)) :
    ∃v w',(Builtin.append_ #[t,u] ty #[.slice none 0 0,.int k m]).run P w=.ok v w'∧Rt w ρ S r S' wr v w':=by
  obtain⟨i1,zv,wG,zC,hzc,xq,y8⟩:=El (w:=w) (ρ:=ρ) (H:=S.heap) hz;rw[hi]at wG;injection wG with wG;subst wG;obtain⟨i2,d2,yG,hd2,xE,h0⟩:=Cj hn;rw[hi]at yG;injection yG with yG;subst yG;split at h
  · rename_i hc;obtain⟨hm,vS⟩:=hc;simp only[Oi,Pi_]at h;obtain⟨rfl,rfl,rfl⟩:=h;obtain⟨q,rfl⟩:∃q:Nat,m=q:=⟨m.toNat,by omega⟩;rw[Int.toNat_natCast]at vS ⊢;have h1:q*1≤q*i.bytes:=Nat.mul_le_mul_left _ hb;have hq:0<q:=by omega
    have hml:q≤maxLen:=by simp only[maxLen];omega
    have xA:=Lib.run_append_nil_zeros (P:=P) w t u ty e i zv k kn ht hu hi zC q hq (by rw[xE];exact h0) (by omega) (by omega);have xw:=Rw.drewAlloc w (.cells (Builtin.zeroCells zv.cells q++Builtin.zeroCells zv.cells (grownCap w q 0 e-q)) e);have wJ:=grownCap_ge w q 0 e;have w9:=grownCap_le_maxLen w q 0 e hml;subst hzl;have hzs:zv.cells.size=z.length:=hzc.1
    have wH:(Builtin.zeroCells zv.cells q++Builtin.zeroCells zv.cells (grownCap w q 0 e-q)).size=grownCap w q 0 e*z.length:=by
      simp only[Array.size_append,size_zeroCells,hzs,←Nat.add_mul];congr 1;omega
    have yt:=RowsIn.replicate (kk:=True) hzc xq y8 q h0
    have xB:∀i' r' j d,(List.replicate q z)[i']?=some r'→r'[j]?=some d→d.Ru=true∧d.free=true∧∃v,(Builtin.zeroCells zv.cells q++Builtin.zeroCells zv.cells (grownCap w q 0 e-q))[i'*z.length+j]?=some v∧VR w ρ S.heap d v:=by
      intro i' r' j d hi' hj;obtain⟨q1,q2,v,q3,q4⟩:=yt.2 i' r' j d hi' hj;refine⟨q1,q2 trivial,v,?_,q4⟩;have e1:Builtin.zeroCells zv.cells q=(Array.range (q*z.length)).map (zv.cells[· % zv.cells.size]!):=by rw[←hzs];rfl
      rw[←e1]at q3;rw[Array.getElem?_append_left (Array.getElem?_eq_some_iff.1 q3).1];exact q3
    refine⟨_,_,xA,_,Hg (ob:=⟨e,z.length,List.replicate q z,0,kd,true⟩) hr xw h0 ⟨_,wH,by simpa using wJ,w9,by simp⟩ (fun r hr'=>by rw[List.eq_of_mem_replicate hr']) (ug.elim .inl fun h=>.inr (.inr h)) (fun i' r' j d hi' hj=>?_),Eu hr xw,?_,by simp⟩
    · obtain ⟨q1, q2, q3⟩ := xB i' r' j d hi' hj;exact⟨q1,fun _=>q2,q3⟩
    refine .msl _ 0 0 _ none _ _ ⟨e,z.length,List.replicate q z,0,kd,true⟩ wJ (fun k hk=>by cases hk) (by simp[newAt]) (Nat.le_refl _) (by show kd≠3;omega) fun _=>⟨w.heap.size,by simp[upd],by simp,fun _=>by simp,fun _=>⟨_,xw.new,by simpa using wH⟩⟩
  simp at h
end
open Go.RowKit
section
variable {P:Program} {w:World} {ρ:Rm} {S:St}
theorem over_rows{run:Sem Value}{kind g ver lo n m c:Nat}{cap:Option Nat}{A:Addr}{ob:Rf}{new:List (List D)}{news:List Value}
    (hr:Rel w ρ S.heap) (hs:VR w ρ S.heap (.msl g ver lo n cap) (.slice (some A) n c)) (hg:S.heap[g]?=some ob) (hv:ob.ver=ver) (xE:ob.sz=1) (zD:kW kind ob.kind=true)
    (hm:new.length=m) (hmn:m≤n) (zM:news.length=m) (hnew1:∀r∈new,r.length=1)
    (vP:∀(i:Nat) (d:D),new[i]?=some [d]→d.Ru=true∧(kind≠0→d.free=true)∧∃v,news[i]?=some v∧VR w ρ S.heap d v)
    (uo:m=0→run.run P w=.ok (goInt 0) w)
    (xA:∀(b o:Nat) (cur:Array Value) (e:TypeId),m≠0→w.heap[b]?=some (.cells cur e (0,0))→o+m≤cur.size→A=⟨b,o,none⟩→run.run P w=.ok (goInt ((m:Nat):Int)) (w.setRow b (cur.toList.take o++news++cur.toList.drop (o+m)).toArray)) :
    ∃v w',run.run P w=.ok v w'∧Rt w ρ S (.int .i64 m) (setAt S g { ob with rows:=ob.rows.take lo++new++ob.rows.drop (lo+m) }) true v w':=by
  cases hs with
  | msl _ _ _ _ _ _ _ ob1 xS xC yY yh xL xD =>
  rw[hg]at yY;injection yY with yY;subst yY;obtain⟨b,hρ,y9,hA,_⟩:=xD hv;obtain⟨o1,xG,cur,hc,hz,⟨cc,yx,yg,w9,wD⟩,hl,hkk',hh⟩:=hr.cel hρ hg xL;rw[hg]at xG;injection xG with xG;subst xG;obtain⟨hk01,vX,vW⟩:=kW_ok zD;rw[xE]at hl hh yx hA;simp only[Nat.mul_one]at yx hh hA
  have hrl':(ob.rows.take lo++new++ob.rows.drop (lo+m)).length=ob.rows.length:=by
    simp only[Ll_,List.length_take,List.length_drop];omega
  have zi:({ ob with rows:=ob.rows.take lo++new++ob.rows.drop (lo+m) }:Rf).sz=ob.sz∧({ ob with rows:=ob.rows.take lo++new++ob.rows.drop (lo+m) }:Rf).elem=ob.elem∧({ ob with rows:=ob.rows.take lo++new++ob.rows.drop (lo+m) }:Rf).kind=ob.kind∧ob.rows.length≤({ ob with rows:=ob.rows.take lo++new++ob.rows.drop (lo+m) }:Rf).rows.length∧ob.ver≤({ ob with rows:=ob.rows.take lo++new++ob.rows.drop (lo+m) }:Rf).ver:=⟨rfl,rfl,rfl,by show ob.rows.length≤(ob.rows.take lo++new++ob.rows.drop (lo+m)).length;omega,Nat.le_refl _⟩
  have zW:∀r∈ob.rows.take lo++new++ob.rows.drop (lo+m),r.length=ob.sz:=by
    intro r hr';rw[xE];rcases List.mem_append.1 hr' with h1 | h1
    · rcases List.mem_append.1 h1 with h2 | h2
      · exact hl r (List.mem_of_mem_take h2)
      exact hnew1 r h2
    exact hl r (List.mem_of_mem_drop h1)
  by_cases qO:m=0
  · have qN : new = [] := List.eq_nil_of_length_eq_zero (hm.trans qO);subst qN;have xH:Rx w w b (.cells cur ob.elem (0,0)):=⟨rfl,rfl,rfl,rfl,hc,fun _ _=>rfl⟩;have yC:ob.rows.take lo++[]++ob.rows.drop (lo+m)=ob.rows:=by rw[qO];simp
    refine⟨_,w,uo qO,ρ,Jj xL hr hρ hg hc xH rfl zi (fun _ _ _=>rfl) ⟨cc,by rw[xE,Nat.mul_one];exact yx,by show _≤cc;rw[yC];exact yg,w9,by intro h;show _=(_:List (List D)).length;rw[yC];exact wD h⟩ zW (by rw[show ({ ob with rows:=ob.rows.take lo++[]++ob.rows.drop (lo+m) }:Rf).rows=ob.rows from yC];intro i r j d h1 h2;have:=hh i r j d h1 h2;simpa [xE] using this),H9 hr hρ hg hc xH rfl zi (fun _ _ _=>rfl),by rw[qO];exact .int _ _,by simp⟩
  have qb:=hA (.inl (by omega));have yE:lo+m≤cur.size:=by omega
  have hrn:=xA b lo cur ob.elem qO hc yE qb;have xH:=Rx.setRow (cs:=(cur.toList.take lo++news++cur.toList.drop (lo+m)).toArray) hc
  have xV:∀q:Nat,(cur.toList.take lo++news++cur.toList.drop (lo+m)).toArray[q]?=if lo≤q∧q<lo+m then news[q-lo]? else cur[q]?:=by
    intro q;have:=Jf (cur:=cur.toList) (vs:=news) (o:=lo) (by rw[zM];simpa using yE) q;rw[zM]at this;simpa using this
  have xR:(cur.toList.take lo++news++cur.toList.drop (lo+m)).toArray.size=cur.size:=by
    simp only[List.size_toArray,Ll_,List.length_take,List.length_drop,Array.length_toList];omega
  generalize (cur.toList.take lo++news++cur.toList.drop (lo+m)).toArray=cur' at xH xV xR hrn;have zN:ob.kind=1→∀q,q<ob.rows.length*ob.sz→cur'[q]?=cur[q]?:=fun h=>absurd h hk01
  have xB:∀i' r' j d,(ob.rows.take lo++new++ob.rows.drop (lo+m))[i']?=some r'→r'[j]?=some d→d.Ru=true∧(ob.kind≠0→d.free=true)∧∃v,cur'[i'*ob.sz+j]?=some v∧VR w ρ S.heap d v:=by
    intro i' r' j d hi' hj;have hr1:=zW r' (Lm hi');rw[xE]at hr1 ⊢;obtain⟨d',rfl⟩:∃d',r'=[d']:=List.length_eq_one_iff.1 hr1;have hj0:j=0:=by have:=lt_of_some hj;simp at this;exact this
    subst hj0;simp only[Lz,Oi]at hj;subst hj;simp only[Nat.mul_one,Nat.add_zero];have wZ:(ob.rows.take lo).length=lo:=by rw[List.length_take];omega
    rw[Lo_]at hi';by_cases c1:i'<lo
    · rw [La_ (by omega), List.getElem?_take_of_lt c1] at hi';obtain⟨q1,q2,v,q3,q4⟩:=hh i' _ 0 d' hi' rfl;refine⟨q1,q2,v,?_,q4⟩;rw[xV,if_neg (by omega)];simpa using q3
    rw[Lr_ (by omega),wZ]at hi';by_cases c2:i'-lo<m
    · rw [La_ (by omega)] at hi';obtain⟨q1,q2,v,q3,q4⟩:=vP (i'-lo) d' hi';refine⟨q1,fun h=>q2 (vX h),v,?_,q4⟩;rw[xV,if_pos (by omega)];exact q3
    rw[Lr_ (by omega),List.getElem?_drop]at hi';obtain⟨q1,q2,v,q3,q4⟩:=hh _ _ 0 d' hi' rfl;refine⟨q1,q2,v,?_,q4⟩;rw[xV,if_neg (by omega)];rw[Nat.add_zero,show lo+m+(i'-lo-new.length)=i' by omega]at q3;exact q3
  exact⟨_,_,hrn,ρ,Jj xL hr hρ hg hc xH xR zi zN ⟨cc,by rw[xR,xE,Nat.mul_one];exact yx,by show (ob.rows.take lo++new++ob.rows.drop (lo+m)).length≤cc;omega,w9,fun h=>by show cc=(ob.rows.take lo++new++ob.rows.drop (lo+m)).length;rw[hrl'];exact wD h⟩ zW xB,H9 hr hρ hg hc xH xR zi zN,.int _ _,by simp⟩
theorem Po {t u ty e : TypeId} {kind : Nat} {d r : D} {vd vx : Value} {S' : St} {wr : Bool} {src : List (List D)} {cells : List Value} (hr : Rel w ρ S.heap) (ht : P.underlying t = some (.slice e)) (hs1 : (P.info? e).map (·.size) = some 1)
    (hd:VR w ρ S.heap d vd) (yg:cells.length=src.length) (hsrc1:∀r∈src,r.length=1)
    (yS:∀(i:Nat) (d:D),src[i]?=some [d]→d.Ru=true∧(kind≠0→d.free=true)∧∃v,cells[i]?=some v∧VR w ρ S.heap d v)
    (uo:∀(A:Option Addr) (n c:Nat),min src.length n=0→(Builtin.copy_ #[t,u] ty #[.slice A n c,vx]).run P w=.ok (goInt 0) w)
    (xA:∀(b o n c:Nat) (cur:Array Value) (q:TypeId),min src.length n≠0→w.heap[b]?=some (.cells cur q (0,0))→o+min src.length n≤cur.size→(Builtin.copy_ #[t,u] ty #[.slice (some ⟨b,o,none⟩) n c,vx]).run P w=.ok (goInt ((min src.length n:Nat):Int)) (w.setRow b (cur.toList.take o++cells.take (min src.length n)++cur.toList.drop (o+min src.length n)).toArray))
    (h:Gq 1 kind d src S=some (r,S',wr)):∃v w',(Builtin.copy_ #[t,u] ty #[vd,vx]).run P w=.ok v w'∧Rt w ρ S r S' wr v w':=by
  unfold Gq at h;split at h
  · cases hd;simp only[Oi,Pi_]at h;obtain⟨rfl,rfl,rfl⟩:=h;exact⟨_,w,uo none 0 0 (by simp),Rt.pure hr (.int _ _)⟩
  · split at h
    · rename_i s rows cap hc;simp only[Oi,Pi_]at h;obtain⟨rfl,rfl,rfl⟩:=h
      cases hd with
      | sl _ _ _ A n c hn =>
        refine⟨_,w,uo (some A) n c ?_,Rt.pure hr (.int _ _)⟩;rcases hc.2 with h1 | h1
        · have : src = [] := by simpa using h1
          simp[this]
        have:rows=[]:=by simpa using h1
        simp[hn,this]
    simp at h
  · rename_i g ver lo n cap;unfold rowsOf at h
    cases hd with
    | msl _ _ _ _ _ A c ob xS xC hg yh xL xD =>
    simp only[hg]at h;by_cases hv:ob.ver=ver
    · subst hv;simp only[if_true]at h;split at h
      · rename_i hc;simp only[Oi,Pi_]at h;obtain⟨rfl,rfl,rfl⟩:=h;refine over_rows (run:=Builtin.copy_ #[t,u] ty #[.slice (some A) n c,vx]) (m:=min src.length n) (new:=src.take (min src.length n)) (news:=cells.take (min src.length n)) hr (.msl g ob.ver lo n cap A c ob xS xC hg yh xL xD) hg rfl hc.1 hc.2 (by rw[List.length_take];omega) (by omega) (by rw[List.length_take,yg];omega) (fun r hr'=>hsrc1 r (List.mem_of_mem_take hr')) (fun i d hi=>?_) (fun h0=>uo _ _ _ h0) (fun b o cur q h0 yx yE hA=>?_)
        · have yJ : i < min src.length n := by have := lt_of_some hi; rw [List.length_take] at this; omega
          rw[List.getElem?_take_of_lt yJ]at hi;obtain⟨q1,q2,v,q3,q4⟩:=yS i d hi;exact⟨q1,q2,v,by rw[List.getElem?_take_of_lt yJ];exact q3,q4⟩
        subst hA;exact xA b o n c cur q h0 yx yE
      simp at h
    simp[hv]at h
  simp at h
theorem copy_ok{t ty e:TypeId}{kind:Nat}{d x r:D}{vd vx:Value}{S':St}{wr:Bool}{src:List (List D)}(hr:Rel w ρ S.heap)(ht:P.underlying t=some (.slice e))(hn:Ch P e=some 1)
    (hd:VR w ρ S.heap d vd) (hx:VR w ρ S.heap x vx) (wR:P5 kind S 1 x=some src) (h:Gq 1 kind d src S=some (r,S',wr)) :
    ∃v w',(Builtin.copy_ #[t,t] ty #[vd,vx]).run P w=.ok v w'∧Rt w ρ S r S' wr v w':=by
  obtain⟨i,d2,hi,hd2,xE,h0⟩:=Cj hn;have hs1:(P.info? e).map (·.size)=some 1:=by rw[hi];simp[xE]
  obtain⟨A,c,rfl,yN,hs⟩:=srcK_ok hr hx wR;by_cases he:src=[]
  · subst he;refine Po (cells:=[]) hr ht hs1 hd rfl (by simp) (by simp) (fun A' n c' hm=>?_) (fun b o n c' cur q hm=>by simp at hm) h;exact run_copy_none (P:=P) w t t ty e A' A n c' _ c ht hs1 (by simp)
  obtain⟨b0,o0,f,rfl,hf⟩:=hs he
  have zU:∀(i:Nat) (d:D),src[i]?=some [d]→w.cell? ⟨b0,o0+i,none⟩=some (f i 0)∧VR w ρ S.heap d (f i 0)∧d.Ru=true∧(kind≠0→d.free=true):=by
    intro i d hi;obtain⟨q1,q2,q3,q4⟩:=hf i [d] 0 d hi rfl;rw[Nat.mul_one,Nat.add_zero]at q1;exact⟨q1,q2,q3,q4⟩
  have wI:∀i,i<src.length→∃d,src[i]?=some [d]:=by
    intro i hi;have h1:=yN _ (List.getElem_mem hi);obtain⟨d,hd⟩:=List.length_eq_one_iff.1 h1;exact⟨d,by rw[Lg hi,hd]⟩
  have wD:∀(j:Nat) (v:Value),((List.range src.length).map fun i=>f i 0)[j]?=some v→j<src.length∧v=f j 0:=by
    intro j v hj;have yA:=lt_of_some hj;simp only[List.length_map,List.length_range]at yA;rw[Lp_,List.getElem?_range yA]at hj;simp only[Option.map_some,Oi]at hj;exact⟨yA,hj.symm⟩
  refine Po (cells:=(List.range src.length).map fun i=>f i 0) hr ht hs1 hd (by simp) yN (fun i d hi=>?_) (fun A' n c' hm=>?_) (fun b o n c' cur q hm yx yE=>?_) h
  · obtain ⟨q1, q2, q3, q4⟩ := zU i d hi;have yJ:=lt_of_some hi;exact⟨q3,q4,f i 0,by rw[Lp_,List.getElem?_range yJ];rfl,q2⟩
  · exact run_copy_none (P:=P) w t t ty e A' (some ⟨b0,o0,none⟩) n c' _ c ht hs1 hm
  have hl:(((List.range src.length).map fun i=>f i 0).take (min src.length n)).length=min src.length n:=by simp
  have:=run_copy_row (P:=P) w t t ty e b o n c' ⟨b0,o0,none⟩ src.length c cur q (((List.range src.length).map fun i=>f i 0).take (min src.length n)) ht hs1 yx hl (fun j v hj=>?_) (by rw[hl];exact yE) (fun v hv=>?_)
  · rw [hl] at this;exact this
  · have yA : j < min src.length n := by have := lt_of_some hj; rw [hl] at this; exact this
    rw[List.getElem?_take_of_lt yA]at hj;obtain⟨h1,rfl⟩:=wD j v hj;obtain⟨d,hd⟩:=wI j h1;rw[add_plain];exact (zU j d hd).1
  obtain⟨j,hj,rfl⟩:=List.mem_iff_getElem.1 (List.mem_of_mem_take hv);simp only[List.length_map,List.length_range]at hj;obtain⟨d,hd⟩:=wI j hj;simp only[List.getElem_map,List.getElem_range];exact ((zU j d hd).2.1.oneCell (zU j d hd).2.2.1).1
theorem copys_ok{t u ty e:TypeId}{kind:Nat}{d r:D}{s:ByteArray}{vd:Value}{S':St}{wr:Bool}(hr:Rel w ρ S.heap)(ht:P.underlying t=some (.slice e))(hn:Ch P e=some 1)
    (hd:VR w ρ S.heap d vd) (h:Gq 1 kind d (Ck s) S=some (r,S',wr)) :
    ∃v w',(Builtin.copy_ #[t,u] ty #[vd,.string s]).run P w=.ok v w'∧Rt w ρ S r S' wr v w':=by
  obtain⟨i,d2,hi,hd2,xE,h0⟩:=Cj hn;have hs1:(P.info? e).map (·.size)=some 1:=by rw[hi];simp[xE]
  have hbl:(Ck s).length=s.size:=by simp[Ck]
  have yg:(Lib.byteCells s.data.toList).length=s.size:=by rw[Lib.byteCells_length];simp
  refine Po (cells:=Lib.byteCells s.data.toList) hr ht hs1 hd (by rw[yg,hbl]) (fun r hr'=>?_) (fun i d hi=>?_) (fun A n c hm=>?_) (fun b o n c cur q hm yx yE=>?_) h
  · simp only [Ck, List.mem_map] at hr';obtain⟨_,_,rfl⟩:=hr';rfl
  · simp only [Ck, Lp_, Om, List.cons.injEq, and_true] at hi;obtain⟨b,hb,rfl⟩:=hi;refine⟨rfl,fun _=>rfl,.int .u8 b.toNat,?_,.int _ _⟩;simp[Lib.byteCells,hb]
  · rw [hbl] at hm;simp only[Builtin.copy_,Sem.run_bind];cases A<;>simp[run_underlying ht,Builtin.lenOf,Builtin.firstCells,sizeOf,typeInfo,hi,hm,storeCells,Result.andThen]
  rw[hbl]at hm yE ⊢;have hl:((Lib.byteCells s.data.toList).take (min s.size n)).length=min s.size n:=by rw[List.length_take,yg];omega
  have xM:=run_storeCells_at P b o q ((Lib.byteCells s.data.toList).take (min s.size n)) 0 cur w yx (by rw[hl];simpa using yE) (fun v hv=>Lib.byteCells_one _ v (List.mem_of_mem_take hv));rw[hl]at xM;simp only[Nat.add_zero]at xM;simp[Builtin.copy_,run_underlying ht,Builtin.lenOf,Builtin.firstCells,sizeOf,typeInfo,hi];rw[show List.take (min s.size n) (List.map (fun b:UInt8=>Value.int IntKind.u8 (b.toNat:Int)) s.data.toList)=(Lib.byteCells s.data.toList).take (min s.size n) from rfl,xM];simp[Result.andThen]
theorem digits_u8:∀(n t:Nat) (acc:Array Value),(∀(i:Nat) (v:Value),acc[i]?=some v→∃k:Int,v=.int .u8 k)→∀(i:Nat) (v:Value),(Extern.BytealgMakeNoZero.digits n t acc)[i]?=some v→∃k:Int,v=.int .u8 k
 | 0,_,_,h=>h
 | n + 1, t, acc, h => by
  rw[Extern.BytealgMakeNoZero.digits];refine digits_u8 n _ _ fun i v hi=>?_;rw[Array.getElem?_push]at hi;split at hi
  ·
   simp only[Oi]at hi;exact⟨_,hi.symm⟩
  exact h i v hi
theorem mknz_run(ps:Array TypeId){t e:TypeId}(ht:P.underlying t=some (.slice e))(n:Nat)(hn:n≤140737488355328) :
  ∃cs:Array Value,(Extern.BytealgMakeNoZero.makeNoZero ps #[t] #[.int .i64 n]).run P w=.ok (.slice (some ⟨w.heap.size,0,none⟩) n cs.size) (w.drew.drew.alloc (.cells cs e))∧n≤cs.size∧cs.size≤maxLen∧∀(i:Nat) (v:Value),cs[i]?=some v→∃k:Int,v=.int .u8 k:=by
 obtain⟨cs,h1,h2,h3⟩:=Lib.run_makeNoZero (P:=P) w ps t e ht n (by omega);refine⟨cs,h1,h2,h3 (by simp only[maxLen];omega),?_⟩
 have qZ:Extern.BytealgMakeNoZero.makeNoZero ps #[t] #[.int .i64 n] =
   (do
    let .slice elem ← underlying t | stuck "bytealg.MakeNoZero: slice type expected"
    if (n : Int) < 0 || (n : Int) > 2 ^ 48 then runtimePanic (.error "makeslice: len out of range")
    let cap ←choose (.appendCap (n:Int).toNat 0 elem)
    askRoom cap
    let bytes ← choose (.extern "internal/bytealg.MakeNoZero.bytes" 0)
    let a ←newRow elem (Extern.BytealgMakeNoZero.digits cap bytes #[])
    pure (.slice (some a) (n:Int).toNat cap)):=rfl
 rw[qZ]at h1;have g1:¬(n:Int)<0:=by omega
 have g2:¬(281474976710656:Int)<(n:Int):=by omega
 simp[run_underlying ht,g1,g2,Question.forced,newRow]at h1;obtain⟨_,h5⟩:=h1;have h6:=congrArg (fun w':World=>w'.heap[w.heap.size]?) h5;have e1:∀o:Obj,(w.drew.drew.alloc o).heap[w.heap.size]?=some o:=fun o=>heap_alloc_new w.drew.drew o;simp only[e1,Oi,Obj.cells.injEq]at h6;obtain⟨h6,_⟩:=h6;rw[←h6];exact digits_u8 _ _ _ (by simp)
theorem drew2_add(w:World)(o:Obj):Rw w (w.drew.drew.alloc o) o:=⟨rfl,rfl,rfl,by simp,heap_alloc_new w.drew.drew o,fun k h=>heap_alloc_old w.drew.drew o h⟩
theorem mknz_ok(ps:Array TypeId){t e:TypeId}{k:IntKind}{n:Int}(hr:Rel w ρ S.heap)(ht:P.underlying t=some (.slice e))(hk:k=.i64)(h0:0≤n)(hn:n≤140737488355328) :
    ∃v w',(Extern.BytealgMakeNoZero.makeNoZero ps #[t] #[.int k n]).run P w=.ok v w'∧Rt w ρ S (.msl S.heap.length 0 0 n.toNat none) (newAt S ⟨e,1,List.replicate n.toNat [.junk],0,2,true⟩) true v w':=by
  subst hk;obtain⟨m,rfl⟩:∃m:Nat,n=m:=⟨n.toNat,by omega⟩;simp only[Int.toNat_natCast];obtain⟨cs,h1,h2,h3,h4⟩:=mknz_run (P:=P) (w:=w) ps ht m (by omega);have xw:=drew2_add w (.cells cs e);refine⟨_,_,h1,_,Hg (ob:=⟨e,1,List.replicate m [.junk],0,2,true⟩) hr xw (by simp) ⟨cs.size,by simp,by simpa using h2,h3,by simp⟩ (fun r hr'=>by rw[List.eq_of_mem_replicate hr'];rfl) (.inr (.inr rfl)) (fun i' r' j d hi' hj=>?_),Eu hr xw,?_,by simp⟩
  · have hr' := List.eq_of_mem_replicate (Lm hi');subst hr';have yJ:i'<m:=by have:=lt_of_some hi';simpa using this
    have hj0:j=0:=by have:=lt_of_some hj;simp at this;exact this
    subst hj0;simp only[Lz,Oi]at hj;subst hj;have hq:i'<cs.size:=by omega
    obtain⟨q,hq2⟩:=h4 i' cs[i'] (Array.getElem?_eq_getElem hq);refine⟨rfl,fun _=>rfl,cs[i'],by simp[hq],?_⟩;rw[hq2];exact .junk q
  refine .msl _ 0 0 _ none _ _ ⟨e,1,List.replicate m [.junk],0,2,true⟩ h2 (fun k hk=>by cases hk) (by simp[newAt]) (Nat.le_refl _) (by simp) fun _=>⟨w.heap.size,by simp[upd],by simp,fun _=>by simp,fun _=>⟨_,xw.new,by simp⟩⟩
theorem checkKeyS : ∀ (d : Nat) (t : TypeId) (R5 : List Nat), Dv P d t = some R5 → ∀ (b : Bool) (k : Nat) (a : D) (va : Value), VR w ρ S.heap a va → a.val = true → a.cells.length = R5.length → (Ei P t = true → ∃ cs, a = .agg cs) →
    (Instr.checkKey b (d+k) t va).run P w=.ok () w
  | 0,t,R5,h=>by simp[Dv]at h
  | d + 1, t, R5, h => by
    intro b k a va h1 ha xk hag;rw[show d+1+k=(d+k)+1 by omega];simp only[Dv]at h;split at h
    · rename_i kk hu;simp[Instr.checkKey,run_underlying hu]
    · rename_i hu;simp[Instr.checkKey,run_underlying hu]
    · rename_i hu;simp[Instr.checkKey,run_underlying hu]
    · rename_i fs hu;split at h
      · simp at h
      obtain⟨xs,rfl⟩:=hag (by simp[Ei,hu])
      cases h1 with | agg _ va hl1 xW hh1 =>
      have key:∀(fl:List Field) (o:Nat) (fm:List Nat),eqFields P (Dv P d) fl o=some fm→o+fm.length≤xs.length →
          (forIn fl PUnit.unit (fun (f : Field) (_ : PUnit) => (if f.name ≠ "_" then (do Instr.checkKey b (d + k) f.type (← part f.type va.toArray f.offset); pure (ForInStep.yield PUnit.unit)) else pure (ForInStep.yield PUnit.unit) : Sem (ForInStep PUnit)))).run P w = .ok PUnit.unit w := by
        intro fl
        induction fl with
        | nil=>intro o fm hf yB;simp
        | cons f fl ihl =>
          intro o fm hf yB;simp only[eqFields]at hf;split at hf
          · simp at hf
          rename_i uF;simp only[not_or,ne_eq,Decidable.not_not]at uF;obtain⟨zy,hoff⟩:=uF;split at hf
          · rename_i fa m yH xE;split at hf
            · rename_i vQ;simp only[Om]at hf;obtain⟨fm',hf',rfl⟩:=hf;simp only[Ll_]at yB
              have zU:Ei P f.type=false→m=1:=by
                intro hg
                cases d with
                | zero=>simp[Dv]at yH
                | succ d' =>
                  simp only[Dv]at yH;split at yH
                  · simp only[Oi]at yH;subst yH;exact vQ.symm
                  · simp only[Oi]at yH;subst yH;exact vQ.symm
                  · simp only[Oi]at yH;subst yH;exact vQ.symm
                  · rename_i hu';unfold Ei at hg;rw[hu']at hg;simp at hg
                  simp at yH
              obtain⟨pa,a1,a2,a3,a4⟩:∃p,Au xs o m (Ei P f.type)=some p∧p.cells.length=m∧p.val=true∧(Ei P f.type=true→∃c,p=.agg c):=by
                cases hg:Ei P f.type with
                | true =>
                  refine⟨.agg ((xs.drop o).take m),by simp[Au];omega,by simp[D.cells];omega,?_,fun _=>⟨_,rfl⟩⟩;simp only[D.val,List.all_eq_true]at xW ⊢;intro c hc';exact xW c (List.mem_of_mem_drop (List.mem_of_mem_take hc'))
                | false =>
                  have:=zU hg;subst this;have xJ:o<xs.length:=by omega
                  have yg:xs[o].Ru=true:=by
                    simp only[List.all_eq_true]at xW;exact xW _ (List.getElem_mem xJ)
                  refine⟨xs[o],by simp[Au,xJ],?_,?_,fun h=>by simp at h⟩
                  · cases e:xs[o]<;>first | rfl | (rw[e]at yg;simp[D.Ru]at yg)
                  cases e:xs[o]<;>first | rfl | (rw[e]at yg;simp[D.Ru]at yg)
              obtain⟨xa,x1,x2⟩:=Kl (P:=P) hl1 xW hh1 a1 xE rfl;have hq:=checkKeyS d f.type fa yH b k pa xa x2 a3 (by rw[a2,vQ]) a4;simp only[List.forIn_cons,Sem.run_bind,zy,ne_eq,not_false_eq_true,if_true,hoff,x1,Result.andThen_ok,hq,Sem.run_pure];exact ihl (o+m) fm' hf' (by omega)
            simp at hf
          simp at hf
      have hk:=key fs.toList 0 R5 h (by simp only[D.cells]at xk;omega);rw[Array.forIn_toList]at hk;simp only[Instr.checkKey,Sem.run_bind,run_underlying hu,Result.andThen_ok];refine Eq.trans (congrArg (fun z=>Result.andThen z _) hk) ?_;rfl
    simp at h
theorem keyS_free {R5 : List Nat} {k : D} (h : Kr R5 k = true) : k.Rp = true ∧ k.val = true := by
  unfold Kr at h;split at h
  · rename_i cs;simp only[Bool.and_eq_true,beq_iff_eq,List.all_eq_true]at h;obtain⟨h1,h2⟩:=h
    have key:∀d∈cs,d.free=true∧d.Ru=true:=by
      intro d hd;obtain⟨i,hi,rfl⟩:=List.mem_iff_getElem.1 hd
      have:=h2 (cs[i],R5[i]'(by omega)) (by
        rw[List.mem_iff_getElem]
        exact⟨i,by simp;omega,by simp⟩)
      simp only at this
      revert this
      cases e:cs[i]<;>cases e2:R5[i]'(by omega)<;>simp[isKey,D.free,D.Rv,D.Ru]
    exact⟨by simp only[D.Rp,List.all_eq_true];exact fun d hd=>(key d hd).1,by simp only[D.val,List.all_eq_true];exact fun d hd=>(key d hd).2⟩
  simp at h
theorem keyS_check{kt:TypeId}{R5:List Nat}{k:D}{vk:Value}{b:Bool}(wC:Ei P kt=true)(uf:Dv P 9 kt=some R5)(xU:Kr R5 k=true)(hk:VR w ρ S.heap k vk):(Instr.checkKey b 10000 kt vk).run P w=.ok () w:=by
 obtain⟨_,h2⟩:=keyS_free xU;refine checkKeyS 9 kt R5 uf b 9991 k vk hk h2 ?_ fun _=>?_
 ·
  unfold Kr at xU;split at xU
  ·
   simp only[Bool.and_eq_true,beq_iff_eq]at xU;exact xU.1
  simp at xU
 unfold Kr at xU;split at xU
 ·
  exact⟨_,rfl⟩
 simp at xU
theorem eqS_run{kt:TypeId}{R5:List Nat}{cs ds:List D}{va vb:Value}{r:Bool}(wC:Ei P kt=true)(uf:Dv P 9 kt=some R5)(h1:VR w ρ S.heap (.agg cs) va)(h2:VR w ρ S.heap (.agg ds) vb)(he:Bv R5 cs ds=some r):(Op.equal kt va vb).run P w=.ok r w:=by
 have zH:(D.agg cs).val=true:=by cases h1 with | agg _ _ _ hc _=>exact hc
 have wB:(D.agg ds).val=true:=by cases h2 with | agg _ _ _ hc _=>exact hc
 exact Pn 9 kt R5 uf 9991 _ _ _ _ r h1 h2 zH wB he (fun _=>⟨⟨_,rfl⟩,⟨_,rfl⟩⟩) (fun h=>by rw[wC]at h;simp at h)
theorem Qp {kt : TypeId} {R5 : List Nat} {k : D} {vk : Value} (wC : Ei P kt = true) (uf : Dv P 9 kt = some R5) (hk : VR w ρ S.heap k vk) : ∀ {rows : List (List D)} {es : List MapEntry} {i : Nat} {x : Option (Nat × D)}, es.length = rows.length → (∀ (j : Nat) (r : List D), rows[j]? = some r → ∃ (e : MapEntry) (a v : D), es[j]? = some e ∧ r = [a, v] ∧ VR w ρ S.heap a e.key ∧ VR w ρ S.heap v e.val) → Gm R5 k rows i = some x →
    (x=none∧(Instr.findAsking kt vk es i).run P w=.ok none w)∨∃(j:Nat) (v:D) (e:MapEntry) (cs ds:List D),x=some (i+j,v)∧(∃a,a=D.agg ds∧rows[j]?=some [a,v]∧k=.agg cs∧VR w ρ S.heap a e.key)∧es[j]?=some e∧VR w ρ S.heap v e.val∧Bv R5 cs ds=some true∧(Instr.findAsking kt vk es i).run P w=.ok (some (i+j,e.val)) w
  | [], es, i, x, hl, hh, h => by
    have:es=[]:=by simpa using hl
    subst this;simp only[Gm,Oi]at h;subst h;exact .inl ⟨rfl,rfl⟩
  | r :: rows, es, i, x, hl, hh, h => by
    cases es with
    | nil=>simp at hl
    | cons e es =>
      obtain⟨e',a,v,h1,h2,h3,h4⟩:=hh 0 r rfl;simp at h1;subst h1 h2;simp only[Gm]at h;split at h
      · rename_i cs ds
        cases hb:Bv R5 cs ds with
        | none=>simp[hb]at h
        | some bb =>
          have uR:=eqS_run wC uf hk h3 hb
          cases bb with
          | true =>
            simp only[hb,Oi]at h;subst h;exact .inr ⟨0,v,e,cs,ds,rfl,⟨_,rfl,rfl,rfl,h3⟩,rfl,h4,hb,by unfold Instr.findAsking;rw[Ad uR];rfl⟩
          | false =>
            simp only[hb]at h;rcases Qp wC uf hk (es:=es) (by simpa using hl) (fun j r hj=>by simpa using hh (j+1) r (by simpa using hj)) h with⟨rfl,hf⟩ | ⟨j,v2,e2,c2,d2,hx,⟨a2,q0,hr,q1,q2⟩,he,q3,q4,hf⟩
            · exact .inl ⟨rfl,by unfold Instr.findAsking;rw[Ad uR];exact hf⟩
            refine .inr ⟨j+1,v2,e2,c2,d2,by rw[hx];congr 2;omega,⟨a2,q0,by simpa using hr,q1,q2⟩,by simpa using he,q3,q4,?_⟩;unfold Instr.findAsking;rw[Ad uR];simp only[Bool.false_eq_true,if_false];rw[hf];congr 3;omega
      simp at h
theorem find_S{kt:TypeId}{R5:List Nat}{k:D}{vk:Value}(wC:Ei P kt=true)(uf:Dv P 9 kt=some R5)(hk:VR w ρ S.heap k vk){rows:List (List D)}{es:List MapEntry}{x:Option (Nat × D)}(hl:es.length=rows.length)(hh:∀(j:Nat) (r:List D),rows[j]?=some r→∃(e:MapEntry) (a v:D),es[j]?=some e∧r=[a,v]∧VR w ρ S.heap a e.key∧VR w ρ S.heap v e.val)(h:Gm R5 k rows 0=some x) :
  (x=none∧(Instr.findKey kt vk es).run P w=.ok none w)∨∃(j:Nat) (v:D) (e:MapEntry) (a:D),x=some (0+j,v)∧rows[j]?=some [a,v]∧es[j]?=some e∧VR w ρ S.heap v e.val∧VR w ρ S.heap a e.key∧(∃cs ds,k=.agg cs∧a=.agg ds∧Bv R5 cs ds=some true)∧(Instr.findKey kt vk es).run P w=.ok (some (0+j,e.val)) w:=by
 obtain⟨fs,hu⟩:∃kd,P.underlying kt=some kd∧((∃fs,kd=.struct fs)∨∃n e,kd=.array n e):=by
  unfold Ei at wC;split at wC
  ·
   rename_i hu;exact⟨_,hu,.inl ⟨_,rfl⟩⟩
  ·
   rename_i hu;exact⟨_,hu,.inr ⟨_,_,rfl⟩⟩
  simp at wC
 have hfk:(Instr.findKey kt vk es).run P w=(Instr.findAsking kt vk es 0).run P w:=by
  unfold Instr.findKey;rw[Ad (run_underlying hu.1 w)]
  cases es with
  | nil=>rfl
  | cons e es=>rcases hu.2 with⟨fs,rfl⟩ | ⟨n,e,rfl⟩<;>rfl
 rw[hfk];rcases Qp wC uf hk hl hh h with h1 | ⟨j,v,e,cs,ds,h1,⟨a,rfl,h3,h4,h5⟩,h6,h7,h8,h9⟩
 ·
  exact .inl h1
 exact .inr ⟨j,v,e,_,h1,h3,h6,h7,h5,⟨cs,ds,h4,rfl,h8⟩,h9⟩
theorem sameBits_S {R5 : List Nat} {k a : D} {vk va : Value} (hk : VR w ρ S.heap k vk) (ha : VR w ρ S.heap a va) (h : ∃ cs ds, k = .agg cs ∧ a = .agg ds ∧ Bv R5 cs ds = some true) : Instr.sameBits 10000 va vk = true := by
  obtain⟨cs,ds,rfl,rfl,he⟩:=h
  cases hk with | agg _ vs hl hc hh =>
  cases ha with | agg _ us zI za hh2 =>
  have key:∀(R5:List Nat) (cs ds:List D) (vs us:List Value),vs.length=cs.length→us.length=ds.length→(∀(j:Nat) (d:D) (v:Value),cs[j]?=some d→vs[j]?=some v→VR w ρ S.heap d v)→(∀(j:Nat) (d:D) (v:Value),ds[j]?=some d→us[j]?=some v→VR w ρ S.heap d v)→Bv R5 cs ds=some true→us.length=vs.length∧((us.zip vs).all fun (x,y)=>Instr.sameBits 9999 x y)=true:=by
    intro R5
    induction R5 with
    | nil =>
      intro cs ds vs us h1 h2 _ _ he;cases cs<;>cases ds<;>simp[Bv]at he;have:vs=[]:=by simpa using h1
      have:us=[]:=by simpa using h2
      simp_all
    | cons f R5 ih =>
      intro cs ds vs us h1 h2 g1 g2 he
      cases cs with
      | nil=>cases ds<;>simp[Bv]at he
      | cons c cs =>
        cases ds with
        | nil=>simp[Bv]at he
        | cons d ds =>
          cases vs with
          | nil=>simp at h1
          | cons v vs =>
            cases us with
            | nil=>simp at h2
            | cons u us =>
              simp only[Bv]at he;split at he
              · rename_i uh;simp only[Bool.and_eq_true]at uh;split at he
                · rename_i x y e1 e2;simp only[Oi,Bool.and_eq_true]at he;obtain⟨rfl,rfl⟩:=he;obtain⟨q1,q2⟩:=ih cs ds vs us (by simpa using h1) (by simpa using h2) (fun j d v hd hv=>g1 (j+1) d v (by simpa using hd) (by simpa using hv)) (fun j d v hd hv=>g2 (j+1) d v (by simpa using hd) (by simpa using hv)) e2;have:=Nn (n:=9998) uh.1 (g1 0 c v rfl rfl) (g2 0 d u rfl rfl) e1;exact⟨by simp[q1],by simp only[List.zip_cons_cons,List.all_cons,Bool.and_eq_true];exact⟨this,q2⟩⟩
                simp at he
              simp at he
  obtain⟨q1,q2⟩:=key R5 cs ds vs us hl zI hh hh2 he;show (us.toArray.size==vs.toArray.size&&(us.toArray.toList.zip vs.toArray.toList).all fun (x,y)=>Instr.sameBits 9999 x y)=true;simp only[Bool.and_eq_true,beq_iff_eq];exact⟨by simpa using q1,by simpa using q2⟩
theorem mapgetS_ok {t kt e : TypeId} {R5 : List Nat} {z m k r : D} {vm vk : Value} {ok : Bool} (hr : Rel w ρ S.heap) (ht : P.underlying t = some (.map kt e)) (wC : Ei P kt = true) (uf : Dv P 9 kt = some R5) (hz : J6 P e = some z) (hm : VR w ρ S.heap m vm) (hk : VR w ρ S.heap k vk)
    (h:Hz S R5 z ok m k=some r):∃v,(Instr.lookup t vm vk ok).run P w=.ok v w∧VR w ρ S.heap r v:=by
  unfold Hz at h;split at h
  · rename_i rows xB;obtain⟨es,hes,xE,xq⟩:=map_rows hr hm xB;split at h
    · rename_i xU
      obtain⟨zv,zG,yI⟩:∃zv,(zeroValue e).run P w=.ok zv w∧VR w ρ S.heap z zv:=by
        unfold J6 at hz;split at hz
        · rename_i i hi;split at hz
          · rename_i zv zC;exact⟨zv,by simp[zeroValue,typeInfo,hi,zC],Jy hz⟩
          simp at hz
        simp at hz
      have hck:=fun b=>keyS_check (b:=b) wC uf xU hk
      have wI:∀j v,(Instr.findKey kt vk es.toList).run P w=.ok (some (j,v)) w→(Instr.lookup t vm vk ok).run P w=.ok (if ok then .tuple #[v,.bool true] else v) w:=by
        intro j v hx;unfold Instr.lookup;rw[Ad (run_underlying ht w)];rcases hes with⟨rfl,rfl⟩ | ⟨b,clock,rfl,hb⟩
        · simp only;rw[Ad (a:=(#[]:Array MapEntry)) (w':=w) rfl,Ad (hck _),Ad hx];rfl
        simp only;rw[Ad (Ez hb)];simp only;rw[Ad (a:=es) (w':=w) rfl,Ad (hck _),Ad hx];rfl
      have yj:(Instr.findKey kt vk es.toList).run P w=.ok none w→(Instr.lookup t vm vk ok).run P w=.ok (if ok then .tuple #[zv,.bool false] else zv) w:=by
        intro hx;unfold Instr.lookup;rw[Ad (run_underlying ht w)];rcases hes with⟨rfl,rfl⟩ | ⟨b,clock,rfl,hb⟩
        · simp only;rw[Ad (a:=(#[]:Array MapEntry)) (w':=w) rfl,Ad (hck _),Ad hx];simp only;rw[Ad zG];rfl
        simp only;rw[Ad (Ez hb)];simp only;rw[Ad (a:=es) (w':=w) rfl,Ad (hck _),Ad hx];simp only;rw[Ad zG];rfl
      have zQ:∀(x:D) (v:Value) (b:Bool),VR w ρ S.heap x v→VR w ρ S.heap (.tup [x,.bool b]) (.tuple #[v,.bool b]):=by
        intro x v b hx;have hv:VL w ρ S.heap [x,.bool b] [v,.bool b]:=.cons hx (.cons (.bool _) .nil);exact .tup [x,.bool b] [v,.bool b] rfl (fun j d v=>hv.get)
      cases hf:Gm R5 k rows 0 with
      | none=>simp[hf]at h
      | some x =>
        rcases find_S wC uf hk (es:=es.toList) (by simpa using xE) (fun j r hj=>by obtain⟨e,a,v,h1,h2⟩:=xq j r hj;exact⟨e,a,v,by simpa using h1,h2⟩) hf with⟨rfl,z8⟩ | ⟨j,v,e2,a,rfl,xY,he,q1,q2,q3,z8⟩
        · simp only [hf, Oi] at h;subst h;refine⟨_,yj z8,?_⟩;cases ok
          · exact yI
          exact zQ _ _ _ yI
        simp only[hf,Oi]at h;subst h;refine⟨_,wI _ _ z8,?_⟩;cases ok
        · exact q1
        exact zQ _ _ _ q1
    simp at h
  simp at h
theorem mapsetS_ok {t kt e : TypeId} {R5 : List Nat} {m k v : D} {vm vk vv : Value} {S' : St} (hr : Rel w ρ S.heap) (ht : P.underlying t = some (.map kt e)) (wC : Ei P kt = true) (uf : Dv P 9 kt = some R5) (hm : VR w ρ S.heap m vm) (hk : VR w ρ S.heap k vk) (hv : VR w ρ S.heap v vv) (h : Nt S R5 m k v = some S') :
    ∃w',(Instr.mapUpdate t vm vk vv).run P w=.ok () w'∧Rt w ρ S .undef S' true undef w':=by
  unfold Nt at h;split at h
  · rename_i g ver
    cases hm with
    | mref _ _ r ob hg yh hh =>
      unfold rowsOf at h;simp only[hg]at h;by_cases qG:ob.ver=ver
      · subst qG;simp only[if_true]at h;split at h
        · rename_i zD;obtain⟨xL,vD,xU⟩:=zD;split at h
          · rename_i v' uR;have hv':=Ka hr (Nat.le_refl _) hv uR;split at h
            · rename_i hfc;simp only[Bool.and_eq_true]at hfc;have hρ:=hh rfl;obtain⟨es,clock,hc,hs,hl,xq⟩:=hr.map hρ hg xL vD;have zX:=keyS_free xU;have hck:=fun b=>keyS_check (b:=b) wC uf xU hk;have wu:=lt_of_heap hc;have xS:∀c e f,Obj.map es clock≠.cells c e f:=fun _ _ _ e=>by cases e
              cases hf:Gm R5 k ob.rows 0 with
              | none=>simp[hf]at h
              | some x =>
                rcases find_S wC uf hk (es:=es.toList) (by simpa using hs) (fun j r hj=>by obtain⟨e,a,v,h1,h2,_,_,h5,h6⟩:=xq j r hj;exact⟨e,a,v,by simpa using h1,h2,h5,h6⟩) hf with⟨rfl,z8⟩ | ⟨j,v0,e2,a,rfl,xY,he,q1,q2,q3,z8⟩
                · simp only [hf, Oi] at h;subst h;refine⟨{ w with heap:=w.heap.setIfInBounds r (.map (es.push ⟨vk,vv,clock⟩) (clock+1)) },?_,ρ,?_,Ia hr hρ hg xL hc xS (Rx.setObj wu) ⟨rfl,rfl,rfl,by simp,rfl⟩,.undef _,by simp⟩
                  · unfold Instr.mapUpdate;rw[Ad (run_underlying ht w)];simp only;rw[Ad (Ez hc)];simp only;rw[Ad (hck _),Ad z8];exact Jh hc
                  refine Q4 hr hρ hg xL vD hc xS (Rx.setObj wu) ⟨rfl,rfl,rfl,by simp,rfl⟩ (by simp[hs]) ?_ ?_
                  · intro r' hr';simp only[List.mem_append,List.mem_singleton]at hr';rcases hr' with hr' | rfl
                    · exact hl r' hr'
                    rfl
                  intro i r' hi;simp only at hi;by_cases yJ:i<ob.rows.length
                  · rw [La_ yJ] at hi;obtain⟨e3,k3,v3,z1,z2⟩:=xq i r' hi;exact⟨e3,k3,v3,by rw[Array.getElem?_push_lt (by omega)];rw[Array.getElem?_eq_getElem (by omega)]at z1;exact z1,z2⟩
                  rw[Lr_ (by omega)]at hi;have hi0:i-ob.rows.length=0:=by have:=lt_of_some hi;simp at this;omega
                  rw[hi0]at hi;simp at hi;subst hi;have vY:i=es.size:=by omega
                  subst vY;exact⟨⟨vk,vv,clock⟩,k,v',by simp,rfl,zX,hfc,hk,hv'⟩
                simp only[hf,Oi,Nat.zero_add]at h;subst h;have he':es[j]?=some e2:=by simpa using he
                have yA:=(Array.getElem?_eq_some_iff.1 he').1
                have hkts:(Instr.keyThatStays (((es[0+j]?).map (·.key)).getD vk) vk).run P w=.ok vk w:=by
                  rw[Nat.zero_add,he'];unfold Instr.keyThatStays;simp only[Option.map_some,Option.getD_some];rw[if_pos (sameBits_S hk q2 q3)];rfl
                refine⟨{ w with heap:=w.heap.setIfInBounds r (.map (es.modify j fun e=>{ e with key:=vk,val:=vv }) clock) },?_,ρ,?_,Ia hr hρ hg xL hc xS (Rx.setObj wu) ⟨rfl,rfl,rfl,by simp,rfl⟩,.undef _,by simp⟩
                · unfold Instr.mapUpdate;rw[Ad (run_underlying ht w)];simp only;rw[Ad (Ez hc)];simp only;rw[Ad (hck _),Ad z8];simp only;rw[Ad hkts];rw[Nat.zero_add];exact Jh hc
                refine Q4 hr hρ hg xL vD hc xS (Rx.setObj wu) ⟨rfl,rfl,rfl,by simp,rfl⟩ (by simp[hs]) ?_ ?_
                · intro r' hr';rcases List.mem_or_eq_of_mem_set hr' with hr' | rfl
                  · exact hl r' hr'
                  rfl
                intro i r' hi;simp only at hi;by_cases qW:j=i
                · subst qW;rw[List.getElem?_set_self (by omega)]at hi;simp only[Oi]at hi;subst hi;exact⟨{ e2 with key:=vk,val:=vv },k,v',by simp[Array.getElem?_modify,he'],rfl,zX,hfc,hk,hv'⟩
                rw[Ln_ qW]at hi;obtain⟨e3,k3,v3,z1,z2⟩:=xq i r' hi;exact⟨e3,k3,v3,by rw[Array.getElem?_modify,if_neg qW];exact z1,z2⟩
            simp at h
          simp at h
        simp at h
      simp[qG]at h
  simp at h
end
open Go.RowKit
section
variable {P:Program} {w:World} {ρ:Rm} {S:St}
def Does (P:Program) (w:World) (ρ:Rm) (S:St) (ev:Operand→Value) (o:Oper) (r:D) (S':St) (wr:Bool):Prop :=
 ∃nx v w',(execOp ev o).run P w=.ok nx w'∧(nx=.value v∨nx=.skip∧v=undef)∧Rt w ρ S r S' wr v w'
theorem Does.val{ev:Operand→Value}{o:Oper}{r:D}{S':St}{wr:Bool}{s:Sem Value}(he:execOp ev o=(do pure (.value (←s))))(h:∃v w',s.run P w=.ok v w'∧Rt w ρ S r S' wr v w'):Does P w ρ S ev o r S' wr:=by
 obtain⟨v,w',h1,h2⟩:=h;exact⟨.value v,v,w',by rw[he,Ad h1];rfl,.inl rfl,h2⟩
theorem Does.pure{ev:Operand→Value}{o:Oper}{r:D}{s:Sem Value}(hr:Rel w ρ S.heap)(he:execOp ev o=(do pure (.value (←s))))(h:∃v,s.run P w=.ok v w∧VR w ρ S.heap r v):Does P w ρ S ev o r S false:=by
 obtain⟨v,h1,h2⟩:=h;exact Does.val he ⟨v,w,h1,Rt.pure hr h2⟩
theorem eqb_ok{neg a b:Bool}{op:BinOp}{t:TypeId}{x y:Operand}{H:List Rf}(ho:op=.eql∨op=.neq)(hn:neg=decide (op=.neq))(ht:P.underlying t=some .bool) :
  ∃v,(do eqGuard op t x y (.bool a) (.bool b);binOp op t (.bool a) (.bool b)).run P w=.ok v w∧VR w ρ H (.bool ((a==b) != neg)) v:=by
 have h:∀d:Nat,(Op.equalIn (d+1) t (.bool a) (.bool b)).run P w=.ok (a==b) w:=fun d=>by simp[Op.equalIn,run_underlying ht]
 rcases ho with rfl | rfl
 ·
  subst hn;refine⟨.bool (a==b),?_,by cases a<;>cases b<;>exact .bool _⟩;simp only[eqGuard,binOp];simp[Op.equal,Op.maxDepth,h 9999]
 subst hn;refine⟨.bool !(a==b),?_,by cases a<;>cases b<;>exact .bool _⟩;simp only[eqGuard,binOp];simp[Op.equal,Op.maxDepth,h 9999]
theorem fold_ok{f:D→D→Option D}{g:Value→Value→Sem Value}(hfg:∀{d1 d2 r:D} {v1 v2:Value},VR w ρ S.heap d1 v1→VR w ρ S.heap d2 v2→f d1 d2=some r→∃v,(g v1 v2).run P w=.ok v w∧VR w ρ S.heap r v) :
  ∀{ds:List D} {vs:List Value} {d r:D} {v:Value},VR w ρ S.heap d v→VL w ρ S.heap ds vs→Ja f d ds=some r→∃u,(vs.foldlM g v).run P w=.ok u w∧VR w ρ S.heap r u:=by
 intro ds
 induction ds with
 | nil =>
  intro vs d r v hd hv h;cases hv;simp only[Ja,Oi]at h;subst h;exact⟨v,rfl,hd⟩
 | cons a ds ih =>
  intro vs d r v hd hv h
  cases hv with | cons h1 t1 =>
  simp only[Ja]at h;split at h
  ·
   rename_i z hz;obtain⟨u,h3,h4⟩:=hfg hd h1 hz;obtain⟨u2,h5,h6⟩:=ih h4 t1 h;refine⟨u2,?_,h6⟩;rw[List.foldlM_cons,Ad h3];exact h5
  simp at h
theorem max2_ok{d1 d2 r:D}{v1 v2:Value}(h1:VR w ρ S.heap d1 v1)(h2:VR w ρ S.heap d2 v2)(h:maxD d1 d2=some r):∃v,(Builtin.max2 v1 v2).run P w=.ok v w∧VR w ρ S.heap r v:=by
 unfold maxD at h;split at h
 ·
  split at h
  ·
   rename_i hk;subst hk;simp only[Oi]at h;subst h;cases h1;cases h2;exact⟨_,rfl,.int _ _⟩
  simp at h
 simp at h
theorem min2_ok{d1 d2 r:D}{v1 v2:Value}(h1:VR w ρ S.heap d1 v1)(h2:VR w ρ S.heap d2 v2)(h:minD d1 d2=some r):∃v,(Builtin.min2 v1 v2).run P w=.ok v w∧VR w ρ S.heap r v:=by
 unfold minD at h;split at h
 ·
  split at h
  ·
   rename_i hk;subst hk;simp only[Oi]at h;subst h;cases h1;cases h2;exact⟨_,rfl,.int _ _⟩
  simp at h
 simp at h
theorem maxs_ok{ts:Array TypeId}{t:TypeId}{ds:List D}{vs:List Value}{r:D}(hv:VL w ρ S.heap ds vs)(h:pop .max ds=some r):∃v,(Builtin.max_ ts t vs.toArray).run P w=.ok v w∧VR w ρ S.heap r v:=by
 cases hv with
 | nil=>simp[pop]at h
 | cons h1 t1=>exact fold_ok (fun a b c=>max2_ok a b c) h1 t1 h
theorem mins_ok{ts:Array TypeId}{t:TypeId}{ds:List D}{vs:List Value}{r:D}(hv:VL w ρ S.heap ds vs)(h:pop .min ds=some r):∃v,(Builtin.min_ ts t vs.toArray).run P w=.ok v w∧VR w ρ S.heap r v:=by
 cases hv with
 | nil=>simp[pop]at h
 | cons h1 t1=>exact fold_ok (fun a b c=>min2_ok a b c) h1 t1 h
theorem boolT_iff{t:TypeId}:boolT P t=true↔P.underlying t=some .bool:=by
 unfold boolT;split
 ·
  rename_i h;simp[h]
 rename_i h;constructor
 ·
  intro h';simp at h'
 intro h';exact absurd h' h
theorem intT_iff{t:TypeId}{k:IntKind}:Pf P t=some k↔P.underlying t=some (.int k):=by
 unfold Pf;split
 ·
  rename_i k' h;simp[h]
 rename_i h;constructor
 ·
  intro h';simp at h'
 intro h';exact absurd h' (h k)
theorem mapT_iff{t k e:TypeId}:mapT P t=some (k,e)↔P.underlying t=some (.map k e):=by
 unfold mapT;split
 ·
  rename_i k' e' h;simp[h]
 rename_i h;constructor
 ·
  intro h';simp at h'
 intro h';exact absurd h' (h k e)
theorem Qs{s:TypeId}{k:Nat}{f:Field}(h:fieldT P s k=some f):∃fs,P.underlying s=some (.struct fs)∧fs[k]?=some f:=by
 unfold fieldT at h;split at h
 ·
  rename_i fs hu;exact⟨fs,hu,h⟩
 simp at h
theorem parts_zip(ps:Array (Nat × Operand))(ev:Operand→Value):(ps.map fun (i,x)=>(i,ev x))=((ps.toList.map (·.1)).zip ((ps.toList.map (·.2)).map ev)).toArray:=by
 apply Array.ext';simp only[Array.toList_map];generalize ps.toList=l
 induction l with
 | nil=>rfl
 | cons p l ih=>simp[ih]
theorem vo_of{H:List Rf}{lo hi mx:Option Operand}{ev:Operand→Value}{xs:List D}{a b m:Option D}(hv:VL w ρ H xs ((opnds [lo,hi,mx]).map ev))(h:C8 lo.isSome hi.isSome mx.isSome xs=some (a,b,m)) :
    VO w ρ H a (lo.map ev)∧VO w ρ H b (hi.map ev)∧VO w ρ H m (mx.map ev)∧(m.isSome=true→b.isSome=true):=by
  cases lo<;>cases hi<;>cases mx<;>simp only[opnds,List.filterMap_cons,List.filterMap_nil,id,List.map_cons,List.map_nil]at hv<;>simp only[Option.isSome_some,Option.isSome_none]at h
  all_goals
    first
      | (cases hv with
         | nil=>simp[C8]at h;obtain⟨rfl,rfl,rfl⟩:=h;exact⟨.none,.none,.none,by simp⟩)
      | (cases hv with
         | cons h1 t1 => cases t1 with
           | nil=>simp[C8]at h<;>(obtain⟨rfl,rfl,rfl⟩:=h;first | exact⟨.some h1,.none,.none,by simp⟩ | exact⟨.none,.some h1,.none,by simp⟩))
      | (cases hv with
         | cons h1 t1 => cases t1 with
           | cons h2 t2 => cases t2 with
             | nil=>simp[C8]at h<;>(obtain⟨rfl,rfl,rfl⟩:=h;first | exact⟨.some h1,.some h2,.none,by simp⟩ | exact⟨.none,.some h1,.some h2,by simp⟩))
      | (cases hv with
         | cons h1 t1 => cases t1 with
           | cons h2 t2 => cases t2 with
             | cons h3 t3 => cases t3 with
               | nil=>simp[C8]at h;obtain⟨rfl,rfl,rfl⟩:=h;exact⟨.some h1,.some h2,.some h3,by simp⟩)
      | (simp[C8]at h;done)
set_option maxHeartbeats 4000000 in
theorem kd_of(kd:Kd)(e:TypeId):kd.of e=0∨kd.of e=1∨kd.of e=2:=by
 unfold Kd.of;split
 ·
  exact .inl rfl
 split
 ·
  exact .inr (.inr rfl)
 exact .inr (.inl rfl)
theorem ext_mk : Extern.allNextRows.lookup "internal/bytealg.MakeNoZero" = none ∧ Extern.allGenericRows.lookup "internal/bytealg.MakeNoZero" = none ∧ Extern.allTypedRows.lookup "internal/bytealg.MakeNoZero" = some Extern.BytealgMakeNoZero.makeNoZero := ⟨by kernel_rfl, by kernel_rfl, by kernel_rfl⟩
theorem run_mknz {f : FuncId} {fn : Func} {rt : TypeId} {vs : Array Value} {v : Value} {w' : World} (hf : P.funcs[f]? = some fn) (hb : fn.body.isNone = true) (hn : fn.name = "internal/bytealg.MakeNoZero") (ho : fn.origin = "") (hrt : fn.resultTypes = #[rt])
  (h:(Extern.BytealgMakeNoZero.makeNoZero fn.params #[rt] vs).run P w=.ok v w'):(callFunc f vs).run P w=.ok (.value v) w':=by
 obtain⟨h1,h2,h3⟩:=ext_mk;have hp:Sem.run P program w=.ok P w:=rfl;have z8:Extern.findNext fn=none:=by simp[Extern.findNext,hn,ho,h1,ext_none]
 have hfd:Extern.find fn=some (Extern.BytealgMakeNoZero.makeNoZero fn.params fn.resultTypes):=by simp[Extern.find,hn,h2,h3]
 unfold callFunc;rw[Ad hp];simp only[hf];rw[if_neg (by rw[hn];decide),if_pos hb];rw[Ad (a:=()) (w':=w) rfl];simp only[z8,hfd];rw[hrt,Ad h];rfl
theorem lop_mknz{e:TypeId}{ds:List D}{S:St}{r:D}{S':St}{wr:Bool}(h:lop (.mknz e) ds S=some (r,S',wr)):∃n:Int,ds=[.int .i64 n]∧0≤n∧n≤140737488355328∧r=.msl S.heap.length 0 0 n.toNat none∧S'=newAt S ⟨e,1,List.replicate n.toNat [.junk],0,2,true⟩∧wr=true:=by
 unfold lop at h;split at h<;>simp only[reduceCtorEq,LOp.mknz.injEq]at *;rename_i h1;subst h1;split at h
 ·
  rename_i hn;simp only[Oi,Pi_]at h;obtain⟨rfl,rfl,rfl⟩:=h;exact⟨_,rfl,hn.1,hn.2,rfl,rfl,rfl⟩
 simp at h
theorem tass_ok {t xt : TypeId} {td : TypeDesc} {z x r : D} {v : Value} {ok : Bool} {H : List Rf} (hu : P.underlying t = some td) (uZ : ∀ m, td ≠ .interface m) (hz : J6 P t = some z) (hx : VR w ρ H x v) (h : pop (.tass t z ok) [x] = some r) :
    ∃u,(Instr.typeAssert v xt t ok).run P w=.ok u w∧VR w ρ H r u:=by
  obtain⟨zv,zG,yI⟩:∃zv,(zeroValue t).run P w=.ok zv w∧VR w ρ H z zv:=by
    unfold J6 at hz;split at hz
    · rename_i i hi;split at hz
      · rename_i zv zC;exact⟨zv,by simp[zeroValue,typeInfo,hi,zC],Jy hz⟩
      simp at hz
    simp at hz
  have zQ:∀(x:D) (v:Value) (b:Bool),VR w ρ H x v→VR w ρ H (.tup [x,.bool b]) (.tuple #[v,.bool b]):=by
    intro x v b hx;have hv:VL w ρ H [x,.bool b] [v,.bool b]:=.cons hx (.cons (.bool _) .nil);exact .tup [x,.bool b] [v,.bool b] rfl (fun j d v=>hv.get)
  have hif:∀(t':TypeId) (u:Value),(Instr.typeAssert (.iface t' u) xt t true).run P w=.ok (if t'=t then .tuple #[u,.bool true] else .tuple #[zv,.bool false]) w:=by
    intro t' u;unfold Instr.typeAssert;simp only[Sem.run_bind,run_underlying hu,Result.andThen_ok]
    cases td<;>first | exact absurd rfl (uZ _) | (simp only[if_true];split<;>rename_i he<;>simp[he,zG,Sem.run_bind])
  have hif2:∀(u:Value),(Instr.typeAssert (.iface t u) xt t false).run P w=.ok u w:=by
    intro u;unfold Instr.typeAssert;simp only[Sem.run_bind,run_underlying hu,Result.andThen_ok]
    cases td<;>first | exact absurd rfl (uZ _) | simp
  have hni:(Instr.typeAssert .nilIface xt t true).run P w=.ok (.tuple #[zv,.bool false]) w:=by
    unfold Instr.typeAssert;simp only[Sem.run_bind,run_underlying hu,Result.andThen_ok]
    cases td<;>first | exact absurd rfl (uZ _) | simp[zG,Sem.run_bind]
  unfold pop at h;split at h<;>simp only[reduceCtorEq,List.cons.injEq,and_true,LOp.tass.injEq]at *
  · rename_i t1 z1 ok1 t' d yZ uK;obtain⟨rfl,rfl,rfl⟩:=yZ;subst uK
    cases hx with
    | ifc _ _ u hf hv hxx =>
    by_cases he:t'=t
    · subst he;rw[if_pos rfl]at h;simp only[Oi]at h;subst h;cases ok
      · exact⟨_,hif2 _,hxx⟩
      exact⟨_,by rw[hif,if_pos rfl],zQ _ _ _ hxx⟩
    rw[if_neg he]at h;cases ok
    · simp at h
    simp only[if_true,Oi]at h;subst h;exact⟨_,by rw[hif,if_neg he],zQ _ _ _ yI⟩
  · rename_i t1 z1 ok1 t' d yZ uK;obtain⟨rfl,rfl,rfl⟩:=yZ;subst uK
    cases hx with
    | ifr _ _ u hv hxx =>
    by_cases he:t'=t
    · subst he;rw[if_pos rfl]at h;simp only[Oi]at h;subst h;cases ok
      · exact⟨_,hif2 _,hxx⟩
      exact⟨_,by rw[hif,if_pos rfl],zQ _ _ _ hxx⟩
    rw[if_neg he]at h;cases ok
    · simp at h
    simp only[if_true,Oi]at h;subst h;exact⟨_,by rw[hif,if_neg he],zQ _ _ _ yI⟩
  rename_i t1 z1 yZ uK;obtain⟨rfl,rfl,rfl⟩:=yZ;subst uK;cases hx;simp only[Oi]at h;subst h;exact⟨_,hni,zQ _ _ _ yI⟩
set_option maxHeartbeats 8000000 in
theorem aop_ok {kd : Kd} {o : Oper} {l : LOp} {xs : List Operand} {ev : Operand → Value} {ds : List D} {r : D} {S' : St} {wr : Bool} (hevf : ∀ f, ev (.func f) = .func (.func f) #[] #[]) (x9 : Mf P kd o = some (l, xs)) (hv : VL w ρ S.heap ds (xs.map ev)) (hr : Rel w ρ S.heap) (h : aop l ds S = some (r, S', wr)) :
    Does P w ρ S ev o r S' wr:=by
  obtain⟨odst,oop,oty,opos,oafter,oguard⟩:=o;unfold Mf at x9;simp only at x9;split at x9
  case h_1 x =>
    simp only[Oi,Pi_]at x9;obtain⟨rfl,rfl⟩:=x9
    cases hv with | cons h1 t1=>cases t1 with | nil =>
    simp only[aop,LOp.loud,pop,Bool.false_eq_true,if_false,Option.map_some,Oi,Pi_]at h;obtain⟨rfl,rfl,rfl⟩:=h;exact⟨_,_,w,rfl,.inl rfl,Rt.pure hr h1⟩
  case h_2 x =>
    simp only[Oi,Pi_]at x9;obtain⟨rfl,rfl⟩:=x9
    cases hv with | cons h1 t1=>cases t1 with | nil =>
    simp only[aop,LOp.loud,pop,Bool.false_eq_true,if_false,Option.map_some,Oi,Pi_]at h;obtain⟨rfl,rfl,rfl⟩:=h;exact⟨_,_,w,rfl,.inl rfl,Rt.pure hr h1⟩
  case h_3 c a b =>
    simp only[Oi,Pi_]at x9;obtain⟨rfl,rfl⟩:=x9
    cases hv with | cons h1 t1=>cases t1 with | cons h2 t2=>cases t2 with | cons h3 t3=>cases t3 with | nil =>
    rename_i d1 d2 d3;cases d1<;>simp only[aop,LOp.loud,pop,Bool.false_eq_true,if_false,Option.map_some,Option.map_none,reduceCtorEq]at h;rename_i bb;simp only[Oi,Pi_]at h;obtain⟨rfl,rfl,rfl⟩:=h;generalize hc:ev c=vc at h1;cases h1;cases bb
    · exact⟨_,_,w,by simp[execOp,hc,asBool],.inl rfl,Rt.pure hr h3⟩
    exact⟨_,_,w,by simp[execOp,hc,asBool],.inl rfl,Rt.pure hr h2⟩
  case h_4 op t x y ty =>
    have key:l=.bin op→xs=[x,y]→Does P w ρ S ev ⟨odst,.binOp op t x y ty,oty,opos,oafter,oguard⟩ r S' wr:=by
      rintro rfl rfl
      cases hv with | cons h1 t1=>cases t1 with | cons h2 t2=>cases t2 with | nil =>
      simp only[aop,LOp.loud,pop,Bool.false_eq_true,if_false,Om,Pi_]at h;obtain⟨r',hb,rfl,rfl,rfl⟩:=h;exact Does.pure hr rfl (bin_ok h1 h2 hb)
    split at x9
    · rename_i yZ;split at x9
      · rename_i hbt;simp only[Oi,Pi_]at x9;obtain⟨rfl,rfl⟩:=x9
        cases hv with | cons h1 t1=>cases t1 with | cons h2 t2=>cases t2 with | nil =>
        rename_i d1 d2;cases d1<;>cases d2<;>simp only[aop,LOp.loud,pop,Bool.false_eq_true,if_false,Option.map_some,Option.map_none,reduceCtorEq]at h;simp only[Oi,Pi_]at h;obtain⟨rfl,rfl,rfl⟩:=h;generalize hx:ev x=vx at h1;generalize hy:ev y=vy at h2;cases h1;cases h2;refine Does.pure (s:=(do eqGuard op t x y (ev x) (ev y);binOp op t (ev x) (ev y))) hr rfl ?_;rw[hx,hy];exact eqb_ok yZ rfl (boolT_iff.1 hbt)
      split at x9
      · simp only [Oi, Pi_] at x9;exact key x9.1.symm x9.2.symm
      split at x9
      · rename_i fam hfam;split at x9
        · split at x9
          · rename_i e qz;simp only[Om,Pi_]at x9;obtain⟨n,hn,rfl,rfl⟩:=x9
            cases hv with | cons h1 t1=>cases t1 with | cons h2 t2=>cases t2 with | nil =>
            simp only[aop,LOp.loud,lop,if_true,Om,Pi_]at h;obtain⟨b,hb,rfl,rfl,rfl⟩:=h;exact Does.pure hr rfl (eqp_ok yZ qz hn h1 h2 hb)
          simp at x9
        rename_i hf1;split at x9
        · simp at x9
        rename_i hf4;simp only[Oi,Pi_]at x9;obtain⟨rfl,rfl⟩:=x9
        cases hv with | cons h1 t1=>cases t1 with | cons h2 t2=>cases t2 with | nil =>
        simp only[aop,LOp.loud,pop,Bool.false_eq_true,if_false,Om,Pi_]at h;obtain⟨_,⟨b,hb,rfl⟩,rfl,rfl,rfl⟩:=h;refine Does.pure hr rfl (eqnil_ok yZ hfam hf1 (fun h4=>?_) h1 h2 hb)
        cases hcx:isConst x with
        | true=>exact .inl rfl
        | false =>
          cases hcy:isConst y with
          | true=>exact .inr rfl
          | false=>exact absurd ⟨h4,hcx,hcy⟩ hf4
      split at x9
      · rename_i zF;split at x9
        · rename_i R5 hfl;simp only[Oi,Pi_]at x9;obtain⟨rfl,rfl⟩:=x9
          cases hv with | cons h1 t1=>cases t1 with | cons h2 t2=>cases t2 with | nil =>
          rename_i d1 d2;cases d1<;>cases d2<;>simp only[aop,LOp.loud,pop,Bool.false_eq_true,if_false,Option.map_some,Option.map_none,reduceCtorEq]at h;simp only[Om,Pi_]at h;obtain⟨_,⟨q,hq,rfl⟩,rfl,rfl,rfl⟩:=h;exact Does.pure (s:=(do eqGuard op t x y (ev x) (ev y);binOp op t (ev x) (ev y))) hr rfl (eqs_ok yZ rfl zF hfl h1 h2 hq)
        simp at x9
      simp at x9
    simp only[Oi,Pi_]at x9;exact key x9.1.symm x9.2.symm
  case h_5 op t x =>
    simp only[Oi,Pi_]at x9;obtain⟨rfl,rfl⟩:=x9
    cases hv with | cons h1 t1=>cases t1 with | nil =>
    simp only[aop,LOp.loud,pop,Bool.false_eq_true,if_false,Om,Pi_]at h;obtain⟨r',hb,rfl,rfl,rfl⟩:=h;exact Does.pure hr rfl (un_ok h1 hb)
  case h_6 e =>
    split at x9
    · rename_i z n hz hn;split at x9
      · rename_i hl;simp only[Oi,Pi_]at x9;obtain⟨rfl,rfl⟩:=x9;cases hv;simp only[aop,LOp.loud,lop,if_true,Oi,Pi_]at h;obtain⟨rfl,rfl,rfl⟩:=h;exact Does.val rfl (alloc_ok hr hz hn hl)
      simp at x9
    simp at x9
  case h_7 e x =>
    cases hbx:kd.bx odst with
    | false =>
      rw[if_neg (by rw[hbx];exact Bool.false_ne_true)]at x9;simp only[Om,Pi_]at x9;obtain⟨n,hn,rfl,rfl⟩:=x9
      cases hv with | cons h1 t1=>cases t1 with | nil =>
      simp only[aop,LOp.loud,lop,if_true]at h;split at h
      · rename_i hc;simp only[Bool.and_eq_true,beq_iff_eq]at hc;simp only[Oi,Pi_]at h;obtain⟨rfl,rfl,rfl⟩:=h;exact Does.val rfl (box_ok hr hn h1 hc.1 hc.2)
      simp at h
    | true =>
      rw[if_pos hbx]at x9;simp only[Om,Pi_]at x9;obtain⟨n,hn,rfl,rfl⟩:=x9
      cases hv with | cons h1 t1=>cases t1 with | nil =>
      simp only[aop,LOp.loud,lop,if_true]at h;split at h
      · rename_i hc;simp only[Bool.and_eq_true,beq_iff_eq]at hc;simp only[Oi,Pi_]at h;obtain⟨rfl,rfl,rfl⟩:=h;exact Does.val rfl (boxc_ok hr h1 hc.1.1 hc.2)
      simp at h
  case h_8 t ps =>
    split at x9
    · rename_i z pl hz vN;split at x9
      · rename_i places hp;simp only[Oi,Pi_]at x9;obtain⟨rfl,rfl⟩:=x9;simp only[aop,LOp.loud,pop,Bool.false_eq_true,if_false,Om,Pi_]at h;obtain⟨_,⟨cs,hb,rfl⟩,rfl,rfl,rfl⟩:=h;refine Does.pure (s:=Instr.build t (ps.map fun (i,x)=>(i,ev x))) hr rfl ?_;rw[parts_zip];exact build_ok hz vN hp hv (by simp) hb
      simp at x9
    simp at x9
  case h_9 t len ps =>
    split at x9
    · rename_i e he;split at x9
      · rename_i z n hz hn;split at x9
        · rename_i hl;simp only[Oi,Pi_]at x9;obtain⟨rfl,rfl⟩:=x9;simp only[aop,LOp.loud,lop,if_true]at h;refine Does.val (s:=Instr.buildSlice t len (ps.map fun (i,x)=>(i,ev x))) rfl ?_;rw[parts_zip];generalize (if kd.bx odst=true then 1 else kd.of e)=kk at h;by_cases hk0:kk=0
          · rw [if_pos hk0] at h
            cases hf:D7 (List.replicate len z) n (ps.toList.map (·.1)) ds with
            | none=>rw[hf]at h;simp at h
            | some rs =>
              rw[hf]at h;simp only[Oi,Pi_]at h;obtain⟨rfl,rfl,rfl⟩:=h;exact bslice0_ok hr (sliceT_iff.1 he) hz hn hl.1 hl.2 hv (by simp) hf
          rw[if_neg hk0]at h
          cases hys:Ay S.heap.length S.heap ds with
          | none=>rw[hys]at h;simp at h
          | some ys =>
            rw[hys]at h;simp only at h
            cases qI:Cr (List.replicate len z) n (ps.toList.map (·.1)) ys with
            | none=>rw[qI]at h;simp at h
            | some rs =>
              rw[qI]at h;exact bslice_ok hr (sliceT_iff.1 he) hz hn hl.1 hl.2 hv (by simp) hys qI h
        simp at x9
      simp at x9
    simp at x9
  case h_10 t a =>
    simp only[Om,Pi_]at x9;obtain⟨n,hn,rfl,rfl⟩:=x9
    cases hv with | cons h1 t1=>cases t1 with | nil =>
    simp only[aop,LOp.loud,lop,if_true,Om,Pi_]at h;obtain⟨r',hb,rfl,rfl,rfl⟩:=h;exact Does.pure hr rfl (load_ok hr h1 hb hn rfl)
  case h_11 t a x =>
    simp only[Om,Pi_]at x9;obtain⟨n,hn,rfl,rfl⟩:=x9
    cases hv with | cons h1 t1=>cases t1 with | cons h2 t2=>cases t2 with | nil =>
    simp only[aop,LOp.loud,lop,if_true,Om,Pi_]at h;obtain⟨S2,hb,rfl,rfl,rfl⟩:=h;obtain⟨w',h3,h4⟩:=store_ok hr h1 h2 hn hb;exact⟨.skip,undef,w',by simp[execOp,h3],.inr ⟨rfl,rfl⟩,h4⟩
  case h_12 x =>
    simp only[Oi,Pi_]at x9;obtain⟨rfl,rfl⟩:=x9
    cases hv with | cons h1 t1=>cases t1 with | nil =>
    rename_i d1;generalize hx:ev x=vx at h1;cases d1<;>simp only[aop,LOp.loud,pop,Bool.false_eq_true,if_false,Option.map_some,Option.map_none,reduceCtorEq]at h
    all_goals
      simp only[Oi,Pi_]at h;obtain⟨rfl,rfl,rfl⟩:=h;have h1':=h1;cases h1;exact⟨_,_,w,by simp[execOp,hx],.inl rfl,Rt.pure hr h1'⟩
  case h_13 s x f =>
    split at x9
    · rename_i fd hfd;simp only[Om,Pi_]at x9;obtain⟨n,hn,rfl,rfl⟩:=x9
      cases hv with | cons h1 t1=>cases t1 with | nil =>
      simp only[aop,LOp.loud,pop,Bool.false_eq_true,if_false,Om,Pi_]at h;obtain⟨r',hb,rfl,rfl,rfl⟩:=h;obtain⟨fs,hu,hf⟩:=Qs hfd;exact Does.pure hr rfl (faddr_ok hu hf hn h1 hb)
    simp at x9
  case h_14 s x f =>
    split at x9
    · rename_i fd hfd;simp only[Om,Pi_]at x9;obtain⟨n,hn,rfl,rfl⟩:=x9
      cases hv with | cons h1 t1=>cases t1 with | nil =>
      rename_i d1;cases d1<;>simp only[aop,LOp.loud,pop,Bool.false_eq_true,if_false,Option.map_some,Option.map_none,reduceCtorEq]at h;simp only[Om,Pi_]at h;obtain⟨r',hb,rfl,rfl,rfl⟩:=h;obtain⟨fs,hu,hf⟩:=Qs hfd;generalize hx:ev x=vx at h1;refine Does.pure (s:=Instr.field s (ev x) f) hr rfl ?_;rw[hx]
      cases h1 with
      | agg _ vs hl hc hh =>
        obtain⟨v,h2,h3⟩:=Kl (P:=P) hl hc hh hb hn rfl;exact⟨v,by simp[Instr.field,run_underlying hu,hf,asAgg,h2],h3⟩
    simp at x9
  case h_15 t x i =>
    split at x9
    · rename_i e he;simp only[Om,Pi_]at x9;obtain⟨n,hn,rfl,rfl⟩:=x9
      cases hv with | cons h1 t1=>cases t1 with | cons h2 t2=>cases t2 with | nil =>
      simp only[aop,LOp.loud,lop,if_true,Om,Pi_]at h;obtain⟨r',hb,rfl,rfl,rfl⟩:=h;exact Does.pure hr rfl (iaddr_ok (sliceT_iff.1 he) hn h1 h2 hb)
    split at x9
    · rename_i len e he;simp only[Om,Pi_]at x9;obtain⟨n,hn,rfl,rfl⟩:=x9
      cases hv with | cons h1 t1=>cases t1 with | cons h2 t2=>cases t2 with | nil =>
      simp only[aop,LOp.loud,pop,Bool.false_eq_true,if_false,Om,Pi_]at h;obtain⟨r',hb,rfl,rfl,rfl⟩:=h;exact Does.pure hr rfl (aaddr_ok (arrayT_iff.1 he) hn h1 h2 hb)
    simp at x9
  case h_16 t x i =>
    split at x9
    · rename_i hs;simp only[Oi,Pi_]at x9;obtain⟨rfl,rfl⟩:=x9
      cases hv with | cons h1 t1=>cases t1 with | cons h2 t2=>cases t2 with | nil =>
      simp only[aop,LOp.loud,pop,Bool.false_eq_true,if_false,Om,Pi_]at h;obtain⟨r',hb,rfl,rfl,rfl⟩:=h;exact Does.pure hr rfl (index_ok hs h1 h2 hb)
    split at x9
    · rename_i len e he;simp only[Om,Pi_]at x9;obtain⟨n,hn,rfl,rfl⟩:=x9
      cases hv with | cons h1 t1=>cases t1 with | cons h2 t2=>cases t2 with | nil =>
      rename_i d1 d2;cases d1<;>cases d2<;>simp only[aop,LOp.loud,pop,Bool.false_eq_true,if_false,Option.map_some,Option.map_none,reduceCtorEq]at h;split at h
      · rename_i hj;simp only[Om,Pi_]at h;obtain⟨r',hb,rfl,rfl,rfl⟩:=h;generalize hx:ev x=vx at h1;generalize hi:ev i=vi at h2;cases h2;refine Does.pure (s:=Instr.index t (ev x) (ev i)) hr rfl ?_;rw[hx,hi]
        cases h1 with
        | agg _ vs hl hc hh =>
          obtain⟨v,h2,h3⟩:=Kl (P:=P) hl hc hh hb hn rfl;exact⟨v,by simp[Instr.index,asIntOf,run_underlying (arrayT_iff.1 he),hj,run_sizeOf hn,h2],h3⟩
      simp at h
    simp at x9
  case h_17 t x lo hi mx =>
    split at x9
    · rename_i hs;simp only[Oi,Pi_]at x9;obtain⟨rfl,rfl⟩:=x9
      cases hv with | cons h1 t1 =>
      rename_i d1 ds;generalize hx:ev x=vx at h1;cases d1<;>simp only[aop,LOp.loud,pop,Bool.false_eq_true,if_false,Option.map_some,Option.map_none,reduceCtorEq]at h;cases h1;split at h
      · rename_i a b hsa;simp only[Om,Pi_]at h;obtain⟨_,⟨⟨l,hh⟩,hb,rfl⟩,rfl,rfl,rfl⟩:=h;obtain⟨o1,o2,o3,_⟩:=vo_of t1 hsa;refine Does.pure (s:=Instr.sliceAt t (ev x) (lo.map ev) (hi.map ev) (mx.map ev)) hr rfl ?_;generalize mx.map ev=vm at o3;cases o3;rw[hx];exact⟨_,sliceStr_ok (strT_iff.1 hs) o1 o2 hb,.str _⟩
      simp at h
    split at x9
    · rename_i e he;simp only[Om,Pi_]at x9;obtain⟨n,hn,rfl,rfl⟩:=x9
      cases hv with | cons h1 t1 =>
      simp only[aop,LOp.loud,lop,if_true]at h;split at h
      · rename_i a b m hsa;simp only[Om,Pi_]at h;obtain⟨r',hb,rfl,rfl,rfl⟩:=h;obtain⟨o1,o2,o3,o4⟩:=vo_of t1 hsa;exact Does.pure hr rfl (slice_ok (sliceT_iff.1 he) hn h1 o1 o2 o3 o4 hb)
      simp at h
    simp at x9
  case h_18 x i =>
    simp only[Oi,Pi_]at x9;obtain⟨rfl,rfl⟩:=x9
    cases hv with | cons h1 t1=>cases t1 with | nil =>
    rename_i d1;cases d1<;>simp only[aop,LOp.loud,pop,Bool.false_eq_true,if_false,Option.map_some,Option.map_none,reduceCtorEq]at h;simp only[Om,Pi_]at h;obtain⟨r',hb,rfl,rfl,rfl⟩:=h;exact Does.pure hr rfl (extract_ok h1 hb)
  case h_19 t l c =>
    split at x9
    · rename_i e he;split at x9
      · rename_i i z n hi hz hn;split at x9
        · rename_i hl;simp only[Oi,Pi_]at x9;obtain⟨rfl,rfl⟩:=x9
          cases hv with | cons h1 t1=>cases t1 with | cons h2 t2=>cases t2 with | nil =>
          rename_i d1 d2;generalize qm:ev l=vl at h1;generalize hvc:ev c=vc at h2;cases d1<;>cases d2<;>simp only[aop,LOp.loud,lop,if_true,reduceCtorEq]at h;cases h1;cases h2;refine Does.val (s:=Instr.makeSlice t (ev l) (ev c)) rfl ?_;rw[qm,hvc];exact mkslice_ok hr (sliceT_iff.1 he) hi hn hz hl.1 hl.2 (kd_of kd _) h
        simp at x9
      simp at x9
    simp at x9
  case h_20 t rr =>
    split at x9
    · rename_i hn;simp only[Oi,Pi_]at x9;obtain⟨rfl,rfl⟩:=x9;cases hv;simp only[aop,LOp.loud,lop,if_true,Oi,Pi_]at h;obtain⟨rfl,rfl,rfl⟩:=h;have:rr=none:=by simpa using hn
      subst this;exact Does.val rfl (mkmap_ok hr)
    simp at x9
  case h_21 t m k v =>
    split at x9
    · rename_i kt e hmt;split at x9
      · rename_i kf vX;simp only[Oi,Pi_]at x9;obtain⟨rfl,rfl⟩:=x9
        cases hv with | cons h1 t1=>cases t1 with | cons h2 t2=>cases t2 with | cons h3 t3=>cases t3 with | nil =>
        simp only[aop,LOp.loud,lop,if_true,Om,Pi_]at h;obtain⟨S2,hb,rfl,rfl,rfl⟩:=h;obtain⟨w',h4,h5⟩:=mapset_ok hr (mapT_iff.1 hmt) vX h1 h2 h3 hb;exact⟨.skip,undef,w',by simp[execOp,h4],.inr ⟨rfl,rfl⟩,h5⟩
      split at x9
      · rename_i hag;simp only[Om,Pi_]at x9;obtain⟨R5,hfm,rfl,rfl⟩:=x9
        cases hv with | cons h1 t1=>cases t1 with | cons h2 t2=>cases t2 with | cons h3 t3=>cases t3 with | nil =>
        simp only[aop,LOp.loud,lop,if_true,Om,Pi_]at h;obtain⟨S2,hb,rfl,rfl,rfl⟩:=h;obtain⟨w',h4,h5⟩:=mapsetS_ok hr (mapT_iff.1 hmt) hag hfm h1 h2 h3 hb;exact⟨.skip,undef,w',by simp[execOp,h4],.inr ⟨rfl,rfl⟩,h5⟩
      simp at x9
    simp at x9
  case h_22 t m k v =>
    split at x9
    · rename_i kt e hmt;split at x9
      · rename_i kf vX;simp only[Oi,Pi_]at x9;obtain⟨rfl,rfl⟩:=x9
        cases hv with | cons h1 t1=>cases t1 with | cons h2 t2=>cases t2 with | cons h3 t3=>cases t3 with | nil =>
        simp only[aop,LOp.loud,lop,if_true,Om,Pi_]at h;obtain⟨S2,hb,rfl,rfl,rfl⟩:=h;obtain⟨w',h4,h5⟩:=mapset_ok hr (mapT_iff.1 hmt) vX h1 h2 h3 hb;exact⟨.skip,undef,w',by simp[execOp,h4],.inr ⟨rfl,rfl⟩,h5⟩
      split at x9
      · rename_i hag;simp only[Om,Pi_]at x9;obtain⟨R5,hfm,rfl,rfl⟩:=x9
        cases hv with | cons h1 t1=>cases t1 with | cons h2 t2=>cases t2 with | cons h3 t3=>cases t3 with | nil =>
        simp only[aop,LOp.loud,lop,if_true,Om,Pi_]at h;obtain⟨S2,hb,rfl,rfl,rfl⟩:=h;obtain⟨w',h4,h5⟩:=mapsetS_ok hr (mapT_iff.1 hmt) hag hfm h1 h2 h3 hb;exact⟨.skip,undef,w',by simp[execOp,h4],.inr ⟨rfl,rfl⟩,h5⟩
      simp at x9
    simp at x9
  case h_23 t m k ok =>
    split at x9
    · rename_i kt e hmt;split at x9
      · rename_i z kf hz vX;simp only[Oi,Pi_]at x9;obtain⟨rfl,rfl⟩:=x9
        cases hv with | cons h1 t1=>cases t1 with | cons h2 t2=>cases t2 with | nil =>
        simp only[aop,LOp.loud,lop,if_true,Om,Pi_]at h;obtain⟨r',hb,rfl,rfl,rfl⟩:=h;exact Does.pure hr rfl (mapget_ok hr (mapT_iff.1 hmt) vX hz h1 h2 hb)
      · rename_i z hz hkn;split at x9
        · rename_i hag;simp only[Om,Pi_]at x9;obtain⟨R5,hfm,rfl,rfl⟩:=x9
          cases hv with | cons h1 t1=>cases t1 with | cons h2 t2=>cases t2 with | nil =>
          simp only[aop,LOp.loud,lop,if_true,Om,Pi_]at h;obtain⟨r',hb,rfl,rfl,rfl⟩:=h;exact Does.pure hr rfl (mapgetS_ok hr (mapT_iff.1 hmt) hag hfm hz h1 h2 hb)
        simp at x9
      simp at x9
    simp at x9
  case h_24 f first caps =>
    split at x9
    · rename_i hf;simp only[Oi,Pi_]at x9;obtain⟨rfl,rfl⟩:=x9;simp only[aop,LOp.loud,pop,Bool.false_eq_true,if_false,Option.map_some,Oi,Pi_]at h;obtain⟨rfl,rfl,rfl⟩:=h
      have hf0:first=#[]:=by simpa using hf
      subst hf0;refine Does.pure (s:=Instr.makeFunc (.func f) (#[].map ev) (caps.map ev)) hr rfl ⟨.func (.func f) #[] (caps.map ev),by simp[Instr.makeFunc],?_⟩;have:=VR.fn (w:=w) (ρ:=ρ) (H:=S.heap) f ds (caps.toList.map ev) hv.len (fun j d v=>hv.get);have he:(caps.toList.map ev).toArray=caps.map ev:=by apply Array.ext';simp
      rw[he]at this;exact this
    simp at x9
  case h_25 s d x =>
    split at x9
    · rename_i k1 k zB hk;simp only[Oi,Pi_]at x9;obtain⟨rfl,rfl⟩:=x9
      cases hv with | cons h1 t1=>cases t1 with | nil =>
      rename_i d1;cases d1<;>simp only[aop,LOp.loud,pop,Bool.false_eq_true,if_false,Option.map_some,Option.map_none,reduceCtorEq]at h;simp only[Oi,Pi_]at h;obtain⟨rfl,rfl,rfl⟩:=h;generalize hx:ev x=vx at h1;cases h1;refine Does.pure (s:=convert s d (ev x)) hr rfl ⟨.int k _,?_,.int _ _⟩;rw[hx];simp[convert,run_underlying (intT_iff.1 zB),run_underlying (intT_iff.1 hk),Conv.intToInt]
    split at x9
    · rename_i hss;simp only[Bool.and_eq_true]at hss;simp only[Oi,Pi_]at x9;obtain⟨rfl,rfl⟩:=x9
      cases hv with | cons h1 t1=>cases t1 with | nil =>
      rename_i d1;cases d1<;>simp only[aop,LOp.loud,pop,Bool.false_eq_true,if_false,Option.map_some,Option.map_none,reduceCtorEq]at h;simp only[Oi,Pi_]at h;obtain⟨rfl,rfl,rfl⟩:=h;generalize hx:ev x=vx at h1;cases h1;refine Does.pure (s:=convert s d (ev x)) hr rfl ⟨.string _,?_,.str _⟩;rw[hx];simp[convert,run_underlying (strT_iff.1 hss.1),run_underlying (strT_iff.1 hss.2)]
    split at x9
    · rename_i hud;split at x9
      · rename_i t qz;simp only[Om,Pi_]at x9;obtain⟨n,hn,rfl,rfl⟩:=x9
        cases hv with | cons h1 t1=>cases t1 with | nil =>
        simp only[aop,LOp.loud,lop,if_true,Om,Pi_]at h;obtain⟨r',hb,rfl,rfl,rfl⟩:=h;obtain⟨h3,h4⟩:=toU_ok hr qz hud hn h1 hb;exact Does.pure (s:=convert s d (ev x)) hr rfl ⟨_,h3,h4⟩
      simp at x9
    split at x9
    · rename_i hus;split at x9
      · rename_i t qz;simp only[Om,Pi_]at x9;obtain⟨n,hn,rfl,rfl⟩:=x9
        cases hv with | cons h1 t1=>cases t1 with | nil =>
        simp only[aop,LOp.loud,lop,if_true,Om,Pi_]at h;obtain⟨r',hb,rfl,rfl,rfl⟩:=h;obtain⟨h3,h4⟩:=ofU_ok hr hus qz hn h1 hb;exact Does.pure (s:=convert s d (ev x)) hr rfl ⟨_,h3,h4⟩
      simp at x9
    split at x9
    · rename_i e e' hse hde;split at x9
      · rename_i hc;obtain⟨rfl,xW,za⟩:=hc;simp only[Oi,Pi_]at x9;obtain⟨rfl,rfl⟩:=x9
        cases hv with | cons h1 t1=>cases t1 with | nil =>
        simp only[aop,LOp.loud,lop,if_true]at h;exact Does.val (s:=convert s s (ev x)) rfl (strsh_ok hr (sliceT_iff.1 hse) (intT_iff.1 xW) h1 h)
      simp at x9
    · rename_i e hse hde;split at x9
      · rename_i hc;simp only[Bool.and_eq_true,decide_eq_true_eq,beq_iff_eq]at hc;simp only[Oi,Pi_]at x9;obtain⟨rfl,rfl⟩:=x9
        cases hv with | cons h1 t1=>cases t1 with | nil =>
        simp only[aop,LOp.loud,lop,if_true]at h;split at h
        · rename_i rows xB;simp only[Om,Pi_]at h;obtain⟨b,hb,rfl,rfl,rfl⟩:=h;exact Does.pure hr rfl ⟨_,bstr_ok hr (sliceT_iff.1 hse) (intT_iff.1 hc.1.1) (strT_iff.1 hc.1.2) h1 xB hb,.str _⟩
        simp at h
      simp at x9
    · rename_i e hse hde;split at x9
      · rename_i hc;simp only[Bool.and_eq_true,decide_eq_true_eq,beq_iff_eq]at hc;simp only[Oi,Pi_]at x9;obtain⟨rfl,rfl⟩:=x9
        cases hv with | cons h1 t1=>cases t1 with | nil =>
        rename_i d1;generalize hx:ev x=vx at h1;cases d1<;>simp only[aop,LOp.loud,lop,if_true,reduceCtorEq]at h;cases h1;simp only[Oi,Pi_]at h;obtain⟨rfl,rfl,rfl⟩:=h;refine Does.val (s:=convert s d (ev x)) rfl ?_;rw[hx];exact strb_ok hr (strT_iff.1 hc.1.2) (sliceT_iff.1 hde) (intT_iff.1 hc.1.1)
      simp at x9
    simp at x9
  case h_26 t x =>
    split at x9
    · simp at x9
    · simp at x9
    rename_i td uZ hu;simp only[Oi,Pi_]at x9;obtain⟨rfl,rfl⟩:=x9
    cases hv with | cons h1 t1=>cases t1 with | nil =>
    simp only[aop,LOp.loud,pop,Bool.false_eq_true,if_false]at h;split at h
    · rename_i uQ;simp only[Option.map_some,Oi,Pi_]at h;obtain⟨rfl,rfl,rfl⟩:=h;refine Does.pure hr (s:=Instr.makeInterface t (ev x)) rfl ⟨.iface t (ev x),?_,?_⟩
      · simp only [Instr.makeInterface, Sem.run_bind, run_underlying hu, Result.andThen_ok]
        cases td<;>first | rfl | exact absurd rfl (uZ _)
      split
      · rename_i hf;exact .ifc t _ _ hf uQ h1
      exact .ifr t _ _ uQ h1
    simp at h
  case h_27 x xt t ok =>
    split at x9
    · simp at x9
    · simp at x9
    rename_i td uZ hu;simp only[Om,Pi_]at x9;obtain⟨z,hz,rfl,rfl⟩:=x9
    cases hv with | cons h1 t1=>cases t1 with | nil =>
    simp only[aop,LOp.loud,Bool.false_eq_true,if_false,Om,Pi_]at h;obtain⟨r',hp,rfl,rfl,rfl⟩:=h;exact Does.pure hr (s:=Instr.typeAssert (ev x) xt t ok) rfl (tass_ok hu (fun m hm=>uZ m hm) hz h1 hp)
  case h_28 c =>
    obtain⟨callee,args,argTypes⟩:=c
    have run_bi:∀(bi:Builtin) (s:Sem Value),(∀k,builtin bi argTypes oty k (args.map ev)=(do pure (.value (←s))))→callee=.builtin bi→(∃v w',s.run P w=.ok v w'∧Rt w ρ S r S' wr v w') →
        Does P w ρ S ev ⟨odst,.call ⟨callee,args,argTypes⟩,oty,opos,oafter,oguard⟩ r S' wr:=by
      rintro bi s hs rfl hh;refine Does.val (s:=s) ?_ hh;simp only[execOp,resolve,invoke];rw[←hs (args.map fun | .const _=>true | _=>false)];rfl
    simp only at x9;split at x9
    · simp only [Oi, Pi_] at x9;obtain⟨rfl,rfl⟩:=x9;simp[aop,lop,LOp.loud]at h
    · -- a function
      rename_i f;split at x9
      · rename_i fn z8;split at x9
        · rename_i hbody;split at x9
          · rename_i hmz;split at x9
            · rename_i rt hrt;split at x9
              · rename_i e he;split at x9
                · rename_i hu8;simp only[Oi,Pi_]at x9;obtain⟨rfl,rfl⟩:=x9;have he':(args.toList.map ev).toArray=args.map ev:=by apply Array.ext';simp
                  have hrt':fn.resultTypes=#[rt]:=by apply Array.ext';simpa using hrt
                  simp only[aop,LOp.loud,if_true]at h;obtain⟨n,rfl,hn0,uG,rfl,rfl,rfl⟩:=lop_mknz h
                  have vI:args.map ev=#[.int .i64 n]:=by
                    rw[←he'];generalize args.toList.map ev=vs at hv
                    cases hv with
                    | cons h1 t1 =>
                    cases t1 with
                    | nil =>
                    cases h1;rfl
                  obtain⟨v,w',h4,h5⟩:=mknz_ok (P:=P) fn.params hr (sliceT_iff.1 he) rfl hn0 uG;refine⟨.value v,v,w',?_,.inl rfl,h5⟩
                  have hh:(execOp ev ⟨odst,.call ⟨.value (.func f),args,argTypes⟩,oty,opos,oafter,oguard⟩).run P w=(callFunc f (args.map ev)).run P w:=by
                    simp[execOp,resolve,Deferred.ofValue,invoke,hevf]
                  rw[hh,vI];exact run_mknz z8 hbody hmz.1 hmz.2 hrt' h4
                simp at x9
              simp at x9
            simp at x9
          split at x9
          rotate_left
          · simp at x9
          rename_i l' hl';simp only[Oi,Pi_]at x9;obtain⟨rfl,rfl⟩:=x9;split at hl'
          · rename_i horig;have he:(args.toList.map ev).toArray=args.map ev:=by apply Array.ext';simp
            have run_x : ∀ (name : String) (g : Array Value → Sem Value), fn.name = name → (name == "runtime.NumGoroutine") = false → (Extern.allNextRows.lookup name = none ∧ Extern.allGenericRows.lookup name = none ∧ Extern.allTypedRows.lookup name = none ∧ Extern.allRows.lookup name = some g) →
                (∃v w',(g (args.map ev)).run P w=.ok v w'∧Rt w ρ S r S' wr v w')→Does P w ρ S ev ⟨odst,.call ⟨.value (.func f),args,argTypes⟩,oty,opos,oafter,oguard⟩ r S' wr:=by
              rintro name g h1 h2 h3 ⟨v,w',h4,h5⟩;refine⟨.value v,v,w',?_,.inl rfl,h5⟩
              have hh:(execOp ev ⟨odst,.call ⟨.value (.func f),args,argTypes⟩,oty,opos,oafter,oguard⟩).run P w=(callFunc f (args.map ev)).run P w:=by
                simp[execOp,resolve,Deferred.ofValue,invoke,hevf]
              rw[hh];exact run_ext z8 hbody h1 horig h2 h3 h4
            unfold Ii at hl';split at hl'
            · rename_i hnm;simp only[Oi]at hl';subst hl';refine run_x _ _ hnm (by decide) ext_idx ?_;rw[←he];generalize args.toList.map ev=vs at hv
              cases hv with
              | nil=>simp[aop,LOp.loud,pop]at h
              | cons h1 t1 => cases t1 with
                | nil=>simp[aop,LOp.loud,pop]at h
                | cons h2 t2 => cases t2 with
                  | cons h3 t3=>simp[aop,LOp.loud,pop]at h
                  | nil =>
                    rename_i d1 v1 d2 v2;simp only[aop,LOp.loud,Bool.false_eq_true,if_false,Om,Pi_]at h;obtain⟨r',hp,rfl,rfl,rfl⟩:=h;unfold pop at hp;split at hp<;>simp only[reduceCtorEq,List.cons.injEq,and_true,Oi]at *;rename_i s c uK;obtain⟨rfl,rfl⟩:=uK;subst hp;cases h1;cases h2;exact⟨_,w,idxb_run,Rt.pure hr (.int _ _)⟩
            split at hl'
            · rename_i hnm;simp only[Oi]at hl';subst hl';refine run_x _ _ hnm (by decide) ext_cnt ?_;rw[←he];generalize args.toList.map ev=vs at hv
              cases hv with
              | nil=>simp[aop,LOp.loud,pop]at h
              | cons h1 t1 => cases t1 with
                | nil=>simp[aop,LOp.loud,pop]at h
                | cons h2 t2 => cases t2 with
                  | cons h3 t3=>simp[aop,LOp.loud,pop]at h
                  | nil =>
                    rename_i d1 v1 d2 v2;simp only[aop,LOp.loud,Bool.false_eq_true,if_false,Om,Pi_]at h;obtain⟨r',hp,rfl,rfl,rfl⟩:=h;unfold pop at hp;split at hp<;>simp only[reduceCtorEq,List.cons.injEq,and_true,Oi]at *;rename_i s c uK;obtain⟨rfl,rfl⟩:=uK;subst hp;cases h1;cases h2;exact⟨_,w,cntb_run,Rt.pure hr (.int _ _)⟩
            split at hl'
            · rename_i hnm;simp only[Oi]at hl';subst hl';refine run_x _ _ hnm (by decide) ext_esc ?_;rw[←he];generalize args.toList.map ev=vs at hv
              cases hv with
              | nil=>simp[aop,LOp.loud,pop]at h
              | cons h1 t1 => cases t1 with
                | cons h2 t2=>simp[aop,LOp.loud,pop]at h
                | nil =>
                  simp only[aop,LOp.loud,pop,Bool.false_eq_true,if_false,Option.map_some,Oi,Pi_]at h;obtain⟨rfl,rfl,rfl⟩:=h;exact⟨_,w,rfl,Rt.pure hr h1⟩
            simp at hl'
          simp at hl'
        simp only[Oi,Pi_]at x9;obtain⟨rfl,rfl⟩:=x9;simp[aop,lop,LOp.loud]at h
      simp at x9
    · simp only [Oi, Pi_] at x9;obtain⟨rfl,rfl⟩:=x9;simp[aop,lop,LOp.loud]at h
    · -- len
      split at x9
      · rename_i x t xX wQ;have ha:args=#[x]:=by apply Array.ext';simpa using xX
        have hb:argTypes=#[t]:=by apply Array.ext';simpa using wQ
        subst ha hb;split at x9
        · rename_i xM;simp only[Oi,Pi_]at x9;obtain⟨rfl,rfl⟩:=x9
          cases hv with | cons h1 t1=>cases t1 with | nil =>
          simp only[aop,LOp.loud,pop,Bool.false_eq_true,if_false,Om,Pi_]at h;obtain⟨r',hb,rfl,rfl,rfl⟩:=h
          have ht:(J5 P t=true∧P.underlying t=some .string)∨(J5 P t=false∧∃e,P.underlying t=some (.slice e)):=by
            cases hs:J5 P t with
            | true=>exact .inl ⟨rfl,strT_iff.1 hs⟩
            | false =>
              rw[hs]at xM;simp only[Bool.false_or]at xM;obtain⟨e,he⟩:=Option.isSome_iff_exists.1 xM;exact .inr ⟨rfl,e,sliceT_iff.1 he⟩
          obtain⟨v,h3,h4⟩:=len_ok (P:=P) (ty:=oty) ht h1 hb;exact run_bi .len (Builtin.len_ #[t] oty #[ev x]) (fun k=>by simp[builtin]) rfl ⟨v,w,h3,Rt.pure hr h4⟩
        split at x9
        · rename_i n e he;simp only[Oi,Pi_]at x9;obtain⟨rfl,rfl⟩:=x9
          cases hv with | cons h1 t1=>cases t1 with | nil =>
          simp only[aop,LOp.loud,pop,Bool.false_eq_true,if_false,Option.map_some,Oi,Pi_]at h;obtain⟨rfl,rfl,rfl⟩:=h;exact run_bi .len (Builtin.len_ #[t] oty #[ev x]) (fun k=>by simp[builtin]) rfl ⟨.int .i64 n,w,by simp[Builtin.len_,run_underlying (arrayT_iff.1 he),goInt],Rt.pure hr (.int _ _)⟩
        simp at x9
      simp at x9
    · -- cap
      split at x9
      · rename_i x t xX wQ;have ha:args=#[x]:=by apply Array.ext';simpa using xX
        have hb:argTypes=#[t]:=by apply Array.ext';simpa using wQ
        subst ha hb;split at x9
        · rename_i xM;simp only[Oi,Pi_]at x9;obtain⟨rfl,rfl⟩:=x9
          cases hv with | cons h1 t1=>cases t1 with | nil =>
          simp only[aop,LOp.loud,pop,Bool.false_eq_true,if_false,Om,Pi_]at h;obtain⟨r',hb,rfl,rfl,rfl⟩:=h;obtain⟨e,he⟩:=Option.isSome_iff_exists.1 xM;obtain⟨v,h3,h4⟩:=cap_ok (P:=P) (ty:=oty) (sliceT_iff.1 he) h1 hb;exact run_bi .cap (Builtin.cap_ #[t] oty #[ev x]) (fun k=>by simp[builtin]) rfl ⟨v,w,h3,Rt.pure hr h4⟩
        simp at x9
      simp at x9
    · -- append
      split at x9
      · rename_i sx x t t' xX wQ;have ha:args=#[sx,x]:=by apply Array.ext';simpa using xX
        have hb:argTypes=#[t,t']:=by apply Array.ext';simpa using wQ
        subst ha hb;split at x9
        · rename_i xM;split at x9
          · rename_i e he;split at x9
            · rename_i i z hi hz;split at x9
              · rename_i hl;simp only[Oi,Pi_]at x9;obtain⟨rfl,rfl⟩:=x9
                cases hv with | cons h1 t1=>cases t1 with | cons h2 t2=>cases t2 with | nil =>
                rename_i d1 d2;generalize hx:ev x=vx at h2;cases d2<;>simp only[aop,LOp.loud,lop,if_true,reduceCtorEq]at h;cases h2;refine run_bi .append (Builtin.append_ #[t,t'] oty #[ev sx,ev x]) (fun k=>by simp[builtin]) rfl ?_;rw[hx];exact appstr_ok hr (sliceT_iff.1 he) (strT_iff.1 xM) hi hl.2.1 hz hl.2.2.1 hl.2.2.2 (kd_of kd _) h1 h
              simp at x9
            simp at x9
          simp at x9
        split at x9
        · rename_i qp;subst qp;split at x9
          · rename_i e he;split at x9
            · rename_i i n z hi hn hz;split at x9
              · rename_i hl;simp only[Oi,Pi_]at x9;obtain⟨rfl,rfl⟩:=x9
                cases hv with | cons h1 t1=>cases t1 with | cons h2 t2=>cases t2 with | nil =>
                simp only[aop,LOp.loud,lop,if_true]at h;exact run_bi .append (Builtin.append_ #[t,t] oty #[ev sx,ev x]) (fun k=>by simp[builtin]) rfl (append_ok hr (sliceT_iff.1 he) hi hn hz hl.1 hl.2 (kd_of kd _) h1 h2 h)
              simp at x9
            simp at x9
          simp at x9
        split at x9
        · rename_i hit;obtain⟨kn,hkn⟩:=Option.isSome_iff_exists.1 hit;split at x9
          · rename_i e he;split at x9
            · rename_i i n z hi hn hz;split at x9
              · rename_i hl;simp only[Oi,Pi_]at x9;obtain⟨rfl,rfl⟩:=x9
                cases hv with | cons h1 t1=>cases t1 with | cons h2 t2=>cases t2 with | nil =>
                rename_i d1 d2;generalize vI:ev sx=vs at h1;generalize hvx:ev x=vx at h2;cases d1<;>cases d2<;>simp only[aop,LOp.loud,lop,if_true,reduceCtorEq]at h;cases h1;cases h2;refine run_bi .append (Builtin.append_ #[t,t'] oty #[ev sx,ev x]) (fun k=>by simp[builtin]) rfl ?_;rw[vI,hvx];exact appmk_ok hr (sliceT_iff.1 he) (intT_iff.1 hkn) hi hn hz hl.1 (kd:=if kd.of e=0 then 0 else 2) (by split<;>simp) hl.2 h
              simp at x9
            simp at x9
          simp at x9
        simp at x9
      simp at x9
    · -- copy
      split at x9
      · rename_i dx x t t' xX wQ;have ha:args=#[dx,x]:=by apply Array.ext';simpa using xX
        have hb:argTypes=#[t,t']:=by apply Array.ext';simpa using wQ
        subst ha hb;split at x9
        · rename_i e he;split at x9
          · rename_i i n hi hn;split at x9
            · rename_i uG;subst uG;split at x9
              · rename_i xM;split at x9
                · simp only [Oi, Pi_] at x9;obtain⟨rfl,rfl⟩:=x9
                  cases hv with | cons h1 t1=>cases t1 with | cons h2 t2=>cases t2 with | nil =>
                  rename_i d1 d2;generalize hx:ev x=vx at h2;cases d2<;>simp only[aop,LOp.loud,lop,if_true,reduceCtorEq]at h;cases h2;by_cases hk0:kd.of e=0
                  · rw[if_pos hk0]at h;simp at h
                  rw[if_neg hk0]at h;refine run_bi .copy (Builtin.copy_ #[t,t'] oty #[ev dx,ev x]) (fun k=>by simp[builtin]) rfl ?_;rw[hx];exact copys_ok hr (sliceT_iff.1 he) hn h1 h
                simp at x9
              split at x9
              · rename_i qp;subst qp;simp only[Oi,Pi_]at x9;obtain⟨rfl,rfl⟩:=x9
                cases hv with | cons h1 t1=>cases t1 with | cons h2 t2=>cases t2 with | nil =>
                rename_i d1 d2;simp only[aop,LOp.loud,lop,if_true]at h
                cases wR:P5 (kd.of e) S 1 d2 with
                | none=>rw[wR]at h;simp at h
                | some src =>
                  rw[wR]at h;exact run_bi .copy (Builtin.copy_ #[t,t] oty #[ev dx,ev x]) (fun k=>by simp[builtin]) rfl (copy_ok hr (sliceT_iff.1 he) hn h1 h2 wR h)
              simp at x9
            simp at x9
          simp at x9
        simp at x9
      simp at x9
    · -- max
      simp only[Oi,Pi_]at x9;obtain⟨rfl,rfl⟩:=x9;simp only[aop,LOp.loud,Bool.false_eq_true,if_false,Om,Pi_]at h;obtain⟨r',hb,rfl,rfl,rfl⟩:=h;have he:(args.toList.map ev).toArray=args.map ev:=by apply Array.ext';simp
      obtain⟨v,h3,h4⟩:=maxs_ok (P:=P) (ts:=argTypes) (t:=oty) hv hb;rw[he]at h3;exact run_bi .max (Builtin.max_ argTypes oty (args.map ev)) (fun k=>by simp[builtin]) rfl ⟨v,w,h3,Rt.pure hr h4⟩
    · -- min
      simp only[Oi,Pi_]at x9;obtain⟨rfl,rfl⟩:=x9;simp only[aop,LOp.loud,Bool.false_eq_true,if_false,Om,Pi_]at h;obtain⟨r',hb,rfl,rfl,rfl⟩:=h;have he:(args.toList.map ev).toArray=args.map ev:=by apply Array.ext';simp
      obtain⟨v,h3,h4⟩:=mins_ok (P:=P) (ts:=argTypes) (t:=oty) hv hb;rw[he]at h3;exact run_bi .min (Builtin.min_ argTypes oty (args.map ev)) (fun k=>by simp[builtin]) rfl ⟨v,w,h3,Rt.pure hr h4⟩
    · -- the bytes of a slice
      split at x9
      · rename_i x xX;have ha:args=#[x]:=by apply Array.ext';simpa using xX
        subst ha;simp only[Oi,Pi_]at x9;obtain⟨rfl,rfl⟩:=x9
        cases hv with | cons h1 t1=>cases t1 with | nil =>
        simp only[aop,LOp.loud,lop,if_true,Om,Pi_]at h;obtain⟨r',hb,rfl,rfl,rfl⟩:=h;obtain⟨v,h3,h4⟩:=sdata_ok (P:=P) (ts:=argTypes) (ty:=oty) hr h1 hb;exact run_bi .unsafeSliceData (Builtin.unsafeSliceData_ argTypes oty #[ev x]) (fun k=>by simp[builtin]) rfl ⟨v,w,h3,Rt.pure hr h4⟩
      simp at x9
    · -- bytes as a string
      split at x9
      · rename_i x y t t' xX wQ;have ha:args=#[x,y]:=by apply Array.ext';simpa using xX
        have hb:argTypes=#[t,t']:=by apply Array.ext';simpa using wQ
        subst ha hb;split at x9
        · rename_i e qz;split at x9
          · rename_i hc;simp only[Oi,Pi_]at x9;obtain⟨rfl,rfl⟩:=x9
            cases hv with | cons h1 t1=>cases t1 with | cons h2 t2=>cases t2 with | nil =>
            rename_i d1 d2;generalize hy:ev y=vy at h2;simp only[aop,LOp.loud,if_true]at h;unfold lop at h;split at h<;>simp only[reduceCtorEq,List.cons.injEq,and_true,LOp.ustr.injEq]at *;rename_i e' p n heq1 heq2;subst heq1;obtain⟨rfl,rfl⟩:=heq2;cases h2;refine run_bi .unsafeString (Builtin.unsafeString_ #[t,t'] oty #[ev x,ev y]) (fun k=>by simp[builtin]) rfl ?_;rw[hy];exact ustr_ok hr qz hc.2 h1 h
          simp at x9
        simp at x9
      simp at x9
    simp at x9
  case h_29 t x =>
    split at x9
    · rename_i xM;simp only[Oi,Pi_]at x9;obtain⟨rfl,rfl⟩:=x9
      cases hv with | cons h1 t1=>cases t1 with | nil =>
      rename_i d1;generalize hx:ev x=vx at h1;cases d1<;>simp only[aop,LOp.loud,lop,if_true,reduceCtorEq]at h;cases h1;simp only[Oi,Pi_]at h;obtain⟨rfl,rfl,rfl⟩:=h;refine Does.val (s:=Instr.range t (ev x)) rfl ?_;rw[hx];exact rngs_ok hr (strT_iff.1 xM)
    simp at x9
  case h_30 it isString =>
    split at x9
    · rename_i xM;subst xM;simp only[Oi,Pi_]at x9;obtain⟨rfl,rfl⟩:=x9
      cases hv with | cons h1 t1=>cases t1 with | nil =>
      rename_i d1;cases d1<;>simp only[aop,LOp.loud,lop,if_true,reduceCtorEq]at h;exact Does.val (s:=Instr.next (ev it) true oty) rfl (nexts_ok hr h1 h)
    simp at x9
  case h_31=>simp at x9
end
open Go.RowKit
section
variable {P:Program}
def Nf (P:Program) (G:Nat→Option (List D)) (call:Bf):Prop :=
 ∀f ds S r S' wr,call f ds S=some (r,S',wr)→∀w (ρ:Rm) vs,ρ.X.G=G→Rel w ρ S.heap→VL w ρ S.heap ds vs →
  (callFunc f vs.toArray).run P w=.ok (.enter f vs.toArray) w∧Calls P f vs.toArray w fun e w'=>∃v,e=.returned v∧Rt w ρ S r S' wr v w'
theorem lowOp_call{kd:Kd}{o:Oper}{f:FuncId}{xs:List Operand}(h:Mf P kd o=some (.call f,xs)):∃args tys,o.op=.call ⟨.value (.func f),args,tys⟩∧xs=args.toList:=by
 have hx:∀{s:String} {b:Prop} [Decidable b] {l:LOp},(if b then Ii s else none)=some l→l≠.call f:=by
  intro s b _ l hl e;subst e;split at hl
  ·
   unfold Ii at hl
   repeat' (first | (split at hl;skip) | (simp at hl;done))
   all_goals simp at hl
  simp at hl
 unfold Mf at h;split at h
 case h_28 c yZ =>
  obtain⟨callee,args,tys⟩:=c;simp only at h;split at h
  ·
   simp at h
  ·
   rename_i f';split at h
   ·
    split at h
    ·
     split at h
     ·
      repeat' (first | (split at h;skip) | (simp at h;done))
      all_goals simp at h
     split at h
     ·
      rename_i l' hl';simp only[Oi,Pi_]at h;exact absurd h.1 (hx hl')
     simp at h
    simp only[Oi,Pi_,LOp.call.injEq]at h;obtain⟨rfl,rfl⟩:=h;exact⟨args,tys,yZ,rfl⟩
   simp at h
  all_goals (repeat' (first | (split at h;skip) | (simp at h;done)))
  all_goals first
   | (simp at h;done)
   | (simp only[Om,Pi_,reduceCtorEq,false_and,and_false,exists_false]at h;done)
 all_goals (repeat' (first | (split at h;skip) | (simp at h;done)))
 all_goals first
  | (simp at h;done)
  | (simp only[Om,Pi_,reduceCtorEq,false_and,and_false,exists_false]at h;done)
theorem lowOp_callv{kd:Kd}{o:Oper}{xs:List Operand}(h:Mf P kd o=some (.callv,xs)):∃t args tys,o.op=.call ⟨.value (.tmp t),args,tys⟩∧xs=.tmp t::args.toList:=by
 have hx:∀{s:String} {b:Prop} [Decidable b] {l:LOp},(if b then Ii s else none)=some l→l≠.callv:=by
  intro s b _ l hl e;subst e;split at hl
  ·
   unfold Ii at hl
   repeat' (first | (split at hl;skip) | (simp at hl;done))
   all_goals simp at hl
  simp at hl
 unfold Mf at h;split at h
 case h_28 c yZ =>
  obtain⟨callee,args,tys⟩:=c;simp only at h;split at h
  ·
   simp at h
  ·
   rename_i f';split at h
   ·
    split at h
    ·
     split at h
     ·
      repeat' (first | (split at h;skip) | (simp at h;done))
      all_goals simp at h
     split at h
     ·
      rename_i l' hl';simp only[Oi,Pi_]at h;exact absurd h.1 (hx hl')
     simp at h
    simp at h
   simp at h
  ·
   simp only[Oi,Pi_]at h;obtain⟨_,rfl⟩:=h;exact⟨_,args,tys,yZ,rfl⟩
  all_goals (repeat' (first | (split at h;skip) | (simp at h;done)))
  all_goals first
   | (simp at h;done)
   | (simp only[Om,Pi_,reduceCtorEq,false_and,and_false,exists_false]at h;done)
 all_goals (repeat' (first | (split at h;skip) | (simp at h;done)))
 all_goals first
  | (simp at h;done)
  | (simp only[Om,Pi_,reduceCtorEq,false_and,and_false,exists_false]at h;done)
theorem lowOp_invoke{kd:Kd}{o:Oper}{tab:List (TypeId × FuncId)}{xs:List Operand}(h:Mf P kd o=some (.invoke tab,xs)):∃recv name args tys,o.op=.call ⟨.invoke recv name,args,tys⟩∧xs=recv::args.toList∧tab=Ns P name:=by
 have hx:∀{s:String} {b:Prop} [Decidable b] {l:LOp},(if b then Ii s else none)=some l→l≠.invoke tab:=by
  intro s b _ l hl e;subst e;split at hl
  ·
   unfold Ii at hl
   repeat' (first | (split at hl;skip) | (simp at hl;done))
   all_goals simp at hl
  simp at hl
 unfold Mf at h;split at h
 case h_28 c yZ =>
  obtain⟨callee,args,tys⟩:=c;simp only at h;split at h
  ·
   simp only[Oi,Pi_,LOp.invoke.injEq]at h;obtain⟨rfl,rfl⟩:=h;exact⟨_,_,args,tys,yZ,rfl,rfl⟩
  ·
   rename_i f';split at h
   ·
    split at h
    ·
     split at h
     ·
      repeat' (first | (split at h;skip) | (simp at h;done))
      all_goals simp at h
     split at h
     ·
      rename_i l' hl';simp only[Oi,Pi_]at h;exact absurd h.1 (hx hl')
     simp at h
    simp at h
   simp at h
  ·
   simp at h
  all_goals (repeat' (first | (split at h;skip) | (simp at h;done)))
  all_goals first
   | (simp at h;done)
   | (simp only[Om,Pi_,reduceCtorEq,false_and,and_false,exists_false]at h;done)
 all_goals (repeat' (first | (split at h;skip) | (simp at h;done)))
 all_goals first
  | (simp at h;done)
  | (simp only[Om,Pi_,reduceCtorEq,false_and,and_false,exists_false]at h;done)
theorem mem_lookup{α β:Type}[BEq α][LawfulBEq α]{l:List (α × β)}{a:α}{b:β}(h:l.lookup a=some b):(a,b)∈l:=by
 induction l with
 | nil=>simp at h
 | cons p l ih =>
  obtain⟨x,y⟩:=p;simp only[List.lookup_cons]at h;split at h
  ·
   rename_i he;simp only[Oi]at h;rw[eq_of_beq he,h];exact List.mem_cons_self
  exact List.mem_cons_of_mem _ (ih h)
theorem pointerT_iff{t:TypeId}:Kk P t=true↔∃e,P.underlying t=some (.pointer e):=by
 unfold Kk;split
 ·
  rename_i e hu;exact⟨fun _=>⟨e,hu⟩,fun _=>rfl⟩
 rename_i hn;exact⟨fun h=>by simp at h,fun ⟨e,he⟩=>absurd he (hn e)⟩
theorem run_method{w:World}{name:String}{tab:List (TypeId × FuncId)}{t:TypeId}{f:FuncId}{v:Value}(htab:tab=Ns P name)(h:tab.lookup t=some f):(method (P.types.size+Made.depth) t v name).run P w=.ok (f,v) w:=by
 subst htab;have hm:=mem_lookup h;unfold Ns at hm;simp only[List.mem_filterMap,List.mem_range]at hm;obtain⟨t',xJ,hx⟩:=hm;split at hx
 ·
  rename_i i hi;split at hx
  ·
   rename_i m hfm;split at hx
   ·
    rename_i f' pr hmf;rw[Option.ite_none_right_eq_some]at hx;obtain⟨hc,hx⟩:=hx;simp only[Oi,Pi_]at hx;obtain⟨rfl,rfl⟩:=hx;rw[Bool.and_eq_true,Bool.and_eq_true,Bool.and_eq_true,beq_iff_eq,Array.isEmpty_iff]at hc;obtain⟨⟨⟨hp,uO⟩,hus⟩,hb⟩:=hc;obtain⟨td,hu⟩:=Option.isSome_iff_exists.1 hus;obtain⟨k,hk⟩:∃k,P.types.size+Made.depth=k+1:=⟨P.types.size+Made.depth-1,by omega⟩;rw[hk];have hti:(typeInfo t').run P w=.ok i w:=by simp[typeInfo,hi]
    unfold method;rw[Ad hti];simp only[hfm,hp];have hfo:(follow [] t' (.val v)).run P w=.ok (t',.val v) w:=rfl;rw[Ad hfo];simp only[hmf]
    have hre : (receiverAt t' (.val v) pr (if (#[] : Array FieldStep).isEmpty = true then some ((name.splitOn ".").getLastD name) else none)).run P w = .ok v w := by
     unfold receiverAt;rw[Ad (run_underlying hu w)]
     cases qz:Kk P t' with
     | true =>
      rw[qz]at uO;subst uO;obtain⟨e,he⟩:=pointerT_iff.1 qz;rw[hu]at he;simp only[Oi]at he;subst he;rfl
     | false =>
      rw[qz]at uO;subst uO
      cases td<;>first | rfl | (exfalso;have:Kk P t'=true:=pointerT_iff.2 ⟨_,hu⟩;rw[qz]at this;simp at this)
    rw[Ad hre];rfl
   simp at hx
  simp at hx
 simp at hx
theorem exOp_ok{G:Nat→Option (List D)}{call:Bf}(xP:Nf P G call){kd:Kd}{o:Oper}{l:LOp}{xs:List Operand}{a:Act}{w:World}{ρ:Rm}{S S':St}{ds:List D}{r:D}{wr:Bool}{K:Act→World→Prop}{Q:Exit→Act→World→Prop}
  (hG:ρ.X.G=G) (uH:Kq P kd o=some (l,xs)) (hv:VL w ρ S.heap ds (xs.map a.eval)) (hr:Rel w ρ S.heap) (h:Az call l ds S=some (r,S',wr)) (hK:∀v w',Rt w ρ S r S' wr v w'→K (a.put o.dst v) w'):o.wp P a w K Q:=by
 have x9:Mf P kd o=some (l,xs):=by
  unfold Kq at uH;split at uH
  ·
   rename_i x hx;rw[hx];exact uH
  simp only[Oi,Pi_]at uH;obtain⟨rfl,rfl⟩:=uH;simp[Az,aop,LOp.loud,pop]at h
 have plain:aop l ds S=some (r,S',wr)→o.wp P a w K Q:=by
  intro h;obtain⟨nx,v,w',h1,h2,h3⟩:=aop_ok (fun _=>rfl) x9 hv hr h;unfold Oper.wp;rw[h1];rcases h2 with rfl | ⟨rfl,rfl⟩
  ·
   exact hK v w' h3
  exact hK undef w' h3
 have fin:∀f vs,(execOp a.eval o).run P w=(callFunc f vs).run P w→(callFunc f vs).run P w=.ok (.enter f vs) w∧(Calls P f vs w fun e w'=>∃v,e=.returned v∧Rt w ρ S r S' wr v w')→o.wp P a w K Q:=by
  rintro f vs he ⟨h1,h2⟩;unfold Oper.wp;rw[he,h1,Oper.upon_enter];refine h2.mono ?_;rintro e w' ⟨v,rfl,hp⟩;exact hK v w' hp
 unfold Az at h;split at h
 ·
  rename_i f;obtain⟨args,tys,yZ,rfl⟩:=lowOp_call x9;have hc:=xP f ds S r S' wr h w ρ _ hG hr hv;have he:(args.toList.map a.eval).toArray=args.map a.eval:=by apply Array.ext';simp
  rw[he]at hc;refine fin f (args.map a.eval) ?_ hc;simp[execOp,yZ,resolve,Deferred.ofValue,invoke,Act.eval]
 ·
  split at h
  ·
   rename_i f caps ys;obtain⟨t,args,tys,yZ,rfl⟩:=lowOp_callv x9
   cases hv with
   | cons h1 t1 =>
    generalize hx:a.eval (.tmp t)=vx at h1
    cases h1 with
    | fn _ _ vs hl hh =>
     have hc:=xP f _ S r S' wr h w ρ _ hG hr (t1.append (VL.of hl hh));have he:(args.toList.map a.eval++vs).toArray=args.map a.eval++vs.toArray:=by apply Array.ext';simp
     rw[he]at hc;refine fin f _ ?_ hc;simp only[Act.eval]at hx;simp[execOp,yZ,resolve,Deferred.ofValue,invoke,Act.eval,hx]
  simp at h
 ·
  rename_i tab;obtain⟨recv,name,args,tys,yZ,rfl,htab⟩:=lowOp_invoke x9
  have go:∀(t:TypeId) (d:D) (v:Value) (ys:List D) (f:FuncId),a.eval recv=.iface t v→VR w ρ S.heap d v→VL w ρ S.heap ys (args.toList.map a.eval)→tab.lookup t=some f→call f (d::ys) S=some (r,S',wr)→o.wp P a w K Q:=by
   intro t d v ys f he hd hys hlk yg;have hc:=xP f _ S r S' wr yg w ρ _ hG hr (.cons hd hys);have he2:(v::args.toList.map a.eval).toArray=#[v]++args.map a.eval:=by apply Array.ext';simp
   rw[he2]at hc;refine fin f _ ?_ hc;have hm:=run_method (w:=w) (v:=v) htab hlk;have hp:Sem.run P program w=.ok P w:=rfl
   have h0:execOp a.eval o=invoke (.fn (.method name) #[]) (#[a.eval recv]++args.map a.eval):=by
    unfold execOp;rw[yZ];rfl
   rw[h0,he]
   have e1:(#[Value.iface t v]++args.map a.eval)[0]?=some (.iface t v):=by
    rw[Array.getElem?_append_left (by simp)];rfl
   have e2:(#[Value.iface t v]++args.map a.eval).extract 1 (#[Value.iface t v]++args.map a.eval).size=args.map a.eval:=by
    apply Array.ext';simp only[Array.toList_extract,Array.toList_append,List.extract_eq_take_drop,Array.size_append];simp;rw[List.take_of_length_le (by simp)]
   simp only[invoke,e1,e2,callMethod];rw[Ad hp,Ad hm]
  split at h
  ·
   rename_i t d ys;split at h
   ·
    rename_i f hlk
    cases hv with
    | cons h1 t1 =>
    generalize hx:a.eval recv=vx at h1
    cases h1 with
    | ifc _ _ v hf qG h1=>exact go t d v ys f hx h1 t1 hlk h
   simp at h
  ·
   rename_i t d ys;split at h
   ·
    rename_i f hlk
    cases hv with
    | cons h1 t1 =>
    generalize hx:a.eval recv=vx at h1
    cases h1 with
    | ifr _ _ v qG h1=>exact go t d v ys f hx h1 t1 hlk h
   simp at h
  simp at h
 exact plain h
def sig (slots:List Nat) (prev:List (Option Tmp)) (vals env:List D) (t:Nat):D :=
 match Fg prev t with
 | some d=>vals.getD d .undef
 | none=>match idxOf slots t with
  | some j=>env.getD j .undef
  | none=>.undef
def FR (w:World) (ρ:Rm) (H:List Rf) (nt:Nat) (σ:Nat→D) (a:Act):Prop :=
 a.tmps.size=nt∧∀t,t<nt→VR w ρ H (σ t) (a.tmps.getD t undef)
theorem Nj(slots:List Nat)(o:Option Tmp)(prev:List (Option Tmp))(r:D)(vals env:List D)(t:Nat):sig slots (o::prev) (r::vals) env t=if o=some t then r else sig slots prev vals env t:=by
 have e:Fg (o::prev) t=if o=some t then some 0 else (Fg prev t).map (·+1):=rfl
 unfold sig;rw[e];by_cases h:o=some t
 ·
  simp[h]
 simp only[h,if_false]
 cases Fg prev t with
 | none=>simp
 | some d=>simp
theorem FR.put{w w':World}{ρ ρ':Rm}{S S':St}{nt:Nat}{σ σ':Nat→D}{a:Act}{dst:Option Tmp}{r:D}{v:Value}(h:FR w ρ S.heap nt σ a)(hs:Stp w ρ S w' ρ' S')(hv:VR w' ρ' S'.heap r v)(hd:Ex nt dst=true)(hσ:∀t,σ' t=if dst=some t then r else σ t) :
  FR w' ρ' S'.heap nt σ' (a.put dst v):=by
 cases dst with
 | none=>exact⟨h.1,fun t ht=>by rw[hσ];simpa [Act.put] using (h.2 t ht).mono hs⟩
 | some d =>
  have hdl:d<a.tmps.size:=by rw[h.1];simpa [Ex] using hd
  refine⟨by simpa [Act.put] using h.1,fun t ht=>?_⟩;rw[hσ];by_cases e:d=t
  ·
   subst e;simp[Act.put,hdl,hv]
  have e':¬some d=some t:=by simpa using e
  rw[if_neg e'];have:=(h.2 t ht).mono hs;simp only[Act.put,Array.getD_eq_getD_getElem?,Array.getElem?_setIfInBounds,if_neg e]at this ⊢;exact this
theorem Fe{l:List Nat}{t j:Nat}(h:idxOf l t=some j):l[j]?=some t:=by
 induction l generalizing j with
 | nil=>simp[idxOf]at h
 | cons s l ih =>
  unfold idxOf at h;split at h
  ·
   rename_i e;simp at h;subst h e;rfl
  simp only[Om]at h;obtain⟨k,hk,rfl⟩:=h;simpa using ih hk
theorem F4{l:List (Option Tmp)}{t d:Nat}(h:Fg l t=some d):l[d]?=some (some t):=by
 induction l generalizing d with
 | nil=>simp[Fg]at h
 | cons s l ih =>
  unfold Fg at h;split at h
  ·
   rename_i e;simp at h;subst h e;rfl
  simp only[Om]at h;obtain⟨k,hk,rfl⟩:=h;simpa using ih hk
theorem opd_ok{w:World}{ρ:Rm}{H:List Rf}{nt:Nat}{slots:List Nat}{prev:List (Option Tmp)}{vals env:List D}{a:Act}{x:Operand}{y:Rj}{gl:Nat→Option (List D)}(hgl:∀g row,gl g=some row→VR w ρ H (.R6 row 0) (.pointer (some ⟨g,0,none⟩)))(h:O9 gl slots prev x=some y)(hs:slots.all (·<nt)=true)(hp:∀d∈prev,Ex nt d=true)
    (hf:∀t,x=.tmp t→VR w ρ H (sig slots prev vals env t) (a.tmps.getD t undef)):VR w ρ H (opd vals env y) (a.eval x):=by
  unfold O9 at h;split at h
  · rename_i t;have h1:=hf t rfl;unfold sig at h1;split at h
    · rename_i d hd;simp only[Oi]at h;subst h;simp only[hd]at h1;exact h1
    rename_i hd;simp only[Om]at h;obtain⟨j,hj,rfl⟩:=h;simp only[hd,hj]at h1;exact h1
  · rename_i v;simp only[Oi]at h;subst h
    cases hc:Og v with
    | none=>exact .undef _
    | some d=>exact Jy hc
  · simp only [Oi] at h;subst h;exact .fn _ [] [] rfl (fun j d v h=>by simp at h)
  rename_i g;simp only[Oi]at h;subst h
  cases hg:gl g with
  | none=>exact .undef _
  | some row=>exact hgl g row hg
theorem tmp_in{nt:Nat}{slots:List Nat}{prev:List (Option Tmp)}{t:Nat}{y:Rj}{gl:Nat→Option (List D)}(h:O9 gl slots prev (.tmp t)=some y)(hs:slots.all (·<nt)=true)(hp:∀d∈prev,Ex nt d=true):t<nt:=by
 unfold O9 at h;simp only at h;split at h
 ·
  rename_i d hd;have:=hp _ (Lm (F4 hd));simpa [Ex] using this
 simp only[Om]at h;obtain⟨j,hj,_⟩:=h;have:=List.all_eq_true.1 hs t (Lm (Fe hj));simpa using this
theorem opds_ok{w:World}{ρ:Rm}{H:List Rf}{nt:Nat}{slots:List Nat}{prev:List (Option Tmp)}{vals env:List D}{a:Act}{gl:Nat→Option (List D)}(hgl:∀g row,gl g=some row→VR w ρ H (.R6 row 0) (.pointer (some ⟨g,0,none⟩)))(hs:slots.all (·<nt)=true)(hp:∀d∈prev,Ex nt d=true):∀{xs:List Operand} {ys:List Rj},Jq gl slots prev xs=some ys →
  (∀t,.tmp t∈xs→t<nt→VR w ρ H (sig slots prev vals env t) (a.tmps.getD t undef))→VL w ρ H (ys.map (opd vals env)) (xs.map a.eval)
 | [],ys,h,_=>by simp only[Jq,Oi]at h;subst h;exact .nil
 | x :: xs, ys, h, hf => by
  unfold Jq at h;split at h
  ·
   rename_i y m hy hm;simp only[Oi]at h;subst h;refine .cons (opd_ok hgl hy hs hp fun t ht=>?_) (opds_ok hgl hs hp hm fun t ht=>hf t (List.mem_cons_of_mem _ ht));subst ht;exact hf t (List.mem_cons_self ..) (tmp_in hy hs hp)
  simp at h
theorem K7 {dsts : List (Option Tmp)} {vals : List D} {slots0 : List Nat} : ∀ {slots : List Nat} {k : Nat} {env : List D} (j : Nat), (exports (Gp dsts slots k) vals env).getD j .undef = if k ≤ j ∧ j < k + slots.length ∧ j < env.length then (match Fg dsts (slots.getD (j - k) 0) with | some d => vals.getD d .undef | none => env.getD j .undef) else env.getD j .undef
  | [],k,env,j=>by simp only[Gp,exports,List.length_nil];rw[if_neg (by omega)]
  | s :: l, k, env, j => by
    unfold Gp;split
    · rename_i d hd;simp only[exports];rw[K7 (slots0:=slots0) (slots:=l) (k:=k+1) j];by_cases e:k=j
      · subst e;rw[if_neg (by omega)];by_cases hl:k<env.length
        · rw [if_pos ⟨Nat.le_refl _, by simp, hl⟩];simp[hd,hl]
        rw[if_neg (by omega)];simp[hl]
      have h1:(env.set k (vals.getD d .undef)).getD j .undef=env.getD j .undef:=by simp[List.getD,Ln_ e]
      rw[h1];by_cases h2:k+1≤j∧j<k+1+l.length∧j<env.length
      · rw [if_pos (by simpa using h2), if_pos (by simp; omega)];rw[show j-k=(j-(k+1))+1 by omega];simp
      rw[if_neg (by simpa using h2),if_neg (by simp;omega)]
    rename_i hd;rw[K7 (slots0:=slots0) (slots:=l) (k:=k+1) j];by_cases e:k=j
    · subst e;rw[if_neg (by omega)];by_cases hl:k<env.length
      · rw [if_pos ⟨Nat.le_refl _, by simp, hl⟩];simp[hd]
      rw[if_neg (by omega)]
    by_cases h2:k+1≤j∧j<k+1+l.length∧j<env.length
    · rw [if_pos h2, if_pos (by simp; omega)];rw[show j-k=(j-(k+1))+1 by omega];simp
    rw[if_neg h2,if_neg (by simp;omega)]
theorem G8{vals:List D}:∀{es:List (Nat × Nat)} {env:List D},(exports es vals env).length=env.length
 | [],env=>rfl
 | (j,d)::es,env=>by simp only[exports];rw[G8];simp
theorem Ob{vals:List D}{n:Nat}:∀{es:List (Nat × Nat)} {env:List D},(∀p∈es,p.1<n)→(exports es vals env).drop n=env.drop n
 | [],env,_=>rfl
 | (j,d)::es,env,h=>by
  simp only[exports];rw[Ob fun p hp=>h p (List.mem_cons_of_mem _ hp)];have:=h (j,d) List.mem_cons_self;rw[List.drop_set_of_lt this]
theorem Pm{dsts:List (Option Tmp)}:∀{slots:List Nat} {k:Nat},∀p∈Gp dsts slots k,p.1<k+slots.length
 | [],k,p,h=>by simp[Gp]at h
 | s :: l, k, p, h => by
  unfold Gp at h;split at h
  ·
   rcases List.mem_cons.1 h with rfl | h
   ·
    simp
   have:=Pm (slots:=l) (k:=k+1) p h;simp;omega
  have:=Pm (slots:=l) (k:=k+1) p h;simp;omega
theorem sig_end{dsts:List (Option Tmp)}{slots:List Nat}{vals env:List D}(hl:slots.length≤env.length)(t:Nat):sig slots [] [] (exports (Gp dsts slots 0) vals env) t=(match idxOf slots t with | some _=>sig slots dsts vals env t | none=>.undef):=by
 unfold sig;simp only[Fg]
 cases hj:idxOf slots t with
 | none=>rfl
 | some j =>
  have hm:=Fe hj;have yA:=lt_of_some hm;simp only;rw[K7 (slots0:=slots),if_pos (by omega)];have:slots.getD (j-0) 0=t:=by simp[List.getD,hm]
  rw[this]
theorem FR.end_{w:World}{ρ:Rm}{H:List Rf}{nt:Nat}{dsts:List (Option Tmp)}{slots:List Nat}{vals env:List D}{a:Act}(hl:slots.length≤env.length)(h:FR w ρ H nt (sig slots dsts vals env) a):FR w ρ H nt (sig slots [] [] (exports (Gp dsts slots 0) vals env)) a:=by
 refine⟨h.1,fun t ht=>?_⟩;rw[sig_end hl]
 cases idxOf slots t with
 | none=>exact .undef _
 | some j=>exact h.2 t ht
theorem guard_ok{w:World}{ρ:Rm}{H:List Rf}{nt:Nat}{slots:List Nat}{prev:List (Option Tmp)}{vals env:List D}{a:Act}{ops:Array Oper}{j d:Nat}{b b':Bool}{t:Tmp}(qD:(ops[j]?).bind (·.dst)=some t)(yT:Fg prev t=some d)(hp:∀d∈prev,Ex nt d=true)
  (hf:VR w ρ H (sig slots prev vals env t) (a.tmps.getD t undef)) (xE:a.tmps.size=nt) (hv:vals.getD d .undef=.bool b'):yielded ops a.tmps j=some b':=by
 unfold sig at hf;simp only[yT,hv]at hf
 have ht:t<a.tmps.size:=by
  have:=hp _ (Lm (F4 yT));rw[xE];simpa [Ex] using this
 unfold yielded;rw[qD];simp only[Option.bind_some,Array.getElem?_eq_getElem ht];simp only[Array.getD,ht,dif_pos]at hf;generalize hx:a.tmps[t]=x at hf;have hx':a.tmps.getInternal t ht=x:=hx;rw[hx']at hf;cases hf;rfl
theorem guard_skip{w:World}{ρ:Rm}{H:List Rf}{nt:Nat}{slots:List Nat}{prev:List (Option Tmp)}{vals env:List D}{a:Act}{ops:Array Oper}{j d:Nat}{t:Tmp}(qD:(ops[j]?).bind (·.dst)=some t)(yT:Fg prev t=some d)(hp:∀d∈prev,Ex nt d=true)
  (hf:VR w ρ H (sig slots prev vals env t) (a.tmps.getD t undef)) (xE:a.tmps.size=nt) (hv:vals.getD d .undef=.skip):yielded ops a.tmps j=none:=by
 unfold sig at hf;simp only[yT,hv]at hf
 have ht:t<a.tmps.size:=by
  have:=hp _ (Lm (F4 yT));rw[xE];simpa [Ex] using this
 unfold yielded;rw[qD];simp only[Option.bind_some,Array.getElem?_eq_getElem ht];simp only[Array.getD,ht,dif_pos]at hf;generalize hx:a.tmps[t]=x at hf;have hx':a.tmps.getInternal t ht=x:=hx;rw[hx']at hf;cases hf;rfl
theorem kd_glob{kd:Kd}{g:Nat}{row:List D}(h:kd.glob g=some row):kd.glob g=some row:=h
theorem seq_part {G : Nat → Option (List D)} {call : Bf} (xP : Nf P G call) {kd : Kd} {nt : Nat} {slots : List Nat} {ops : Array Oper} {env : List D} {Q : Exit → Act → World → Prop} (tl : List Oper) (vg : ∀ g row, kd.glob g = some row → G g = some row) (hs : slots.all (· < nt) = true) :
    ∀ (os : List Oper) (k : Nat) (prev : List (Option Tmp)) (vals : List D) (los : List Ri) (S : St) (vals' : List D) (S' : St) (a : Act) (w : World) (ρ : Rm), ops.toList.drop k = os ++ tl → prev = ((ops.toList.take k).map (·.dst)).reverse → (∀ d ∈ prev, Ex nt d = true) →
      O8 P kd nt slots os prev=some los→Fh call los vals env S=some (vals',S')→Rel w ρ S.heap→ρ.X.G=G→FR w ρ S.heap nt (sig slots prev vals env) a →
      (∀a' w' ρ',Rel w' ρ' S'.heap→Stp w ρ S w' ρ' S'→FR w' ρ' S'.heap nt (sig slots (((ops.toList.take (k+os.length)).map (·.dst)).reverse) vals' env) a'→a'.defers=a.defers→wpOps P ops Q (List.range' (k+os.length) tl.length) a' w') →
      wpOps P ops Q (List.range' k (os.length+tl.length)) a w:=by
  intro os
  induction os with
  | nil =>
    intro k prev vals los S vals' S' a w ρ hk yO hp x9 y5 hr hG hf hQ;simp only[O8,Oi]at x9;subst x9;simp only[Fh,Oi,Pi_]at y5;obtain⟨rfl,rfl⟩:=y5;have:=hQ a w ρ hr (Stp.refl _ _ _) (by simpa [yO] using hf) rfl;simpa using this
  | cons o os ih =>
    intro k prev vals los S vals' S' a w ρ hk yO hp x9 y5 hr hG hf hQ
    have hko:ops.toList[k]?=some o:=by
      have:(ops.toList.drop k)[0]?=some o:=by rw[hk];rfl
      simpa using this
    have hkl:k<ops.toList.length:=lt_of_some hko;have hko':ops[k]?=some o:=by simpa using hko
    have qX:ops.toList.drop (k+1)=os++tl:=by
      have:(ops.toList.drop k).drop 1=os++tl:=by rw[hk];rfl
      rwa [List.drop_drop]at this
    have uW:o.dst::prev=((ops.toList.take (k+1)).map (·.dst)).reverse:=by
      rw[List.take_succ_eq_append_getElem hkl,List.map_append,List.reverse_append,←yO];have:ops.toList[k]=o:=by rw[Lg hkl]at hko;injection hko
      simp[this]
    have vN:prev.length=k:=by rw[yO,List.length_reverse,List.length_map,List.length_take];omega
    unfold O8 at x9;split at x9
    · simp at x9
    rename_i l xs hlop;split at x9
    · rename_i args g rest xX hg uq;split at x9
      · rename_i hd;simp only[Oi]at x9;subst x9
        have hp':∀d∈o.dst::prev,Ex nt d=true:=by
          intro d hd';rcases List.mem_cons.1 hd' with rfl | hd'
          · exact hd
          exact hp d hd'
        rw[show (o::os).length+tl.length=(os.length+tl.length)+1 by simp;omega,List.range'_succ];simp only[wpOps,hko']
        have go:Region.wanted o (yielded ops a.tmps)=true→(match Az call l (args.map (opd vals env)) S with | none=>none | some (r,S1,wr)=>Fh call rest (r::vals) env S1)=some (vals',S') →
            (if Region.wanted o (yielded ops a.tmps)=true then o.wp P a w (wpOps P ops Q (List.range' (k+1) (os.length+tl.length))) Q∨o.asks P a w∧LetsOut Q else wpOps P ops Q (List.range' (k+1) (os.length+tl.length)) (a.put o.dst undef) w):=by
          intro hw hx;rw[if_pos hw];left;split at hx
          · simp at hx
          rename_i r S1 wr yZ;refine exOp_ok xP hG hlop (opds_ok (fun g row hg=>(hr.glob g row (by rw[hG];exact vg g row (kd_glob hg))).1) hs hp xX fun t _ ht=>hf.2 t ht) hr yZ ?_;rintro v w1 ⟨ρ1,h1,h2,h3,_⟩;refine ih (k+1) (o.dst::prev) (r::vals) rest S1 vals' S' _ w1 ρ1 qX uW hp' uq hx h1 (by rw[h2.hid];exact hG) (hf.put h2 h3 hd fun t=>Nj slots o.dst prev r vals env t) ?_;intro a' w' ρ' h4 h5 h6 h7;have:=hQ a' w' ρ' h4 (h2.trans h5) (by rw[show k+(o::os).length=k+1+os.length by simp;omega];exact h6) (h7.trans (by cases o.dst<;>rfl));rw[show k+1+os.length=k+(o::os).length by simp;omega];exact this
        unfold Fh at y5
        cases hgo:o.guard with
        | none =>
          rw[hgo]at hg;simp only[G5,Oi]at hg;subst hg;simp only[onG]at y5;exact go (by simp[Region.wanted,hgo]) y5
        | some jb =>
          obtain⟨j,b⟩:=jb;rw[hgo]at hg;unfold G5 at hg;simp only at hg;split at hg
          · rename_i hj;split at hg
            · rename_i t ht;split at hg
              · rename_i yT;simp only[Oi]at hg;subst hg;simp only[onG]at y5
                have qD:(ops[j]?).bind (·.dst)=some t:=by
                  rw[yO]at ht;have yA:j<ops.toList.length:=by omega
                  have h1:((ops.toList.take k).map (·.dst)).length=k:=by rw[List.length_map,List.length_take];omega
                  simp only[List.getD,List.length_reverse,h1]at ht;rw[List.getElem?_reverse (by rw[h1];omega),h1,show k-1-(k-1-j)=j by omega]at ht;simp only[Lp_,List.getElem?_take]at ht;rw[if_pos (by omega)]at ht;have h2:ops[j]?=some ops.toList[j]:=by simp
                  rw[Lg yA]at ht;rw[h2];simpa using ht
                split at y5
                · simp at y5
                · -- the guard says no
                  rename_i hv;split at hv
                  · rename_i b' hb';simp only[Oi]at hv
                    have hy:=guard_ok (b:=b) qD yT hp (hf.2 t (by
                      have:=hp _ (Lm (F4 yT))
                      simpa [Ex] using this)) hf.1 hb'
                    have hw:Region.wanted o (yielded ops a.tmps)=false:=by
                      simp only[Region.wanted,hgo,hy];simpa using hv
                    rw[hw];simp only[Bool.false_eq_true,if_false];refine ih (k+1) (o.dst::prev) (.skip::vals) rest S vals' S' _ w ρ qX uW hp' uq y5 hr hG (hf.put (Stp.refl _ _ _) .skip hd fun t=>Nj slots o.dst prev .skip vals env t) ?_;intro a' w' ρ' h4 h5 h6 h7;have:=hQ a' w' ρ' h4 h5 (by rw[show k+(o::os).length=k+1+os.length by simp;omega];exact h6) (h7.trans (by cases o.dst<;>rfl));rw[show k+1+os.length=k+(o::os).length by simp;omega];exact this
                  · rename_i hb'
                    have hy:=guard_skip qD yT hp (hf.2 t (by
                      have:=hp _ (Lm (F4 yT))
                      simpa [Ex] using this)) hf.1 hb'
                    have hw:Region.wanted o (yielded ops a.tmps)=false:=by
                      simp only[Region.wanted,hgo,hy];rfl
                    rw[hw];simp only[Bool.false_eq_true,if_false];refine ih (k+1) (o.dst::prev) (.skip::vals) rest S vals' S' _ w ρ qX uW hp' uq y5 hr hG (hf.put (Stp.refl _ _ _) .skip hd fun t=>Nj slots o.dst prev .skip vals env t) ?_;intro a' w' ρ' h4 h5 h6 h7;have:=hQ a' w' ρ' h4 h5 (by rw[show k+(o::os).length=k+1+os.length by simp;omega];exact h6) (h7.trans (by cases o.dst<;>rfl));rw[show k+1+os.length=k+(o::os).length by simp;omega];exact this
                  simp at hv
                rename_i hv;split at hv
                · rename_i b' hb';simp only[Oi]at hv
                  have hy:=guard_ok (b:=b) qD yT hp (hf.2 t (by
                    have:=hp _ (Lm (F4 yT))
                    simpa [Ex] using this)) hf.1 hb'
                  refine go ?_ y5;simp only[Region.wanted,hgo,hy];simpa using hv
                · simp at hv
                simp at hv
              simp at hg
            simp at hg
          simp at hg
      simp at x9
    simp at x9
theorem seq_ok{G:Nat→Option (List D)}{call:Bf}(xP:Nf P G call){kd:Kd}{nt:Nat}{slots:List Nat}{ops:Array Oper}{env:List D}{Q:Exit→Act→World→Prop}(vg:∀g row,kd.glob g=some row→G g=some row)(hs:slots.all (·<nt)=true) :
  ∀(os:List Oper) (k:Nat) (prev:List (Option Tmp)) (vals:List D) (los:List Ri) (S:St) (vals':List D) (S':St) (a:Act) (w:World) (ρ:Rm),ops.toList.drop k=os→prev=((ops.toList.take k).map (·.dst)).reverse→(∀d∈prev,Ex nt d=true) →
   O8 P kd nt slots os prev=some los→Fh call los vals env S=some (vals',S')→Rel w ρ S.heap→ρ.X.G=G→FR w ρ S.heap nt (sig slots prev vals env) a →
   (∀a' w' ρ',Rel w' ρ' S'.heap→Stp w ρ S w' ρ' S'→FR w' ρ' S'.heap nt (sig slots (dstsOf ops.toList) vals' env) a'→a'.defers=a.defers→Q .normal a' w') →
   wpOps P ops Q (List.range' k os.length) a w:=by
 intro os k prev vals los S vals' S' a w ρ hk yO hp x9 y5 hr hG hf hQ
 have hkl:k+os.length=max k ops.toList.length:=by
  have:=congrArg List.length hk;simp only[List.length_drop]at this;omega
 refine seq_part xP [] vg hs os k prev vals los S vals' S' a w ρ (by simpa using hk) yO hp x9 y5 hr hG hf fun a' w' ρ' h1 h2 h3 h4=>?_;rw[List.take_of_length_le (by omega)]at h3;exact hQ a' w' ρ' h1 h2 h3 h4
end
open Go.RowKit
def Down (ops:Array Oper) (L:Nat→Prop):Prop:=∀i o,ops[i]?=some o→L i→∀e∈o.after,Region.binds .any e=true→L e.on
theorem one_bit (get : Nat → Nat) : ∀ (es : List Edge) (s i : Nat), (es.foldl (fun s e => if Region.binds .any e then s ||| 2 ^ e.on ||| get e.on else s) s).testBit i = true → s.testBit i = true ∨ ∃ e ∈ es, Region.binds .any e = true ∧ (i = e.on ∨ (get e.on).testBit i = true)
  | [],s,i,h=>.inl h
  | e :: es, s, i, h => by
    rw[List.foldl_cons]at h;rcases one_bit get es _ i h with h1 | ⟨e',he',h2⟩
    · by_cases hb : Region.binds .any e = true
      · rw [if_pos hb, Nat.testBit_or, Nat.testBit_or, Bool.or_eq_true, Bool.or_eq_true] at h1;rcases h1 with (h1 | h1) | h1
        · exact .inl h1
        · refine .inr ⟨e, by simp, hb, .inl ?_⟩;rw[Nat.testBit_two_pow]at h1;have:e.on=i:=by simpa using h1
          exact this.symm
        exact .inr ⟨e,by simp,hb,.inr h1⟩
      rw[if_neg hb]at h1;exact .inl h1
    exact .inr ⟨e',by simp[he'],h2⟩
theorem before_aux{ops:Array Oper}{L:Nat→Prop}(hL:Down ops L):∀(os:List Oper) (acc:Array Nat),ops.toList.drop acc.size=os→(∀j i,(acc.getD j 0).testBit i=true→L j→L i)→∀j i,((os.foldl (fun acc o=>acc.push (o.after.foldl (fun s e=>if Region.binds .any e then s ||| 2 ^ e.on ||| acc.getD e.on 0 else s) 0)) acc).getD j 0).testBit i=true→L j→L i
 | [],acc,hd,h=>h
 | o :: os, acc, hd, h => by
  rw[List.foldl_cons]
  have ho:ops[acc.size]?=some o:=by
   have:(ops.toList.drop acc.size)[0]?=some o:=by rw[hd];rfl
   simpa using this
  refine before_aux hL os _ ?_ ?_
  ·
   have:(ops.toList.drop acc.size).drop 1=os:=by rw[hd];rfl
   rw[List.drop_drop]at this;simpa using this
  intro j i hj q9;by_cases xJ:j<acc.size
  ·
   have e:(acc.push (o.after.foldl (fun s e=>if Region.binds .any e then s ||| 2 ^ e.on ||| acc.getD e.on 0 else s) 0)).getD j 0=acc.getD j 0:=by
    simp only[Array.getD_eq_getD_getElem?];rw[Array.getElem?_push_lt xJ,Array.getElem?_eq_getElem xJ]
   rw[e]at hj;exact h j i hj q9
  by_cases uK:j=acc.size
  ·
   subst uK
   have e:(acc.push (o.after.foldl (fun s e=>if Region.binds .any e then s ||| 2 ^ e.on ||| acc.getD e.on 0 else s) 0)).getD acc.size 0=o.after.foldl (fun s e=>if Region.binds .any e then s ||| 2 ^ e.on ||| acc.getD e.on 0 else s) 0:=by
    simp[Array.getD_eq_getD_getElem?]
   rw[e,←Array.foldl_toList]at hj;rcases one_bit (fun k=>acc.getD k 0) _ _ _ hj with h1 | ⟨e',he',hb,h2⟩
   ·
    simp at h1
   have hLe:=hL _ o ho q9 e' (Array.mem_toList_iff.1 he') hb;rcases h2 with rfl | h2
   ·
    exact hLe
   exact h _ _ h2 hLe
  have e:(acc.push (o.after.foldl (fun s e=>if Region.binds .any e then s ||| 2 ^ e.on ||| acc.getD e.on 0 else s) 0)).getD j 0=0:=by
   simp only[Array.getD_eq_getD_getElem?];rw[Array.getElem?_eq_none (by simp;omega)];rfl
  rw[e]at hj;simp at hj
theorem Lb{ops:Array Oper}{L:Nat→Prop}(hL:Down ops L){j i:Nat}(h:((Region.before ops).toList.getD j 0).testBit i=true)(hj:L j):L i:=by
 have:=before_aux hL ops.toList #[] (by simp) (by simp) j i;refine this ?_ hj;unfold Region.before at h;rw[←Array.foldl_toList]at h;simpa using h
theorem Nq{ops:Array Oper}{L:Nat→Prop}(hL:Down ops L){i j:Nat}(h:ordered (Region.before ops).toList i j=true):(j<i→L i→L j)∧(i<j→L j→L i):=by
 unfold ordered at h;refine⟨fun xJ hi=>?_,fun xJ hj=>?_⟩
 ·
  rw[show Nat.max i j=i from Nat.max_eq_left (Nat.le_of_lt xJ),show Nat.min i j=j from Nat.min_eq_right (Nat.le_of_lt xJ)]at h;exact Lb hL h hi
 rw[show Nat.max i j=j from Nat.max_eq_right (Nat.le_of_lt xJ),show Nat.min i j=i from Nat.min_eq_left (Nat.le_of_lt xJ)]at h;exact Lb hL h hj
theorem countP_le'{p q:Nat→Bool}(h:∀x,q x=true→p x=true):∀l:List Nat,l.countP q≤l.countP p
 | []=>by simp
 | a::l=>by
  have ih:=countP_le' h l;simp only[List.countP_cons];have:=h a;cases hq:q a<;>cases hp:p a<;>simp_all<;>omega
theorem countP_lt'{p q:Nat→Bool}(h:∀x,q x=true→p x=true){i:Nat}(hp:p i=true)(hq:q i=false):∀l:List Nat,i∈l→l.countP q<l.countP p
 | [],hi=>by simp at hi
 | a :: l, hi => by
  simp only[List.countP_cons];rcases List.mem_cons.1 hi with rfl | hi
  ·
   have:=countP_le' h l;simp[hp,hq];omega
  have ih:=countP_lt' h hp hq l hi;have:=h a;cases hq':q a<;>cases hp':p a<;>simp_all<;>omega
section
variable {P:Program} {ops:Array Oper} {Q:Exit→Act→World→Prop}
theorem wp_region_inv {id : Nat} {a0 : Act} {w0 : World} (hm : P.follows .mixedOrders = true) (hB : ∀ i o, ops[i]? = some o → ∀ e ∈ o.after, Region.binds .any e = true → e.on < i) (Inv : (Nat → Prop) → Act → World → Prop)
    (h0:Inv (fun _=>False) a0 w0.drew)
    (hstep:∀L i o a w,ops[i]?=some o→¬L i→Down ops L→(∀e∈o.after,Region.binds .any e=true→L e.on)→Inv L a w→wpOp P ops Q i (fun a' w'=>Inv (fun k=>L k∨k=i) a' w') a w)
    (hend:∀L a w,(∀i,i<ops.size→L i)→Inv L a w→Q .normal a w):(Code.region id ops true).wp P Q a0 w0:=by
  refine wp_region_any hm ?_
  have key:∀(fuel:Nat) (listed:Array Bool) (a:Act) (w:World),listed.size=ops.size→(List.range ops.size).countP (fun i=>!listed.getD i false)≤fuel→Down ops (fun i=>listed.getD i false=true)→Inv (fun i=>listed.getD i false=true) a w→wpAny P .any ops Q fuel listed a w:=by
    intro fuel
    induction fuel with
    | zero =>
      intro listed a w hs hc hd h
      have xq:∀i,i<ops.size→listed.getD i false=true:=by
        intro i hi;have h0:(List.range ops.size).countP (fun i=>!listed.getD i false)=0:=by omega
        rw[List.countP_eq_zero]at h0;simpa using h0 i (List.mem_range.2 hi)
      refine⟨?_,hend _ a w xq h⟩;rw[List.eq_nil_iff_forall_not_mem];intro j hj;obtain⟨hu,o,ho,_⟩:=mem_ready.1 hj;have yA:=(Array.getElem?_eq_some_iff.1 ho).1;have:=xq j yA;rw[getD_both hu]at this;cases this
    | succ fuel ih =>
      intro listed a w hs hc hd h;refine⟨fun hnil=>hend _ a w ?_ h,fun i hi=>?_⟩
      · intro i
        induction i using Nat.strongRecOn with
        | _ i ihs =>
          intro yJ
          cases hli:listed.getD i false with
          | true=>rfl
          | false =>
            exfalso;have ho:ops[i]?=some ops[i]:=Array.getElem?_eq_getElem yJ;have hr:i∈Region.ready .any ops listed:=mem_ready.2 ⟨getD_in (by omega) hli,ops[i],ho,fun e he hb=>ihs e.on (hB i _ ho e he hb) (Nat.lt_trans (hB i _ ho e he hb) yJ)⟩;rw[hnil]at hr;cases hr
      obtain⟨hu,o,ho,xq⟩:=mem_ready.1 hi;have yJ:=(Array.getElem?_eq_some_iff.1 ho).1
      have xH:(fun k=>(listed.setIfInBounds i true).getD k false=true)=(fun k=>listed.getD k false=true∨k=i):=by
        funext k
        apply propext;by_cases hki:i=k
        · subst hki;simp[hs,yJ]
        rw[getD_set_ne false hki];constructor
        · exact .inl
        rintro (h | h)
        · exact h
        exact absurd h.symm hki
      have hni:¬(listed.getD i false=true):=by rw[getD_both hu];simp
      refine wpOp_mono ?_ (hstep _ i o a w ho hni hd xq h);intro a' w' hinv;refine ih _ _ _ (by simp[hs]) ?_ ?_ (by rw[xH];exact hinv)
      · have := countP_lt' (p := fun k => !listed.getD k false) (q := fun k => !(listed.setIfInBounds i true).getD k false) (i := i) ?_ ?_ ?_ (List.range ops.size) (List.mem_range.2 yJ)
        · omega
        · intro x hx';simp only[Bool.not_eq_true']at hx' ⊢;rw[Bool.eq_false_iff]at hx' ⊢;intro hc;apply hx';have:=congrFun xH x;rw[this];exact .inl hc
        · simp only[Bool.not_eq_true'];exact getD_both hu
        simp only[Bool.not_eq_false'];have:=congrFun xH i;rw[this];exact .inr rfl
      rw[xH];intro k ok hk vG e he hb;rcases vG with vG | rfl
      · exact .inl (hd k ok hk vG e he hb)
      rw[ho]at hk;injection hk with hk;subst hk;exact .inl (xq e he hb)
  refine key ops.size _ a0 _ (by simp) (Nat.le_trans (List.countP_le_length) (by simp)) ?_ ?_
  · intro i o ho hL;simp[Array.getD]at hL
  have:(fun i=>(Array.replicate ops.size false).getD i false=true)=(fun _=>False):=by
    funext i
    apply propext;simp[Array.getD]
  rw[this];exact h0
end
open Go.RowKit
def Gb (call:Bf):Prop:=(∀f ds S r S',call f ds S=some (r,S',false)→S'=S)∧∀f ds S g v lo n c S',call f ds S=some (.msl g v lo n c,S',true)→g=S.heap.length∧∃o,S'=newAt S o
theorem lop_clean{l:LOp}{ds:List D}{S S':St}{r:D}(h:lop l ds S=some (r,S',false)):S'=S:=by
 unfold lop at h
 repeat' (first | (simp at h;done) | (split at h))
 all_goals first
  | (simp at h;done)
  | (simp only[Oi,Pi_]at h;exact h.2.1.symm)
  | (simp only[Om,Pi_]at h;obtain⟨_,_,h1,h2,h3⟩:=h;first | exact h2.symm | (cases h3;done))
  | skip
 all_goals
  first | unfold Ct at h | unfold Bt at h | unfold ustrD at h | unfold Oy at h | unfold nextsD at h | unfold Gq at h
  repeat' (first | (simp at h;done) | (split at h) | (unfold Bt at h;skip))
  all_goals first
   | (simp at h;done)
   | (simp only[Oi,Pi_]at h;exact h.2.1.symm)
theorem aop_clean{l:LOp}{ds:List D}{S S':St}{r:D}(h:aop l ds S=some (r,S',false)):S'=S:=by
 unfold aop at h;split at h
 ·
  exact lop_clean h
 simp only[Om,Pi_]at h;obtain⟨_,_,_,h2,_⟩:=h;exact h2.symm
theorem Jv{call:Bf}(hc:Gb call){l:LOp}{ds:List D}{S S':St}{r:D}(h:Az call l ds S=some (r,S',false)):S'=S:=by
 unfold Az at h;split at h
 ·
  exact hc.1 _ _ _ _ _ h
 ·
  split at h
  ·
   exact hc.1 _ _ _ _ _ h
  simp at h
 ·
  split at h
  ·
   split at h
   ·
    exact hc.1 _ _ _ _ _ h
   simp at h
  ·
   split at h
   ·
    exact hc.1 _ _ _ _ _ h
   simp at h
  simp at h
 exact aop_clean h
theorem M4{call:Bf}{l:LOp}{ds:List D}{S S':St}{r:D}{wr:Bool}(hl:l.loud=false)(h:Az call l ds S=some (r,S',wr)):S'=S∧wr=false∧∀S2,Az call l ds S2=some (r,S2,false):=by
 have ha:Az call l ds=aop l ds:=by cases l<;>first | rfl | (simp[LOp.loud]at hl;done)
 rw[ha]at h ⊢;unfold aop at h;simp only[hl,Bool.false_eq_true,if_false,Om,Pi_]at h;obtain⟨r',h1,rfl,rfl,rfl⟩:=h;exact⟨rfl,rfl,fun S2=>by simp[aop,hl,h1]⟩
inductive Eff where
 | none
 | set (g:Nat) (o:Rf)
 | new (o:Rf)
def Eff.app:Eff→St→St
 | .none,S=>S
 | .set g o,S=>setAt S g o
 | .new o,S=>newAt S o
def Eff.within (n:Nat) (W:List Nat) (c:Bool):Eff→Prop
 | .none=>True
 | .set g _=>g∈W
 | .new _=>c=true∧n∈W
def Framed (call:Bf) (l:LOp) (ds:List D) (S:St) (r:D) (S':St) (wr:Bool) (fp:FP):Prop :=
 ∃R W eff,fp.reads=some R∧fp.writes=some W∧S'=Eff.app eff S∧Eff.within S.heap.length W fp.creates eff ∧
  ∀T:St,(∀g∈R,T.heap[g]?=S.heap[g]?)→(fp.creates=true→T.heap.length=S.heap.length)→Az call l ds T=some (r,eff.app T,wr)
theorem Em{S T:St}{g v:Nat}(h:T.heap[g]?=S.heap[g]?):rowsOf T g v=rowsOf S g v:=by simp[rowsOf,h]
theorem snap_plain{m:Nat}{H:List Rf}{d:D}(h:Ap d=true):snap m H d=some d:=by
 cases d<;>first | rfl | (simp[Ap]at h;done)
theorem Ps{m:Nat}{H:List Rf}:∀{ds:List D},ds.all Ap=true→Cn m H ds=some ds
 | [],_=>rfl
 | d::ds,h=>by
  simp only[List.all_cons,Bool.and_eq_true]at h;simp[Cn,snap_plain h.1,Ps h.2]
theorem Pv{m:Nat}{H:List Rf}{d:D}(h:Rn d=true):Ro m H d=some d:=by
 unfold Rn at h;split at h
 ·
  simp[Ro,Ps h]
 rename_i hn;unfold Ro;split
 ·
  rename_i cs;exact absurd rfl (hn cs)
 exact snap_plain h
theorem fpApp_loud(s x r:D)(wr:Bool):(Av s x r wr).loud=true:=by
 unfold Av;cases wr
 ·
  rfl
 simp only[if_true];split
 ·
  split<;>rfl
 rfl
theorem fpMk_loud(r:D)(wr:Bool):(Bd r wr).loud=true:=by
 unfold Bd;split<;>cases wr<;>rfl
theorem fpOf_loud(l:LOp)(ds:List D)(r:D)(wr:Bool):(Dl l ds r wr).loud=l.loud:=by
 unfold Dl
 repeat' split
 all_goals first
  | rfl
  | (cases wr<;>rfl)
  | exact fpApp_loud ..
  | exact fpMk_loud ..
  | (rename_i h;simp[h,Am];cases wr<;>rfl)
  | (rename_i h;simp at h;simp[h,Ab])
theorem Ec{call:Bf}{l:LOp}{ds:List D}{S S':St}{r:D}{wr:Bool}(h:Az call l ds S=some (r,S',wr)){f:St→Option D}(he:∀T:St,Az call l ds T=(f T).map fun r=>(r,T,false))(R:List Nat)(hT:∀T:St,(∀g∈R,T.heap[g]?=S.heap[g]?)→f T=f S)(hf:Dl l ds r wr=Af R):Framed call l ds S r S' wr (Dl l ds r wr):=by
 rw[he S,Om]at h;obtain⟨r',h1,h2⟩:=h;simp only[Pi_]at h2;obtain⟨rfl,rfl,rfl⟩:=h2;rw[hf];exact⟨R,[],.none,rfl,rfl,rfl,trivial,fun T hR _=>by rw[he T,hT T hR,h1];rfl⟩
theorem read_congr{S T:St}{sz:Nat}{x:D}(h:∀g∈A9 x,T.heap[g]?=S.heap[g]?):Co T sz x=Co S sz x∧Fa T sz x=Fa S sz x:=by
 cases x with
 | msl g v lo n c=>simp[Co,Fa,Em (h g (by simp[A9]))]
 | _=>exact⟨rfl,rfl⟩
theorem rowsOf_lt{S:St}{g v:Nat}{o:Rf}(h:rowsOf S g v=some o):g<S.heap.length:=by
 unfold rowsOf at h;split at h
 ·
  rename_i h1;exact (List.getElem?_eq_some_iff.1 h1).1
 simp at h
theorem fp_app {e sz bytes kind : Nat} {s x r : D} {new : List (List D)} {S S' : St} {wr : Bool} {F : St → Option (D × St × Bool)}
    (hF:∀T:St,(∀g∈A9 s++A9 x,T.heap[g]?=S.heap[g]?)→F T=Bt e sz bytes kind s new T) (h:Bt e sz bytes kind s new S=some (r,S',wr)) :
    ∃ R W eff, (Av s x r wr).reads = some R ∧ (Av s x r wr).writes = some W ∧ S' = Eff.app eff S ∧ Eff.within S.heap.length W (Av s x r wr).creates eff ∧
      ∀T:St,(∀g∈R,T.heap[g]?=S.heap[g]?)→((Av s x r wr).creates=true→T.heap.length=S.heap.length)→F T=some (r,eff.app T,wr):=by
  have quiet:∀r,wr=false→S'=S→(∀T:St,(∀g∈A9 s++A9 x,T.heap[g]?=S.heap[g]?)→Bt e sz bytes kind s new T=some (r,T,false))→∃R W eff,(Av s x r wr).reads=some R∧(Av s x r wr).writes=some W∧S'=Eff.app eff S∧Eff.within S.heap.length W (Av s x r wr).creates eff ∧
      ∀T:St,(∀g∈R,T.heap[g]?=S.heap[g]?)→((Av s x r wr).creates=true→T.heap.length=S.heap.length)→F T=some (r,eff.app T,wr):=by
    intro r h1 h2 h3;subst h1 h2;exact⟨_,_,.none,rfl,rfl,rfl,trivial,fun T hR _=>by rw[hF T hR,h3 T hR];rfl⟩
  have fresh:∀v lo n c o,wr=true→S'=newAt S o→(A9 s≠[S.heap.length])→(∀T:St,(∀g∈A9 s++A9 x,T.heap[g]?=S.heap[g]?)→Bt e sz bytes kind s new T=some (.msl T.heap.length v lo n c,newAt T o,true))→∃R W eff,(Av s x (.msl S.heap.length v lo n c) wr).reads=some R∧(Av s x (.msl S.heap.length v lo n c) wr).writes=some W∧S'=Eff.app eff S∧Eff.within S.heap.length W (Av s x (.msl S.heap.length v lo n c) wr).creates eff ∧
      ∀T:St,(∀g∈R,T.heap[g]?=S.heap[g]?)→((Av s x (.msl S.heap.length v lo n c) wr).creates=true→T.heap.length=S.heap.length)→F T=some (.msl S.heap.length v lo n c,eff.app T,wr):=by
    intro v lo n c o h1 h2 xu h3;subst h1 h2;have hf:Av s x (.msl S.heap.length v lo n c) true=⟨true,some (A9 s++A9 x),some [S.heap.length],true,none⟩:=by simp only[Av,if_true,if_neg xu]
    rw[hf];exact⟨_,_,.new o,rfl,rfl,rfl,⟨rfl,by simp⟩,fun T hR hl=>by rw[hF T hR,h3 T hR,hl rfl];rfl⟩
  have inpl:∀g v lo n c o,wr=true→S'=setAt S g o→A9 s=[g]→(∀T:St,(∀g∈A9 s++A9 x,T.heap[g]?=S.heap[g]?)→Bt e sz bytes kind s new T=some (.msl g v lo n c,setAt T g o,true))→∃R W eff,(Av s x (.msl g v lo n c) wr).reads=some R∧(Av s x (.msl g v lo n c) wr).writes=some W∧S'=Eff.app eff S∧Eff.within S.heap.length W (Av s x (.msl g v lo n c) wr).creates eff ∧
      ∀T:St,(∀g∈R,T.heap[g]?=S.heap[g]?)→((Av s x (.msl g v lo n c) wr).creates=true→T.heap.length=S.heap.length)→F T=some (.msl g v lo n c,eff.app T,wr):=by
    intro g v lo n c o h1 h2 xu h3;subst h1 h2;have hf:Av s x (.msl g v lo n c) true=⟨true,some (A9 s++A9 x),some [g],false,none⟩:=by simp only[Av,if_true,if_pos xu]
    rw[hf];exact⟨_,_,.set g o,rfl,rfl,rfl,by simp[Eff.within],fun T hR _=>by rw[hF T hR,h3 T hR];rfl⟩
  cases s with
  | R4 =>
    simp only[Bt]at h quiet fresh;split at h
    · rename_i hc;simp only[Oi,Pi_]at h;obtain⟨rfl,rfl,rfl⟩:=h;exact quiet _ rfl rfl fun T hT=>by rw[if_pos hc]
    rename_i hc;split at h
    · rename_i hb;simp only[Oi,Pi_]at h;obtain⟨rfl,rfl,rfl⟩:=h;exact fresh _ _ _ _ _ rfl rfl (by simp[A9]) fun T hT=>by rw[if_neg hc,if_pos hb]
    simp at h
  | sl s' rows cap =>
    simp only[Bt]at h quiet fresh;split at h
    · rename_i hc;simp only[Oi,Pi_]at h;obtain⟨rfl,rfl,rfl⟩:=h;exact quiet _ rfl rfl fun T hT=>by rw[if_pos hc]
    rename_i hc;split at h
    · rename_i hb;simp only[Oi,Pi_]at h;obtain⟨rfl,rfl,rfl⟩:=h;exact fresh _ _ _ _ _ rfl rfl (by simp[A9]) fun T hT=>by rw[if_neg hc,if_pos hb]
    simp at h
  | msl g v lo n cap =>
    simp only[Bt]at h quiet fresh inpl
    cases ho:rowsOf S g v with
    | none=>rw[ho]at h;simp at h
    | some o =>
      rw[ho]at h;have hg:=rowsOf_lt ho;have hT':∀T:St,(∀k∈A9 (D.msl g v lo n cap)++A9 x,T.heap[k]?=S.heap[k]?)→rowsOf T g v=some o:=fun T hT=>(Em (hT g (by simp[A9]))).trans ho;by_cases h1:o.sz=sz∧o.elem=e∧lo=0∧n=o.rows.length∧cap=none∧(if kind=0 then o.kind=0 else (o.kind=1∨o.kind=2))∧(n+new.length)*bytes≤140737488355328
      · replace h : some (D.msl g (v + 1) 0 (n + new.length) none, setAt S g { o with rows := o.rows ++ new, ver := v + 1, grow := true }, true) = some (r, S', wr) := by rw [← h]; exact (if_pos h1).symm
        simp only[Oi,Pi_]at h;obtain⟨rfl,rfl,rfl⟩:=h;exact inpl _ _ _ _ _ _ rfl rfl rfl fun T hT=>by rw[hT' T hT];exact if_pos h1
      by_cases h2:o.sz=sz∧o.elem=e∧lo=0∧cap=none∧(if kind=0 then o.kind=0 else o.kind=2)∧n+new.length≤o.rows.length
      · replace h : some (D.msl g v 0 (n + new.length) none, setAt S g { o with rows := o.rows.take n ++ new ++ o.rows.drop (n + new.length) }, true) = some (r, S', wr) := by rw [← h]; exact ((if_neg h1).trans (if_pos h2)).symm
        simp only[Oi,Pi_]at h;obtain⟨rfl,rfl,rfl⟩:=h;exact inpl _ _ _ _ _ _ rfl rfl rfl fun T hT=>by rw[hT' T hT];exact (if_neg h1).trans (if_pos h2)
      by_cases h3:o.sz=sz∧o.elem=e∧cap=some n∧(if kind=0 then o.kind=0 else (o.kind=1∨o.kind=2))∧(n+new.length)*bytes≤140737488355328
      · by_cases h4 : new.isEmpty = true
        · replace h : some (D.msl g v lo n cap, S, false) = some (r, S', wr) := by rw [← h]; exact ((if_neg h1).trans ((if_neg h2).trans ((if_pos h3).trans (if_pos h4)))).symm
          simp only[Oi,Pi_]at h;obtain⟨rfl,rfl,rfl⟩:=h;exact quiet _ rfl rfl fun T hT=>by rw[hT' T hT];exact (if_neg h1).trans ((if_neg h2).trans ((if_pos h3).trans (if_pos h4)))
        replace h:some (D.msl S.heap.length 0 0 (n+new.length) none,newAt S ⟨e,sz,(o.rows.drop lo).take n++new,0,kind,true⟩,true)=some (r,S',wr):=by rw[←h];exact ((if_neg h1).trans ((if_neg h2).trans ((if_pos h3).trans (if_neg h4)))).symm
        simp only[Oi,Pi_]at h;obtain⟨rfl,rfl,rfl⟩:=h;exact fresh _ _ _ _ _ rfl rfl (by simp only[A9];intro hq;injection hq;omega) fun T hT=>by rw[hT' T hT];exact (if_neg h1).trans ((if_neg h2).trans ((if_pos h3).trans (if_neg h4)))
      replace h:none=some (r,S',wr):=by rw[←h];exact ((if_neg h1).trans ((if_neg h2).trans (if_neg h3))).symm
      simp at h
  | _=>simp[Bt]at h
theorem Hf{m:Nat}{H:List Rf}:∀{ds:List D},ds.all Rn=true→Ay m H ds=some ds
 | [],_=>rfl
 | d::ds,h=>by
  simp only[List.all_cons,Bool.and_eq_true]at h;simp[Ay,Pv h.1,Hf h.2]
theorem fp_cases2 {call : Bf} {l : LOp} {ds : List D} {S S' : St} {r : D} {wr : Bool} (hn : ∀ f, l ≠ .call f) (h : Az call l ds S = some (r, S', wr)) : Framed call l ds S r S' wr (Dl l ds r wr) ∨ Dl l ds r wr = Am wr := by
  cases hl:l.loud with
  | false =>
    left;obtain⟨rfl,rfl,h2⟩:=M4 hl h
    have e:Dl l ds r false=Ab:=by
      cases l<;>first | rfl | (simp[LOp.loud]at hl;done) | skip
      rename_i st _ _ _ _;cases st
      · simp[LOp.loud]at hl
      rfl
    rw[e];exact⟨[],[],.none,rfl,rfl,rfl,trivial,fun T _ _=>h2 T⟩
  | true =>
    cases l with
    | load sz agg =>
      left
      match ds,h with
      | [a], h =>
        have he:∀T:St,Az call (.load sz agg) [a] T=(Ig sz agg T a).map fun r=>(r,T,false):=fun T=>rfl
        cases a with
        | ptr g v i o =>
          refine Ec h he [g] (fun T hT=>?_) rfl;simp only[Ig,Em (hT g (by simp))]
        | _=>refine Ec h he [] (fun T hT=>?_) rfl;rfl
      | [],h=>simp[Az,aop,LOp.loud,lop]at h
      | _::_::_,h=>simp[Az,aop,LOp.loud,lop]at h
    | Rz sz =>
      left
      match ds,h with
      | [a, i], h =>
        have he:∀T:St,Az call (.Rz sz) [a,i] T=(Hd T sz a i).map fun r=>(r,T,false):=fun T=>rfl
        cases a with
        | msl g v lo n c =>
          refine Ec h he [g] (fun T hT=>?_) rfl;cases i<;>simp only[Hd,Em (hT g (by simp))]
        | _=>refine Ec h he [] (fun T hT=>?_) rfl;cases i<;>rfl
      | [],h=>simp[Az,aop,LOp.loud,lop]at h
      | [_],h=>simp[Az,aop,LOp.loud,lop]at h
      | _::_::_::_,h=>simp[Az,aop,LOp.loud,lop]at h
    | mapget kf z ok =>
      left
      match ds,h with
      | [a, i], h =>
        have he:∀T:St,Az call (.mapget kf z ok) [a,i] T=(Lp T kf z ok a i).map fun r=>(r,T,false):=fun T=>rfl
        cases a with
        | mref g v =>
          refine Ec h he [g] (fun T hT=>?_) rfl;simp only[Lp,Lr,Em (hT g (by simp))]
        | _=>refine Ec h he [] (fun T hT=>?_) rfl;rfl
      | [],h=>simp[Az,aop,LOp.loud,lop]at h
      | [_],h=>simp[Az,aop,LOp.loud,lop]at h
      | _::_::_::_,h=>simp[Az,aop,LOp.loud,lop]at h
    | slice st sz lo hi mx =>
      cases st with
      | true=>simp[LOp.loud]at hl
      | false =>
        left
        match ds,h with
        | a :: xs, h =>
          have he:∀T:St,Az call (.slice false sz lo hi mx) (a::xs) T=(match C8 lo hi mx xs with | some (p,q,m)=>Ke T sz a p q m | none=>none).map fun r=>(r,T,false):=by
            intro T;show lop (.slice false sz lo hi mx) (a::xs) T=_;simp only[lop];split<;>(rename_i hq;rw[hq];try rfl)
          cases a with
          | msl g v o n c =>
            refine Ec h he [g] (fun T hT=>?_) rfl;simp only[Ke,Ol,Em (hT g (by simp))]
          | _=>refine Ec h he [] (fun T hT=>?_) rfl;rfl
        | [],h=>simp[Az,aop,LOp.loud,lop]at h
    | strb =>
      left
      match ds,h with
      | [a], h =>
        cases a with
        | str s=>exact Ec h (f:=fun T=>some (.sl 1 (Ck s) none)) (fun T=>rfl) [] (fun T hT=>rfl) rfl
        | _=>simp[Az,aop,LOp.loud,lop]at h
      | [],h=>simp[Az,aop,LOp.loud,lop]at h
      | _::_::_,h=>simp[Az,aop,LOp.loud,lop]at h
    | append e sz bytes kind =>
      left
      match ds,h with
      | [s, x], h =>
        have he:∀T:St,Az call (.append e sz bytes kind) [s,x] T=Ct e sz bytes kind s x T:=fun T=>rfl;rw[he]at h;unfold Ct at h
        cases hn:(if kind=0 then Fa S sz x else Co S sz x) with
        | none=>rw[hn]at h;simp at h
        | some new =>
          rw[hn]at h;refine fp_app (F:=fun T=>Az call (.append e sz bytes kind) [s,x] T) (fun T hT=>?_) h;obtain⟨h1,h2⟩:=read_congr (sz:=sz) (x:=x) fun g hg=>hT g (List.mem_append.2 (.inr hg));rw[he];unfold Ct;rw[h1,h2,hn]
      | [],h=>simp[Az,aop,LOp.loud,lop]at h
      | [_],h=>simp[Az,aop,LOp.loud,lop]at h
      | _::_::_::_,h=>simp[Az,aop,LOp.loud,lop]at h
    | Ry e sz len z ps kind =>
      by_cases hk:(decide (kind=0)||ds.all Rn)=true
      · have hf0 : Dl (.Ry e sz len z ps kind) ds r wr = Bd r wr := by simp only [Dl]; rw [if_pos hk]
        have he:∀T:St,Az call (.Ry e sz len z ps kind) ds T=lop (.Ry e sz len z ps kind) ds T:=fun T=>rfl;rw[he]at h;by_cases h0:kind=0
        · simp only [lop, if_pos h0] at h
          cases hf:D7 (List.replicate len z) sz ps ds with
          | none=>rw[hf]at h;simp at h
          | some rs =>
            rw[hf]at h;simp only[Oi,Pi_]at h;obtain⟨rfl,rfl,rfl⟩:=h;left;rw[hf0];exact⟨[],[S.heap.length],.new ⟨e,sz,rs,0,0,false⟩,rfl,rfl,rfl,⟨rfl,by simp⟩,fun T _ hT=>by rw[he];simp only[lop,if_pos h0,hf,hT rfl];rfl⟩
        have hp:ds.all Rn=true:=by simpa [h0] using hk
        simp only[lop,if_neg h0,Hf hp]at h
        cases hf:Cr (List.replicate len z) sz ps ds with
        | none=>rw[hf]at h;simp at h
        | some rs =>
          rw[hf]at h;simp only at h;by_cases h2:kind=2
          · rw [if_pos h2] at h;simp only[Oi,Pi_]at h;obtain⟨rfl,rfl,rfl⟩:=h;left;rw[hf0];exact⟨[],[S.heap.length],.new ⟨e,sz,rs,0,2,false⟩,rfl,rfl,rfl,⟨rfl,by simp⟩,fun T _ hT=>by rw[he];simp only[lop,if_neg h0,Hf hp,hf,if_pos h2,hT rfl];rfl⟩
          rw[if_neg h2]at h;simp only[Oi,Pi_]at h;obtain⟨rfl,rfl,rfl⟩:=h;left;rw[hf0];exact⟨[],[],.none,rfl,rfl,rfl,trivial,fun T _ _=>by rw[he];simp only[lop,if_neg h0,Hf hp,hf,if_neg h2];rfl⟩
      right;simp only[Dl];rw[if_neg hk]
    | boxc sz =>
      left
      match ds,h with
      | [x],h=>exact Ec h (f:=fun T=>if x.val&&x.cells.length==sz&&x.cells.all D.free then some (.R6 x.cells 0) else none) (fun T=>by simp only[Az,aop,LOp.loud,if_true,lop];split<;>rfl) [] (fun T hT=>rfl) rfl
      | [],h=>simp[Az,aop,LOp.loud,lop]at h
      | _::_::_,h=>simp[Az,aop,LOp.loud,lop]at h
    | box e sz =>
      left
      match ds,h with
      | [x], h =>
        simp only[Az,aop,LOp.loud,if_true,lop]at h;split at h
        · rename_i hx;simp only[Oi,Pi_]at h;obtain⟨rfl,rfl,rfl⟩:=h;exact⟨[],[S.heap.length],.new ⟨e,sz,[x.cells],0,0,false⟩,rfl,rfl,rfl,⟨rfl,by simp⟩,fun T _ hT=>by simp only[Az,aop,LOp.loud,if_true,lop,if_pos hx,hT rfl];rfl⟩
        simp at h
      | [],h=>simp[Az,aop,LOp.loud,lop]at h
      | _::_::_,h=>simp[Az,aop,LOp.loud,lop]at h
    | mknz e =>
      left;rcases ds with _ | ⟨a,_ | ⟨b,ds⟩⟩
      · simp[Az,aop,LOp.loud,lop]at h
      · have he : ∀ T : St, Az call (.mknz e) [a] T = lop (.mknz e) [a] T := fun T => rfl;rw[he]at h
        cases a with
        | int k n =>
          cases k<;>first | (simp[lop]at h;done) | skip
          simp only[lop]at h;split at h
          · rename_i hx;simp only[Oi,Pi_]at h;obtain⟨rfl,rfl,rfl⟩:=h;exact⟨[],[S.heap.length],.new ⟨e,1,List.replicate n.toNat [.junk],0,2,true⟩,rfl,rfl,rfl,⟨rfl,by simp⟩,fun T _ hT=>by rw[he];simp only[lop,if_pos hx,hT rfl];rfl⟩
          simp at h
        | _=>simp[lop]at h
      simp[Az,aop,LOp.loud,lop]at h
    | mkslice e sz bytes z kind =>
      left;rcases ds with _ | ⟨a,_ | ⟨b,_ | ⟨c,ds⟩⟩⟩
      · simp[Az,aop,LOp.loud,lop]at h
      · simp[Az,aop,LOp.loud,lop]at h
      · cases a <;> first | (simp [Az, aop, LOp.loud, lop] at h; done) | skip
        cases b<;>first | (simp[Az,aop,LOp.loud,lop]at h;done) | skip
        rename_i k1 l k2 c;simp only[Az,aop,LOp.loud,if_true,lop]at h;split at h
        · rename_i hx;simp only[Oi,Pi_]at h;obtain⟨rfl,rfl,rfl⟩:=h;exact⟨[],[S.heap.length],.new ⟨e,sz,List.replicate l.toNat z,0,kind,decide (l≠c)⟩,rfl,rfl,rfl,⟨rfl,by simp⟩,fun T _ hT=>by simp only[Az,aop,LOp.loud,if_true,lop,if_pos hx,hT rfl];rfl⟩
        simp at h
      simp[Az,aop,LOp.loud,lop]at h
    | store sz =>
      match ds,h with
      | [a, x], h =>
        cases a with
        | ptr g v i o =>
          by_cases hp:Rn x=true
          · left;have hf:Dl (.store sz) [.ptr g v i o,x] r wr=⟨true,some [g],some [g],false,none⟩:=by simp[Dl,hp]
            have hs:∀ob:Rf,∀T:St,(if ob.kind=0 then some x else Ro T.heap.length T.heap x)=some x:=fun ob T=>by rw[Pv hp];simp
            simp only[Az,aop,LOp.loud,if_true,lop,Om,Pi_]at h;obtain⟨S1,h1,rfl,rfl,rfl⟩:=h;simp only[Ca,hs]at h1;split at h1
            · rename_i ob yP;split at h1
              · rename_i row xY;split at h1
                · rename_i hc;simp only[Oi]at h1;subst h1;rw[hf];refine⟨[g],[g],.set g { ob with rows:=ob.rows.set i (overlay row o x.cells) },rfl,rfl,rfl,by simp[Eff.within],fun T hT _=>?_⟩;have uY:rowsOf T g v=some ob:=(Em (hT g (by simp))).trans yP;simp only[Az,aop,LOp.loud,if_true,lop,Ca,hs,uY,xY,if_pos hc];rfl
                simp at h1
              simp at h1
            simp at h1
          right;simp[Dl,hp]
        | _=>right;rfl
      | [],h=>simp[Az,aop,LOp.loud,lop]at h
      | [_],h=>simp[Az,aop,LOp.loud,lop]at h
      | _::_::_::_,h=>simp[Az,aop,LOp.loud,lop]at h
    | call f=>exact absurd rfl (hn f)
    | _=>right;simp_all [Dl,LOp.loud]
theorem G6{call:Bf}(hc:Gb call){l:LOp}{ds:List D}{S S':St}{r:D}{wr:Bool}(h:Az call l ds S=some (r,S',wr)):Framed call l ds S r S' wr (Dl l ds r wr)∨Dl l ds r wr=Am wr∨∃g o,wr=true∧Dl l ds r wr=⟨true,none,some [g],true,none⟩∧g=S.heap.length∧S'=newAt S o:=by
 by_cases hl:∃f,l=.call f
 ·
  obtain⟨f,rfl⟩:=hl
  cases wr with
  | false=>exact .inr (.inl (by cases r<;>rfl))
  | true =>
   cases r with
   | msl g v lo n c =>
    obtain⟨h1,o,h2⟩:=hc.2 _ _ _ _ _ _ _ _ _ h;exact .inr (.inr ⟨g,o,rfl,rfl,h1,h2⟩)
   | _=>exact .inr (.inl rfl)
 rcases fp_cases2 (fun f e=>hl ⟨f,e⟩) h with h1 | h1
 ·
  exact .inl h1
 exact .inr (.inl h1)
theorem L9{e:Eff}{S:St}{W:List Nat}{c:Bool}(h:e.within S.heap.length W c){g:Nat}(hg:g∉W):(e.app S).heap[g]?=S.heap[g]?:=by
 cases e with
 | none=>rfl
 | set g' o =>
  have xu:g'≠g:=fun e=>hg (e▸h);simp[Eff.app,setAt,Ln_ xu]
 | new o =>
  have xu:g≠S.heap.length:=fun e=>hg (e▸h.2);simp only[Eff.app,newAt];rcases Nat.lt_or_ge g S.heap.length with h1 | h1
  ·
   rw[La_ h1]
  rw[Lr_ h1,List.getElem?_eq_none h1];simp only[List.getElem?_eq_none_iff,List.length_singleton];omega
theorem app_len{e:Eff}{S:St}{W:List Nat}{c:Bool}(h:e.within S.heap.length W c)(hc:c=false):(e.app S).heap.length=S.heap.length:=by
 cases e with
 | none=>rfl
 | set g' o=>simp[Eff.app,setAt]
 | new o=>rw[hc]at h;cases h.1
theorem app_comm{e f:Eff}{S:St}{W V:List Nat}{c d:Bool}(he:e.within S.heap.length W c)(hf:f.within S.heap.length V d)(hd:∀g∈W,g∉V)(hcd:¬(c=true∧d=true)):e.app (f.app S)=f.app (e.app S):=by
 cases e with
 | none=>rfl
 | set g o =>
  cases f with
  | none=>rfl
  | set g' o' =>
   have xu:g≠g':=fun e=>hd g he (e▸hf);simp only[Eff.app,setAt,St.mk.injEq];exact⟨List.set_comm _ _ (fun e=>xu e.symm),by omega⟩
  | new o' =>
   have xu:g≠S.heap.length:=fun e=>hd g he (e▸hf.2);simp only[Eff.app,setAt,newAt,St.mk.injEq,and_true];rw[List.set_append];split
   ·
    rfl
   rename_i h1;rw[List.set_eq_of_length_le (l:=S.heap) (by omega),List.set_eq_of_length_le (by simp;omega)]
 | new o =>
  cases f with
  | none=>rfl
  | set g' o' =>
   have xu:g'≠S.heap.length:=fun e=>hd _ he.2 (e▸hf);simp only[Eff.app,setAt,newAt,St.mk.injEq,and_true];rw[List.set_append];split
   ·
    rfl
   rename_i h1;rw[List.set_eq_of_length_le (l:=S.heap) (by omega),List.set_eq_of_length_le (by simp;omega)]
  | new o'=>exact absurd ⟨he.1,hf.1⟩ hcd
theorem Od{l m:List Nat}(h:dj (some l) (some m)=true):∀g∈l,g∉m:=by
 intro g hg hm
 cases l with
 | nil=>cases hg
 | cons a l =>
  cases m with
  | nil=>cases hm
  | cons b m =>
   have:=List.all_eq_true.1 h g hg;simp at this;simp at hm;rcases hm with hm | hm
   ·
    exact this.1 hm
   exact this.2 hm
theorem dj_some0{l:List Nat}(h:dj none (some l)=true):l=[]:=by
 cases l with
 | nil=>rfl
 | cons a l=>simp[dj]at h
theorem Oe{l:List Nat}(h:dj (some l) none=true):l=[]:=by
 cases l with
 | nil=>rfl
 | cons a l=>simp[dj]at h
theorem swap {call : Bf} (hc : Gb call) {la lb : LOp} {da db : List D} {ra rb : D} {wa wb : Bool} {S S1 S2 : St} (h1 : Az call la da S = some (ra, S1, wa)) (h2 : Az call lb db S1 = some (rb, S2, wb)) (hi : Aq (Dl la da ra wa) (Dl lb db rb wb) = true) :
    ∃S3,Az call lb db S=some (rb,S3,wb)∧Az call la da S3=some (ra,S2,wa)∧((Dl la da ra wa).writes=none→S2=S1)∧((Dl lb db rb wb).writes=none→S3=S2):=by
  cases hla:la.loud with
  | false =>
    obtain⟨rfl,rfl,h3⟩:=M4 hla h1;refine⟨S2,h2,h3 S2,fun hw=>?_,fun _=>rfl⟩;rcases G6 hc h1 with⟨_,_,_,_,hw',_⟩ | hf | ⟨_,_,_,hf,_⟩
    · rw[hw]at hw';cases hw'
    · rw[hf]at hw;cases hw
    rw[hf]at hw;cases hw
  | true =>
    cases hlb:lb.loud with
    | false =>
      obtain⟨rfl,rfl,h3⟩:=M4 hlb h2;refine⟨S,h3 S,h1,fun _=>rfl,fun hw=>?_⟩;rcases G6 hc h2 with⟨_,_,_,_,hw',_⟩ | hf | ⟨_,_,_,hf,_⟩
      · rw[hw]at hw';cases hw'
      · rw[hf]at hw;cases hw
      rw[hf]at hw;cases hw
    | true =>
      simp only[Aq,fpOf_loud,hla,hlb,Bool.not_true,Bool.false_or,Bool.and_eq_true,Bool.not_eq_true']at hi;obtain⟨⟨⟨⟨⟨d1,d2⟩,d3⟩,d4⟩,d5⟩,d6⟩:=hi;rcases G6 hc h1 with⟨Ra,Wa,ea,hra,hwa,rfl,hia,hTa⟩ | yH | ⟨ga,oa,rfl,yH,hga,hS1⟩
      · rcases G6 hc h2 with ⟨Rb, Wb, eb, hrb, qj, rfl, vZ, hTb⟩ | zZ | ⟨gb, ob, rfl, zZ, hgb, hS2⟩
        · rw [hra, qj] at d3;rw[hwa,hrb]at d1;rw[hwa,qj]at d2;have d1:=Od d1;have d2:=Od d2;have d3:=Od d3;have xk:∀(hcb:(Dl lb db rb wb).creates=true),(ea.app S).heap.length=S.heap.length:=fun hcb=>app_len hia (by rw[hcb]at d4;simpa using d4)
          have hib':eb.within S.heap.length Wb (Dl lb db rb wb).creates:=by
            cases eb with
            | none=>trivial
            | set g o=>exact vZ
            | new o=>exact⟨vZ.1,by rw[←xk vZ.1];exact vZ.2⟩
          have hb:Az call lb db S=some (rb,eb.app S,wb):=hTb S (fun g hg=>(L9 hia fun hgw=>d1 g hgw hg).symm) (fun hcb=>(xk hcb).symm);have ha:Az call la da (eb.app S)=some (ra,ea.app (eb.app S),wa):=hTa (eb.app S) (fun g hg=>L9 hib' fun hgw=>d3 g hgw hg) (fun hca=>app_len hib' (by rw[hca]at d4;simpa using d4));rw[app_comm hia hib' d2 (fun hcd=>by rw[hcd.1,hcd.2]at d4;cases d4)]at ha;exact⟨eb.app S,hb,ha,fun hw=>(by rw[hw]at hwa;cases hwa),fun hw=>(by rw[hw]at qj;cases qj)⟩
        · cases wb with
          | true =>
            rw[zZ,hra]at d3;rw[zZ,hwa]at d2;rw[zZ]at d4;have hR:=dj_some0 (by simpa [Am] using d3);have hW:=Oe (by simpa [Am] using d2);subst hR hW;have hca:(Dl la da ra wa).creates=false:=by simpa [Am] using d4
            have he:∀T:St,ea.app T=T:=fun T=>by
              cases ea with
              | none=>rfl
              | set g o=>cases hia
              | new o=>cases hia.2
            rw[he]at h1 h2;refine⟨S2,h2,?_,fun hw=>(by rw[hwa]at hw;cases hw),fun _=>rfl⟩;have:=hTa S2 (fun g hg=>(by cases hg)) (fun h=>by rw[hca]at h;cases h);rwa [he]at this
          | false =>
            have:=Jv hc h2;subst this;rw[zZ,hwa]at d1;have hW:=Oe (by simpa [Am] using d1);subst hW;rw[zZ]at d5;have hca:(Dl la da ra wa).creates=false:=by simpa [Am] using d5
            have he:ea.app S=S:=by
              cases ea with
              | none=>rfl
              | set g o=>cases hia
              | new o=>cases hia.2
            rw[he]at h1 h2 ⊢;exact⟨S,h2,h1,fun _=>rfl,fun _=>rfl⟩
        rw[zZ,hwa]at d1;rw[zZ]at d4;rw[zZ,hra]at d3;have hW:=Oe d1;subst hW;have hca:(Dl la da ra wa).creates=false:=by simpa using d4
        have d3:=Od d3
        have he:∀T:St,ea.app T=T:=fun T=>by
          cases ea with
          | none=>rfl
          | set g o=>cases hia
          | new o=>cases hia.2
        rw[he]at h1 h2 hgb hS2;refine⟨S2,h2,?_,fun hw=>(by rw[hwa]at hw;cases hw),fun _=>rfl⟩
        have:=hTa S2 (fun g hg=>by
          rw[hS2]
          exact L9 (e:=.new ob) (S:=S) (W:=[S.heap.length]) (c:=true) ⟨rfl,List.mem_singleton_self _⟩ (by
            intro hm;rw[List.mem_singleton]at hm
            exact d3 gb (List.mem_singleton_self _) (by rw[hgb,←hm];exact hg))) (fun h=>by rw[hca]at h;cases h)
        rwa [he]at this
      · cases wa with
        | true =>
          rcases G6 hc h2 with⟨Rb,Wb,eb,hrb,qj,rfl,vZ,hTb⟩ | zZ | ⟨gb,ob,rfl,zZ,hgb,hS2⟩
          · rw [yH, hrb] at d1;rw[yH,qj]at d2;rw[yH]at d4;have hR:=dj_some0 (by simpa [Am] using d1);have hW:=dj_some0 (by simpa [Am] using d2);subst hR hW;have hcb:(Dl lb db rb wb).creates=false:=by simpa [Am] using d4
            have he:∀T:St,eb.app T=T:=fun T=>by
              cases eb with
              | none=>rfl
              | set g o=>cases vZ
              | new o=>cases vZ.2
            rw[he]at h2 ⊢;refine⟨S,?_,h1,fun _=>rfl,fun hw=>(by rw[qj]at hw;cases hw)⟩;have:=hTb S (fun g hg=>(by cases hg)) (fun h=>by rw[hcb]at h;cases h);rwa [he]at this
          · rw[zZ,yH]at d1;exact absurd (show dj none none=true by cases wb<;>exact d1) (by decide)
          rw[zZ,yH]at d1;exact absurd (show dj none none=true from d1) (by decide)
        | false =>
          have:=Jv hc h1;subst this;rcases G6 hc h2 with⟨Rb,Wb,eb,hrb,qj,rfl,vZ,hTb⟩ | zZ | ⟨gb,ob,rfl,zZ,hgb,hS2⟩
          · rw [yH, qj] at d3;have hW:=Oe (by simpa [Am] using d3);subst hW
            have he:eb.app S1=S1:=by
              cases eb with
              | none=>rfl
              | set g o=>cases vZ
              | new o=>cases vZ.2
            rw[he]at h2 ⊢;exact⟨S1,h2,h1,fun _=>rfl,fun _=>rfl⟩
          · cases wb with
            | true=>rw[zZ,yH]at d3;exact absurd (show dj none none=true from d3) (by decide)
            | false =>
              have:=Jv hc h2;subst this;exact⟨S2,h2,h1,fun _=>rfl,fun _=>rfl⟩
          rw[zZ,yH]at d3;exact absurd (show dj (some [gb]) none=true from d3) (by simp[dj])
      subst hS1;rcases G6 hc h2 with⟨Rb,Wb,eb,hrb,qj,rfl,vZ,hTb⟩ | zZ | ⟨gb,ob,rfl,zZ,hgb,hS2⟩
      · rw [yH, hrb] at d1;rw[yH,qj]at d3;rw[yH]at d4;have d1:=Od d1;have hW:=Oe d3;subst hW;have hcb:(Dl lb db rb wb).creates=false:=by simpa using d4
        have he:∀T:St,eb.app T=T:=fun T=>by
          cases eb with
          | none=>rfl
          | set g o=>cases vZ
          | new o=>cases vZ.2
        rw[he]at h2 ⊢;refine⟨S,?_,h1,fun _=>rfl,fun hw=>(by rw[qj]at hw;cases hw)⟩
        have:=hTb S (fun g hg=>(L9 (e:=.new oa) (S:=S) (W:=[S.heap.length]) (c:=true) ⟨rfl,List.mem_singleton_self _⟩ (by
            intro hm;rw[List.mem_singleton]at hm
            exact d1 ga (List.mem_singleton_self _) (by rw[hga,←hm];exact hg))).symm) (fun h=>by rw[hcb]at h;cases h)
        rwa [he]at this
      · rw[yH,zZ]at d1;exact absurd (show dj (some [ga]) none=true by cases wb<;>exact d1) (by simp[dj])
      rw[yH,zZ]at d1;exact absurd (show dj (some [ga]) none=true from d1) (by simp[dj])
open Go.RowKit
def D6 {α:Type} (V:Nat→α) (i:Nat):List α:=((List.range i).map V).reverse
theorem I7{α:Type}(V:Nat→α)(i:Nat):D6 V (i+1)=V i::D6 V i:=by simp[D6,List.range_succ]
theorem Js{α:Type}{V W:Nat→α}{i:Nat}(h:∀k,k<i→V k=W k):D6 V i=D6 W i:=by
 unfold D6;congr 1;exact List.map_congr_left fun k hk=>h k (List.mem_range.1 hk)
theorem Ku{α:Type}(V:Nat→α)(i:Nat):(D6 V i).length=i:=by simp[D6]
theorem H5{α:Type}(V:Nat→α):∀(i d:Nat),d<i→(D6 V i)[d]?=some (V (i-1-d))
 | 0,d,h=>by omega
 | i+1,0,h=>by rw[I7];simp
 | i+1,d+1,h=>by
  rw[I7,Ls_,H5 V i d (by omega)];congr 2;omega
theorem stp_drew(w:World)(ρ:Rm)(S:St):Stp w ρ S w.drew ρ S :=
 ⟨rfl,rfl,rfl,rfl,Nat.le_refl _,Nat.le_refl _,fun b _ h=>⟨rfl,h⟩,fun b q h=>⟨rfl,h⟩,fun _ _ _ _ _ _=>rfl,fun g o h=>⟨o,h,⟨Nat.le_refl _,rfl⟩,fun _=>rfl,fun _=>⟨rfl,rfl,rfl,Nat.le_refl _,fun b cur _ h=>⟨cur,h,rfl⟩⟩⟩⟩
def Jb (ops:Array Oper) (i:Nat):List (Option Tmp):=((ops.toList.take i).map (·.dst)).reverse
theorem dstTo_succ{ops:Array Oper}{i:Nat}{o:Oper}(h:ops[i]?=some o):Jb ops (i+1)=o.dst::Jb ops i:=by
 have hl:ops.toList[i]?=some o:=by simpa using h
 have xJ:=lt_of_some hl;unfold Jb;rw[List.take_succ_eq_append_getElem xJ,List.map_append,List.reverse_append];have:ops.toList[i]=o:=by rw[Lg xJ]at hl;injection hl
 simp[this]
theorem sig_to{ops:Array Oper}{slots:List Nat}{V:Nat→D}{env:List D}{t:Nat}(hu:∀(k k':Nat) (o o':Oper),ops[k]?=some o→ops[k']?=some o'→o.dst=some t→o'.dst=some t→k=k') :
    ∀i,i≤ops.size→((∃k o,k<i∧ops[k]?=some o∧o.dst=some t∧sig slots (Jb ops i) (D6 V i) env t=V k)∨((∀k o,k<i→ops[k]?=some o→o.dst≠some t)∧sig slots (Jb ops i) (D6 V i) env t=sig slots [] [] env t))
  | 0,_=>.inr ⟨fun k o hk=>by omega,by simp[Jb,D6]⟩
  | i + 1, hi => by
    have ho:ops[i]?=some ops[i]:=Array.getElem?_eq_getElem (by omega);rw[dstTo_succ ho,I7,Nj];by_cases e:ops[i].dst=some t
    · exact .inl ⟨i,ops[i],by omega,ho,e,by simp[e]⟩
    rw[if_neg e];rcases sig_to hu i (by omega) with⟨k,o,hk,yu,hd,hs⟩ | ⟨hn,hs⟩
    · exact .inl ⟨k,o,by omega,yu,hd,hs⟩
    refine .inr ⟨fun k o hk yu hd=>?_,hs⟩;by_cases hki:k=i
    · subst hki;rw[ho]at yu;injection yu with yu;subst yu;exact e hd
    exact hn k o (by omega) yu hd
inductive TStep (call:Bf) (n:Nat) (news:List (TypeId × List D)) (tl env:List D) (V:Nat→D) (ST:Nat→St) (W:Nat→Bool) (F:Nat→FP) (i:Nat) (lo:Ri):Prop
 | skip (hg:onG (D6 V i++tl) lo.guard=some false) (h1:V i=.skip) (h2:ST (i+1)=ST i) (h3:F i=Ab)
 | run (hg:onG (D6 V i++tl) lo.guard=some true) (h:Az call lo.op (lo.args.map (opd (D6 V i++tl) env)) (ST i)=some (V i,ST (i+1),W i)) (hF:F i=Ai n lo (lo.args.map (opd (D6 V i++tl) env)) (V i) (W i)) (hs:Ag n news lo (D6 F i) (F i) (ST (i+1))=true)
theorem trace_ex {call : Bf} {n : Nat} {news : List (TypeId × List D)} {tl env : List D} : ∀ (los : List Ri) (k : Nat) (V0 : Nat → D) (F0 : Nat → FP) (S : St) (valsF : List D) (SF : St), Gt call n news los (D6 F0 k) (D6 V0 k ++ tl) env S = some (valsF, SF) →
    ∃(V:Nat→D) (ST:Nat→St) (W:Nat→Bool) (F:Nat→FP),(∀j,j<k→V j=V0 j)∧(∀j,j<k→F j=F0 j)∧ST k=S∧ST (k+los.length)=SF∧valsF=D6 V (k+los.length)++tl∧∀i lo,los[i]?=some lo→TStep call n news tl env V ST W F (k+i) lo
  | [], k, V0, F0, S, valsF, SF, h => by
    simp only[Gt,Oi,Pi_]at h;obtain⟨rfl,rfl⟩:=h;exact⟨V0,fun _=>S,fun _=>false,F0,fun _ _=>rfl,fun _ _=>rfl,rfl,rfl,rfl,fun i lo hi=>by simp at hi⟩
  | lo :: los, k, V0, F0, S, valsF, SF, h => by
    have fin:∀(r:D) (S1:St) (wr:Bool) (fp:FP),Gt call n news los (fp::D6 F0 k) (r::(D6 V0 k++tl)) env S1=some (valsF,SF) →
        (∀V ST W F,D6 V k=D6 V0 k→D6 F k=D6 F0 k→V k=r→F k=fp→ST k=S→ST (k+1)=S1→W k=wr→TStep call n news tl env V ST W F k lo) →
        ∃(V:Nat→D) (ST:Nat→St) (W:Nat→Bool) (F:Nat→FP),(∀j,j<k→V j=V0 j)∧(∀j,j<k→F j=F0 j)∧ST k=S∧ST (k+(lo::los).length)=SF∧valsF=D6 V (k+(lo::los).length)++tl∧∀i lo',(lo::los)[i]?=some lo'→TStep call n news tl env V ST W F (k+i) lo':=by
      intro r S1 wr fp hx ht
      have e1:r::(D6 V0 k++tl)=D6 (fun i=>if i=k then r else V0 i) (k+1)++tl:=by
        rw[I7];simp only[if_true,List.cons_append,List.cons.injEq,true_and];rw[Js (V:=fun i=>if i=k then r else V0 i) (W:=V0) (fun j hj=>by rw[if_neg (by omega)])]
      have e2:fp::D6 F0 k=D6 (fun i=>if i=k then fp else F0 i) (k+1):=by
        rw[I7];simp only[if_true,List.cons.injEq,true_and];rw[Js (V:=fun i=>if i=k then fp else F0 i) (W:=F0) (fun j hj=>by rw[if_neg (by omega)])]
      rw[e1,e2]at hx;obtain⟨V,ST,W,F,h1,h2,h3,h4,h5,h6⟩:=trace_ex los (k+1) _ _ S1 valsF SF hx;have hV:∀j,j<k→V j=V0 j:=fun j hj=>by rw[h1 j (by omega),if_neg (by omega)]
      have hF:∀j,j<k→F j=F0 j:=fun j hj=>by rw[h2 j (by omega),if_neg (by omega)]
      refine⟨V,fun i=>if i=k then S else ST i,fun i=>if i=k then wr else W i,F,hV,hF,by simp,?_,?_,?_⟩
      · simp only [List.length_cons];rw[if_neg (by omega),←h4];congr 1;omega
      · rw [h5, List.length_cons];congr 2;omega
      intro i lo' hi
      cases i with
      | zero =>
        simp at hi;subst hi;exact ht V _ _ F (Js hV) (Js hF) (by rw[h1 k (by omega)];simp) (by rw[h2 k (by omega)];simp) (by simp) (by simp[h3]) (by simp)
      | succ i =>
        simp at hi;have:=h6 i lo' hi;rw[show k+1+i=k+(i+1) by omega]at this
        cases this with
        | skip hg a1 a2 a3=>exact .skip hg a1 (by rw[if_neg (by omega),if_neg (by omega)];exact a2) a3
        | run hg hh hF hs=>exact .run hg (by rw[if_neg (by omega),if_neg (by omega),if_neg (by omega)];exact hh) (by rw[if_neg (by omega)];exact hF) (by rw[if_neg (by omega)];exact hs)
    unfold Gt at h;split at h
    · simp at h
    · rename_i hg;exact fin .skip S false Ab h fun V ST W F a1 a2 a3 a4 a5 a6 a7=>.skip (by rw[a1];exact hg) a3 (by rw[a6,a5]) a4
    rename_i hg;split at h
    · simp at h
    rename_i r S' wr yZ;split at h
    · rename_i yu;exact fin r S' wr _ h fun V ST W F a1 a2 a3 a4 a5 a6 a7=>.run (by rw[a1];exact hg) (by rw[a1,a3,a5,a6,a7];exact yZ) (by rw[a1,a3,a4,a7]) (by rw[a2,a4,a6];exact yu)
    simp at h
theorem Mm {P : Program} {kd : Kd} {nt : Nat} {slots bs : List Nat} {k : Nat} : ∀ {os : List Oper} {prev : List (Option Tmp)} {r0 : Nat} {los : List Ri}, Mo P kd nt slots bs k os prev r0 = some los →
    los.length=os.length∧(∀o∈os,Ex nt o.dst=true)∧∀i o,os[i]?=some o →
      (∃p,Ic P o=some p∧los[i]?=some ⟨.mv,[.loc (prev.length+i+(k-1-(r0+(Dn P (os.take i)).length)))],none,Me bs (prev.length+i),some (r0+(Dn P (os.take i)).length)⟩) ∨
      (Ic P o=none∧∃l xs args g,(∃mt':Bool,Kq P (kd.lit mt') o=some (l,xs))∧Jq kd.glob slots (((os.take i).map (·.dst)).reverse++prev) xs=some args∧G5 (((os.take i).map (·.dst)).reverse++prev) o.guard=some g∧los[i]?=some ⟨l,args,g,Me bs (prev.length+i),none⟩)
  | [], prev, r0, los, h => by
    simp only[Mo,Oi]at h;subst h;exact⟨rfl,by simp,fun i o hi=>by simp at hi⟩
  | o :: os, prev, r0, los, h => by
    unfold Mo at h;split at h
    · rename_i hd;split at h
      · rename_i p hp;split at h
        · rename_i rest hr;simp only[Oi]at h;subst h;obtain⟨h1,h2,h3⟩:=Mm hr;refine⟨by simp[h1],fun o' ho'=>?_,fun i o' hi=>?_⟩
          · rcases List.mem_cons.1 ho' with rfl | ho'
            · exact hd
            exact h2 o' ho'
          cases i with
          | zero =>
            simp at hi;subst hi;exact .inl ⟨p,hp,by simp[Dn]⟩
          | succ i =>
            simp at hi;have e1:prev.length+(i+1)=(o.dst::prev).length+i:=by simp;omega
            have e2:r0+(Dn P ((o::os).take (i+1))).length=r0+1+(Dn P (os.take i)).length:=by
              simp only[Dn,List.take_succ_cons,List.filterMap_cons,hp,List.length_cons];omega
            rw[e1,e2];rcases h3 i o' hi with⟨p',q1,q2⟩ | ⟨q0,l',xs',args',g',q1,q2,q3,q4⟩
            · exact .inl ⟨p',q1,by simpa using q2⟩
            exact .inr ⟨q0,l',xs',args',g',q1,by simpa using q2,by simpa using q3,by simpa using q4⟩
        simp at h
      rename_i hp;split at h
      · simp at h
      rename_i l xs hl;split at h
      · rename_i args g rest ha hg hr;simp only[Oi]at h;subst h;obtain⟨h1,h2,h3⟩:=Mm hr;refine⟨by simp[h1],fun o' ho'=>?_,fun i o' hi=>?_⟩
        · rcases List.mem_cons.1 ho' with rfl | ho'
          · exact hd
          exact h2 o' ho'
        cases i with
        | zero =>
          simp at hi;subst hi;exact .inr ⟨hp,l,xs,args,g,⟨_,hl⟩,by simpa using ha,by simpa using hg,by simp⟩
        | succ i =>
          simp at hi;have e1:prev.length+(i+1)=(o.dst::prev).length+i:=by simp;omega
          have e2:r0+(Dn P ((o::os).take (i+1))).length=r0+(Dn P (os.take i)).length:=by
            simp only[Dn,List.take_succ_cons,List.filterMap_cons,hp]
          rw[e1,e2];rcases h3 i o' hi with⟨p',q1,q2⟩ | ⟨q0,l',xs',args',g',q1,q2,q3,q4⟩
          · exact .inl ⟨p',q1,by simpa using q2⟩
          exact .inr ⟨q0,l',xs',args',g',q1,by simpa using q2,by simpa using q3,by simpa using q4⟩
      simp at h
    simp at h
structure Ev where
 op:LOp
 ds:List D
 r:D
 wr:Bool
def Ev.fp (e:Ev):FP:=Dl e.op e.ds e.r e.wr
def Runs (call:Bf) (E:Nat→Option Ev) (Z:Nat→List Rf→Prop):List Nat→St→St→Prop
 | [],S,S'=>S'=S
 | i::l,S,S'=>match E i with
  | none=>Runs call E Z l S S'
  | some e=>∃S1,Az call e.op e.ds S=some (e.r,S1,e.wr)∧(e.fp.writes=none→Z i S1.heap)∧Runs call E Z l S1 S'
theorem Runs.drop{call:Bf}{E:Nat→Option Ev}{Z:Nat→List Rf→Prop}{i:Nat}(hi:E i=none){post:List Nat}:∀{pre:List Nat} {S S':St},Runs call E Z (pre++i::post) S S'→Runs call E Z (pre++post) S S'
 | [],S,S',h=>by simpa [Runs,hi] using h
 | j :: pre, S, S', h => by
  simp only[List.cons_append,Runs]at h ⊢;split at h
  ·
   rename_i hj;exact Runs.drop hi h
  rename_i e hj;obtain⟨S1,h1,h2,h3⟩:=h;exact⟨S1,h1,h2,Runs.drop hi h3⟩
theorem Runs.front{call:Bf}(hc:Gb call){E:Nat→Option Ev}{Z:Nat→List Rf→Prop}{i:Nat}{e:Ev}(hi:E i=some e){post:List Nat}:∀{pre:List Nat} {S S':St},Runs call E Z (pre++i::post) S S'→(∀j∈pre,∀e',E j=some e'→Aq e'.fp e.fp=true) →
  ∃S1,Az call e.op e.ds S=some (e.r,S1,e.wr)∧(e.fp.writes=none→Z i S1.heap)∧Runs call E Z (pre++post) S1 S'
 | [],S,S',h,_=>by simpa [Runs,hi] using h
 | j :: pre, S, S', h, hd => by
  simp only[List.cons_append,Runs]at h ⊢;split at h
  ·
   rename_i hj;exact Runs.front hc hi h fun k hk=>hd k (List.mem_cons_of_mem _ hk)
  rename_i e' hj;obtain⟨S1,h1,h2,h3⟩:=h;obtain⟨S2,k1,k2,k3⟩:=Runs.front hc hi h3 fun k hk=>hd k (List.mem_cons_of_mem _ hk);obtain⟨S3,q1,q2,q3,q4⟩:=swap hc h1 k1 (hd j (by simp) e' hj);exact⟨S3,q1,fun hw=>by rw[q4 hw];exact k2 hw,S2,q2,fun hw=>by rw[q3 hw];exact h2 hw,k3⟩
open Go.RowKit
theorem okFP_get:∀{bs:List Bool} {fs:List FP} {x:FP},Ba bs fs x=true→∀(d:Nat) (f:FP),fs[d]?=some f→∃b,bs[d]?=some b∧Ah b f x=true
 | [],[],x,h,d,f,hd=>by simp at hd
 | b::bs,[],x,h,d,f,hd=>by simp at hd
 | [],_::_,x,h,d,f,hd=>by simp[Ba]at h
 | b::bs,f'::fs,x,h,0,f,hd=>by
  simp only[Ba,Bool.and_eq_true]at h;simp at hd;subst hd;exact⟨b,rfl,h.1⟩
 | b::bs,f'::fs,x,h,d+1,f,hd=>by
  simp only[Ba,Bool.and_eq_true]at h;exact okFP_get h.2 d f (by simpa using hd)
theorem M8:∀{bs:List Bool} {fs:List FP} {g:Nat},g∈Im bs fs→∃(d:Nat) (f:FP),bs[d]?=some true∧fs[d]?=some f∧f.hoist=some g
 | [],fs,g,h=>by simp[Im]at h
 | b::bs,[],g,h=>by simp[Im]at h
 | b :: bs, f :: fs, g, h => by
  unfold Im at h;split at h
  ·
   rename_i g' hb hf;rcases List.mem_cons.1 h with rfl | h
   ·
    exact⟨0,f,rfl,rfl,hf⟩
   obtain⟨d,f',h1,h2,h3⟩:=M8 h;exact⟨d+1,f',h1,h2,h3⟩
  obtain⟨d,f',h1,h2,h3⟩:=M8 h;exact⟨d+1,f',h1,h2,h3⟩
theorem sameD_eq{a b:D}(h:sameD a b=true):a=b:=by
 unfold sameD at h;split at h
 all_goals first | rfl | (simp at h;done) | skip
 ·
  simp only[Bool.and_eq_true,decide_eq_true_eq]at h;rw[h.1,h.2]
 ·
  simp only[beq_iff_eq]at h;rw[h]
 simp only[decide_eq_true_eq]at h;rw[h]
theorem sameDs_eq:∀{l m:List D},O4 l m=true→l=m
 | [],[],_=>rfl
 | a::l,b::m,h=>by
  simp only[O4,Bool.and_eq_true]at h;rw[sameD_eq h.1,sameDs_eq h.2]
 | [],_::_,h=>by simp[O4]at h
 | _::_,[],h=>by simp[O4]at h
theorem sameNew_eq{p:TypeId × List D}{x:Option Rf}(h:sameNew p x=true):x=some (Ed p):=by
 unfold sameNew at h;split at h
 ·
  simp only[Bool.and_eq_true,decide_eq_true_eq]at h;obtain⟨⟨rfl,rfl⟩,h3⟩:=h;rw[sameDs_eq h3];rfl
 simp at h
theorem Ng{n:Nat}{dn:List Nat}{H:List Rf}:∀{l:List (TypeId × List D)} {r0:Nat},Gz n dn H l r0=true→∀r p,l[r]?=some p→n+(r0+r)∉dn→H[n+(r0+r)]?=some (Ed p)
  | [],r0,h,r,p,hr,_=>by simp at hr
  | q :: l, r0, h, 0, p, hr, hn => by
    simp only[Gz,Bool.and_eq_true,Bool.or_eq_true]at h;simp at hr;subst hr;rcases h.1 with h1 | h1
    · exact absurd (by simpa using h1) hn
    exact sameNew_eq h1
  | q :: l, r0, h, r + 1, p, hr, hn => by
    simp only[Gz,Bool.and_eq_true]at h;have e:r0+(r+1)=r0+1+r:=by omega
    rw[e]at hn ⊢;exact Ng h.2 r p (by simpa using hr) hn
theorem fpApp_hoist(s x r:D)(wr:Bool):(Av s x r wr).hoist=none:=by
 unfold Av;cases wr
 ·
  rfl
 simp only[if_true];split
 ·
  split<;>rfl
 rfl
theorem fpMk_hoist(r:D)(wr:Bool):(Bd r wr).hoist=none:=by
 unfold Bd;split<;>cases wr<;>rfl
theorem Mw(l:LOp)(ds:List D)(r:D)(wr:Bool):(Dl l ds r wr).hoist=none:=by
 unfold Dl
 repeat' split
 all_goals first | rfl | (cases wr<;>rfl) | exact fpApp_hoist .. | exact fpMk_hoist ..
def rk (P:Program) (ops:Array Oper) (j:Nat):Nat:=(Dn P (ops.toList.take j)).length
theorem rk_get{P:Program}{ops:Array Oper}{j:Nat}{o:Oper}{p:TypeId × List D}(ho:ops[j]?=some o)(hp:Ic P o=some p):(Dn P ops.toList)[rk P ops j]?=some p:=by
 have hl:ops.toList[j]?=some o:=by simpa using ho
 have xJ:=lt_of_some hl
 have e:ops.toList=ops.toList.take j++o::ops.toList.drop (j+1):=by
  conv=>lhs;rw[←List.take_append_drop j ops.toList]
  rw[List.drop_eq_getElem_cons xJ];rw[Lg xJ]at hl;injection hl with hl;rw[hl]
 unfold rk
 conv=>lhs;arg 1;rw[e]
 unfold Dn;rw[List.filterMap_append,Lr_ (Nat.le_refl _),Nat.sub_self,List.filterMap_cons_some hp];rfl
theorem rk_lt{P:Program}{ops:Array Oper}{i j:Nat}{o:Oper}{p:TypeId × List D}(ho:ops[i]?=some o)(hp:Ic P o=some p)(qW:i<j):rk P ops i<rk P ops j:=by
 have hl:ops.toList[i]?=some o:=by simpa using ho
 have xJ:=lt_of_some hl
 have e:ops.toList.take j=ops.toList.take i++o::(ops.toList.take j).drop (i+1):=by
  conv=>lhs;rw[←List.take_append_drop i (ops.toList.take j)]
  have hlt':i<(ops.toList.take j).length:=by rw[List.length_take];omega
  rw[List.drop_eq_getElem_cons hlt',List.take_take,Nat.min_eq_left (Nat.le_of_lt qW)];rw[Lg xJ]at hl;injection hl with hl;rw[List.getElem_take,hl]
 unfold rk
 conv=>rhs;rw[e]
 unfold Dn;rw[List.filterMap_append,Ll_,List.filterMap_cons_some hp,List.length_cons];omega
theorem rk_inj{P:Program}{ops:Array Oper}{i j:Nat}{o o':Oper}{p p':TypeId × List D}(ho:ops[i]?=some o)(hp:Ic P o=some p)(ho':ops[j]?=some o')(hp':Ic P o'=some p')(h:rk P ops i=rk P ops j):i=j:=by
 rcases Nat.lt_trichotomy i j with h1 | h1 | h1
 ·
  have:=rk_lt ho hp h1;omega
 ·
  exact h1
 have:=rk_lt ho' hp' h1;omega
theorem newOf_some{P:Program}{o:Oper}{p:TypeId × List D}(h:Ic P o=some p):∃n,o.op=.alloc p.1∧o.guard=none∧Fx P p.1=some p.2∧Ch P p.1=some n∧p.2.length=n:=by
 unfold Ic at h;split at h
 ·
  rename_i e ho hg;split at h
  ·
   rename_i z n hz hn;split at h
   ·
    rename_i hl;simp only[Oi]at h;subst h;exact⟨n,ho,hg,hz,hn,hl⟩
   simp at h
  simp at h
 simp at h
theorem dstTo_len{ops:Array Oper}{i:Nat}(h:i≤ops.size):(Jb ops i).length=i:=by
 unfold Jb;rw[List.length_reverse,List.length_map,List.length_take,Array.length_toList];omega
theorem sig_tl{slots:List Nat}{prev:List (Option Tmp)}{vals tl env:List D}{t i:Nat}(hp:prev.length=i)(hv:vals.length=i):sig slots prev (vals++tl) env t=sig slots prev vals env t:=by
  unfold sig;split
  · rename_i d hd;have:=lt_of_some (F4 hd);simp only[List.getD_eq_getElem?_getD];rw[La_ (by omega)]
  rfl
theorem newsVals_get{n k r:Nat}(h:r<k):(Ce n k)[k-1-r]?=some (.ptr (n+r) 0 0 0):=by
 have:=H5 (fun r=>D.ptr (n+r) 0 0 0) k (k-1-r) (by omega);rw[show k-1-(k-1-r)=r by omega]at this;exact this
noncomputable def notB (p:Prop):Bool:=@decide (¬p) (Classical.propDecidable _)
theorem notB_iff{p:Prop}:notB p=true↔¬p:=by unfold notB;exact @decide_eq_true_iff _ (Classical.propDecidable _)
theorem notB_congr{p q:Prop}(h:p↔q):notB p=notB q:=by rw[propext h]
noncomputable def left (n:Nat) (L:Nat→Prop):List Nat:=(List.range n).filter (fun i=>notB (L i))
theorem left_split{n i:Nat}{L:Nat→Prop}(hi:i<n)(hL:¬L i):∃pre post,left n L=pre++i::post∧left n (fun k=>L k∨k=i)=pre++post∧∀j∈pre,j<i∧¬L j:=by
  have e:List.range n=List.range i++i::List.range' (i+1) (n-i-1):=by
    rw[List.range_eq_range',List.range_eq_range',←List.range'_succ,show n-i-1+1=n-i by omega];have:=List.range'_append (s:=0) (m:=i) (n:=n-i) (step:=1);simp only[Nat.one_mul,Nat.zero_add]at this;rw[this];congr 1;omega
  refine⟨(List.range i).filter (fun k=>notB (L k)),(List.range' (i+1) (n-i-1)).filter (fun k=>notB (L k)),?_,?_,?_⟩
  · unfold left;rw[e,List.filter_append,List.filter_cons_of_pos (by rw[notB_iff];exact hL)]
  · unfold left;rw[e,List.filter_append,List.filter_cons_of_neg (by rw[notB_iff];simp)];congr 1
    · apply List.filter_congr;intro k hk;have:k≠i:=by have:=List.mem_range.1 hk;omega
      exact notB_congr (by simp[this])
    apply List.filter_congr;intro k hk;have:k≠i:=by have:=List.mem_range'_1.1 hk;omega
    exact notB_congr (by simp[this])
  intro j hj;rw[List.mem_filter]at hj;exact⟨List.mem_range.1 hj.1,notB_iff.1 hj.2⟩
section
variable {P:Program} {call:Bf} {kd:Kd} {nt:Nat} {slots:List Nat} {ops:Array Oper} {env:List D} {Q:Exit→Act→World→Prop}
structure DInv (P:Program) (call:Bf) (ops:Array Oper) (slots:List Nat) (nt:Nat) (env:List D) (V:Nat→D) (E:Nat→Option Ev) (Z:Nat→List Rf→Prop) (S SF:St) (w0:World) (ρ0:Rm) (df:List Deferred) (L:Nat→Prop) (a:Act) (w:World) (ρ:Rm) (S1:St):Prop where
 rel:Rel w ρ S1.heap
 stp:Stp w0 ρ0 S w ρ S1
 size:a.tmps.size=nt
 defers:a.defers=df
 slot:∀t,t<nt→(∃k o,ops[k]?=some o∧L k∧o.dst=some t∧VR w ρ S1.heap (V k) (a.tmps.getD t undef))∨((∀k o,ops[k]?=some o→L k→o.dst≠some t)∧VR w ρ S1.heap (sig slots [] [] env t) (a.tmps.getD t undef))
 runs:Runs call E Z (left ops.size L) S1 SF
 pend:∀j o p,ops[j]?=some o→¬L j→Ic P o=some p→S1.heap[S.heap.length+rk P ops j]?=some (Ed p)∧ρ (S.heap.length+rk P ops j)=none
theorem draw_ok {G : Nat → Option (List D)} (vg : ∀ g row, kd.glob g = some row → G g = some row) (hm : P.follows .mixedOrders = true) (xP : Nf P G call) (yL : Gb call) {S S' : St} {vals' : List D} {los : List Ri} {w : World} {ρ : Rm} {a : Act} {id : Nat} (hs : slots.all (· < nt) = true) (hdraw : drawOk P kd ops (Region.before ops).toList = true)
    (x9:Mo P kd nt slots (Region.before ops).toList (Dn P ops.toList).length ops.toList [] 0=some los) (y5:Gt call S.heap.length (Dn P ops.toList) los [] (Ce S.heap.length (Dn P ops.toList).length) env ⟨S.heap++(Dn P ops.toList).map Ed,S.low⟩=some (vals',S')) (hr:Rel w ρ S.heap) (hG:ρ.X.G=G) (hf:FR w ρ S.heap nt (sig slots [] [] env) a)
    (hQ:∀a' w' ρ',Rel w' ρ' S'.heap→Stp w ρ S w' ρ' S'→FR w' ρ' S'.heap nt (sig slots (dstsOf ops.toList) vals' env) a'→a'.defers=a.defers→Q .normal a' w'):(Code.region id ops true).wp P Q a w:=by
  obtain⟨hll,hdin,xV⟩:=Mm x9;generalize wZ:Ce S.heap.length (Dn P ops.toList).length=tl at y5;obtain⟨V,ST,W,F,_,_,t2,t3,t4,t5⟩:=trace_ex los 0 (fun _=>.undef) (fun _=>Ab) _ vals' S' y5;simp only[Nat.zero_add,List.length_nil]at t3 t4 t5 xV;have xE:los.length=ops.size:=by rw[hll];simp
  rw[xE]at t3 t4
  -- the checks
  have hdr:∀i o,ops[i]?=some o→(∀e∈o.after,Region.binds .any e=true→e.on<i)∧∀k o' d,ops[k]?=some o'→o'.dst=some d→k≠i→o.dst≠some d ∧
      (ordered (Region.before ops).toList i k=true∨((∀(mt:Bool) l xs,Kq P (kd.lit mt) o=some (l,xs)→.tmp d∉xs)∧∀j b oj,o.guard=some (j,b)→ops[j]?=some oj→oj.dst≠some d)):=by
    intro i o ho;have yJ:=(Array.getElem?_eq_some_iff.1 ho).1;have h:=List.all_eq_true.1 hdraw i (List.mem_range.2 yJ);rw[ho]at h;simp only[Bool.and_eq_true]at h;obtain⟨h1,h2⟩:=h;refine⟨fun e he hb=>?_,fun k o' d hk hd xu=>?_⟩
    · have := List.all_eq_true.1 h1 e (Array.mem_toList_iff.2 he);simpa [hb] using this
    have hkl:=(Array.getElem?_eq_some_iff.1 hk).1;have h3:=List.all_eq_true.1 h2 k (List.mem_range.2 hkl);rw[hk]at h3;simp only[hd,Bool.or_eq_true,beq_iff_eq,xu,false_or,Bool.and_eq_true,bne_iff_ne,ne_eq]at h3;refine⟨h3.1,?_⟩;rcases h3.2 with h4 | ⟨h4,h5⟩
    · exact .inl h4
    refine .inr ⟨fun mt l xs hl hmem=>?_,fun j b oj hg hj he=>?_⟩
    · cases mt with
      | true =>
        rw[hl]at h4;have:=List.all_eq_true.1 h4.1 _ hmem;simp at this
      | false =>
        have h4:=h4.2;rw[hl]at h4;have:=List.all_eq_true.1 h4 _ hmem;simp at this
    rw[hg]at h5;simp only[hj]at h5;simp[he]at h5
  have hu:∀(t k k':Nat) (o o':Oper),ops[k]?=some o→ops[k']?=some o'→o.dst=some t→o'.dst=some t→k=k':=by
    intro t k k' o o' hk hk' hd hd';by_cases e:k'=k
    · exact e.symm
    exact absurd hd ((hdr k o hk).2 k' o' t hk' hd' e).1
  have hT:∀i,i<ops.size→∃lo,los[i]?=some lo∧TStep call S.heap.length (Dn P ops.toList) tl env V ST W F i lo:=fun i hi=>⟨los[i]'(by omega),Lg (by omega),t5 i _ (Lg (by omega))⟩
  -- the operations as they were run
  let E:Nat→Option Ev:=fun i=>match los[i]? with
    | some lo=>if onG (D6 V i++tl) lo.guard=some true∧lo.hoist=none then some ⟨lo.op,lo.args.map (opd (D6 V i++tl) env),V i,W i⟩ else none
    | none=>none
  let Z:Nat→List Rf→Prop:=fun i H=>∀r p,(Dn P ops.toList)[r]?=some p→S.heap.length+r∉Im (Me (Region.before ops).toList i) (D6 F i)→H[S.heap.length+r]?=some (Ed p)
  have qM:∀i lo,los[i]?=some lo→lo.ord=Me (Region.before ops).toList i:=by
    intro i lo y9;have yJ:i<ops.size:=by have:=lt_of_some y9;omega
    rcases xV i ops[i] (by simp[yJ]) with⟨p,_,q2⟩ | ⟨_,l,xs,args,g,_,_,_,q4⟩
    · rw[y9]at q2;injection q2 with q2;rw[q2]
    rw[y9]at q4;injection q4 with q4;rw[q4]
  -- hoisted operations
  have vo:∀i o p,ops[i]?=some o→Ic P o=some p→(∃lo,los[i]?=some lo∧lo.hoist=some (rk P ops i))∧E i=none∧V i=.ptr (S.heap.length+rk P ops i) 0 0 0∧(F i).hoist=some (S.heap.length+rk P ops i)∧Ba (Me (Region.before ops).toList i) (D6 F i) (F i)=true:=by
    intro i o p ho hp;have yJ:=(Array.getElem?_eq_some_iff.1 ho).1;rcases xV i o (by simpa using ho) with⟨p',q1,q2⟩ | ⟨q0,_⟩
    · obtain ⟨lo, y9, ht⟩ := hT i yJ;rw[y9]at q2;injection q2 with q2;have hho:lo.hoist=some (rk P ops i):=by rw[q2];rfl
      have hE:E i=none:=by simp only[E,y9,hho];simp
      have yN:rk P ops i<(Dn P ops.toList).length:=lt_of_some (rk_get ho hp)
      cases ht with
      | skip hg=>rw[q2]at hg;simp[onG]at hg
      | run hg hh hF yu =>
        refine⟨⟨lo,y9,hho⟩,hE,?_,?_,?_⟩
        · rw [q2] at hh;simp only[Az,aop,LOp.loud,pop,List.map_cons,List.map_nil,opd,Bool.false_eq_true,if_false,Option.map_some,Oi,Pi_]at hh;rw[←hh.1];have h1:=newsVals_get (n:=S.heap.length) yN;rw[wZ]at h1;simp only[List.getD_eq_getElem?_getD];rw[Lr_ (by rw[Ku];omega),Ku,Nat.add_sub_cancel_left];show (tl[(Dn P ops.toList).length-1-rk P ops i]?).getD _=_;rw[h1];rfl
        · rw[hF];simp[Ai,hho]
        have h1:=yu;simp only[Ag,Bool.and_eq_true]at h1;rw[←qM i lo y9];exact h1.1
    rw[hp]at q0;cases q0
  -- the others
  have uX:∀i lo e,los[i]?=some lo→E i=some e→e=⟨lo.op,lo.args.map (opd (D6 V i++tl) env),V i,W i⟩∧F i=e.fp∧Az call e.op e.ds (ST i)=some (e.r,ST (i+1),e.wr)∧Ba (Me (Region.before ops).toList i) (D6 F i) (F i)=true∧(e.fp.writes=none→Z i (ST (i+1)).heap):=by
    intro i lo e y9 he;simp only[E,y9]at he;split at he
    · rename_i hc;simp only[Oi]at he;subst he;have yJ:i<ops.size:=by have:=lt_of_some y9;omega
      obtain⟨lo',zV,ht⟩:=hT i yJ;rw[y9]at zV;injection zV with zV;subst zV
      cases ht with
      | skip hg=>rw[hc.1]at hg;cases hg
      | run hg hh hF yu =>
        simp only[Ag,Bool.and_eq_true,Bool.or_eq_true]at yu;have hFe:F i=(⟨lo.op,lo.args.map (opd (D6 V i++tl) env),V i,W i⟩:Ev).fp:=by rw[hF];simp[Ai,hc.2,Ev.fp]
        refine⟨rfl,hFe,hh,by rw[←qM i lo y9];exact yu.1,fun hw r p hr hn=>?_⟩;rcases yu.2 with h1 | h1
        · rw[hFe,hw]at h1;cases h1
        have:=Ng h1 r p hr (by rw[qM i lo y9,Nat.zero_add];exact hn);rwa [Nat.zero_add]at this
    cases he
  have hruns0 : ∀ m k, k + m = ops.size → Runs call E Z (List.range' k m) (ST k) S' := by
    intro m
    induction m with
    | zero=>intro k hk;rw[show k=ops.size by omega,t3];rfl
    | succ m ih =>
      intro k hk;obtain⟨lo,y9,ht⟩:=hT k (by omega);rw[List.range'_succ];have ihk:=ih (k+1) (by omega);simp only[Runs]
      cases hE:E k with
      | none =>
        have xM:ST (k+1)=ST k:=by
          cases ht with
          | skip hg h1 h2 h3=>exact h2
          | run hg hh hF yu =>
            have hho:lo.hoist≠none:=by
              intro hn;simp[E,y9,hg,hn]at hE
            rcases xV k ops[k] (by simp) with⟨p,_,q2⟩ | ⟨_,l,xs,args,g,_,_,_,q4⟩
            · rw [y9] at q2;injection q2 with q2;rw[q2]at hh;simp only[Az,aop,LOp.loud,pop,List.map_cons,List.map_nil,opd,Bool.false_eq_true,if_false,Option.map_some,Oi,Pi_]at hh;exact hh.2.1.symm
            rw[y9]at q4;injection q4 with q4;rw[q4]at hho;exact absurd rfl hho
        rw[xM]at ihk;exact ihk
      | some e =>
        obtain⟨_,_,h3,_,h5⟩:=uX k lo e y9 hE;exact⟨ST (k+1),h3,h5,ihk⟩
  refine wp_region_inv hm (fun i o ho=>(hdr i o ho).1) (fun L a' w'=>∃ρ' S1,DInv P call ops slots nt env V E Z S S' w ρ a.defers L a' w' ρ' S1) ⟨ρ,ST 0,?_⟩ ?_ ?_
  · rw [t2];have xM:Stp w ρ S w.drew ρ ⟨S.heap++(Dn P ops.toList).map Ed,S.low⟩:=(stp_news hr _).trans (stp_drew w ρ _);refine⟨?_,xM,hf.1,rfl,fun t ht=>.inr ⟨fun k o _ h=>h.elim,(hf.2 t ht).mono xM⟩,?_,fun j o p hj _ hp=>?_⟩
    · exact⟨hr.inj,fun g b hb=>by
        obtain⟨o,ho,hk⟩:=hr.obj g b hb
        exact⟨o,by rw[La_ (lt_of_some ho)];exact ho,hk.mono xM rfl⟩,hr.hids xM,hr.globs xM⟩
    · have h0 := hruns0 ops.size 0 (by omega);rw[t2]at h0
      have:left ops.size (fun _=>False)=List.range' 0 ops.size:=by
        unfold left;rw[List.filter_eq_self.2 (fun k _=>notB_iff.2 (fun h=>h)),List.range_eq_range']
      rw[this];exact h0
    have hg:=rk_get hj hp;refine⟨?_,?_⟩
    · show (S.heap ++ (Dn P ops.toList).map Ed)[S.heap.length + rk P ops j]? = _;rw[Lr_ (by omega),Nat.add_sub_cancel_left,Lp_,hg];rfl
    cases hρ:ρ (S.heap.length+rk P ops j) with
    | none=>rfl
    | some b=>have:=hr.in hρ;omega
  · -- one operation
    rintro L i o a1 w1 ho hni hdown hdep ⟨ρ1,S1,hI⟩;have yJ:=(Array.getElem?_eq_some_iff.1 ho).1;obtain⟨lo,y9,ht⟩:=hT i yJ;have hdst:Ex nt o.dst=true:=hdin o (by rw[Array.mem_toList_iff];exact Array.mem_of_getElem? ho)
    have yO:∀d∈Jb ops i,Ex nt d=true:=by
      intro d hd;unfold Jb at hd;rw[List.mem_reverse,List.mem_map]at hd;obtain⟨o',ho',rfl⟩:=hd;exact hdin o' (List.mem_of_mem_take ho')
    obtain⟨pre,post,hl1,zI,hpre⟩:=left_split yJ hni;have vL:=hI.runs;rw[hl1]at vL
    -- what the operation sees
    have qY:Down ops (fun k=>L k∨k=i):=by
      intro k ok hk vG e he hb;rcases vG with vG | rfl
      · exact .inl (hdown k ok hk vG e he hb)
      rw[ho]at hk;injection hk with hk;subst hk;exact .inl (hdep e he hb)
    have hanc:∀k,k<i→ordered (Region.before ops).toList i k=true→L k:=fun k hk h=>((Nq qY h).1 hk (.inr rfl)).resolve_right (by omega);have hdesc:∀k,i<k→ordered (Region.before ops).toList i k=true→¬L k:=fun k hk h vG=>hni ((Nq hdown h).2 hk vG);have hbit:∀k,k<i→((Region.before ops).toList.getD i 0).testBit k=true→L k:=fun k hk h=>(Lb qY h (.inr rfl)).resolve_right (by omega)
    -- behind it
    have hput:∀(v:Value) (w2:World) (ρ2:Rm) (S2:St),Rel w2 ρ2 S2.heap→Stp w ρ S w2 ρ2 S2→Fwd w1 ρ1 S1.heap w2 ρ2 S2.heap→VR w2 ρ2 S2.heap (V i) v→Runs call E Z (pre++post) S2 S' →
        (∀j o p,ops[j]?=some o→¬L j→j≠i→Ic P o=some p→S2.heap[S.heap.length+rk P ops j]?=some (Ed p)∧ρ2 (S.heap.length+rk P ops j)=none) →
        ∃ρ' S2,DInv P call ops slots nt env V E Z S S' w ρ a.defers (fun k=>L k∨k=i) (a1.put o.dst v) w2 ρ' S2:=by
      intro v w2 ρ2 S2 wS xM hfw zP xA hpend;refine⟨ρ2,S2,⟨wS,xM,?_,?_,fun t ht=>?_,by rw[zI];exact xA,fun j oj p hj q9 hp=>hpend j oj p hj (fun h=>q9 (.inl h)) (fun h=>q9 (.inr h)) hp⟩⟩
      · cases o.dst with
        | none=>exact hI.size
        | some d=>simpa [Act.put] using hI.size
      · cases o.dst with
        | none=>exact hI.defers
        | some d=>exact hI.defers
      by_cases e:o.dst=some t
      · refine .inl ⟨i, o, ho, .inr rfl, e, ?_⟩;have wZ:t<a1.tmps.size:=by rw[hI.size];exact ht
        rw[e];simpa [Act.put,wZ] using zP
      have yC:(a1.put o.dst v).tmps.getD t undef=a1.tmps.getD t undef:=by
        cases hd:o.dst with
        | none=>rfl
        | some d =>
          have xu:d≠t:=fun h=>e (by rw[hd,h]);simp only[Act.put,Array.getD_eq_getD_getElem?,Array.getElem?_setIfInBounds,if_neg xu]
      rw[yC];rcases hI.slot t ht with⟨k',o',hk',vF,hd',hvr'⟩ | ⟨uF,hvr'⟩
      · exact .inl ⟨k',o',hk',.inl vF,hd',hvr'.fwd hfw⟩
      refine .inr ⟨fun k o' hk vG=>?_,hvr'.fwd hfw⟩;rcases vG with vG | rfl
      · exact uF k o' hk vG
      rw[ho]at hk;injection hk with hk;subst hk;exact e
    rcases xV i o (by simpa using ho) with⟨p,hp,k4⟩ | ⟨hnn,l,xs,args,g,k1,k2,k3,k4⟩
    · -- a new variable
      obtain⟨⟨lo',zV,_⟩,hE,hV,_,_⟩:=vo i o p ho hp;obtain⟨n,yZ,vB,hz,hn,xk⟩:=newOf_some hp;obtain⟨hobj,yj⟩:=hI.pend i o p ho hni hp;obtain⟨v,w2,ob,xA,xw,wS,zP⟩:=alloc_fill (P:=P) (S:=S1) (g:=S.heap.length+rk P ops i) hI.rel hz hn xk hobj yj;unfold wpOp;rw[ho];have hw:Region.wanted o (yielded ops a1.tmps)=true:=by simp[Region.wanted,vB]
      simp only[hw,if_true];left
      have hx:(execOp a1.eval o).run P w1=.ok (.value v) w2:=by
        have he:execOp a1.eval o=(do pure (.value (←Instr.alloc p.1 true (.tuple #[])))):=by simp[execOp,yZ]
        rw[he,Ad xA];rfl
      unfold Oper.wp;rw[hx];refine hput v w2 _ S1 wS (stp_fill hI.stp hI.rel xw yj (by omega)) (fwd_fill hI.rel xw yj) (by rw[hV];exact zP) (Runs.drop hE vL) fun j oj p' hj q9 xu hp'=>?_;obtain⟨q1,q2⟩:=hI.pend j oj p' hj q9 hp';refine⟨q1,?_⟩;simp only[upd];rw[if_neg (fun h=>xu (rk_inj hj hp' ho hp (by omega)))];exact q2
    rw[y9]at k4;injection k4 with k4;subst k4;simp only[List.append_nil]at k2 k3
    have hsee:∀t,t<nt→(∀k o',ops[k]?=some o'→o'.dst=some t→k≠i→ordered (Region.before ops).toList i k=true)→VR w1 ρ1 S1.heap (sig slots (Jb ops i) (D6 V i++tl) env t) (a1.tmps.getD t undef):=by
      intro t ht hord;rw[sig_tl (dstTo_len (Nat.le_of_lt yJ)) (Ku V i)];rcases sig_to (slots:=slots) (V:=V) (env:=env) (hu t) i (Nat.le_of_lt yJ) with⟨k,ok,hk,yu,hd,uN⟩ | ⟨hn,uN⟩
      · rw [uN];have vG:=hanc k hk (hord k ok yu hd (by omega));rcases hI.slot t ht with⟨k',o',hk',vF,hd',zP⟩ | ⟨uF,_⟩
        · have := hu t k k' ok o' yu hk' hd hd';subst this;exact zP
        exact absurd hd (uF k ok yu vG)
      rw[uN];rcases hI.slot t ht with⟨k',o',hk',vF,hd',zP⟩ | ⟨uF,zP⟩
      · exfalso;have hki:¬k'<i:=fun h=>hn k' o' h hk' hd';have xu:k'≠i:=fun e=>hni (e▸vF);exact hdesc k' (by omega) (hord k' o' hk' hd' xu) vF
      exact zP
    have wU:VL w1 ρ1 S1.heap (args.map (opd (D6 V i++tl) env)) (xs.map a1.eval):=by
      refine opds_ok (fun g row hg=>(hI.rel.glob g row (by rw[hI.stp.hid,hG];exact vg g row hg)).1) hs yO k2 fun t hmem ht=>hsee t ht fun k o' hk hd xu=>?_;rcases ((hdr i o ho).2 k o' t hk hd xu).2 with h | ⟨h,_⟩
      · exact h
      obtain⟨mt',k1⟩:=k1;exact absurd hmem (h mt' l xs k1)
    have vw : ∀ j b d b0, o.guard = some (j, b) → g = some (d, b0) → (∀ b', (D6 V i ++ tl).getD d .undef = .bool b' → yielded ops a1.tmps j = some b') ∧ ((D6 V i ++ tl).getD d .undef = .skip → yielded ops a1.tmps j = none) ∧ b0 = b := by
      intro j b d b0 vB hg;rw[vB]at k3;unfold G5 at k3;simp only at k3;split at k3
      · rename_i hj;split at k3
        · rename_i t qp;split at k3
          · rename_i yT;simp only[Oi]at k3;subst k3;simp only[Oi,Pi_]at hg;obtain⟨rfl,rfl⟩:=hg
            have xk:((ops.toList.take i).map (·.dst)).reverse.length=i:=by
              rw[List.length_reverse,List.length_map,List.length_take,Array.length_toList];omega
            rw[xk]at hj qp yT;have yA:j<ops.toList.length:=by rw[Array.length_toList];omega
            have qD:(ops[j]?).bind (·.dst)=some t:=by
              have h1:((ops.toList.take i).map (·.dst)).length=i:=by rw[List.length_map,List.length_take,Array.length_toList];omega
              rw[List.getD_eq_getElem?_getD,List.getElem?_reverse (by rw[h1];omega),h1,show i-1-(i-1-j)=j by omega]at qp;simp only[Lp_,List.getElem?_take]at qp;rw[if_pos hj,Lg yA]at qp;have h2:ops[j]?=some ops.toList[j]:=by simp
              rw[h2];simpa using qp
            have htn:t<nt:=by
              have:=yO _ (Lm (F4 yT));simpa [Ex] using this
            have hvis:=hsee t htn fun k o' hk hd xu=>by
              obtain⟨oj,hoj,hdj⟩:∃oj,ops[j]?=some oj∧oj.dst=some t:=by
                cases hx:ops[j]? with
                | none=>simp[hx]at qD
                | some oj=>exact⟨oj,rfl,by simpa [hx] using qD⟩
              rcases ((hdr i o ho).2 k o' t hk hd xu).2 with h | ⟨_,h⟩
              · exact h
              exact absurd hdj (h j _ oj vB hoj)
            refine⟨fun b' hb'=>?_,fun hb'=>?_,rfl⟩
            · rw [xk] at hb';exact guard_ok (b:=b) qD yT yO hvis hI.size hb'
            rw[xk]at hb';exact guard_skip qD yT yO hvis hI.size hb'
          simp at k3
        simp at k3
      simp at k3
    cases ht with
    | skip hg h1 h2 h3 =>
      have hE:E i=none:=by simp only[E,y9,hg];simp
      have hw : Region.wanted o (yielded ops a1.tmps) = false := by
        cases vB:o.guard with
        | none=>rw[vB]at k3;simp only[G5,Oi]at k3;subst k3;simp[onG]at hg
        | some jb =>
          obtain⟨j,b2⟩:=jb
          cases uj:g with
          | none=>simp[uj,onG]at hg
          | some db =>
            obtain⟨d,b⟩:=db;simp only[uj,onG]at hg;split at hg
            · rename_i b' hb';simp only[Oi]at hg;obtain⟨hy,_,rfl⟩:=vw j b2 d b vB uj;have hy:=hy b' hb';simp only[Region.wanted,vB,hy];simpa using hg
            · rename_i hb';obtain⟨_,hy,rfl⟩:=vw j b2 d b vB uj;have hy:=hy hb';simp only[Region.wanted,vB,hy];rfl
            simp at hg
      unfold wpOp;rw[ho];simp only[hw,Bool.false_eq_true,if_false];exact hput undef w1 ρ1 S1 hI.rel hI.stp (Stp.refl w1 ρ1 S1).fwd (by rw[h1];exact .skip) (Runs.drop hE vL) fun j oj p hj q9 _ hp=>hI.pend j oj p hj q9 hp
    | run hg hh hF yu =>
      have hw : Region.wanted o (yielded ops a1.tmps) = true := by
        cases vB:o.guard with
        | none=>simp[Region.wanted,vB]
        | some jb =>
          obtain⟨j,b2⟩:=jb
          cases uj:g with
          | none =>
            rw[vB,uj]at k3;unfold G5 at k3;simp only at k3;split at k3
            · split at k3
              · split at k3<;>simp at k3
              simp at k3
            simp at k3
          | some db =>
            obtain⟨d,b⟩:=db;simp only[uj,onG]at hg;split at hg
            · rename_i b' hb';simp only[Oi]at hg;obtain⟨hy,_,rfl⟩:=vw j b2 d b vB uj;have hy:=hy b' hb';simp only[Region.wanted,vB,hy];simpa using hg
            · simp at hg
            simp at hg
      have hE:E i=some ⟨l,args.map (opd (D6 V i++tl) env),V i,W i⟩:=by simp only[E,y9];rw[if_pos ⟨hg,trivial⟩]
      obtain⟨_,hFe,_,hokF,_⟩:=uX i _ _ y9 hE;have hFh:(F i).hoist=none:=by rw[hFe];exact Mw _ _ _ _
      have hpair:∀j,j<i→∃b,(b=true→L j)∧Ah b (F j) (F i)=true:=by
        intro j hj;obtain⟨b,h1,h2⟩:=okFP_get hokF (i-1-j) (F j) (by rw[H5 F i _ (by omega)];congr 2;omega);refine⟨b,fun hb=>hbit j hj ?_,h2⟩;have h3:=H5 (fun k=>((Region.before ops).toList.getD i 0).testBit k) i (i-1-j) (by omega);have h4:(Me (Region.before ops).toList i)[i-1-j]?=some (((Region.before ops).toList.getD i 0).testBit (i-1-(i-1-j))):=h3;rw[h4,show i-1-(i-1-j)=j by omega]at h1;injection h1 with h1;rw[h1];exact hb
      obtain⟨S2,r1,r2,r3⟩:=Runs.front yL hE vL (fun j hj e' he'=>by
        obtain⟨hji,hnL⟩:=hpre j hj;obtain⟨lo',zV,_⟩:=hT j (by omega);obtain⟨_,hFj,_,_,_⟩:=uX j lo' e' zV he';obtain⟨b,h1,h2⟩:=hpair j hji;have hFjh:(F j).hoist=none:=by rw[hFj];exact Mw _ _ _ _
        simp only[Ah,hFh,hFjh,Bool.or_eq_true]at h2;rcases h2 with h2 | h2
        · exact absurd (h1 h2) hnL
        rw[hFj,hFe]at h2;exact h2)
      unfold wpOp;rw[ho];simp only[hw,if_true];left;refine exOp_ok xP (by rw[hI.stp.hid];exact hG) k1.choose_spec wU hI.rel r1 ?_;rintro v w2 ⟨ρ2,q1,q2,q3,_⟩;refine hput v w2 ρ2 S2 q1 (hI.stp.trans q2) q2.fwd q3 r3 fun j oj p hj q9 xu hp=>?_;obtain⟨p1,p2⟩:=hI.pend j oj p hj q9 hp;obtain⟨_,_,_,hFjh,hokj⟩:=vo j oj p hj hp
      have yC:S2.heap[S.heap.length+rk P ops j]?=some (Ed p):=by
        cases vH:(F i).writes with
        | none =>
          rw[hFe]at vH;refine r2 vH _ p (rk_get hj hp) fun hd=>?_;obtain⟨d,f,d1,d2,d3⟩:=M8 hd;have hdl:d<i:=by have:=lt_of_some d2;rw[Ku]at this;exact this
          rw[H5 F i d hdl]at d2;injection d2 with d2;subst d2;have d4:(Me (Region.before ops).toList i)[d]?=some (((Region.before ops).toList.getD i 0).testBit (i-1-d)):=H5 (fun k=>((Region.before ops).toList.getD i 0).testBit k) i d hdl;rw[d4]at d1;injection d1 with d1;have hLd:=hbit (i-1-d) (by omega) d1;obtain⟨lo',zV,ht'⟩:=hT (i-1-d) (by omega);have hod:ops[i-1-d]?=some ops[i-1-d]:=Array.getElem?_eq_getElem (by omega)
          cases hpd:Ic P ops[i-1-d] with
          | some p' =>
            obtain⟨_,_,_,hh',_⟩:=vo (i-1-d) _ p' hod hpd;rw[hh']at d3;injection d3 with d3;have:=rk_inj hod hpd hj hp (by omega);exact q9 (this▸hLd)
          | none =>
            have hnh:(F (i-1-d)).hoist=none:=by
              rcases xV (i-1-d) ops[i-1-d] (by simp) with⟨p',q1',_⟩ | ⟨_,l',xs',args',g',_,_,_,q4'⟩
              · rw[hpd]at q1';cases q1'
              rw[zV]at q4';injection q4' with q4'
              cases ht' with
              | skip hg' h1' h2' h3'=>rw[h3'];rfl
              | run hg' hh' hF' hok'=>rw[hF',q4'];exact Mw _ _ _ _
            rw[hnh]at d3;cases d3
        | some Wr =>
          have hap:Aj (S.heap.length+rk P ops j) (F i).writes=true:=by
            rcases Nat.lt_trichotomy j i with h | h | h
            · obtain ⟨b, h1, h2⟩ := hpair j h;simp only[Ah,hFjh,hFh,Bool.or_eq_true]at h2;rcases h2 with h2 | h2
              · exact absurd (h1 h2) q9
              exact h2
            · exact absurd h xu
            obtain⟨b,h1,h2⟩:=okFP_get hokj (j-1-i) (F i) (by rw[H5 F j _ (by omega)];congr 2;omega);simp only[Ah,hFjh,hFh]at h2;exact h2
          rw[vH]at hap;have hap:S.heap.length+rk P ops j∉Wr:=by simpa [Aj] using hap
          rw[←p1];rcases G6 yL r1 with⟨R,W',eff,_,hw',rfl,yt,_⟩ | xq | ⟨g1,o1,_,xq,yY,hS1⟩
          · have : W' = Wr := by
              rw[hFe]at vH;have uP:(Ev.fp ⟨l,args.map (opd (D6 V i++tl) env),V i,W i⟩).writes=some W':=hw';rw[uP]at vH;injection vH
            subst this;exact L9 yt hap
          · rw [hFe] at vH;have rD:Ev.fp ⟨l,args.map (opd (D6 V i++tl) env),V i,W i⟩=Am (W i):=xq;rw[rD]at vH
            cases hWi:W i with
            | true=>rw[hWi]at vH;cases vH
            | false =>
              simp only[hWi]at r1;rw[Jv yL r1]
          rw[hFe]at vH;have rD:Ev.fp ⟨l,args.map (opd (D6 V i++tl) env),V i,W i⟩=⟨true,none,some [g1],true,none⟩:=xq;rw[rD]at vH;simp only[Oi]at vH;rw[←vH]at hap;rw[hS1];exact L9 (e:=.new o1) (W:=[_]) (c:=true) ⟨rfl,List.mem_singleton_self _⟩ (by rw[←yY];exact hap)
      refine⟨yC,?_⟩;obtain⟨o',ho',_,_,hv'⟩:=q2.obj _ _ p1;rw[yC]at ho';injection ho' with ho';subst ho';rw[(hv' rfl).1];exact p2
  -- the end
  rintro L a1 w1 xq ⟨ρ1,S1,hI⟩
  have hSt:S'=S1:=by
    have h:=hI.runs
    have:left ops.size L=[]:=by
      unfold left;rw[List.filter_eq_nil_iff];intro k hk;rw[notB_iff];exact fun h=>h (xq k (List.mem_range.1 hk))
    rw[this]at h;exact h
  subst hSt;have hslot:=hI.slot;refine hQ a1 w1 ρ1 hI.rel hI.stp ⟨hI.size,fun t ht=>?_⟩ hI.defers;have hde:dstsOf ops.toList=Jb ops ops.size:=by unfold dstsOf Jb;rw[List.take_of_length_le (by simp)]
  rw[hde,t4,sig_tl (dstTo_len (Nat.le_refl _)) (Ku V _)];rcases sig_to (slots:=slots) (V:=V) (env:=env) (hu t) ops.size (Nat.le_refl _) with⟨k,ok,hk,yu,hd,uN⟩ | ⟨hn,uN⟩
  · rw [uN];rcases hslot t ht with⟨k',o',hk',vF,hd',zP⟩ | ⟨uF,_⟩
    · have := hu t k k' ok o' yu hk' hd hd';subst this;exact zP
    exact absurd hd (uF k ok yu (xq k hk))
  rw[uN];rcases hslot t ht with⟨k',o',hk',vF,hd',zP⟩ | ⟨uF,zP⟩
  · exact absurd hd' (hn k' o' (Array.getElem?_eq_some_iff.1 hk').1 hk')
  exact zP
end
end Go.Proofs.YtbhnlppboegmjaaGreatDoor
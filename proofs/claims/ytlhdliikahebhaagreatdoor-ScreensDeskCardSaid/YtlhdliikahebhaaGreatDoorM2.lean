/- Proved here: parts of the proof, joined (Lo9d, Lo9e, Lo10, Lo11, Lo12, Lo13, Lo14, Lo14b, Lo14c): an abstract machine, its soundness, what functions of the program compute in it; no condition. -/
import Derived.Lib.UnsafeStr
import Derived.Lib.Builder
import Derived.Lib.Bytealg
import Derived.Lib.AppendStr
import Derived.Lib.AppendZeros
import Derived.Lib.MakeNoZero
import Derived.Laws.CopyRow
import Derived.Laws.IdiomCopy
import Derived.Lib.BufferWrite
import Derived.OrdersIn
import Derived.RangeFuncIn
import Derived.LoopNIn
import Derived.StillTail
import Derived.RangeFuncRecord
import Derived.Test.YtlhdliikahebhaaGreatDoorM1
namespace Go.Proofs.YtlhdliikahebhaaGreatDoor
open Go.RowKit
set_option linter.unusedVariables false
set_option linter.unusedSimpArgs false
section
variable {P:Program} {w:World} {ρ:Xn} {S:St}
theorem ptrT_iff{t e:TypeId}:ptrT P t=some e↔P.underlying t=some (.pointer e):=by
 unfold ptrT;split
 ·
  rename_i e' h;simp[h]
 rename_i h;constructor
 ·
  intro h';simp at h'
 intro h';exact absurd h' (h e)
theorem unsT_iff{t:TypeId}:unsT P t=true↔P.underlying t=some .unsafePointer:=by
 unfold unsT;split
 ·
  rename_i h;simp[h]
 rename_i h;constructor
 ·
  intro h';simp at h'
 intro h';exact absurd h' h
theorem eqp_ok {d1 d2 : D} {v1 v2 : Value} {t e : TypeId} {n : Nat} {b : Bool} {op : BinOp} {x y : Operand} (ho : op = .eql ∨ op = .neq) (ht : ptrT P t = some e) (hn : Cj P e = some n) (h1 : VR w ρ S.heap d1 v1) (h2 : VR w ρ S.heap d2 v2) (h : eqpD S d1 d2 = some b) :
    ∃v,(do eqGuard op t x y v1 v2;binOp op t v1 v2).run P w=.ok v w∧VR w ρ S.heap (.bool (b != decide (op=.neq))) v:=by
  have hu:=ptrT_iff.1 ht
  have key:(∀d:Nat,(Op.equalIn (d+1) t v1 v2).run P w=.ok b w)→(eqGuard op t x y v1 v2).run P w=.ok () w→(op=.eql→binOp op t v1 v2=(do pure (.bool (←Op.equal t v1 v2))))→(op=.neq→binOp op t v1 v2=(do pure (.bool (!(←Op.equal t v1 v2))))) →
      ∃v,(do eqGuard op t x y v1 v2;binOp op t v1 v2).run P w=.ok v w∧VR w ρ S.heap (.bool (b != decide (op=.neq))) v:=by
    intro he hg hb1 hb2;have hq:(Op.equal t v1 v2).run P w=.ok b w:=he 9999;rcases ho with rfl | rfl
    · exact⟨.bool b,by rw[Ab hg,hb1 rfl,Ab hq];rfl,by cases b<;>exact .bool _⟩
    exact⟨.bool !b,by rw[Ab hg,hb2 rfl,Ab hq];rfl,by cases b<;>exact .bool _⟩
  unfold eqpD at h;split at h
  · simp only [Oi] at h;subst h;cases h1;cases h2;exact key (fun d=>by unfold Op.equalIn;rw[Ab (run_underlying hu w)];rfl) (by rcases ho with rfl | rfl<;>rfl) (by rintro rfl;rfl) (by rintro rfl;rfl)
  · simp only [Oi] at h;subst h;cases h1;cases h2;exact key (fun d=>by unfold Op.equalIn;rw[Ab (run_underlying hu w)];rfl) (by rcases ho with rfl | rfl<;>rfl) (by rintro rfl;rfl) (by rintro rfl;rfl)
  · simp only [Oi] at h;subst h;cases h1;cases h2;exact key (fun d=>by unfold Op.equalIn;rw[Ab (run_underlying hu w)];rfl) (by rcases ho with rfl | rfl<;>rfl) (by rintro rfl;rfl) (by rintro rfl;rfl)
  · simp only [Oi] at h;subst h;cases h1;cases h2;exact key (fun d=>by unfold Op.equalIn;rw[Ab (run_underlying hu w)];rfl) (by rcases ho with rfl | rfl<;>rfl) (by rintro rfl;rfl) (by rintro rfl;rfl)
  · simp only [Oi] at h;subst h;cases h1;cases h2;exact key (fun d=>by unfold Op.equalIn;rw[Ab (run_underlying hu w)];rfl) (by rcases ho with rfl | rfl<;>rfl) (by rintro rfl;rfl) (by rintro rfl;rfl)
  · rename_i g v i o g' v' i' o';split at h
    · rename_i ob ob' zS kJ;split at h
      · rename_i rH;subst rH;simp only[Oi]at h
        cases h1 with | ptr _ _ _ _ a1 ob1 zP uy y7 y8 =>
        cases h2 with | ptr _ _ _ _ a2 ob2 uW vL wW w9 =>
        unfold rowsOf at zS kJ;simp only[zP]at zS kJ;rw[zP]at uW;injection uW with uW;subst uW;split at zS
        · rename_i e1;split at kJ
          · rename_i e2;simp only[Oi]at zS kJ;subst zS;obtain⟨b1,r1,rfl⟩:=y8 e1;obtain⟨b2,r2,rfl⟩:=w9 e2;rw[r1]at r2;injection r2 with r2;subst r2;obtain⟨i2,d2,zD,hd2,xC,h0⟩:=Cm hn;refine key (fun d=>?_) (by rcases ho with rfl | rfl<;>rfl) (by rintro rfl;rfl) (by rintro rfl;rfl);unfold Op.equalIn;rw[Ab (run_underlying hu w)];simp only;rw[Ab (run_sizeOf hn)];have hn0:n≠0:=by omega
            simp only[hn0,ne_eq,not_false_eq_true,if_true];unfold sameAddr;simp only[beq_self_eq_true,if_true]
            have:((⟨b1,i*ob1.sz+o,none⟩:Addr)==⟨b1,i'*ob1.sz+o',none⟩)=b:=by
              rw[←h];by_cases hq:i*ob1.sz+o=i'*ob1.sz+o'
              · simp[hq]
              simp[hq]
            rw[this];rfl
          simp at kJ
        simp at zS
      simp at h
    simp at h
  simp at h
theorem shape_of{b:Nat}{cur:Array Value}{e:TypeId}{f:Nat × Nat}(h:w.heap[b]?=some (.cells cur e f)):w.shape? b=some (e,cur.size):=by simp[World.shape?,h]
theorem whole_ptr{t:TypeId}{n:Nat}{x r:D}{v:Value}(hr:Rel w ρ S.heap)(hx:VR w ρ S.heap x v)(h:Ot S t n x=some r) :
  VR w ρ S.heap r v∧(v=.pointer none∨∃b,v=.pointer (some ⟨b,0,none⟩)∧w.shape? b=some (t,n)):=by
 unfold Ot at h;split at h
 ·
  simp only[Oi]at h;subst h;cases hx;exact⟨.nilp,.inl rfl⟩
 ·
  rename_i g ver;split at h
  ·
   rename_i ob zS;split at h
   ·
    rename_i hk;obtain⟨vO,rfl,rfl,y7,wW⟩:=hk;simp only[Oi]at h;subst h;refine⟨hx,.inr ?_⟩
    cases hx with | ptr _ _ _ _ a ob1 hg hv xK hc =>
    unfold rowsOf at zS;simp only[hg]at zS;split at zS
    ·
     rename_i e1;simp only[Oi]at zS;subst zS;obtain⟨b,hb,rfl⟩:=hc e1;obtain⟨o1,xG,cur,xI,hz,⟨c,yB,yw,_,vQ⟩,hl,yO,hh⟩:=hr.cel hb hg xK;rw[hg]at xG;injection xG with xG;subst xG;refine⟨b,by simp,?_⟩;rw[shape_of xI,yB,vQ wW,y7,Nat.one_mul]
    simp at zS
   simp at h
  simp at h
 simp at h
theorem cellsOf_size{t:TypeId}{n:Nat}(h:Cj P t=some n):P.cellsOf t=n:=by
 obtain⟨i,d,hi,hd,xC,h0⟩:=Cm h;simp[Program.cellsOf,hi,xC]
theorem toU_ok{s d t:TypeId}{n:Nat}{x r:D}{v:Value}(hr:Rel w ρ S.heap)(hs:ptrT P s=some t)(hd:unsT P d=true)(hn:Cj P t=some n)(hx:VR w ρ S.heap x v)(h:Ot S t n x=some r) :
  (convert s d v).run P w=.ok v w∧VR w ρ S.heap r v:=by
 obtain⟨h1,h2⟩:=whole_ptr hr hx h;refine⟨?_,h1⟩;obtain⟨i,td,hi,htd,xC,h0⟩:=Cm hn;rcases h2 with rfl | ⟨b,rfl,hsh⟩
 ·
  simp[convert,run_underlying (ptrT_iff.1 hs),run_underlying (unsT_iff.1 hd),Conv.unsafePointer]
 exact Lib.run_to_unsafe w ⟨b,0,none⟩ (ptrT_iff.1 hs) (unsT_iff.1 hd) hi (by omega) hsh (by simpa using h0)
theorem liesAt_whole{t:TypeId}{n:Nat}(hc:P.cellsOf t=n)(h0:0<n):liesAt P P.depth t (n / P.cellsOf t) 0 t 1=true:=by
 have hd:P.depth=(2*(P.types.size+Made.depth)+1)+1:=rfl;rw[hd];simp only[liesAt,Bool.or_eq_true];left;rw[hd];have h1:n / n=1:=Nat.div_self h0;have hn0:n≠0:=by omega
 simp[rowAt,hc,h1,sameLayout,hn0]
theorem ofU_ok{s d t:TypeId}{n:Nat}{x r:D}{v:Value}(hr:Rel w ρ S.heap)(hs:unsT P s=true)(hd:ptrT P d=some t)(hn:Cj P t=some n)(hx:VR w ρ S.heap x v)(h:Ot S t n x=some r) :
  (convert s d v).run P w=.ok v w∧VR w ρ S.heap r v:=by
 obtain⟨h1,h2⟩:=whole_ptr hr hx h;refine⟨?_,h1⟩;obtain⟨i,td,hi,htd,xC,h0⟩:=Cm hn;rcases h2 with rfl | ⟨b,rfl,hsh⟩
 ·
  simp[convert,run_underlying (unsT_iff.1 hs),run_underlying (ptrT_iff.1 hd),Conv.unsafePointer]
 exact Lib.run_from_unsafe w ⟨b,0,none⟩ (unsT_iff.1 hs) (ptrT_iff.1 hd) hi hsh (liesAt_whole (cellsOf_size hn) h0)
theorem sdata_ok {ts : Array TypeId} {ty : TypeId} {x r : D} {v : Value} (hr : Rel w ρ S.heap) (hx : VR w ρ S.heap x v) (h : sdataD S x = some r) : ∃ u, (Builtin.unsafeSliceData_ ts ty #[v]).run P w = .ok u w ∧ VR w ρ S.heap r u := by
  unfold sdataD at h;split at h
  · simp only [Oi] at h;subst h;cases hx;exact⟨_,Lib.run_unsafeSliceData_nil w ts ty 0 0,.nilp⟩
  · rename_i g ver m;split at h
    · rename_i ob zS;split at h
      · simp only [Oi] at h;subst h
        cases hx with | msl _ _ _ _ _ A c ob1 xV xB hg hv xK hc =>
        refine⟨_,Lib.run_unsafeSliceData_row w ts ty A _ c (by omega),.ptr g ver 0 0 A ob1 hg hv xK fun e=>?_⟩;obtain⟨b,hb,_,hA,_⟩:=hc e;exact⟨b,hb,by rw[hA (.inr rfl)];simp⟩
      simp at h
    simp at h
  simp at h
theorem freeze_set{b n:Nat}{cur:Array Value}{e:TypeId}(h:w.heap[b]?=some (.cells cur e (0,0)))(o:Nat)(hn:n≠0):Xy w (w.freeze ⟨b,o,none⟩ n) b (.cells cur e (o,o+n)):=by
  have xq:=lt_of_heap h;refine⟨by simp[World.freeze,hn],by simp[World.freeze,hn],by simp[World.freeze,hn],by simp[World.freeze,hn],?_,fun k hk=>?_⟩
  · simp[World.freeze,hn,Array.getElem?_modify,h]
  simp[World.freeze,hn,Array.getElem?_modify,Ne.symm hk]
theorem Wj : ∀ {rows : List (List D)} {l : List UInt8}, Py rows = some l → rows.length = l.length ∧ ∀ (j : Nat) (x : UInt8), l[j]? = some x → rows[j]? = some [D.int .u8 (x.toNat : Int)]
  | [], l, h => by
    simp only[Py,Oi]at h;subst h;exact⟨rfl,fun j x h=>by simp at h⟩
  | r :: rows, l, h => by
    unfold Py at h;split at h
    · simp at *
    · rename_i n l' rM;simp only[List.cons.injEq]at rM;obtain⟨rfl,rfl⟩:=rM;split at h
      · rename_i hb;simp only[Om]at h;obtain⟨l2,wu,rfl⟩:=h;obtain⟨h1,h2⟩:=Wj wu;refine⟨by simp[h1],fun j x hj=>?_⟩
        cases j with
        | zero =>
          simp at hj;subst hj;have:(UInt8.ofNat n.toNat).toNat=n.toNat:=by simp;omega
          simp[this];omega
        | succ j=>simpa using h2 j x (by simpa using hj)
      simp at h
    simp at h
theorem ustr_ok {pt it ty e : TypeId} {p r : D} {n : Int} {v : Value} {S' : St} {wr : Bool} (hr : Rel w ρ S.heap) (hp : ptrT P pt = some e) (hc : Cj P e = some 1) (hx : VR w ρ S.heap p v) (h : ustrD S e p n = some (r, S', wr)) :
    ∃u w',(Builtin.unsafeString_ #[pt,it] ty #[v,.int .i64 n]).run P w=.ok u w'∧Xu w ρ S r S' wr u w':=by
  unfold ustrD at h;split at h
  · split at h
    · rename_i hn;subst hn;simp only[Oi,Pi_]at h;obtain⟨rfl,rfl,rfl⟩:=h;cases hx;exact⟨_,w,Lib.run_unsafeString_none w pt it ty none,Xu.pure hr (.str _)⟩
    simp at h
  · rename_i g ver;split at h
    · rename_i ob zS;split at h
      · rename_i xY;obtain⟨hkind,xC,he,hn,uD⟩:=xY;split at h
        · rename_i l hl;simp only[Oi,Pi_]at h;obtain⟨rfl,rfl,rfl⟩:=h
          cases hx with | ptr _ _ _ _ a ob1 hg hv xK rP =>
          unfold rowsOf at zS;simp only[hg]at zS;split at zS
          · rename_i e1;simp only[Oi]at zS;subst zS;subst e1;obtain⟨b,hb,rfl⟩:=rP rfl;obtain⟨o1,xG,cur,xI,hz,⟨c,yB,yw,uY,vQ⟩,yI,yO,hh⟩:=hr.cel hb hg xK;rw[hg]at xG;injection xG with xG;subst xG;obtain⟨xg,hat0⟩:=Wj hl
            have vH:∀(j:Nat) (x:UInt8),l[j]?=some x→ob1.rows[j]?=some [D.int .u8 (x.toNat:Int)]:=fun j x hj=>by
              have h1:=hat0 j x hj;rw[List.getElem?_take]at h1;split at h1
              · exact h1
              simp at h1
            rw[List.length_take,Nat.min_eq_left uD]at xg;obtain⟨m,rfl⟩:∃m:Nat,n=m:=⟨n.toNat,by omega⟩;simp only[Int.toNat_natCast]at xg uD;subst he;subst xg;by_cases xA:l=[]
            · subst xA;simp only[List.length_nil];refine⟨_,w,Lib.run_unsafeString_none w pt it ty _,updN ρ g,?_,?_,.str _,by simp⟩
              · exact rel_drop (o':={ ob1 with ver:=ob1.ver+1 }) hr hb hg xI (⟨rfl,rfl,rfl,rfl,xI,fun _ _=>rfl⟩:Xy w w b (.cells cur ob1.elem (0,0))) (by simp) rfl
              exact Oy (o':={ ob1 with ver:=ob1.ver+1 }) hr hb hg xI (⟨rfl,rfl,rfl,rfl,xI,fun _ _=>rfl⟩:Xy w w b (.cells cur ob1.elem (0,0))) (by simp) rfl
            have zG:l.length≠0:=by simpa using xA
            have xL:=freeze_set xI 0 zG
            have xu:=Lib.run_unsafeString_row (P:=P) w pt it ty ob1.elem (ptrT_iff.1 hp) (cellsOf_size hc) b cur.size (shape_of xI) l xA (by rw[yB,xC];omega) (by unfold maxLen at uY;omega) (fun j x hj=>by
              have xO:=vH j x hj;obtain⟨_,_,v,uy,vL⟩:=hh j _ 0 _ xO rfl;cases vL;rw[add_plain,Nat.zero_add];simp only[World.cell?,xI]
              simpa [xC] using uy)
            simp only[Nat.zero_mul,Nat.zero_add]at xu ⊢;refine⟨_,_,xu,updN ρ g,?_,?_,.str _,by simp⟩
            · exact rel_drop (o':={ ob1 with ver:=ob1.ver+1 }) hr hb hg xI xL (by simp) rfl
            exact Oy (o':={ ob1 with ver:=ob1.ver+1 }) hr hb hg xI xL (by simp) rfl
          simp at zS
        simp at h
      simp at h
    simp at h
  simp at h
theorem strsh_ok {s e : TypeId} {x r : D} {v : Value} {S' : St} {wr : Bool} (hr : Rel w ρ S.heap) (hs : P.underlying s = some (.slice e)) (he : P.underlying e = some (.int .u8)) (hx : VR w ρ S.heap x v) (h : Nc S x = some (r, S', wr)) :
    ∃u w',(convert s s v).run P w=.ok u w'∧Xu w ρ S r S' wr u w':=by
  unfold Nc at h;split at h
  · rename_i g ver n;split at h
    · rename_i ob zS;split at h
      · rename_i xY;obtain⟨wW,xC,rfl,hgr⟩:=xY;simp only[Oi,Pi_]at h;obtain⟨rfl,rfl,rfl⟩:=h
        cases hx with | msl _ _ _ _ _ A c ob1 xV xB hg hv xK hc =>
        unfold rowsOf at zS;simp only[hg]at zS;split at zS
        · rename_i e1;simp only[Oi]at zS;subst zS;subst e1;obtain⟨b,hb,xU,hA,rP⟩:=hc rfl;obtain⟨o1,xG,cur,xI,hz,⟨cc,yB,yw,uY,vQ⟩,yI,yO,hh⟩:=hr.cel hb hg xK;rw[hg]at xG;injection xG with xG;subst xG;obtain⟨cur1,y8,w9⟩:=rP rfl;rw[xI]at y8;injection y8 with y8;injection y8 with y8;subst y8
          have hce:c=ob1.rows.length:=by
            have h1:=vQ hgr;rw[yB,h1,xC]at w9;omega
          have rZ:=hA (.inr rfl);simp only[Nat.zero_mul]at rZ;subst rZ;have xL:=freeze_set xI cur.size (show (1:Nat)≠0 by decide)
          have xu:(convert s s (.slice (some ⟨b,0,none⟩) ob1.rows.length c)).run P w=.ok (.slice (some ⟨b,0,none⟩) ob1.rows.length c) (w.freeze ⟨b,cur.size,none⟩ 1):=by
            simp[convert,run_underlying hs,run_underlying he,markStringish,shape_of xI]
          refine⟨_,_,xu,updN ρ g,rel_drop (o':={ ob1 with ver:=ob1.ver+1 }) hr hb hg xI xL (by simp) rfl,Oy (o':={ ob1 with ver:=ob1.ver+1 }) hr hb hg xI xL (by simp) rfl,?_,by simp⟩;have xH:=Oy (o':={ ob1 with ver:=ob1.ver+1 }) hr hb hg xI xL (by simp) rfl;refine .sl 1 ob1.rows (some ob1.rows.length) ⟨b,0,none⟩ ob1.rows.length c rfl xV (fun k hk=>by simp at hk;omega) (fun r hr'=>by rw[yI r hr',xC]) b 0 (fun i j=>(cur[i*1+j]?).getD .nilFunc) (fun _=>rfl) (fun i r j d hi hj=>?_) (fun i r j d hi hj=>?_)
          · obtain ⟨q1, q2, u, q3, q4⟩ := hh i r j d hi hj;rw[xC]at q3;refine⟨?_,⟨by rw[xL.size];exact lt_of_heap xI,?_,?_⟩,q2 (by omega)⟩
            · simp only[World.cell?,xL.new,Nat.zero_add,q3,Option.isSome_none,Bool.false_eq_true,if_false,Option.getD_some]
            · intro hX;exact (hr.hid b _ hX).2 g hb
            intro g' hg';simp only[updN]at hg';split at hg'
            · simp at hg'
            rename_i xA;exact absurd (hr.inj g' g b hg' hb) xA
          obtain⟨q1,q2,u,q3,q4⟩:=hh i r j d hi hj;rw[xC]at q3;rw[q3];exact q4.mono xH
        simp at zS
      simp at h
    simp at h
  simp at h
theorem rngs_ok{t:TypeId}{s:ByteArray}(hr:Rel w ρ S.heap)(ht:P.underlying t=some .string):∃v w',(Instr.range t (.string s)).run P w=.ok v w'∧Xu w ρ S (.iter S.heap.length 0) (newAt S ⟨1,2,[[.str s,.int .i64 0]],0,3,false⟩) true v w':=by
  have xD:=Xx.alloc w (.stringIter s 0);refine⟨.pointer (some ⟨w.heap.size,0,none⟩),w.alloc (.stringIter s 0),?_,_,rel_newiter (ob:=⟨1,2,[[.str s,.int .i64 0]],0,3,false⟩) hr xD rfl rfl rfl,Fh hr xD,?_,by simp⟩
  · unfold Instr.range;rw[Ab (run_underlying ht w)];rfl
  exact .iter _ 0 _ ⟨1,2,[[.str s,.int .i64 0]],0,3,false⟩ (by simp[newAt]) (Nat.le_refl _) (fun _=>by simp[upd])
theorem Vi{b pos:Nat}{s:ByteArray}(h:w.heap[b]?=some (.stringIter s pos)):(getObj b).run P w=.ok (.stringIter s pos) w:=by
 simp[getObj,Sem.run,h]
theorem run_setIter{b pos:Nat}{s:ByteArray}{o:Obj}(h:w.heap[b]?=some (.stringIter s pos)):(setObj b o).run P w=.ok () { w with heap:=w.heap.setIfInBounds b o }:=by
 simp[setObj,Sem.run,h]
theorem nexts_ok {ty : TypeId} {g ver : Nat} {r : D} {v : Value} {S' : St} {wr : Bool} (hr : Rel w ρ S.heap) (hx : VR w ρ S.heap (.iter g ver) v) (h : nextsD S g ver = some (r, S', wr)) :
    ∃u w',(Instr.next v true ty).run P w=.ok u w'∧Xu w ρ S r S' wr u w':=by
  unfold nextsD at h;split at h
  · rename_i ob zS;split at h
    · rename_i hk;split at h
      · rename_i s pos xE
        cases hx with | iter _ _ b ob1 hg hv hc =>
        unfold rowsOf at zS;simp only[hg]at zS;split at zS
        · rename_i e1;simp only[Oi]at zS;subst zS;subst e1;have hb:=hc rfl;obtain⟨s1,p1,h1,h2⟩:=hr.iter hb hg hk.1 hk.2;rw[xE]at h2;simp only[List.cons.injEq,D.str.injEq,D.int.injEq,and_true,true_and]at h2;obtain⟨rfl,rfl⟩:=h2;rw[Int.toNat_natCast]at h;have xV:(∀c e f,Obj.stringIter s p1≠.cells c e f)∧∀r,Obj.stringIter s p1≠.loop r:=⟨(fun _ _ _ e=>by cases e),(fun _ e=>by cases e)⟩;have vG:=lt_of_heap h1;split at h
          · rename_i xq;simp only[Oi,Pi_]at h;obtain⟨rfl,rfl,rfl⟩:=h;have xL:=Xy.setObj (w:=w) (o:=.stringIter s (p1+(Utf8.decode s p1).2)) vG;refine⟨.tuple #[.bool true,goInt p1,.int .i32 (Utf8.decode s p1).1],_,?_,ρ,rel_iter hr hb hg hk.1 hk.2 h1 xV xL ⟨rfl,rfl,rfl,by simp[xE],rfl⟩ rfl,Lb hr hb hg hk.1 h1 xV xL ⟨rfl,rfl,rfl,by simp[xE],rfl⟩,?_,by simp⟩
            · unfold Instr.next
              simp only;rw[Ab (Vi h1)];simp only[xq,if_true];rw[Ab (run_setIter h1)];rfl
            have hv:VL w ρ S.heap [D.bool true,.int .i64 p1,.int .i32 (Utf8.decode s p1).1] [.bool true,goInt p1,.int .i32 (Utf8.decode s p1).1]:=.cons (.bool _) (.cons (.int _ _) (.cons (.int _ _) .nil));have xH:=Lb hr hb hg hk.1 h1 xV xL (o':={ ob1 with rows:=[[.str s,.int .i64 (p1+(Utf8.decode s p1).2:Nat)]] }) ⟨rfl,rfl,rfl,by simp[xE],rfl⟩;exact .tup _ [.bool true,goInt p1,.int .i32 (Utf8.decode s p1).1] rfl (fun j d v e1 e2=>(hv.get e1 e2).mono xH)
          rename_i xq;simp only[Oi,Pi_]at h;obtain⟨rfl,rfl,rfl⟩:=h;refine⟨.tuple #[.bool false],w,?_,Xu.pure hr (.tup [.bool false] [.bool false] rfl (fun j d v=>VL.get (.cons (.bool _) .nil)))⟩;unfold Instr.next
          simp only;rw[Ab (Vi h1)];simp only[xq,if_false];rfl
        simp at zS
      simp at h
    simp at h
  simp at h
theorem ext_none : Extern.allNextRows.lookup "" = none := by kernel_rfl
theorem ext_idx : Extern.allNextRows.lookup "internal/bytealg.IndexByteString" = none ∧ Extern.allGenericRows.lookup "internal/bytealg.IndexByteString" = none ∧ Extern.allTypedRows.lookup "internal/bytealg.IndexByteString" = none ∧ Extern.allRows.lookup "internal/bytealg.IndexByteString" = some Extern.BytealgIndexByte.indexByte := ⟨by kernel_rfl, by kernel_rfl, by kernel_rfl, by kernel_rfl⟩
theorem ext_cnt : Extern.allNextRows.lookup "internal/bytealg.CountString" = none ∧ Extern.allGenericRows.lookup "internal/bytealg.CountString" = none ∧ Extern.allTypedRows.lookup "internal/bytealg.CountString" = none ∧ Extern.allRows.lookup "internal/bytealg.CountString" = some Extern.BytealgCount.count := ⟨by kernel_rfl, by kernel_rfl, by kernel_rfl, by kernel_rfl⟩
theorem ext_esc : Extern.allNextRows.lookup "internal/abi.NoEscape" = none ∧ Extern.allGenericRows.lookup "internal/abi.NoEscape" = none ∧ Extern.allTypedRows.lookup "internal/abi.NoEscape" = none ∧ Extern.allRows.lookup "internal/abi.NoEscape" = some Extern.AbiNoEscape.same := ⟨by kernel_rfl, by kernel_rfl, by kernel_rfl, by kernel_rfl⟩
theorem run_ext {f : FuncId} {fn : Func} {name : String} {g : Array Value → Sem Value} {vs : Array Value} {v : Value} {w' : World} (hf : P.funcs[f]? = some fn) (hb : fn.body.isNone = true) (hn : fn.name = name) (ho : fn.origin = "") (xA : (name == "runtime.NumGoroutine") = false)
  (hx:Extern.allNextRows.lookup name=none∧Extern.allGenericRows.lookup name=none∧Extern.allTypedRows.lookup name=none∧Extern.allRows.lookup name=some g) (h:(g vs).run P w=.ok v w'):(callFunc f vs).run P w=.ok (.value v) w':=by
 obtain⟨h1,h2,h3,h4⟩:=hx;have hp:Sem.run P program w=.ok P w:=rfl;have zY:Extern.findNext fn=none:=by simp[Extern.findNext,hn,ho,h1,ext_none]
 have kT:Extern.find fn=some g:=by simp[Extern.find,hn,h2,h3,h4]
 unfold callFunc;rw[Ab hp];simp only[hf];rw[if_neg (by rw[hn,xA];simp),if_pos hb];rw[Ab (a:=()) (w':=w) rfl];simp only[zY,kT];rw[Ab h];rfl
theorem idxb_run{s:ByteArray}{c:Int}:(Extern.BytealgIndexByte.indexByte #[.string s,.int .u8 c]).run P w=.ok (.int .i64 (match (List.range s.size).find? (fun i=>s[i]! == UInt8.ofNat c.toNat) with | some i=>(i:Int) | none=>-1)) w:=by
 have hdef:Extern.BytealgIndexByte.indexByte #[.string s,.int .u8 c]=(do
   let b ←Extern.Bytes.bytesOf (.string s)
   let c ←Extern.Bytes.asByte (.int .u8 c)
   match (List.range b.size).find? fun i=>b[i]! == c with
   | some i=>pure (goInt i)
   | none=>pure (goInt (-1))):=rfl
 rw[hdef,Ab (a:=s) (w':=w) rfl,Ab (a:=UInt8.ofNat c.toNat) (w':=w) rfl];cases (List.range s.size).find? (fun i=>s[i]! == UInt8.ofNat c.toNat)<;>rfl
theorem cntb_run{s:ByteArray}{c:Int}:(Extern.BytealgCount.count #[.string s,.int .u8 c]).run P w=.ok (.int .i64 (s.foldl (fun n x=>if x==UInt8.ofNat c.toNat then n+1 else n) (0:Nat))) w:=by
 have hdef:Extern.BytealgCount.count #[.string s,.int .u8 c]=(do
   let b ←Extern.Bytes.bytesOf (.string s)
   let c ←Extern.Bytes.asByte (.int .u8 c)
   pure (goInt (b.foldl (fun n x=>if x==c then n+1 else n) (0:Nat)))):=rfl
 rw[hdef,Ab (a:=s) (w':=w) rfl,Ab (a:=UInt8.ofNat c.toNat) (w':=w) rfl];rfl
theorem appNoneS{t u ty e:TypeId}{i:TypeInfo}(ht:P.underlying t=some (.slice e))(hu:P.underlying u=some .string)(hi:P.info? e=some i){A:Option Addr}{n c:Nat}(xV:n≤c){s:ByteArray}(hs:s.size=0) :
  (Builtin.append_ #[t,u] ty #[.slice A n c,.string s]).run P w=.ok (.slice A n c) w:=by
 cases A with
 | none=>simp[Builtin.append_,run_underlying ht,run_underlying hu,sizeOf,typeInfo,hi,Builtin.lenOf,Builtin.firstCells,xV,hs]
 | some a=>simp[Builtin.append_,run_underlying ht,run_underlying hu,sizeOf,typeInfo,hi,Builtin.lenOf,Builtin.firstCells,xV,hs,storeCells]
theorem appstr_ok{t u ty e:TypeId}{i:TypeInfo}{kind:Nat}{z:List D}{s r:D}{vs:Value}{str:ByteArray}{S':St}{wr:Bool}(hr:Rel w ρ S.heap)(ht:P.underlying t=some (.slice e))(hu:P.underlying u=some .string)(hi:P.info? e=some i)(hn:Cj P e=some 1)(hz:H8 P e=some z)(vT:z.length=1)(hb:0<i.bytes)(hk:kind=0∨kind=1∨kind=2)
    (hs:VR w ρ S.heap s vs) (h:Av e 1 i.bytes kind s (byteRows str) S=some (r,S',wr)) :
    ∃v w',(Builtin.append_ #[t,u] ty #[vs,.string str]).run P w=.ok v w'∧Xu w ρ S r S' wr v w':=by
  obtain⟨i1,zv,wO,wQ,hzc,_,_⟩:=Gd (w:=w) (ρ:=ρ) (H:=S.heap) hz;rw[hi]at wO;injection wO with wO;subst wO;obtain⟨i2,d2,zD,hd2,xC,h0⟩:=Cm hn;rw[hi]at zD;injection zD with zD;subst zD;have xg:(byteRows str).length=str.size:=by simp[byteRows]
  refine Wl hr hi hn hzc vT hb hk hs (fun r hr'=>by
    simp only[byteRows,List.mem_map]at hr';obtain⟨b,_,rfl⟩:=hr'
    rfl) ?_ ?_ h
  · intro xA A m c hm;exact appNoneS ht hu hi hm (by rw[←xg,xA];rfl)
  intro xA;refine⟨Lib.strCells str,by rw[Lib.strCells_length,xg,Nat.mul_one],Lib.strCells_oneCell str,fun i r j d hi' hj=>?_,fun yY k1 k2=>?_,fun bb sLen sCap olds xU holds hg k1 k2=>?_,fun g sLen sCap cur hg wL xW=>?_⟩
  · simp only [byteRows, Lp_, Om] at hi';obtain⟨b,hb',rfl⟩:=hi';have hj0:j=0:=by have:=lt_of_some hj;simp at this;exact this
    subst hj0;simp at hj;subst hj;refine⟨rfl,fun _=>rfl,.int .u8 b.toNat,?_,.int _ _⟩;simp[Lib.strCells,hb']
  · rw [xg] at yY k1 k2 ⊢;have:=run_append_nil_string (P:=P) w t u ty e i zv ht hu hi wQ str yY k1 k2;have e:Array.map (fun b:UInt8=>Value.int .u8 (b.toNat:Int)) str.data=(Lib.strCells str).toArray:=by apply Array.ext';simp[Lib.strCells]
    rw[this,e]
  · rw [xg] at hg k1 k2 ⊢;exact Lib.run_append_grow_string (P:=P) w t u ty e i zv ht hu hi wQ bb sLen sCap olds xU holds str hg k1 k2
  rw[xg]at wL ⊢;rw[Lib.strCells_length,xC,Nat.mul_one]at xW ⊢;exact Lib.run_append_room_string (P:=P) w t u ty e i ht hu hi xC g sLen sCap cur hg str wL xW
theorem appmk_ok{t u ty e:TypeId}{i:TypeInfo}{n:Nat}{z:List D}{k kn:IntKind}{m:Int}{r:D}{S':St}{wr:Bool}(hr:Rel w ρ S.heap)(ht:P.underlying t=some (.slice e))(hu:P.underlying u=some (.int kn))(hi:P.info? e=some i)(hn:Cj P e=some n)(hz:H8 P e=some z)(vT:z.length=n){kd:Nat}(uO:kd=0∨kd=2)(hb:0<i.bytes)
    (h:(if 0<m∧m.toNat*i.bytes≤140737488355328 then some (D.msl S.heap.length 0 0 m.toNat none,newAt S ⟨e,n,List.replicate m.toNat z,0,kd,true⟩,true) else none)=some (r,S',wr)) :
    ∃v w',(Builtin.append_ #[t,u] ty #[.slice none 0 0,.int k m]).run P w=.ok v w'∧Xu w ρ S r S' wr v w':=by
  obtain⟨i1,zv,wO,wQ,hzc,xw,yL⟩:=Gd (w:=w) (ρ:=ρ) (H:=S.heap) hz;rw[hi]at wO;injection wO with wO;subst wO;obtain⟨i2,d2,zD,hd2,xC,h0⟩:=Cm hn;rw[hi]at zD;injection zD with zD;subst zD;split at h
  · rename_i hc;obtain⟨hm,hby⟩:=hc;simp only[Oi,Pi_]at h;obtain⟨rfl,rfl,rfl⟩:=h;obtain⟨q,rfl⟩:∃q:Nat,m=q:=⟨m.toNat,by omega⟩;rw[Int.toNat_natCast]at hby ⊢;have h1:q*1≤q*i.bytes:=Nat.mul_le_mul_left _ hb;have hq:0<q:=by omega
    have zV:q≤maxLen:=by simp only[maxLen];omega
    have xu:=Lib.run_append_nil_zeros (P:=P) w t u ty e i zv k kn ht hu hi wQ q hq (by rw[xC];exact h0) (by omega) (by omega);have xD:=Xx.drewAlloc w (.cells (Builtin.zeroCells zv.cells q++Builtin.zeroCells zv.cells (grownCap w q 0 e-q)) e);have yK:=grownCap_ge w q 0 e;have uY:=grownCap_le_maxLen w q 0 e zV;subst vT;have hzs:zv.cells.size=z.length:=hzc.1
    have wC:(Builtin.zeroCells zv.cells q++Builtin.zeroCells zv.cells (grownCap w q 0 e-q)).size=grownCap w q 0 e*z.length:=by
      simp only[Array.size_append,size_zeroCells,hzs,←Nat.add_mul];congr 1;omega
    have yC:=RowsIn.replicate (kk:=True) hzc xw yL q h0
    have xE:∀i' r' j d,(List.replicate q z)[i']?=some r'→r'[j]?=some d→d.Xv=true∧d.free=true∧∃v,(Builtin.zeroCells zv.cells q++Builtin.zeroCells zv.cells (grownCap w q 0 e-q))[i'*z.length+j]?=some v∧VR w ρ S.heap d v:=by
      intro i' r' j d hi' hj;obtain⟨q1,q2,v,q3,q4⟩:=yC.2 i' r' j d hi' hj;refine⟨q1,q2 trivial,v,?_,q4⟩;have e1:Builtin.zeroCells zv.cells q=(Array.range (q*z.length)).map (zv.cells[· % zv.cells.size]!):=by rw[←hzs];rfl
      rw[←e1]at q3;rw[Array.getElem?_append_left (Array.getElem?_eq_some_iff.1 q3).1];exact q3
    refine⟨_,_,xu,_,J4 (ob:=⟨e,z.length,List.replicate q z,0,kd,true⟩) hr xD h0 ⟨_,wC,by simpa using yK,uY,by simp⟩ (fun r hr'=>by rw[List.eq_of_mem_replicate hr']) (uO.elim .inl fun h=>.inr (.inr h)) (fun i' r' j d hi' hj=>?_),Fh hr xD,?_,by simp⟩
    · obtain ⟨q1, q2, q3⟩ := xE i' r' j d hi' hj;exact⟨q1,fun _=>q2,q3⟩
    refine .msl _ 0 0 _ none _ _ ⟨e,z.length,List.replicate q z,0,kd,true⟩ yK (fun k hk=>by cases hk) (by simp[newAt]) (Nat.le_refl _) (by show kd≠3;omega) fun _=>⟨w.heap.size,by simp[upd],by simp,fun _=>by simp,fun _=>⟨_,xD.new,by simpa using wC⟩⟩
  simp at h
end
open Go.RowKit
section
variable {P:Program} {w:World} {ρ:Xn} {S:St}
theorem over_rows{run:Sem Value}{kind g ver lo n m c:Nat}{cap:Option Nat}{A:Addr}{ob:Xh}{new:List (List D)}{news:List Value}
    (hr:Rel w ρ S.heap) (hs:VR w ρ S.heap (.msl g ver lo n cap) (.slice (some A) n c)) (hg:S.heap[g]?=some ob) (hv:ob.ver=ver) (xC:ob.sz=1) (yO:kW kind ob.kind=true)
    (hm:new.length=m) (hmn:m≤n) (uD:news.length=m) (hnew1:∀r∈new,r.length=1)
    (hnr:∀(i:Nat) (d:D),new[i]?=some [d]→d.Xv=true∧(kind≠0→d.free=true)∧∃v,news[i]?=some v∧VR w ρ S.heap d v)
    (rA:m=0→run.run P w=.ok (goInt 0) w)
    (xu:∀(b o:Nat) (cur:Array Value) (e:TypeId),m≠0→w.heap[b]?=some (.cells cur e (0,0))→o+m≤cur.size→A=⟨b,o,none⟩→run.run P w=.ok (goInt ((m:Nat):Int)) (w.setRow b (cur.toList.take o++news++cur.toList.drop (o+m)).toArray)) :
    ∃v w',run.run P w=.ok v w'∧Xu w ρ S (.int .i64 m) (setAt S g { ob with rows:=ob.rows.take lo++new++ob.rows.drop (lo+m) }) true v w':=by
  cases hs with
  | msl _ _ _ _ _ _ _ ob1 xV xB zP yV xK xI =>
  rw[hg]at zP;injection zP with zP;subst zP;obtain⟨b,hρ,xU,hA,_⟩:=xI hv;obtain⟨o1,xG,cur,hc,hz,⟨cc,yB,yw,uY,vQ⟩,hl,hkk',hh⟩:=hr.cel hρ hg xK;rw[hg]at xG;injection xG with xG;subst xG;obtain⟨hk01,hkf,hkf'⟩:=kW_ok yO;rw[xC]at hl hh yB hA;simp only[Nat.mul_one]at yB hh hA
  have hrl':(ob.rows.take lo++new++ob.rows.drop (lo+m)).length=ob.rows.length:=by
    simp only[Ll_,List.length_take,List.length_drop];omega
  have wG:({ ob with rows:=ob.rows.take lo++new++ob.rows.drop (lo+m) }:Xh).sz=ob.sz∧({ ob with rows:=ob.rows.take lo++new++ob.rows.drop (lo+m) }:Xh).elem=ob.elem∧({ ob with rows:=ob.rows.take lo++new++ob.rows.drop (lo+m) }:Xh).kind=ob.kind∧ob.rows.length≤({ ob with rows:=ob.rows.take lo++new++ob.rows.drop (lo+m) }:Xh).rows.length∧ob.ver≤({ ob with rows:=ob.rows.take lo++new++ob.rows.drop (lo+m) }:Xh).ver:=⟨rfl,rfl,rfl,by show ob.rows.length≤(ob.rows.take lo++new++ob.rows.drop (lo+m)).length;omega,Nat.le_refl _⟩
  have wN:∀r∈ob.rows.take lo++new++ob.rows.drop (lo+m),r.length=ob.sz:=by
    intro r hr';rw[xC];rcases List.mem_append.1 hr' with h1 | h1
    · rcases List.mem_append.1 h1 with h2 | h2
      · exact hl r (List.mem_of_mem_take h2)
      exact hnew1 r h2
    exact hl r (List.mem_of_mem_drop h1)
  by_cases hm0:m=0
  · have hnew : new = [] := List.eq_nil_of_length_eq_zero (hm.trans hm0);subst hnew;have xL:Xy w w b (.cells cur ob.elem (0,0)):=⟨rfl,rfl,rfl,rfl,hc,fun _ _=>rfl⟩;have yX:ob.rows.take lo++[]++ob.rows.drop (lo+m)=ob.rows:=by rw[hm0];simp
    refine⟨_,w,rA hm0,ρ,Nn xK hr hρ hg hc xL rfl wG (fun _ _ _=>rfl) ⟨cc,by rw[xC,Nat.mul_one];exact yB,by show _≤cc;rw[yX];exact yw,uY,by intro h;show _=(_:List (List D)).length;rw[yX];exact vQ h⟩ wN (by rw[show ({ ob with rows:=ob.rows.take lo++[]++ob.rows.drop (lo+m) }:Xh).rows=ob.rows from yX];intro i r j d h1 h2;have:=hh i r j d h1 h2;simpa [xC] using this),La hr hρ hg hc xL rfl wG (fun _ _ _=>rfl),by rw[hm0];exact .int _ _,by simp⟩
  have rZ:=hA (.inl (by omega));have xW:lo+m≤cur.size:=by omega
  have hrn:=xu b lo cur ob.elem hm0 hc xW rZ;have xL:=Xy.setRow (cs:=(cur.toList.take lo++news++cur.toList.drop (lo+m)).toArray) hc
  have yu:∀q:Nat,(cur.toList.take lo++news++cur.toList.drop (lo+m)).toArray[q]?=if lo≤q∧q<lo+m then news[q-lo]? else cur[q]?:=by
    intro q;have:=Nh (cur:=cur.toList) (vs:=news) (o:=lo) (by rw[uD];simpa using xW) q;rw[uD]at this;simpa using this
  have yj:(cur.toList.take lo++news++cur.toList.drop (lo+m)).toArray.size=cur.size:=by
    simp only[List.size_toArray,Ll_,List.length_take,List.length_drop,Array.length_toList];omega
  generalize (cur.toList.take lo++news++cur.toList.drop (lo+m)).toArray=cur' at xL yu yj hrn;have uK:ob.kind=1→∀q,q<ob.rows.length*ob.sz→cur'[q]?=cur[q]?:=fun h=>absurd h hk01
  have xE:∀i' r' j d,(ob.rows.take lo++new++ob.rows.drop (lo+m))[i']?=some r'→r'[j]?=some d→d.Xv=true∧(ob.kind≠0→d.free=true)∧∃v,cur'[i'*ob.sz+j]?=some v∧VR w ρ S.heap d v:=by
    intro i' r' j d hi' hj;have hr1:=wN r' (Lm hi');rw[xC]at hr1 ⊢;obtain⟨d',rfl⟩:∃d',r'=[d']:=List.length_eq_one_iff.1 hr1;have hj0:j=0:=by have:=lt_of_some hj;simp at this;exact this
    subst hj0;simp only[Lz,Oi]at hj;subst hj;simp only[Nat.mul_one,Nat.add_zero];have zQ:(ob.rows.take lo).length=lo:=by rw[List.length_take];omega
    rw[Lo_]at hi';by_cases c1:i'<lo
    · rw [La_ (by omega), List.getElem?_take_of_lt c1] at hi';obtain⟨q1,q2,v,q3,q4⟩:=hh i' _ 0 d' hi' rfl;refine⟨q1,q2,v,?_,q4⟩;rw[yu,if_neg (by omega)];simpa using q3
    rw[Lr_ (by omega),zQ]at hi';by_cases c2:i'-lo<m
    · rw [La_ (by omega)] at hi';obtain⟨q1,q2,v,q3,q4⟩:=hnr (i'-lo) d' hi';refine⟨q1,fun h=>q2 (hkf h),v,?_,q4⟩;rw[yu,if_pos (by omega)];exact q3
    rw[Lr_ (by omega),List.getElem?_drop]at hi';obtain⟨q1,q2,v,q3,q4⟩:=hh _ _ 0 d' hi' rfl;refine⟨q1,q2,v,?_,q4⟩;rw[yu,if_neg (by omega)];rw[Nat.add_zero,show lo+m+(i'-lo-new.length)=i' by omega]at q3;exact q3
  exact⟨_,_,hrn,ρ,Nn xK hr hρ hg hc xL yj wG uK ⟨cc,by rw[yj,xC,Nat.mul_one];exact yB,by show (ob.rows.take lo++new++ob.rows.drop (lo+m)).length≤cc;omega,uY,fun h=>by show cc=(ob.rows.take lo++new++ob.rows.drop (lo+m)).length;rw[hrl'];exact vQ h⟩ wN xE,La hr hρ hg hc xL yj wG uK,.int _ _,by simp⟩
theorem U0 {t u ty e : TypeId} {kind : Nat} {d r : D} {vd vx : Value} {S' : St} {wr : Bool} {src : List (List D)} {cells : List Value} (hr : Rel w ρ S.heap) (ht : P.underlying t = some (.slice e)) (hs1 : (P.info? e).map (·.size) = some 1)
    (hd:VR w ρ S.heap d vd) (yw:cells.length=src.length) (hsrc1:∀r∈src,r.length=1)
    (wz:∀(i:Nat) (d:D),src[i]?=some [d]→d.Xv=true∧(kind≠0→d.free=true)∧∃v,cells[i]?=some v∧VR w ρ S.heap d v)
    (rA:∀(A:Option Addr) (n c:Nat),min src.length n=0→(Builtin.copy_ #[t,u] ty #[.slice A n c,vx]).run P w=.ok (goInt 0) w)
    (xu:∀(b o n c:Nat) (cur:Array Value) (q:TypeId),min src.length n≠0→w.heap[b]?=some (.cells cur q (0,0))→o+min src.length n≤cur.size→(Builtin.copy_ #[t,u] ty #[.slice (some ⟨b,o,none⟩) n c,vx]).run P w=.ok (goInt ((min src.length n:Nat):Int)) (w.setRow b (cur.toList.take o++cells.take (min src.length n)++cur.toList.drop (o+min src.length n)).toArray))
    (h:Dy 1 kind d src S=some (r,S',wr)):∃v w',(Builtin.copy_ #[t,u] ty #[vd,vx]).run P w=.ok v w'∧Xu w ρ S r S' wr v w':=by
  unfold Dy at h;split at h
  · cases hd;simp only[Oi,Pi_]at h;obtain⟨rfl,rfl,rfl⟩:=h;exact⟨_,w,rA none 0 0 (by simp),Xu.pure hr (.int _ _)⟩
  · split at h
    · rename_i s rows cap hc;simp only[Oi,Pi_]at h;obtain⟨rfl,rfl,rfl⟩:=h
      cases hd with
      | sl _ _ _ A n c hn =>
        refine⟨_,w,rA (some A) n c ?_,Xu.pure hr (.int _ _)⟩;rcases hc.2 with h1 | h1
        · have : src = [] := by simpa using h1
          simp[this]
        have:rows=[]:=by simpa using h1
        simp[hn,this]
    simp at h
  · rename_i g ver lo n cap;unfold rowsOf at h
    cases hd with
    | msl _ _ _ _ _ A c ob xV xB hg yV xK xI =>
    simp only[hg]at h;by_cases hv:ob.ver=ver
    · subst hv;simp only[if_true]at h;split at h
      · rename_i hc;simp only[Oi,Pi_]at h;obtain⟨rfl,rfl,rfl⟩:=h;refine over_rows (run:=Builtin.copy_ #[t,u] ty #[.slice (some A) n c,vx]) (m:=min src.length n) (new:=src.take (min src.length n)) (news:=cells.take (min src.length n)) hr (.msl g ob.ver lo n cap A c ob xV xB hg yV xK xI) hg rfl hc.1 hc.2 (by rw[List.length_take];omega) (by omega) (by rw[List.length_take,yw];omega) (fun r hr'=>hsrc1 r (List.mem_of_mem_take hr')) (fun i d hi=>?_) (fun h0=>rA _ _ _ h0) (fun b o cur q h0 yB xW hA=>?_)
        · have zh : i < min src.length n := by have := lt_of_some hi; rw [List.length_take] at this; omega
          rw[List.getElem?_take_of_lt zh]at hi;obtain⟨q1,q2,v,q3,q4⟩:=wz i d hi;exact⟨q1,q2,v,by rw[List.getElem?_take_of_lt zh];exact q3,q4⟩
        subst hA;exact xu b o n c cur q h0 yB xW
      simp at h
    simp[hv]at h
  simp at h
theorem copy_ok{t ty e:TypeId}{kind:Nat}{d x r:D}{vd vx:Value}{S':St}{wr:Bool}{src:List (List D)}(hr:Rel w ρ S.heap)(ht:P.underlying t=some (.slice e))(hn:Cj P e=some 1)
    (hd:VR w ρ S.heap d vd) (hx:VR w ρ S.heap x vx) (qD:readK kind S 1 x=some src) (h:Dy 1 kind d src S=some (r,S',wr)) :
    ∃v w',(Builtin.copy_ #[t,t] ty #[vd,vx]).run P w=.ok v w'∧Xu w ρ S r S' wr v w':=by
  obtain⟨i,d2,hi,hd2,xC,h0⟩:=Cm hn;have hs1:(P.info? e).map (·.size)=some 1:=by rw[hi];simp[xC]
  obtain⟨A,c,rfl,yI,hs⟩:=srcK_ok hr hx qD;by_cases he:src=[]
  · subst he;refine U0 (cells:=[]) hr ht hs1 hd rfl (by simp) (by simp) (fun A' n c' hm=>?_) (fun b o n c' cur q hm=>by simp at hm) h;exact run_copy_none (P:=P) w t t ty e A' A n c' _ c ht hs1 (by simp)
  obtain⟨b0,o0,f,rfl,hf⟩:=hs he
  have uS:∀(i:Nat) (d:D),src[i]?=some [d]→w.cell? ⟨b0,o0+i,none⟩=some (f i 0)∧VR w ρ S.heap d (f i 0)∧d.Xv=true∧(kind≠0→d.free=true):=by
    intro i d hi;obtain⟨q1,q2,q3,q4⟩:=hf i [d] 0 d hi rfl;rw[Nat.mul_one,Nat.add_zero]at q1;exact⟨q1,q2,q3,q4⟩
  have zT:∀i,i<src.length→∃d,src[i]?=some [d]:=by
    intro i hi;have h1:=yI _ (List.getElem_mem hi);obtain⟨d,hd⟩:=List.length_eq_one_iff.1 h1;exact⟨d,by rw[Lg hi,hd]⟩
  have vQ:∀(j:Nat) (v:Value),((List.range src.length).map fun i=>f i 0)[j]?=some v→j<src.length∧v=f j 0:=by
    intro j v hj;have yP:=lt_of_some hj;simp only[List.length_map,List.length_range]at yP;rw[Lp_,List.getElem?_range yP]at hj;simp only[Option.map_some,Oi]at hj;exact⟨yP,hj.symm⟩
  refine U0 (cells:=(List.range src.length).map fun i=>f i 0) hr ht hs1 hd (by simp) yI (fun i d hi=>?_) (fun A' n c' hm=>?_) (fun b o n c' cur q hm yB xW=>?_) h
  · obtain ⟨q1, q2, q3, q4⟩ := uS i d hi;have zh:=lt_of_some hi;exact⟨q3,q4,f i 0,by rw[Lp_,List.getElem?_range zh];rfl,q2⟩
  · exact run_copy_none (P:=P) w t t ty e A' (some ⟨b0,o0,none⟩) n c' _ c ht hs1 hm
  have hl:(((List.range src.length).map fun i=>f i 0).take (min src.length n)).length=min src.length n:=by simp
  have:=run_copy_row (P:=P) w t t ty e b o n c' ⟨b0,o0,none⟩ src.length c cur q (((List.range src.length).map fun i=>f i 0).take (min src.length n)) ht hs1 yB hl (fun j v hj=>?_) (by rw[hl];exact xW) (fun v hv=>?_)
  · rw [hl] at this;exact this
  · have yP : j < min src.length n := by have := lt_of_some hj; rw [hl] at this; exact this
    rw[List.getElem?_take_of_lt yP]at hj;obtain⟨h1,rfl⟩:=vQ j v hj;obtain⟨d,hd⟩:=zT j h1;rw[add_plain];exact (uS j d hd).1
  obtain⟨j,hj,rfl⟩:=List.mem_iff_getElem.1 (List.mem_of_mem_take hv);simp only[List.length_map,List.length_range]at hj;obtain⟨d,hd⟩:=zT j hj;simp only[List.getElem_map,List.getElem_range];exact ((uS j d hd).2.1.oneCell (uS j d hd).2.2.1).1
theorem copys_ok{t u ty e:TypeId}{kind:Nat}{d r:D}{s:ByteArray}{vd:Value}{S':St}{wr:Bool}(hr:Rel w ρ S.heap)(ht:P.underlying t=some (.slice e))(hn:Cj P e=some 1)
    (hd:VR w ρ S.heap d vd) (h:Dy 1 kind d (byteRows s) S=some (r,S',wr)) :
    ∃v w',(Builtin.copy_ #[t,u] ty #[vd,.string s]).run P w=.ok v w'∧Xu w ρ S r S' wr v w':=by
  obtain⟨i,d2,hi,hd2,xC,h0⟩:=Cm hn;have hs1:(P.info? e).map (·.size)=some 1:=by rw[hi];simp[xC]
  have wD:(byteRows s).length=s.size:=by simp[byteRows]
  have yw:(Lib.byteCells s.data.toList).length=s.size:=by rw[Lib.byteCells_length];simp
  refine U0 (cells:=Lib.byteCells s.data.toList) hr ht hs1 hd (by rw[yw,wD]) (fun r hr'=>?_) (fun i d hi=>?_) (fun A n c hm=>?_) (fun b o n c cur q hm yB xW=>?_) h
  · simp only [byteRows, List.mem_map] at hr';obtain⟨_,_,rfl⟩:=hr';rfl
  · simp only [byteRows, Lp_, Om, List.cons.injEq, and_true] at hi;obtain⟨b,hb,rfl⟩:=hi;refine⟨rfl,fun _=>rfl,.int .u8 b.toNat,?_,.int _ _⟩;simp[Lib.byteCells,hb]
  · rw [wD] at hm;simp only[Builtin.copy_,Sem.run_bind];cases A<;>simp[run_underlying ht,Builtin.lenOf,Builtin.firstCells,sizeOf,typeInfo,hi,hm,storeCells,Result.andThen]
  rw[wD]at hm xW ⊢;have hl:((Lib.byteCells s.data.toList).take (min s.size n)).length=min s.size n:=by rw[List.length_take,yw];omega
  have xH:=run_storeCells_at P b o q ((Lib.byteCells s.data.toList).take (min s.size n)) 0 cur w yB (by rw[hl];simpa using xW) (fun v hv=>Lib.byteCells_one _ v (List.mem_of_mem_take hv));rw[hl]at xH;simp only[Nat.add_zero]at xH;simp[Builtin.copy_,run_underlying ht,Builtin.lenOf,Builtin.firstCells,sizeOf,typeInfo,hi];rw[show List.take (min s.size n) (List.map (fun b:UInt8=>Value.int IntKind.u8 (b.toNat:Int)) s.data.toList)=(Lib.byteCells s.data.toList).take (min s.size n) from rfl,xH];simp[Result.andThen]
theorem digits_u8:∀(n t:Nat) (acc:Array Value),(∀(i:Nat) (v:Value),acc[i]?=some v→∃k:Int,v=.int .u8 k)→∀(i:Nat) (v:Value),(Extern.BytealgMakeNoZero.digits n t acc)[i]?=some v→∃k:Int,v=.int .u8 k
 | 0,_,_,h=>h
 | n + 1, t, acc, h => by
  rw[Extern.BytealgMakeNoZero.digits];refine digits_u8 n _ _ fun i v hi=>?_;rw[Array.getElem?_push]at hi;split at hi
  ·
   simp only[Oi]at hi;exact⟨_,hi.symm⟩
  exact h i v hi
theorem mknz_run(ps:Array TypeId){t e:TypeId}(ht:P.underlying t=some (.slice e))(n:Nat)(hn:n≤140737488355328) :
  ∃cs:Array Value,(Extern.BytealgMakeNoZero.makeNoZero ps #[t] #[.int .i64 n]).run P w=.ok (.slice (some ⟨w.heap.size,0,none⟩) n cs.size) (w.drew.drew.alloc (.cells cs e))∧n≤cs.size∧cs.size≤maxLen∧∀(i:Nat) (v:Value),cs[i]?=some v→∃k:Int,v=.int .u8 k:=by
 obtain⟨cs,h1,h2,h3⟩:=Lib.run_makeNoZero (P:=P) w ps t e ht n (by omega);refine⟨cs,h1,h2,h3 (by simp only[maxLen];omega),?_⟩
 have hdef:Extern.BytealgMakeNoZero.makeNoZero ps #[t] #[.int .i64 n] =
   (do
    let .slice elem ← underlying t | stuck "bytealg.MakeNoZero: slice type expected"
    if (n : Int) < 0 || (n : Int) > 2 ^ 48 then runtimePanic (.error "makeslice: len out of range")
    let cap ←choose (.appendCap (n:Int).toNat 0 elem)
    askRoom cap
    let bytes ← choose (.extern "internal/bytealg.MakeNoZero.bytes" 0)
    let a ←newRow elem (Extern.BytealgMakeNoZero.digits cap bytes #[])
    pure (.slice (some a) (n:Int).toNat cap)):=rfl
 rw[hdef]at h1;have g1:¬(n:Int)<0:=by omega
 have g2:¬(281474976710656:Int)<(n:Int):=by omega
 simp[run_underlying ht,g1,g2,Question.forced,newRow]at h1;obtain⟨_,h5⟩:=h1;have h6:=congrArg (fun w':World=>w'.heap[w.heap.size]?) h5;have e1:∀o:Obj,(w.drew.drew.alloc o).heap[w.heap.size]?=some o:=fun o=>heap_alloc_new w.drew.drew o;simp only[e1,Oi,Obj.cells.injEq]at h6;obtain⟨h6,_⟩:=h6;rw[←h6];exact digits_u8 _ _ _ (by simp)
theorem drew2_add(w:World)(o:Obj):Xx w (w.drew.drew.alloc o) o:=⟨rfl,rfl,rfl,by simp,heap_alloc_new w.drew.drew o,fun k h=>heap_alloc_old w.drew.drew o h⟩
theorem mknz_ok(ps:Array TypeId){t e:TypeId}{k:IntKind}{n:Int}(hr:Rel w ρ S.heap)(ht:P.underlying t=some (.slice e))(hk:k=.i64)(h0:0≤n)(hn:n≤140737488355328) :
    ∃v w',(Extern.BytealgMakeNoZero.makeNoZero ps #[t] #[.int k n]).run P w=.ok v w'∧Xu w ρ S (.msl S.heap.length 0 0 n.toNat none) (newAt S ⟨e,1,List.replicate n.toNat [.junk],0,2,true⟩) true v w':=by
  subst hk;obtain⟨m,rfl⟩:∃m:Nat,n=m:=⟨n.toNat,by omega⟩;simp only[Int.toNat_natCast];obtain⟨cs,h1,h2,h3,h4⟩:=mknz_run (P:=P) (w:=w) ps ht m (by omega);have xD:=drew2_add w (.cells cs e);refine⟨_,_,h1,_,J4 (ob:=⟨e,1,List.replicate m [.junk],0,2,true⟩) hr xD (by simp) ⟨cs.size,by simp,by simpa using h2,h3,by simp⟩ (fun r hr'=>by rw[List.eq_of_mem_replicate hr'];rfl) (.inr (.inr rfl)) (fun i' r' j d hi' hj=>?_),Fh hr xD,?_,by simp⟩
  · have hr' := List.eq_of_mem_replicate (Lm hi');subst hr';have zh:i'<m:=by have:=lt_of_some hi';simpa using this
    have hj0:j=0:=by have:=lt_of_some hj;simp at this;exact this
    subst hj0;simp only[Lz,Oi]at hj;subst hj;have hq:i'<cs.size:=by omega
    obtain⟨q,hq2⟩:=h4 i' cs[i'] (Array.getElem?_eq_getElem hq);refine⟨rfl,fun _=>rfl,cs[i'],by simp[hq],?_⟩;rw[hq2];exact .junk q
  refine .msl _ 0 0 _ none _ _ ⟨e,1,List.replicate m [.junk],0,2,true⟩ h2 (fun k hk=>by cases hk) (by simp[newAt]) (Nat.le_refl _) (by simp) fun _=>⟨w.heap.size,by simp[upd],by simp,fun _=>by simp,fun _=>⟨_,xD.new,by simp⟩⟩
theorem checkKeyS : ∀ (d : Nat) (t : TypeId) (X6 : List Nat), Ep P d t = some X6 → ∀ (b : Bool) (k : Nat) (a : D) (va : Value), VR w ρ S.heap a va → a.val = true → a.cells.length = X6.length → (Fw P t = true → ∃ cs, a = .agg cs) →
    (Instr.checkKey b (d+k) t va).run P w=.ok () w
  | 0,t,X6,h=>by simp[Ep]at h
  | d + 1, t, X6, h => by
    intro b k a va h1 ha xg hag;rw[show d+1+k=(d+k)+1 by omega];simp only[Ep]at h;split at h
    · rename_i kk hu;simp[Instr.checkKey,run_underlying hu]
    · rename_i hu;simp[Instr.checkKey,run_underlying hu]
    · rename_i hu;simp[Instr.checkKey,run_underlying hu]
    · rename_i fs hu;split at h
      · simp at h
      obtain⟨xs,rfl⟩:=hag (by simp[Fw,hu])
      cases h1 with | agg _ va r9 y8 hh1 =>
      have key:∀(fl:List Field) (o:Nat) (fm:List Nat),eqFields P (Ep P d) fl o=some fm→o+fm.length≤xs.length →
          (forIn fl PUnit.unit (fun (f : Field) (_ : PUnit) => (if f.name ≠ "_" then (do Instr.checkKey b (d + k) f.type (← part f.type va.toArray f.offset); pure (ForInStep.yield PUnit.unit)) else pure (ForInStep.yield PUnit.unit) : Sem (ForInStep PUnit)))).run P w = .ok PUnit.unit w := by
        intro fl
        induction fl with
        | nil=>intro o fm hf yh;simp
        | cons f fl ihl =>
          intro o fm hf yh;simp only[eqFields]at hf;split at hf
          · simp at hf
          rename_i uz;simp only[not_or,ne_eq,Decidable.not_not]at uz;obtain⟨wM,hoff⟩:=uz;split at hf
          · rename_i fa m xX xC;split at hf
            · rename_i hlen';simp only[Om]at hf;obtain⟨fm',hf',rfl⟩:=hf;simp only[Ll_]at yh
              have uS:Fw P f.type=false→m=1:=by
                intro hg
                cases d with
                | zero=>simp[Ep]at xX
                | succ d' =>
                  simp only[Ep]at xX;split at xX
                  · simp only[Oi]at xX;subst xX;exact hlen'.symm
                  · simp only[Oi]at xX;subst xX;exact hlen'.symm
                  · simp only[Oi]at xX;subst xX;exact hlen'.symm
                  · rename_i hu';unfold Fw at hg;rw[hu']at hg;simp at hg
                  simp at xX
              obtain⟨pa,a1,a2,a3,a4⟩:∃p,Ci xs o m (Fw P f.type)=some p∧p.cells.length=m∧p.val=true∧(Fw P f.type=true→∃c,p=.agg c):=by
                cases hg:Fw P f.type with
                | true =>
                  refine⟨.agg ((xs.drop o).take m),by simp[Ci];omega,by simp[D.cells];omega,?_,fun _=>⟨_,rfl⟩⟩;simp only[D.val,List.all_eq_true]at y8 ⊢;intro c hc';exact y8 c (List.mem_of_mem_drop (List.mem_of_mem_take hc'))
                | false =>
                  have:=uS hg;subst this;have xq:o<xs.length:=by omega
                  have yw:xs[o].Xv=true:=by
                    simp only[List.all_eq_true]at y8;exact y8 _ (List.getElem_mem xq)
                  refine⟨xs[o],by simp[Ci,xq],?_,?_,fun h=>by simp at h⟩
                  · cases e:xs[o]<;>first | rfl | (rw[e]at yw;simp[D.Xv]at yw)
                  cases e:xs[o]<;>first | rfl | (rw[e]at yw;simp[D.Xv]at yw)
              obtain⟨xa,x1,x2⟩:=O8 (P:=P) r9 y8 hh1 a1 xC rfl;have hq:=checkKeyS d f.type fa xX b k pa xa x2 a3 (by rw[a2,hlen']) a4;simp only[List.forIn_cons,Sem.run_bind,wM,ne_eq,not_false_eq_true,if_true,hoff,x1,Result.andThen_ok,hq,Sem.run_pure];exact ihl (o+m) fm' hf' (by omega)
            simp at hf
          simp at hf
      have hk:=key fs.toList 0 X6 h (by simp only[D.cells]at xg;omega);rw[Array.forIn_toList]at hk;simp only[Instr.checkKey,Sem.run_bind,run_underlying hu,Result.andThen_ok];refine Eq.trans (congrArg (fun z=>Result.andThen z _) hk) ?_;rfl
    simp at h
theorem keyS_free {X6 : List Nat} {k : D} (h : Rn X6 k = true) : k.Xq = true ∧ k.val = true := by
  unfold Rn at h;split at h
  · rename_i cs;simp only[Bool.and_eq_true,beq_iff_eq,List.all_eq_true]at h;obtain⟨h1,h2⟩:=h
    have key:∀d∈cs,d.free=true∧d.Xv=true:=by
      intro d hd;obtain⟨i,hi,rfl⟩:=List.mem_iff_getElem.1 hd
      have:=h2 (cs[i],X6[i]'(by omega)) (by
        rw[List.mem_iff_getElem]
        exact⟨i,by simp;omega,by simp⟩)
      simp only at this
      revert this
      cases e:cs[i]<;>cases e2:X6[i]'(by omega)<;>simp[isKey,D.free,D.Xw,D.Xv]
    exact⟨by simp only[D.Xq,List.all_eq_true];exact fun d hd=>(key d hd).1,by simp only[D.val,List.all_eq_true];exact fun d hd=>(key d hd).2⟩
  simp at h
theorem keyS_check{kt:TypeId}{X6:List Nat}{k:D}{vk:Value}{b:Bool}(wX:Fw P kt=true)(ru:Ep P 9 kt=some X6)(yt:Rn X6 k=true)(hk:VR w ρ S.heap k vk):(Instr.checkKey b 10000 kt vk).run P w=.ok () w:=by
 obtain⟨_,h2⟩:=keyS_free yt;refine checkKeyS 9 kt X6 ru b 9991 k vk hk h2 ?_ fun _=>?_
 ·
  unfold Rn at yt;split at yt
  ·
   simp only[Bool.and_eq_true,beq_iff_eq]at yt;exact yt.1
  simp at yt
 unfold Rn at yt;split at yt
 ·
  exact⟨_,rfl⟩
 simp at yt
theorem eqS_run{kt:TypeId}{X6:List Nat}{cs ds:List D}{va vb:Value}{r:Bool}(wX:Fw P kt=true)(ru:Ep P 9 kt=some X6)(h1:VR w ρ S.heap (.agg cs) va)(h2:VR w ρ S.heap (.agg ds) vb)(he:Cg X6 cs ds=some r):(Op.equal kt va vb).run P w=.ok r w:=by
 have uy:(D.agg cs).val=true:=by cases h1 with | agg _ _ _ hc _=>exact hc
 have vL:(D.agg ds).val=true:=by cases h2 with | agg _ _ _ hc _=>exact hc
 exact Ux 9 kt X6 ru 9991 _ _ _ _ r h1 h2 uy vL he (fun _=>⟨⟨_,rfl⟩,⟨_,rfl⟩⟩) (fun h=>by rw[wX]at h;simp at h)
theorem V6 {kt : TypeId} {X6 : List Nat} {k : D} {vk : Value} (wX : Fw P kt = true) (ru : Ep P 9 kt = some X6) (hk : VR w ρ S.heap k vk) : ∀ {rows : List (List D)} {es : List MapEntry} {i : Nat} {x : Option (Nat × D)}, es.length = rows.length → (∀ (j : Nat) (r : List D), rows[j]? = some r → ∃ (e : MapEntry) (a v : D), es[j]? = some e ∧ r = [a, v] ∧ VR w ρ S.heap a e.key ∧ VR w ρ S.heap v e.val) → N7 X6 k rows i = some x →
    (x=none∧(Instr.findAsking kt vk es i).run P w=.ok none w)∨∃(j:Nat) (v:D) (e:MapEntry) (cs ds:List D),x=some (i+j,v)∧(∃a,a=D.agg ds∧rows[j]?=some [a,v]∧k=.agg cs∧VR w ρ S.heap a e.key)∧es[j]?=some e∧VR w ρ S.heap v e.val∧Cg X6 cs ds=some true∧(Instr.findAsking kt vk es i).run P w=.ok (some (i+j,e.val)) w
  | [], es, i, x, hl, hh, h => by
    have:es=[]:=by simpa using hl
    subst this;simp only[N7,Oi]at h;subst h;exact .inl ⟨rfl,rfl⟩
  | r :: rows, es, i, x, hl, hh, h => by
    cases es with
    | nil=>simp at hl
    | cons e es =>
      obtain⟨e',a,v,h1,h2,h3,h4⟩:=hh 0 r rfl;simp at h1;subst h1 h2;simp only[N7]at h;split at h
      · rename_i cs ds
        cases hb:Cg X6 cs ds with
        | none=>simp[hb]at h
        | some bb =>
          have qX:=eqS_run wX ru hk h3 hb
          cases bb with
          | true =>
            simp only[hb,Oi]at h;subst h;exact .inr ⟨0,v,e,cs,ds,rfl,⟨_,rfl,rfl,rfl,h3⟩,rfl,h4,hb,by unfold Instr.findAsking;rw[Ab qX];rfl⟩
          | false =>
            simp only[hb]at h;rcases V6 wX ru hk (es:=es) (by simpa using hl) (fun j r hj=>by simpa using hh (j+1) r (by simpa using hj)) h with⟨rfl,hf⟩ | ⟨j,v2,e2,c2,d2,hx,⟨a2,q0,hr,q1,q2⟩,he,q3,q4,hf⟩
            · exact .inl ⟨rfl,by unfold Instr.findAsking;rw[Ab qX];exact hf⟩
            refine .inr ⟨j+1,v2,e2,c2,d2,by rw[hx];congr 2;omega,⟨a2,q0,by simpa using hr,q1,q2⟩,by simpa using he,q3,q4,?_⟩;unfold Instr.findAsking;rw[Ab qX];simp only[Bool.false_eq_true,if_false];rw[hf];congr 3;omega
      simp at h
theorem find_S{kt:TypeId}{X6:List Nat}{k:D}{vk:Value}(wX:Fw P kt=true)(ru:Ep P 9 kt=some X6)(hk:VR w ρ S.heap k vk){rows:List (List D)}{es:List MapEntry}{x:Option (Nat × D)}(hl:es.length=rows.length)(hh:∀(j:Nat) (r:List D),rows[j]?=some r→∃(e:MapEntry) (a v:D),es[j]?=some e∧r=[a,v]∧VR w ρ S.heap a e.key∧VR w ρ S.heap v e.val)(h:N7 X6 k rows 0=some x) :
  (x=none∧(Instr.findKey kt vk es).run P w=.ok none w)∨∃(j:Nat) (v:D) (e:MapEntry) (a:D),x=some (0+j,v)∧rows[j]?=some [a,v]∧es[j]?=some e∧VR w ρ S.heap v e.val∧VR w ρ S.heap a e.key∧(∃cs ds,k=.agg cs∧a=.agg ds∧Cg X6 cs ds=some true)∧(Instr.findKey kt vk es).run P w=.ok (some (0+j,e.val)) w:=by
 obtain⟨fs,hu⟩:∃kd,P.underlying kt=some kd∧((∃fs,kd=.struct fs)∨∃n e,kd=.array n e):=by
  unfold Fw at wX;split at wX
  ·
   rename_i hu;exact⟨_,hu,.inl ⟨_,rfl⟩⟩
  ·
   rename_i hu;exact⟨_,hu,.inr ⟨_,_,rfl⟩⟩
  simp at wX
 have rX:(Instr.findKey kt vk es).run P w=(Instr.findAsking kt vk es 0).run P w:=by
  unfold Instr.findKey;rw[Ab (run_underlying hu.1 w)]
  cases es with
  | nil=>rfl
  | cons e es=>rcases hu.2 with⟨fs,rfl⟩ | ⟨n,e,rfl⟩<;>rfl
 rw[rX];rcases V6 wX ru hk hl hh h with h1 | ⟨j,v,e,cs,ds,h1,⟨a,rfl,h3,h4,h5⟩,h6,h7,h8,h9⟩
 ·
  exact .inl h1
 exact .inr ⟨j,v,e,_,h1,h3,h6,h7,h5,⟨cs,ds,h4,rfl,h8⟩,h9⟩
theorem sameBits_S {X6 : List Nat} {k a : D} {vk va : Value} (hk : VR w ρ S.heap k vk) (ha : VR w ρ S.heap a va) (h : ∃ cs ds, k = .agg cs ∧ a = .agg ds ∧ Cg X6 cs ds = some true) : Instr.sameBits 10000 va vk = true := by
  obtain⟨cs,ds,rfl,rfl,he⟩:=h
  cases hk with | agg _ vs hl hc hh =>
  cases ha with | agg _ us wu w9 hh2 =>
  have key:∀(X6:List Nat) (cs ds:List D) (vs us:List Value),vs.length=cs.length→us.length=ds.length→(∀(j:Nat) (d:D) (v:Value),cs[j]?=some d→vs[j]?=some v→VR w ρ S.heap d v)→(∀(j:Nat) (d:D) (v:Value),ds[j]?=some d→us[j]?=some v→VR w ρ S.heap d v)→Cg X6 cs ds=some true→us.length=vs.length∧((us.zip vs).all fun (x,y)=>Instr.sameBits 9999 x y)=true:=by
    intro X6
    induction X6 with
    | nil =>
      intro cs ds vs us h1 h2 _ _ he;cases cs<;>cases ds<;>simp[Cg]at he;have:vs=[]:=by simpa using h1
      have:us=[]:=by simpa using h2
      simp_all
    | cons f X6 ih =>
      intro cs ds vs us h1 h2 g1 g2 he
      cases cs with
      | nil=>cases ds<;>simp[Cg]at he
      | cons c cs =>
        cases ds with
        | nil=>simp[Cg]at he
        | cons d ds =>
          cases vs with
          | nil=>simp at h1
          | cons v vs =>
            cases us with
            | nil=>simp at h2
            | cons u us =>
              simp only[Cg]at he;split at he
              · rename_i wW;simp only[Bool.and_eq_true]at wW;split at he
                · rename_i x y e1 e2;simp only[Oi,Bool.and_eq_true]at he;obtain⟨rfl,rfl⟩:=he;obtain⟨q1,q2⟩:=ih cs ds vs us (by simpa using h1) (by simpa using h2) (fun j d v hd hv=>g1 (j+1) d v (by simpa using hd) (by simpa using hv)) (fun j d v hd hv=>g2 (j+1) d v (by simpa using hd) (by simpa using hv)) e2;have:=Sc (n:=9998) wW.1 (g1 0 c v rfl rfl) (g2 0 d u rfl rfl) e1;exact⟨by simp[q1],by simp only[List.zip_cons_cons,List.all_cons,Bool.and_eq_true];exact⟨this,q2⟩⟩
                simp at he
              simp at he
  obtain⟨q1,q2⟩:=key X6 cs ds vs us hl wu hh hh2 he;show (us.toArray.size==vs.toArray.size&&(us.toArray.toList.zip vs.toArray.toList).all fun (x,y)=>Instr.sameBits 9999 x y)=true;simp only[Bool.and_eq_true,beq_iff_eq];exact⟨by simpa using q1,by simpa using q2⟩
theorem mapgetS_ok {t kt e : TypeId} {X6 : List Nat} {z m k r : D} {vm vk : Value} {ok : Bool} (hr : Rel w ρ S.heap) (ht : P.underlying t = some (.map kt e)) (wX : Fw P kt = true) (ru : Ep P 9 kt = some X6) (hz : Oq P e = some z) (hm : VR w ρ S.heap m vm) (hk : VR w ρ S.heap k vk)
    (h:Sn S X6 z ok m k=some r):∃v,(Instr.lookup t vm vk ok).run P w=.ok v w∧VR w ρ S.heap r v:=by
  unfold Sn at h;split at h
  · rename_i rows xE;obtain⟨es,hes,xC,xw⟩:=map_rows hr hm xE;split at h
    · rename_i yt
      obtain⟨zv,uq,zI⟩:∃zv,(zeroValue e).run P w=.ok zv w∧VR w ρ S.heap z zv:=by
        unfold Oq at hz;split at hz
        · rename_i i hi;split at hz
          · rename_i zv wQ;exact⟨zv,by simp[zeroValue,typeInfo,hi,wQ],Ob hz⟩
          simp at hz
        simp at hz
      have hck:=fun b=>keyS_check (b:=b) wX ru yt hk
      have zT:∀j v,(Instr.findKey kt vk es.toList).run P w=.ok (some (j,v)) w→(Instr.lookup t vm vk ok).run P w=.ok (if ok then .tuple #[v,.bool true] else v) w:=by
        intro j v hx;unfold Instr.lookup;rw[Ab (run_underlying ht w)];rcases hes with⟨rfl,rfl⟩ | ⟨b,clock,rfl,hb⟩
        · simp only;rw[Ab (a:=(#[]:Array MapEntry)) (w':=w) rfl,Ab (hck _),Ab hx];rfl
        simp only;rw[Ab (Gx hb)];simp only;rw[Ab (a:=es) (w':=w) rfl,Ab (hck _),Ab hx];rfl
      have yE:(Instr.findKey kt vk es.toList).run P w=.ok none w→(Instr.lookup t vm vk ok).run P w=.ok (if ok then .tuple #[zv,.bool false] else zv) w:=by
        intro hx;unfold Instr.lookup;rw[Ab (run_underlying ht w)];rcases hes with⟨rfl,rfl⟩ | ⟨b,clock,rfl,hb⟩
        · simp only;rw[Ab (a:=(#[]:Array MapEntry)) (w':=w) rfl,Ab (hck _),Ab hx];simp only;rw[Ab uq];rfl
        simp only;rw[Ab (Gx hb)];simp only;rw[Ab (a:=es) (w':=w) rfl,Ab (hck _),Ab hx];simp only;rw[Ab uq];rfl
      have uP:∀(x:D) (v:Value) (b:Bool),VR w ρ S.heap x v→VR w ρ S.heap (.tup [x,.bool b]) (.tuple #[v,.bool b]):=by
        intro x v b hx;have hv:VL w ρ S.heap [x,.bool b] [v,.bool b]:=.cons hx (.cons (.bool _) .nil);exact .tup [x,.bool b] [v,.bool b] rfl (fun j d v=>hv.get)
      cases hf:N7 X6 k rows 0 with
      | none=>simp[hf]at h
      | some x =>
        rcases find_S wX ru hk (es:=es.toList) (by simpa using xC) (fun j r hj=>by obtain⟨e,a,v,h1,h2⟩:=xw j r hj;exact⟨e,a,v,by simpa using h1,h2⟩) hf with⟨rfl,zY⟩ | ⟨j,v,e2,a,rfl,xO,he,q1,q2,q3,zY⟩
        · simp only [hf, Oi] at h;subst h;refine⟨_,yE zY,?_⟩;cases ok
          · exact zI
          exact uP _ _ _ zI
        simp only[hf,Oi]at h;subst h;refine⟨_,zT _ _ zY,?_⟩;cases ok
        · exact q1
        exact uP _ _ _ q1
    simp at h
  simp at h
theorem mapsetS_ok {t kt e : TypeId} {X6 : List Nat} {m k v : D} {vm vk vv : Value} {S' : St} (hr : Rel w ρ S.heap) (ht : P.underlying t = some (.map kt e)) (wX : Fw P kt = true) (ru : Ep P 9 kt = some X6) (hm : VR w ρ S.heap m vm) (hk : VR w ρ S.heap k vk) (hv : VR w ρ S.heap v vv) (h : Sm S X6 m k v = some S') :
    ∃w',(Instr.mapUpdate t vm vk vv).run P w=.ok () w'∧Xu w ρ S .undef S' true undef w':=by
  unfold Sm at h;split at h
  · rename_i g ver
    cases hm with
    | mref _ _ r ob hg yV hh =>
      unfold rowsOf at h;simp only[hg]at h;by_cases hvv:ob.ver=ver
      · subst hvv;simp only[if_true]at h;split at h
        · rename_i yO;obtain⟨xK,uH,yt⟩:=yO;split at h
          · rename_i v' qX;have hv':=Oz hr (Nat.le_refl _) hv qX;split at h
            · rename_i hfc;simp only[Bool.and_eq_true]at hfc;have hρ:=hh rfl;obtain⟨es,clock,hc,hs,hl,xw⟩:=hr.map hρ hg xK uH;have uV:=keyS_free yt;have hck:=fun b=>keyS_check (b:=b) wX ru yt hk;have vG:=lt_of_heap hc;have xV:(∀c e f,Obj.map es clock≠.cells c e f)∧∀r,Obj.map es clock≠.loop r:=⟨(fun _ _ _ e=>by cases e),(fun _ e=>by cases e)⟩
              cases hf:N7 X6 k ob.rows 0 with
              | none=>simp[hf]at h
              | some x =>
                rcases find_S wX ru hk (es:=es.toList) (by simpa using hs) (fun j r hj=>by obtain⟨e,a,v,h1,h2,_,_,h5,h6⟩:=xw j r hj;exact⟨e,a,v,by simpa using h1,h2,h5,h6⟩) hf with⟨rfl,zY⟩ | ⟨j,v0,e2,a,rfl,xO,he,q1,q2,q3,zY⟩
                · simp only [hf, Oi] at h;subst h;refine⟨{ w with heap:=w.heap.setIfInBounds r (.map (es.push ⟨vk,vv,clock⟩) (clock+1)) },?_,ρ,?_,Lb hr hρ hg xK hc xV (Xy.setObj vG) ⟨rfl,rfl,rfl,by simp,rfl⟩,.undef _,by simp⟩
                  · unfold Instr.mapUpdate;rw[Ab (run_underlying ht w)];simp only;rw[Ab (Gx hc)];simp only;rw[Ab (hck _),Ab zY];exact Nj hc
                  refine Wy hr hρ hg xK uH hc xV (Xy.setObj vG) ⟨rfl,rfl,rfl,by simp,rfl⟩ (by simp[hs]) ?_ ?_
                  · intro r' hr';simp only[List.mem_append,List.mem_singleton]at hr';rcases hr' with hr' | rfl
                    · exact hl r' hr'
                    rfl
                  intro i r' hi;simp only at hi;by_cases zh:i<ob.rows.length
                  · rw [La_ zh] at hi;obtain⟨e3,k3,v3,z1,z2⟩:=xw i r' hi;exact⟨e3,k3,v3,by rw[Array.getElem?_push_lt (by omega)];rw[Array.getElem?_eq_getElem (by omega)]at z1;exact z1,z2⟩
                  rw[Lr_ (by omega)]at hi;have hi0:i-ob.rows.length=0:=by have:=lt_of_some hi;simp at this;omega
                  rw[hi0]at hi;simp at hi;subst hi;have hie:i=es.size:=by omega
                  subst hie;exact⟨⟨vk,vv,clock⟩,k,v',by simp,rfl,uV,hfc,hk,hv'⟩
                simp only[hf,Oi,Nat.zero_add]at h;subst h;have he':es[j]?=some e2:=by simpa using he
                have yP:=(Array.getElem?_eq_some_iff.1 he').1
                have hkts:(Instr.keyThatStays (((es[0+j]?).map (·.key)).getD vk) vk).run P w=.ok vk w:=by
                  rw[Nat.zero_add,he'];unfold Instr.keyThatStays;simp only[Option.map_some,Option.getD_some];rw[if_pos (sameBits_S hk q2 q3)];rfl
                refine⟨{ w with heap:=w.heap.setIfInBounds r (.map (es.modify j fun e=>{ e with key:=vk,val:=vv }) clock) },?_,ρ,?_,Lb hr hρ hg xK hc xV (Xy.setObj vG) ⟨rfl,rfl,rfl,by simp,rfl⟩,.undef _,by simp⟩
                · unfold Instr.mapUpdate;rw[Ab (run_underlying ht w)];simp only;rw[Ab (Gx hc)];simp only;rw[Ab (hck _),Ab zY];simp only;rw[Ab hkts];rw[Nat.zero_add];exact Nj hc
                refine Wy hr hρ hg xK uH hc xV (Xy.setObj vG) ⟨rfl,rfl,rfl,by simp,rfl⟩ (by simp[hs]) ?_ ?_
                · intro r' hr';rcases List.mem_or_eq_of_mem_set hr' with hr' | rfl
                  · exact hl r' hr'
                  rfl
                intro i r' hi;simp only at hi;by_cases hij:j=i
                · subst hij;rw[List.getElem?_set_self (by omega)]at hi;simp only[Oi]at hi;subst hi;exact⟨{ e2 with key:=vk,val:=vv },k,v',by simp[Array.getElem?_modify,he'],rfl,uV,hfc,hk,hv'⟩
                rw[Ln_ hij]at hi;obtain⟨e3,k3,v3,z1,z2⟩:=xw i r' hi;exact⟨e3,k3,v3,by rw[Array.getElem?_modify,if_neg hij];exact z1,z2⟩
            simp at h
          simp at h
        simp at h
      simp[hvv]at h
  simp at h
end
open Go.RowKit
section
variable {P:Program} {w:World} {ρ:Xn} {S:St}
def Does (P:Program) (w:World) (ρ:Xn) (S:St) (ev:Operand→Value) (o:Oper) (r:D) (S':St) (wr:Bool):Prop :=
 ∃nx v w',(execOp ev o).run P w=.ok nx w'∧(nx=.value v∨nx=.skip∧v=undef)∧Xu w ρ S r S' wr v w'
theorem Does.val{ev:Operand→Value}{o:Oper}{r:D}{S':St}{wr:Bool}{s:Sem Value}(he:execOp ev o=(do pure (.value (←s))))(h:∃v w',s.run P w=.ok v w'∧Xu w ρ S r S' wr v w'):Does P w ρ S ev o r S' wr:=by
 obtain⟨v,w',h1,h2⟩:=h;exact⟨.value v,v,w',by rw[he,Ab h1];rfl,.inl rfl,h2⟩
theorem Does.pure{ev:Operand→Value}{o:Oper}{r:D}{s:Sem Value}(hr:Rel w ρ S.heap)(he:execOp ev o=(do pure (.value (←s))))(h:∃v,s.run P w=.ok v w∧VR w ρ S.heap r v):Does P w ρ S ev o r S false:=by
 obtain⟨v,h1,h2⟩:=h;exact Does.val he ⟨v,w,h1,Xu.pure hr h2⟩
theorem eqb_ok{neg a b:Bool}{op:BinOp}{t:TypeId}{x y:Operand}{H:List Xh}(ho:op=.eql∨op=.neq)(hn:neg=decide (op=.neq))(ht:P.underlying t=some .bool) :
  ∃v,(do eqGuard op t x y (.bool a) (.bool b);binOp op t (.bool a) (.bool b)).run P w=.ok v w∧VR w ρ H (.bool ((a==b) != neg)) v:=by
 have h:∀d:Nat,(Op.equalIn (d+1) t (.bool a) (.bool b)).run P w=.ok (a==b) w:=fun d=>by simp[Op.equalIn,run_underlying ht]
 rcases ho with rfl | rfl
 ·
  subst hn;refine⟨.bool (a==b),?_,by cases a<;>cases b<;>exact .bool _⟩;simp only[eqGuard,binOp];simp[Op.equal,Op.maxDepth,h 9999]
 subst hn;refine⟨.bool !(a==b),?_,by cases a<;>cases b<;>exact .bool _⟩;simp only[eqGuard,binOp];simp[Op.equal,Op.maxDepth,h 9999]
theorem fold_ok{f:D→D→Option D}{g:Value→Value→Sem Value}(hfg:∀{d1 d2 r:D} {v1 v2:Value},VR w ρ S.heap d1 v1→VR w ρ S.heap d2 v2→f d1 d2=some r→∃v,(g v1 v2).run P w=.ok v w∧VR w ρ S.heap r v) :
  ∀{ds:List D} {vs:List Value} {d r:D} {v:Value},VR w ρ S.heap d v→VL w ρ S.heap ds vs→Jr f d ds=some r→∃u,(vs.foldlM g v).run P w=.ok u w∧VR w ρ S.heap r u:=by
 intro ds
 induction ds with
 | nil =>
  intro vs d r v hd hv h;cases hv;simp only[Jr,Oi]at h;subst h;exact⟨v,rfl,hd⟩
 | cons a ds ih =>
  intro vs d r v hd hv h
  cases hv with | cons h1 t1 =>
  simp only[Jr]at h;split at h
  ·
   rename_i z hz;obtain⟨u,h3,h4⟩:=hfg hd h1 hz;obtain⟨u2,h5,h6⟩:=ih h4 t1 h;refine⟨u2,?_,h6⟩;rw[List.foldlM_cons,Ab h3];exact h5
  simp at h
theorem max2_ok{d1 d2 r:D}{v1 v2:Value}(h1:VR w ρ S.heap d1 v1)(h2:VR w ρ S.heap d2 v2)(h:maxD d1 d2=some r):∃v,(Builtin.max2 v1 v2).run P w=.ok v w∧VR w ρ S.heap r v:=by
 unfold maxD at h;split at h
 ·
  split at h
  ·
   rename_i hk;subst hk;simp only[Oi]at h;subst h;cases h1;cases h2;exact⟨_,rfl,.int _ _⟩
  simp at h
 simp at h
theorem min2_ok{d1 d2 r:D}{v1 v2:Value}(h1:VR w ρ S.heap d1 v1)(h2:VR w ρ S.heap d2 v2)(h:minD d1 d2=some r):∃v,(Builtin.min2 v1 v2).run P w=.ok v w∧VR w ρ S.heap r v:=by
 unfold minD at h;split at h
 ·
  split at h
  ·
   rename_i hk;subst hk;simp only[Oi]at h;subst h;cases h1;cases h2;exact⟨_,rfl,.int _ _⟩
  simp at h
 simp at h
theorem maxs_ok{ts:Array TypeId}{t:TypeId}{ds:List D}{vs:List Value}{r:D}(hv:VL w ρ S.heap ds vs)(h:pop .max ds=some r):∃v,(Builtin.max_ ts t vs.toArray).run P w=.ok v w∧VR w ρ S.heap r v:=by
 cases hv with
 | nil=>simp[pop]at h
 | cons h1 t1=>exact fold_ok (fun a b c=>max2_ok a b c) h1 t1 h
theorem mins_ok{ts:Array TypeId}{t:TypeId}{ds:List D}{vs:List Value}{r:D}(hv:VL w ρ S.heap ds vs)(h:pop .min ds=some r):∃v,(Builtin.min_ ts t vs.toArray).run P w=.ok v w∧VR w ρ S.heap r v:=by
 cases hv with
 | nil=>simp[pop]at h
 | cons h1 t1=>exact fold_ok (fun a b c=>min2_ok a b c) h1 t1 h
theorem boolT_iff{t:TypeId}:boolT P t=true↔P.underlying t=some .bool:=by
 unfold boolT;split
 ·
  rename_i h;simp[h]
 rename_i h;constructor
 ·
  intro h';simp at h'
 intro h';exact absurd h' h
theorem intT_iff{t:TypeId}{k:IntKind}:Um P t=some k↔P.underlying t=some (.int k):=by
 unfold Um;split
 ·
  rename_i k' h;simp[h]
 rename_i h;constructor
 ·
  intro h';simp at h'
 intro h';exact absurd h' (h k)
theorem mapT_iff{t k e:TypeId}:mapT P t=some (k,e)↔P.underlying t=some (.map k e):=by
 unfold mapT;split
 ·
  rename_i k' e' h;simp[h]
 rename_i h;constructor
 ·
  intro h';simp at h'
 intro h';exact absurd h' (h k e)
theorem V8{s:TypeId}{k:Nat}{f:Field}(h:fieldT P s k=some f):∃fs,P.underlying s=some (.struct fs)∧fs[k]?=some f:=by
 unfold fieldT at h;split at h
 ·
  rename_i fs hu;exact⟨fs,hu,h⟩
 simp at h
theorem parts_zip(ps:Array (Nat × Operand))(ev:Operand→Value):(ps.map fun (i,x)=>(i,ev x))=((ps.toList.map (·.1)).zip ((ps.toList.map (·.2)).map ev)).toArray:=by
 apply Array.ext';simp only[Array.toList_map];generalize ps.toList=l
 induction l with
 | nil=>rfl
 | cons p l ih=>simp[ih]
theorem vo_of{H:List Xh}{lo hi mx:Option Operand}{ev:Operand→Value}{xs:List D}{a b m:Option D}(hv:VL w ρ H xs ((opnds [lo,hi,mx]).map ev))(h:Bt lo.isSome hi.isSome mx.isSome xs=some (a,b,m)) :
    VO w ρ H a (lo.map ev)∧VO w ρ H b (hi.map ev)∧VO w ρ H m (mx.map ev)∧(m.isSome=true→b.isSome=true):=by
  cases lo<;>cases hi<;>cases mx<;>simp only[opnds,List.filterMap_cons,List.filterMap_nil,id,List.map_cons,List.map_nil]at hv<;>simp only[Option.isSome_some,Option.isSome_none]at h
  all_goals
    first
      | (cases hv with
         | nil=>simp[Bt]at h;obtain⟨rfl,rfl,rfl⟩:=h;exact⟨.none,.none,.none,by simp⟩)
      | (cases hv with
         | cons h1 t1 => cases t1 with
           | nil=>simp[Bt]at h<;>(obtain⟨rfl,rfl,rfl⟩:=h;first | exact⟨.some h1,.none,.none,by simp⟩ | exact⟨.none,.some h1,.none,by simp⟩))
      | (cases hv with
         | cons h1 t1 => cases t1 with
           | cons h2 t2 => cases t2 with
             | nil=>simp[Bt]at h<;>(obtain⟨rfl,rfl,rfl⟩:=h;first | exact⟨.some h1,.some h2,.none,by simp⟩ | exact⟨.none,.some h1,.some h2,by simp⟩))
      | (cases hv with
         | cons h1 t1 => cases t1 with
           | cons h2 t2 => cases t2 with
             | cons h3 t3 => cases t3 with
               | nil=>simp[Bt]at h;obtain⟨rfl,rfl,rfl⟩:=h;exact⟨.some h1,.some h2,.some h3,by simp⟩)
      | (simp[Bt]at h;done)
set_option maxHeartbeats 4000000 in
theorem kd_of(kd:Kd)(e:TypeId):kd.of e=0∨kd.of e=1∨kd.of e=2:=by
 unfold Kd.of;split
 ·
  exact .inl rfl
 split
 ·
  exact .inr (.inr rfl)
 exact .inr (.inl rfl)
theorem ext_mk : Extern.allNextRows.lookup "internal/bytealg.MakeNoZero" = none ∧ Extern.allGenericRows.lookup "internal/bytealg.MakeNoZero" = none ∧ Extern.allTypedRows.lookup "internal/bytealg.MakeNoZero" = some Extern.BytealgMakeNoZero.makeNoZero := ⟨by kernel_rfl, by kernel_rfl, by kernel_rfl⟩
theorem run_mknz {f : FuncId} {fn : Func} {rt : TypeId} {vs : Array Value} {v : Value} {w' : World} (hf : P.funcs[f]? = some fn) (hb : fn.body.isNone = true) (hn : fn.name = "internal/bytealg.MakeNoZero") (ho : fn.origin = "") (hrt : fn.resultTypes = #[rt])
  (h:(Extern.BytealgMakeNoZero.makeNoZero fn.params #[rt] vs).run P w=.ok v w'):(callFunc f vs).run P w=.ok (.value v) w':=by
 obtain⟨h1,h2,h3⟩:=ext_mk;have hp:Sem.run P program w=.ok P w:=rfl;have zY:Extern.findNext fn=none:=by simp[Extern.findNext,hn,ho,h1,ext_none]
 have kT:Extern.find fn=some (Extern.BytealgMakeNoZero.makeNoZero fn.params fn.resultTypes):=by simp[Extern.find,hn,h2,h3]
 unfold callFunc;rw[Ab hp];simp only[hf];rw[if_neg (by rw[hn];decide),if_pos hb];rw[Ab (a:=()) (w':=w) rfl];simp only[zY,kT];rw[hrt,Ab h];rfl
theorem lop_mknz{e:TypeId}{ds:List D}{S:St}{r:D}{S':St}{wr:Bool}(h:lop (.mknz e) ds S=some (r,S',wr)):∃n:Int,ds=[.int .i64 n]∧0≤n∧n≤140737488355328∧r=.msl S.heap.length 0 0 n.toNat none∧S'=newAt S ⟨e,1,List.replicate n.toNat [.junk],0,2,true⟩∧wr=true:=by
 unfold lop at h;split at h<;>simp only[reduceCtorEq,LOp.mknz.injEq]at *;rename_i h1;subst h1;split at h
 ·
  rename_i hn;simp only[Oi,Pi_]at h;obtain⟨rfl,rfl,rfl⟩:=h;exact⟨_,rfl,hn.1,hn.2,rfl,rfl,rfl⟩
 simp at h
theorem tass_ok {t xt : TypeId} {td : TypeDesc} {z x r : D} {v : Value} {ok : Bool} {H : List Xh} (hu : P.underlying t = some td) (kK : ∀ m, td ≠ .interface m) (hz : Oq P t = some z) (hx : VR w ρ H x v) (h : pop (.tass t z ok) [x] = some r) :
    ∃u,(Instr.typeAssert v xt t ok).run P w=.ok u w∧VR w ρ H r u:=by
  obtain⟨zv,uq,zI⟩:∃zv,(zeroValue t).run P w=.ok zv w∧VR w ρ H z zv:=by
    unfold Oq at hz;split at hz
    · rename_i i hi;split at hz
      · rename_i zv wQ;exact⟨zv,by simp[zeroValue,typeInfo,hi,wQ],Ob hz⟩
      simp at hz
    simp at hz
  have uP:∀(x:D) (v:Value) (b:Bool),VR w ρ H x v→VR w ρ H (.tup [x,.bool b]) (.tuple #[v,.bool b]):=by
    intro x v b hx;have hv:VL w ρ H [x,.bool b] [v,.bool b]:=.cons hx (.cons (.bool _) .nil);exact .tup [x,.bool b] [v,.bool b] rfl (fun j d v=>hv.get)
  have hif:∀(t':TypeId) (u:Value),(Instr.typeAssert (.iface t' u) xt t true).run P w=.ok (if t'=t then .tuple #[u,.bool true] else .tuple #[zv,.bool false]) w:=by
    intro t' u;unfold Instr.typeAssert;simp only[Sem.run_bind,run_underlying hu,Result.andThen_ok]
    cases td<;>first | exact absurd rfl (kK _) | (simp only[if_true];split<;>rename_i he<;>simp[he,uq,Sem.run_bind])
  have hif2:∀(u:Value),(Instr.typeAssert (.iface t u) xt t false).run P w=.ok u w:=by
    intro u;unfold Instr.typeAssert;simp only[Sem.run_bind,run_underlying hu,Result.andThen_ok]
    cases td<;>first | exact absurd rfl (kK _) | simp
  have hni:(Instr.typeAssert .nilIface xt t true).run P w=.ok (.tuple #[zv,.bool false]) w:=by
    unfold Instr.typeAssert;simp only[Sem.run_bind,run_underlying hu,Result.andThen_ok]
    cases td<;>first | exact absurd rfl (kK _) | simp[uq,Sem.run_bind]
  unfold pop at h;split at h<;>simp only[reduceCtorEq,List.cons.injEq,and_true,LOp.tass.injEq]at *
  · rename_i t1 z1 ok1 t' d yR rM;obtain⟨rfl,rfl,rfl⟩:=yR;subst rM
    cases hx with
    | ifc _ _ u hf hv hxx =>
    by_cases he:t'=t
    · subst he;rw[if_pos rfl]at h;simp only[Oi]at h;subst h;cases ok
      · exact⟨_,hif2 _,hxx⟩
      exact⟨_,by rw[hif,if_pos rfl],uP _ _ _ hxx⟩
    rw[if_neg he]at h;cases ok
    · simp at h
    simp only[if_true,Oi]at h;subst h;exact⟨_,by rw[hif,if_neg he],uP _ _ _ zI⟩
  · rename_i t1 z1 ok1 t' d yR rM;obtain⟨rfl,rfl,rfl⟩:=yR;subst rM
    cases hx with
    | ifr _ _ u hv hxx =>
    by_cases he:t'=t
    · subst he;rw[if_pos rfl]at h;simp only[Oi]at h;subst h;cases ok
      · exact⟨_,hif2 _,hxx⟩
      exact⟨_,by rw[hif,if_pos rfl],uP _ _ _ hxx⟩
    rw[if_neg he]at h;cases ok
    · simp at h
    simp only[if_true,Oi]at h;subst h;exact⟨_,by rw[hif,if_neg he],uP _ _ _ zI⟩
  rename_i t1 z1 yR rM;obtain⟨rfl,rfl,rfl⟩:=yR;subst rM;cases hx;simp only[Oi]at h;subst h;exact⟨_,hni,uP _ _ _ zI⟩
set_option maxHeartbeats 8000000 in
theorem aop_ok {kd : Kd} {o : Oper} {l : LOp} {xs : List Operand} {ev : Operand → Value} {ds : List D} {r : D} {S' : St} {wr : Bool} (hevf : ∀ f, ev (.func f) = .func (.func f) #[] #[]) (x9 : Oj P kd o = some (l, xs)) (hv : VL w ρ S.heap ds (xs.map ev)) (hr : Rel w ρ S.heap) (h : aop l ds S = some (r, S', wr)) :
    Does P w ρ S ev o r S' wr:=by
  obtain⟨odst,oop,oty,opos,oafter,oguard⟩:=o;unfold Oj at x9;simp only at x9;split at x9
  case h_1 x =>
    simp only[Oi,Pi_]at x9;obtain⟨rfl,rfl⟩:=x9
    cases hv with | cons h1 t1=>cases t1 with | nil =>
    simp only[aop,LOp.loud,pop,Bool.false_eq_true,if_false,Option.map_some,Oi,Pi_]at h;obtain⟨rfl,rfl,rfl⟩:=h;exact⟨_,_,w,rfl,.inl rfl,Xu.pure hr h1⟩
  case h_2 x =>
    simp only[Oi,Pi_]at x9;obtain⟨rfl,rfl⟩:=x9
    cases hv with | cons h1 t1=>cases t1 with | nil =>
    simp only[aop,LOp.loud,pop,Bool.false_eq_true,if_false,Option.map_some,Oi,Pi_]at h;obtain⟨rfl,rfl,rfl⟩:=h;exact⟨_,_,w,rfl,.inl rfl,Xu.pure hr h1⟩
  case h_3 c a b =>
    simp only[Oi,Pi_]at x9;obtain⟨rfl,rfl⟩:=x9
    cases hv with | cons h1 t1=>cases t1 with | cons h2 t2=>cases t2 with | cons h3 t3=>cases t3 with | nil =>
    rename_i d1 d2 d3;cases d1<;>simp only[aop,LOp.loud,pop,Bool.false_eq_true,if_false,Option.map_some,Option.map_none,reduceCtorEq]at h;rename_i bb;simp only[Oi,Pi_]at h;obtain⟨rfl,rfl,rfl⟩:=h;generalize hc:ev c=vc at h1;cases h1;cases bb
    · exact⟨_,_,w,by simp[execOp,hc,asBool],.inl rfl,Xu.pure hr h3⟩
    exact⟨_,_,w,by simp[execOp,hc,asBool],.inl rfl,Xu.pure hr h2⟩
  case h_4 op t x y ty =>
    have key:l=.bin op→xs=[x,y]→Does P w ρ S ev ⟨odst,.binOp op t x y ty,oty,opos,oafter,oguard⟩ r S' wr:=by
      rintro rfl rfl
      cases hv with | cons h1 t1=>cases t1 with | cons h2 t2=>cases t2 with | nil =>
      simp only[aop,LOp.loud,pop,Bool.false_eq_true,if_false,Om,Pi_]at h;obtain⟨r',hb,rfl,rfl,rfl⟩:=h;exact Does.pure hr rfl (bin_ok h1 h2 hb)
    split at x9
    · rename_i yR;split at x9
      · rename_i hbt;simp only[Oi,Pi_]at x9;obtain⟨rfl,rfl⟩:=x9
        cases hv with | cons h1 t1=>cases t1 with | cons h2 t2=>cases t2 with | nil =>
        rename_i d1 d2;cases d1<;>cases d2<;>simp only[aop,LOp.loud,pop,Bool.false_eq_true,if_false,Option.map_some,Option.map_none,reduceCtorEq]at h;simp only[Oi,Pi_]at h;obtain⟨rfl,rfl,rfl⟩:=h;generalize hx:ev x=vx at h1;generalize hy:ev y=vy at h2;cases h1;cases h2;refine Does.pure (s:=(do eqGuard op t x y (ev x) (ev y);binOp op t (ev x) (ev y))) hr rfl ?_;rw[hx,hy];exact eqb_ok yR rfl (boolT_iff.1 hbt)
      split at x9
      · simp only [Oi, Pi_] at x9;exact key x9.1.symm x9.2.symm
      split at x9
      · rename_i fam hfam;split at x9
        · split at x9
          · rename_i e zU;simp only[Om,Pi_]at x9;obtain⟨n,hn,rfl,rfl⟩:=x9
            cases hv with | cons h1 t1=>cases t1 with | cons h2 t2=>cases t2 with | nil =>
            simp only[aop,LOp.loud,lop,if_true,Om,Pi_]at h;obtain⟨b,hb,rfl,rfl,rfl⟩:=h;exact Does.pure hr rfl (eqp_ok yR zU hn h1 h2 hb)
          simp at x9
        rename_i hf1;split at x9
        · simp at x9
        rename_i hf4;simp only[Oi,Pi_]at x9;obtain⟨rfl,rfl⟩:=x9
        cases hv with | cons h1 t1=>cases t1 with | cons h2 t2=>cases t2 with | nil =>
        simp only[aop,LOp.loud,pop,Bool.false_eq_true,if_false,Om,Pi_]at h;obtain⟨_,⟨b,hb,rfl⟩,rfl,rfl,rfl⟩:=h;refine Does.pure hr rfl (eqnil_ok yR hfam hf1 (fun h4=>?_) h1 h2 hb)
        cases hcx:isConst x with
        | true=>exact .inl rfl
        | false =>
          cases hcy:isConst y with
          | true=>exact .inr rfl
          | false=>exact absurd ⟨h4,hcx,hcy⟩ hf4
      split at x9
      · rename_i ug;split at x9
        · rename_i X6 rz;simp only[Oi,Pi_]at x9;obtain⟨rfl,rfl⟩:=x9
          cases hv with | cons h1 t1=>cases t1 with | cons h2 t2=>cases t2 with | nil =>
          rename_i d1 d2;cases d1<;>cases d2<;>simp only[aop,LOp.loud,pop,Bool.false_eq_true,if_false,Option.map_some,Option.map_none,reduceCtorEq]at h;simp only[Om,Pi_]at h;obtain⟨_,⟨q,hq,rfl⟩,rfl,rfl,rfl⟩:=h;exact Does.pure (s:=(do eqGuard op t x y (ev x) (ev y);binOp op t (ev x) (ev y))) hr rfl (eqs_ok yR rfl ug rz h1 h2 hq)
        simp at x9
      simp at x9
    simp only[Oi,Pi_]at x9;exact key x9.1.symm x9.2.symm
  case h_5 op t x =>
    simp only[Oi,Pi_]at x9;obtain⟨rfl,rfl⟩:=x9
    cases hv with | cons h1 t1=>cases t1 with | nil =>
    simp only[aop,LOp.loud,pop,Bool.false_eq_true,if_false,Om,Pi_]at h;obtain⟨r',hb,rfl,rfl,rfl⟩:=h;exact Does.pure hr rfl (un_ok h1 hb)
  case h_6 e =>
    split at x9
    · rename_i z n hz hn;split at x9
      · rename_i hl;simp only[Oi,Pi_]at x9;obtain⟨rfl,rfl⟩:=x9;cases hv;simp only[aop,LOp.loud,lop,if_true,Oi,Pi_]at h;obtain⟨rfl,rfl,rfl⟩:=h;exact Does.val rfl (alloc_ok hr hz hn hl)
      simp at x9
    simp at x9
  case h_7 e x =>
    cases hbx:kd.bx odst with
    | false =>
      rw[if_neg (by rw[hbx];exact Bool.false_ne_true)]at x9;simp only[Om,Pi_]at x9;obtain⟨n,hn,rfl,rfl⟩:=x9
      cases hv with | cons h1 t1=>cases t1 with | nil =>
      simp only[aop,LOp.loud,lop,if_true]at h;split at h
      · rename_i hc;simp only[Bool.and_eq_true,beq_iff_eq]at hc;simp only[Oi,Pi_]at h;obtain⟨rfl,rfl,rfl⟩:=h;exact Does.val rfl (box_ok hr hn h1 hc.1 hc.2)
      simp at h
    | true =>
      rw[if_pos hbx]at x9;simp only[Om,Pi_]at x9;obtain⟨n,hn,rfl,rfl⟩:=x9
      cases hv with | cons h1 t1=>cases t1 with | nil =>
      simp only[aop,LOp.loud,lop,if_true]at h;split at h
      · rename_i hc;simp only[Bool.and_eq_true,beq_iff_eq]at hc;simp only[Oi,Pi_]at h;obtain⟨rfl,rfl,rfl⟩:=h;exact Does.val rfl (boxc_ok hr h1 hc.1.1 hc.2)
      simp at h
  case h_8 t ps =>
    split at x9
    · rename_i z pl hz wV;split at x9
      · rename_i places hp;simp only[Oi,Pi_]at x9;obtain⟨rfl,rfl⟩:=x9;simp only[aop,LOp.loud,pop,Bool.false_eq_true,if_false,Om,Pi_]at h;obtain⟨_,⟨cs,hb,rfl⟩,rfl,rfl,rfl⟩:=h;refine Does.pure (s:=Instr.build t (ps.map fun (i,x)=>(i,ev x))) hr rfl ?_;rw[parts_zip];exact build_ok hz wV hp hv (by simp) hb
      simp at x9
    simp at x9
  case h_9 t len ps =>
    split at x9
    · rename_i e he;split at x9
      · rename_i z n hz hn;split at x9
        · rename_i hl;simp only[Oi,Pi_]at x9;obtain⟨rfl,rfl⟩:=x9;simp only[aop,LOp.loud,lop,if_true]at h;refine Does.val (s:=Instr.buildSlice t len (ps.map fun (i,x)=>(i,ev x))) rfl ?_;rw[parts_zip];generalize (if kd.bx odst=true then 1 else kd.of e)=kk at h;by_cases vO:kk=0
          · rw [if_pos vO] at h
            cases hf:Dl (List.replicate len z) n (ps.toList.map (·.1)) ds with
            | none=>rw[hf]at h;simp at h
            | some rs =>
              rw[hf]at h;simp only[Oi,Pi_]at h;obtain⟨rfl,rfl,rfl⟩:=h;exact bslice0_ok hr (sliceT_iff.1 he) hz hn hl.1 hl.2 hv (by simp) hf
          rw[if_neg vO]at h
          cases hys:Ah S.heap.length S.heap ds with
          | none=>rw[hys]at h;simp at h
          | some ys =>
            rw[hys]at h;simp only at h
            cases qY:Dm (List.replicate len z) n (ps.toList.map (·.1)) ys with
            | none=>rw[qY]at h;simp at h
            | some rs =>
              rw[qY]at h;exact bslice_ok hr (sliceT_iff.1 he) hz hn hl.1 hl.2 hv (by simp) hys qY h
        simp at x9
      simp at x9
    simp at x9
  case h_10 t a =>
    simp only[Om,Pi_]at x9;obtain⟨n,hn,rfl,rfl⟩:=x9
    cases hv with | cons h1 t1=>cases t1 with | nil =>
    simp only[aop,LOp.loud,lop,if_true,Om,Pi_]at h;obtain⟨r',hb,rfl,rfl,rfl⟩:=h;exact Does.pure hr rfl (load_ok hr h1 hb hn rfl)
  case h_11 t a x =>
    simp only[Om,Pi_]at x9;obtain⟨n,hn,rfl,rfl⟩:=x9
    cases hv with | cons h1 t1=>cases t1 with | cons h2 t2=>cases t2 with | nil =>
    simp only[aop,LOp.loud,lop,if_true,Om,Pi_]at h;obtain⟨S2,hb,rfl,rfl,rfl⟩:=h;obtain⟨w',h3,h4⟩:=store_ok hr h1 h2 hn hb;exact⟨.skip,undef,w',by simp[execOp,h3],.inr ⟨rfl,rfl⟩,h4⟩
  case h_12 x =>
    simp only[Oi,Pi_]at x9;obtain⟨rfl,rfl⟩:=x9
    cases hv with | cons h1 t1=>cases t1 with | nil =>
    rename_i d1;generalize hx:ev x=vx at h1;cases d1<;>simp only[aop,LOp.loud,pop,Bool.false_eq_true,if_false,Option.map_some,Option.map_none,reduceCtorEq]at h
    all_goals
      simp only[Oi,Pi_]at h;obtain⟨rfl,rfl,rfl⟩:=h;have h1':=h1;cases h1;exact⟨_,_,w,by simp[execOp,hx],.inl rfl,Xu.pure hr h1'⟩
  case h_13 s x f =>
    split at x9
    · rename_i fd kT;simp only[Om,Pi_]at x9;obtain⟨n,hn,rfl,rfl⟩:=x9
      cases hv with | cons h1 t1=>cases t1 with | nil =>
      simp only[aop,LOp.loud,pop,Bool.false_eq_true,if_false,Om,Pi_]at h;obtain⟨r',hb,rfl,rfl,rfl⟩:=h;obtain⟨fs,hu,hf⟩:=V8 kT;exact Does.pure hr rfl (faddr_ok hu hf hn h1 hb)
    simp at x9
  case h_14 s x f =>
    split at x9
    · rename_i fd kT;simp only[Om,Pi_]at x9;obtain⟨n,hn,rfl,rfl⟩:=x9
      cases hv with | cons h1 t1=>cases t1 with | nil =>
      rename_i d1;cases d1<;>simp only[aop,LOp.loud,pop,Bool.false_eq_true,if_false,Option.map_some,Option.map_none,reduceCtorEq]at h;simp only[Om,Pi_]at h;obtain⟨r',hb,rfl,rfl,rfl⟩:=h;obtain⟨fs,hu,hf⟩:=V8 kT;generalize hx:ev x=vx at h1;refine Does.pure (s:=Instr.field s (ev x) f) hr rfl ?_;rw[hx]
      cases h1 with
      | agg _ vs hl hc hh =>
        obtain⟨v,h2,h3⟩:=O8 (P:=P) hl hc hh hb hn rfl;exact⟨v,by simp[Instr.field,run_underlying hu,hf,asAgg,h2],h3⟩
    simp at x9
  case h_15 t x i =>
    split at x9
    · rename_i e he;simp only[Om,Pi_]at x9;obtain⟨n,hn,rfl,rfl⟩:=x9
      cases hv with | cons h1 t1=>cases t1 with | cons h2 t2=>cases t2 with | nil =>
      simp only[aop,LOp.loud,lop,if_true,Om,Pi_]at h;obtain⟨r',hb,rfl,rfl,rfl⟩:=h;exact Does.pure hr rfl (iaddr_ok (sliceT_iff.1 he) hn h1 h2 hb)
    split at x9
    · rename_i len e he;simp only[Om,Pi_]at x9;obtain⟨n,hn,rfl,rfl⟩:=x9
      cases hv with | cons h1 t1=>cases t1 with | cons h2 t2=>cases t2 with | nil =>
      simp only[aop,LOp.loud,pop,Bool.false_eq_true,if_false,Om,Pi_]at h;obtain⟨r',hb,rfl,rfl,rfl⟩:=h;exact Does.pure hr rfl (aaddr_ok (arrayT_iff.1 he) hn h1 h2 hb)
    simp at x9
  case h_16 t x i =>
    split at x9
    · rename_i hs;simp only[Oi,Pi_]at x9;obtain⟨rfl,rfl⟩:=x9
      cases hv with | cons h1 t1=>cases t1 with | cons h2 t2=>cases t2 with | nil =>
      simp only[aop,LOp.loud,pop,Bool.false_eq_true,if_false,Om,Pi_]at h;obtain⟨r',hb,rfl,rfl,rfl⟩:=h;exact Does.pure hr rfl (index_ok hs h1 h2 hb)
    split at x9
    · rename_i len e he;simp only[Om,Pi_]at x9;obtain⟨n,hn,rfl,rfl⟩:=x9
      cases hv with | cons h1 t1=>cases t1 with | cons h2 t2=>cases t2 with | nil =>
      rename_i d1 d2;cases d1<;>cases d2<;>simp only[aop,LOp.loud,pop,Bool.false_eq_true,if_false,Option.map_some,Option.map_none,reduceCtorEq]at h;split at h
      · rename_i hj;simp only[Om,Pi_]at h;obtain⟨r',hb,rfl,rfl,rfl⟩:=h;generalize hx:ev x=vx at h1;generalize hi:ev i=vi at h2;cases h2;refine Does.pure (s:=Instr.index t (ev x) (ev i)) hr rfl ?_;rw[hx,hi]
        cases h1 with
        | agg _ vs hl hc hh =>
          obtain⟨v,h2,h3⟩:=O8 (P:=P) hl hc hh hb hn rfl;exact⟨v,by simp[Instr.index,asIntOf,run_underlying (arrayT_iff.1 he),hj,run_sizeOf hn,h2],h3⟩
      simp at h
    simp at x9
  case h_17 t x lo hi mx =>
    split at x9
    · rename_i hs;simp only[Oi,Pi_]at x9;obtain⟨rfl,rfl⟩:=x9
      cases hv with | cons h1 t1 =>
      rename_i d1 ds;generalize hx:ev x=vx at h1;cases d1<;>simp only[aop,LOp.loud,pop,Bool.false_eq_true,if_false,Option.map_some,Option.map_none,reduceCtorEq]at h;cases h1;split at h
      · rename_i a b hsa;simp only[Om,Pi_]at h;obtain⟨_,⟨⟨l,hh⟩,hb,rfl⟩,rfl,rfl,rfl⟩:=h;obtain⟨o1,o2,o3,_⟩:=vo_of t1 hsa;refine Does.pure (s:=Instr.sliceAt t (ev x) (lo.map ev) (hi.map ev) (mx.map ev)) hr rfl ?_;generalize mx.map ev=vm at o3;cases o3;rw[hx];exact⟨_,sliceStr_ok (strT_iff.1 hs) o1 o2 hb,.str _⟩
      simp at h
    split at x9
    · rename_i e he;simp only[Om,Pi_]at x9;obtain⟨n,hn,rfl,rfl⟩:=x9
      cases hv with | cons h1 t1 =>
      simp only[aop,LOp.loud,lop,if_true]at h;split at h
      · rename_i a b m hsa;simp only[Om,Pi_]at h;obtain⟨r',hb,rfl,rfl,rfl⟩:=h;obtain⟨o1,o2,o3,o4⟩:=vo_of t1 hsa;exact Does.pure hr rfl (slice_ok (sliceT_iff.1 he) hn h1 o1 o2 o3 o4 hb)
      simp at h
    simp at x9
  case h_18 x i =>
    simp only[Oi,Pi_]at x9;obtain⟨rfl,rfl⟩:=x9
    cases hv with | cons h1 t1=>cases t1 with | nil =>
    rename_i d1;cases d1<;>simp only[aop,LOp.loud,pop,Bool.false_eq_true,if_false,Option.map_some,Option.map_none,reduceCtorEq]at h;simp only[Om,Pi_]at h;obtain⟨r',hb,rfl,rfl,rfl⟩:=h;exact Does.pure hr rfl (extract_ok h1 hb)
  case h_19 t l c =>
    split at x9
    · rename_i e he;split at x9
      · rename_i i z n hi hz hn;split at x9
        · rename_i hl;simp only[Oi,Pi_]at x9;obtain⟨rfl,rfl⟩:=x9
          cases hv with | cons h1 t1=>cases t1 with | cons h2 t2=>cases t2 with | nil =>
          rename_i d1 d2;generalize wU:ev l=vl at h1;generalize hvc:ev c=vc at h2;cases d1<;>cases d2<;>simp only[aop,LOp.loud,lop,if_true,reduceCtorEq]at h;cases h1;cases h2;refine Does.val (s:=Instr.makeSlice t (ev l) (ev c)) rfl ?_;rw[wU,hvc];exact mkslice_ok hr (sliceT_iff.1 he) hi hn hz hl.1 hl.2 (kd_of kd _) h
        simp at x9
      simp at x9
    simp at x9
  case h_20 t rr =>
    split at x9
    · rename_i hn;simp only[Oi,Pi_]at x9;obtain⟨rfl,rfl⟩:=x9;cases hv;simp only[aop,LOp.loud,lop,if_true,Oi,Pi_]at h;obtain⟨rfl,rfl,rfl⟩:=h;have:rr=none:=by simpa using hn
      subst this;exact Does.val rfl (mkmap_ok hr)
    simp at x9
  case h_21 t m k v =>
    split at x9
    · rename_i kt e hmt;split at x9
      · rename_i kf hkf;simp only[Oi,Pi_]at x9;obtain⟨rfl,rfl⟩:=x9
        cases hv with | cons h1 t1=>cases t1 with | cons h2 t2=>cases t2 with | cons h3 t3=>cases t3 with | nil =>
        simp only[aop,LOp.loud,lop,if_true,Om,Pi_]at h;obtain⟨S2,hb,rfl,rfl,rfl⟩:=h;obtain⟨w',h4,h5⟩:=mapset_ok hr (mapT_iff.1 hmt) hkf h1 h2 h3 hb;exact⟨.skip,undef,w',by simp[execOp,h4],.inr ⟨rfl,rfl⟩,h5⟩
      split at x9
      · rename_i hag;simp only[Om,Pi_]at x9;obtain⟨X6,hfm,rfl,rfl⟩:=x9
        cases hv with | cons h1 t1=>cases t1 with | cons h2 t2=>cases t2 with | cons h3 t3=>cases t3 with | nil =>
        simp only[aop,LOp.loud,lop,if_true,Om,Pi_]at h;obtain⟨S2,hb,rfl,rfl,rfl⟩:=h;obtain⟨w',h4,h5⟩:=mapsetS_ok hr (mapT_iff.1 hmt) hag hfm h1 h2 h3 hb;exact⟨.skip,undef,w',by simp[execOp,h4],.inr ⟨rfl,rfl⟩,h5⟩
      simp at x9
    simp at x9
  case h_22 t m k v =>
    split at x9
    · rename_i kt e hmt;split at x9
      · rename_i kf hkf;simp only[Oi,Pi_]at x9;obtain⟨rfl,rfl⟩:=x9
        cases hv with | cons h1 t1=>cases t1 with | cons h2 t2=>cases t2 with | cons h3 t3=>cases t3 with | nil =>
        simp only[aop,LOp.loud,lop,if_true,Om,Pi_]at h;obtain⟨S2,hb,rfl,rfl,rfl⟩:=h;obtain⟨w',h4,h5⟩:=mapset_ok hr (mapT_iff.1 hmt) hkf h1 h2 h3 hb;exact⟨.skip,undef,w',by simp[execOp,h4],.inr ⟨rfl,rfl⟩,h5⟩
      split at x9
      · rename_i hag;simp only[Om,Pi_]at x9;obtain⟨X6,hfm,rfl,rfl⟩:=x9
        cases hv with | cons h1 t1=>cases t1 with | cons h2 t2=>cases t2 with | cons h3 t3=>cases t3 with | nil =>
        simp only[aop,LOp.loud,lop,if_true,Om,Pi_]at h;obtain⟨S2,hb,rfl,rfl,rfl⟩:=h;obtain⟨w',h4,h5⟩:=mapsetS_ok hr (mapT_iff.1 hmt) hag hfm h1 h2 h3 hb;exact⟨.skip,undef,w',by simp[execOp,h4],.inr ⟨rfl,rfl⟩,h5⟩
      simp at x9
    simp at x9
  case h_23 t m k ok =>
    split at x9
    · rename_i kt e hmt;split at x9
      · rename_i z kf hz hkf;simp only[Oi,Pi_]at x9;obtain⟨rfl,rfl⟩:=x9
        cases hv with | cons h1 t1=>cases t1 with | cons h2 t2=>cases t2 with | nil =>
        simp only[aop,LOp.loud,lop,if_true,Om,Pi_]at h;obtain⟨r',hb,rfl,rfl,rfl⟩:=h;exact Does.pure hr rfl (mapget_ok hr (mapT_iff.1 hmt) hkf hz h1 h2 hb)
      · rename_i z hz hkn;split at x9
        · rename_i hag;simp only[Om,Pi_]at x9;obtain⟨X6,hfm,rfl,rfl⟩:=x9
          cases hv with | cons h1 t1=>cases t1 with | cons h2 t2=>cases t2 with | nil =>
          simp only[aop,LOp.loud,lop,if_true,Om,Pi_]at h;obtain⟨r',hb,rfl,rfl,rfl⟩:=h;exact Does.pure hr rfl (mapgetS_ok hr (mapT_iff.1 hmt) hag hfm hz h1 h2 hb)
        simp at x9
      simp at x9
    simp at x9
  case h_24 f first caps =>
    split at x9
    · rename_i hf;simp only[Oi,Pi_]at x9;obtain⟨rfl,rfl⟩:=x9;simp only[aop,LOp.loud,pop,Bool.false_eq_true,if_false,Option.map_some,Oi,Pi_]at h;obtain⟨rfl,rfl,rfl⟩:=h
      have uX:first=#[]:=by simpa using hf
      subst uX;refine Does.pure (s:=Instr.makeFunc (.func f) (#[].map ev) (caps.map ev)) hr rfl ⟨.func (.func f) #[] (caps.map ev),by simp[Instr.makeFunc],?_⟩;have:=VR.fn (w:=w) (ρ:=ρ) (H:=S.heap) f ds (caps.toList.map ev) hv.len (fun j d v=>hv.get);have he:(caps.toList.map ev).toArray=caps.map ev:=by apply Array.ext';simp
      rw[he]at this;exact this
    split at x9
    · rename_i hc;simp only[Oi,Pi_]at x9;obtain⟨rfl,rfl⟩:=x9;simp only[aop,LOp.loud,pop,Bool.false_eq_true,if_false,Option.map_some,Oi,Pi_]at h;obtain⟨rfl,rfl,rfl⟩:=h;have hc0:caps=#[]:=by simpa using hc
      subst hc0;refine Does.pure (s:=Instr.makeFunc (.func f) (first.map ev) (#[].map ev)) hr rfl ⟨.func (.func f) (first.map ev) #[],by simp[Instr.makeFunc],?_⟩;have:=VR.bfn (w:=w) (ρ:=ρ) (H:=S.heap) f ds (first.toList.map ev) hv.len (fun j d v=>hv.get)
      have he:(first.toList.map ev).toArray=first.map ev:=by apply Array.ext';simp
      rw[he]at this;exact this
    simp at x9
  case h_25 s d x =>
    split at x9
    · rename_i k1 k y7 hk;simp only[Oi,Pi_]at x9;obtain⟨rfl,rfl⟩:=x9
      cases hv with | cons h1 t1=>cases t1 with | nil =>
      rename_i d1;cases d1<;>simp only[aop,LOp.loud,pop,Bool.false_eq_true,if_false,Option.map_some,Option.map_none,reduceCtorEq]at h;simp only[Oi,Pi_]at h;obtain⟨rfl,rfl,rfl⟩:=h;generalize hx:ev x=vx at h1;cases h1;refine Does.pure (s:=convert s d (ev x)) hr rfl ⟨.int k _,?_,.int _ _⟩;rw[hx];simp[convert,run_underlying (intT_iff.1 y7),run_underlying (intT_iff.1 hk),Conv.intToInt]
    split at x9
    · rename_i hss;simp only[Bool.and_eq_true]at hss;simp only[Oi,Pi_]at x9;obtain⟨rfl,rfl⟩:=x9
      cases hv with | cons h1 t1=>cases t1 with | nil =>
      rename_i d1;cases d1<;>simp only[aop,LOp.loud,pop,Bool.false_eq_true,if_false,Option.map_some,Option.map_none,reduceCtorEq]at h;simp only[Oi,Pi_]at h;obtain⟨rfl,rfl,rfl⟩:=h;generalize hx:ev x=vx at h1;cases h1;refine Does.pure (s:=convert s d (ev x)) hr rfl ⟨.string _,?_,.str _⟩;rw[hx];simp[convert,run_underlying (strT_iff.1 hss.1),run_underlying (strT_iff.1 hss.2)]
    split at x9
    · rename_i hud;split at x9
      · rename_i t zU;simp only[Om,Pi_]at x9;obtain⟨n,hn,rfl,rfl⟩:=x9
        cases hv with | cons h1 t1=>cases t1 with | nil =>
        simp only[aop,LOp.loud,lop,if_true,Om,Pi_]at h;obtain⟨r',hb,rfl,rfl,rfl⟩:=h;obtain⟨h3,h4⟩:=toU_ok hr zU hud hn h1 hb;exact Does.pure (s:=convert s d (ev x)) hr rfl ⟨_,h3,h4⟩
      simp at x9
    split at x9
    · rename_i hus;split at x9
      · rename_i t zU;simp only[Om,Pi_]at x9;obtain⟨n,hn,rfl,rfl⟩:=x9
        cases hv with | cons h1 t1=>cases t1 with | nil =>
        simp only[aop,LOp.loud,lop,if_true,Om,Pi_]at h;obtain⟨r',hb,rfl,rfl,rfl⟩:=h;obtain⟨h3,h4⟩:=ofU_ok hr hus zU hn h1 hb;exact Does.pure (s:=convert s d (ev x)) hr rfl ⟨_,h3,h4⟩
      simp at x9
    split at x9
    · rename_i e e' hse hde;split at x9
      · rename_i hc;obtain⟨rfl,y8,w9⟩:=hc;simp only[Oi,Pi_]at x9;obtain⟨rfl,rfl⟩:=x9
        cases hv with | cons h1 t1=>cases t1 with | nil =>
        simp only[aop,LOp.loud,lop,if_true]at h;exact Does.val (s:=convert s s (ev x)) rfl (strsh_ok hr (sliceT_iff.1 hse) (intT_iff.1 y8) h1 h)
      simp at x9
    · rename_i e hse hde;split at x9
      · rename_i hc;simp only[Bool.and_eq_true,decide_eq_true_eq,beq_iff_eq]at hc;simp only[Oi,Pi_]at x9;obtain⟨rfl,rfl⟩:=x9
        cases hv with | cons h1 t1=>cases t1 with | nil =>
        simp only[aop,LOp.loud,lop,if_true]at h;split at h
        · rename_i rows xE;simp only[Om,Pi_]at h;obtain⟨b,hb,rfl,rfl,rfl⟩:=h;exact Does.pure hr rfl ⟨_,bstr_ok hr (sliceT_iff.1 hse) (intT_iff.1 hc.1.1) (strT_iff.1 hc.1.2) h1 xE hb,.str _⟩
        simp at h
      simp at x9
    · rename_i e hse hde;split at x9
      · rename_i hc;simp only[Bool.and_eq_true,decide_eq_true_eq,beq_iff_eq]at hc;simp only[Oi,Pi_]at x9;obtain⟨rfl,rfl⟩:=x9
        cases hv with | cons h1 t1=>cases t1 with | nil =>
        rename_i d1;generalize hx:ev x=vx at h1;cases d1<;>simp only[aop,LOp.loud,lop,if_true,reduceCtorEq]at h;cases h1;simp only[Oi,Pi_]at h;obtain⟨rfl,rfl,rfl⟩:=h;refine Does.val (s:=convert s d (ev x)) rfl ?_;rw[hx];exact strb_ok hr (strT_iff.1 hc.1.2) (sliceT_iff.1 hde) (intT_iff.1 hc.1.1)
      simp at x9
    simp at x9
  case h_26 t x =>
    split at x9
    · simp at x9
    · simp at x9
    rename_i td kK hu;simp only[Oi,Pi_]at x9;obtain⟨rfl,rfl⟩:=x9
    cases hv with | cons h1 t1=>cases t1 with | nil =>
    simp only[aop,LOp.loud,pop,Bool.false_eq_true,if_false]at h;split at h
    · rename_i qB;simp only[Option.map_some,Oi,Pi_]at h;obtain⟨rfl,rfl,rfl⟩:=h;refine Does.pure hr (s:=Instr.makeInterface t (ev x)) rfl ⟨.iface t (ev x),?_,?_⟩
      · simp only [Instr.makeInterface, Sem.run_bind, run_underlying hu, Result.andThen_ok]
        cases td<;>first | rfl | exact absurd rfl (kK _)
      split
      · rename_i hf;exact .ifc t _ _ hf qB h1
      exact .ifr t _ _ qB h1
    simp at h
  case h_27 x xt t ok =>
    split at x9
    · simp at x9
    · simp at x9
    rename_i td kK hu;simp only[Om,Pi_]at x9;obtain⟨z,hz,rfl,rfl⟩:=x9
    cases hv with | cons h1 t1=>cases t1 with | nil =>
    simp only[aop,LOp.loud,Bool.false_eq_true,if_false,Om,Pi_]at h;obtain⟨r',hp,rfl,rfl,rfl⟩:=h;exact Does.pure hr (s:=Instr.typeAssert (ev x) xt t ok) rfl (tass_ok hu (fun m hm=>kK m hm) hz h1 hp)
  case h_28 c =>
    obtain⟨callee,args,argTypes⟩:=c
    have run_bi:∀(bi:Builtin) (s:Sem Value),(∀k,builtin bi argTypes oty k (args.map ev)=(do pure (.value (←s))))→callee=.builtin bi→(∃v w',s.run P w=.ok v w'∧Xu w ρ S r S' wr v w') →
        Does P w ρ S ev ⟨odst,.call ⟨callee,args,argTypes⟩,oty,opos,oafter,oguard⟩ r S' wr:=by
      rintro bi s hs rfl hh;refine Does.val (s:=s) ?_ hh;simp only[execOp,resolve,invoke];rw[←hs (args.map fun | .const _=>true | _=>false)];rfl
    simp only at x9;split at x9
    · simp only [Oi, Pi_] at x9;obtain⟨rfl,rfl⟩:=x9;simp[aop,lop,LOp.loud]at h
    · -- a function
      rename_i f;split at x9
      · rename_i fn zY;split at x9
        · rename_i hbody;split at x9
          · rename_i hmz;split at x9
            · rename_i rt hrt;split at x9
              · rename_i e he;split at x9
                · rename_i hu8;simp only[Oi,Pi_]at x9;obtain⟨rfl,rfl⟩:=x9;have he':(args.toList.map ev).toArray=args.map ev:=by apply Array.ext';simp
                  have hrt':fn.resultTypes=#[rt]:=by apply Array.ext';simpa using hrt
                  simp only[aop,LOp.loud,if_true]at h;obtain⟨n,rfl,hn0,uE,rfl,rfl,rfl⟩:=lop_mknz h
                  have rT:args.map ev=#[.int .i64 n]:=by
                    rw[←he'];generalize args.toList.map ev=vs at hv
                    cases hv with
                    | cons h1 t1 =>
                    cases t1 with
                    | nil =>
                    cases h1;rfl
                  obtain⟨v,w',h4,h5⟩:=mknz_ok (P:=P) fn.params hr (sliceT_iff.1 he) rfl hn0 uE;refine⟨.value v,v,w',?_,.inl rfl,h5⟩
                  have hh:(execOp ev ⟨odst,.call ⟨.value (.func f),args,argTypes⟩,oty,opos,oafter,oguard⟩).run P w=(callFunc f (args.map ev)).run P w:=by
                    simp[execOp,resolve,Deferred.ofValue,invoke,hevf]
                  rw[hh,rT];exact run_mknz zY hbody hmz.1 hmz.2 hrt' h4
                simp at x9
              simp at x9
            simp at x9
          split at x9
          rotate_left
          · simp at x9
          rename_i l' hl';simp only[Oi,Pi_]at x9;obtain⟨rfl,rfl⟩:=x9;split at hl'
          · rename_i horig;have he:(args.toList.map ev).toArray=args.map ev:=by apply Array.ext';simp
            have run_x : ∀ (name : String) (g : Array Value → Sem Value), fn.name = name → (name == "runtime.NumGoroutine") = false → (Extern.allNextRows.lookup name = none ∧ Extern.allGenericRows.lookup name = none ∧ Extern.allTypedRows.lookup name = none ∧ Extern.allRows.lookup name = some g) →
                (∃v w',(g (args.map ev)).run P w=.ok v w'∧Xu w ρ S r S' wr v w')→Does P w ρ S ev ⟨odst,.call ⟨.value (.func f),args,argTypes⟩,oty,opos,oafter,oguard⟩ r S' wr:=by
              rintro name g h1 h2 h3 ⟨v,w',h4,h5⟩;refine⟨.value v,v,w',?_,.inl rfl,h5⟩
              have hh:(execOp ev ⟨odst,.call ⟨.value (.func f),args,argTypes⟩,oty,opos,oafter,oguard⟩).run P w=(callFunc f (args.map ev)).run P w:=by
                simp[execOp,resolve,Deferred.ofValue,invoke,hevf]
              rw[hh];exact run_ext zY hbody h1 horig h2 h3 h4
            unfold Li at hl';split at hl'
            · rename_i hnm;simp only[Oi]at hl';subst hl';refine run_x _ _ hnm (by decide) ext_idx ?_;rw[←he];generalize args.toList.map ev=vs at hv
              cases hv with
              | nil=>simp[aop,LOp.loud,pop]at h
              | cons h1 t1 => cases t1 with
                | nil=>simp[aop,LOp.loud,pop]at h
                | cons h2 t2 => cases t2 with
                  | cons h3 t3=>simp[aop,LOp.loud,pop]at h
                  | nil =>
                    rename_i d1 v1 d2 v2;simp only[aop,LOp.loud,Bool.false_eq_true,if_false,Om,Pi_]at h;obtain⟨r',hp,rfl,rfl,rfl⟩:=h;unfold pop at hp;split at hp<;>simp only[reduceCtorEq,List.cons.injEq,and_true,Oi]at *;rename_i s c rM;obtain⟨rfl,rfl⟩:=rM;subst hp;cases h1;cases h2;exact⟨_,w,idxb_run,Xu.pure hr (.int _ _)⟩
            split at hl'
            · rename_i hnm;simp only[Oi]at hl';subst hl';refine run_x _ _ hnm (by decide) ext_cnt ?_;rw[←he];generalize args.toList.map ev=vs at hv
              cases hv with
              | nil=>simp[aop,LOp.loud,pop]at h
              | cons h1 t1 => cases t1 with
                | nil=>simp[aop,LOp.loud,pop]at h
                | cons h2 t2 => cases t2 with
                  | cons h3 t3=>simp[aop,LOp.loud,pop]at h
                  | nil =>
                    rename_i d1 v1 d2 v2;simp only[aop,LOp.loud,Bool.false_eq_true,if_false,Om,Pi_]at h;obtain⟨r',hp,rfl,rfl,rfl⟩:=h;unfold pop at hp;split at hp<;>simp only[reduceCtorEq,List.cons.injEq,and_true,Oi]at *;rename_i s c rM;obtain⟨rfl,rfl⟩:=rM;subst hp;cases h1;cases h2;exact⟨_,w,cntb_run,Xu.pure hr (.int _ _)⟩
            split at hl'
            · rename_i hnm;simp only[Oi]at hl';subst hl';refine run_x _ _ hnm (by decide) ext_esc ?_;rw[←he];generalize args.toList.map ev=vs at hv
              cases hv with
              | nil=>simp[aop,LOp.loud,pop]at h
              | cons h1 t1 => cases t1 with
                | cons h2 t2=>simp[aop,LOp.loud,pop]at h
                | nil =>
                  simp only[aop,LOp.loud,pop,Bool.false_eq_true,if_false,Option.map_some,Oi,Pi_]at h;obtain⟨rfl,rfl,rfl⟩:=h;exact⟨_,w,rfl,Xu.pure hr h1⟩
            simp at hl'
          simp at hl'
        simp only[Oi,Pi_]at x9;obtain⟨rfl,rfl⟩:=x9;simp[aop,lop,LOp.loud]at h
      simp at x9
    · simp only [Oi, Pi_] at x9;obtain⟨rfl,rfl⟩:=x9;simp[aop,lop,LOp.loud]at h
    · -- len
      split at x9
      · rename_i x t yc qC;have ha:args=#[x]:=by apply Array.ext';simpa using yc
        have hb:argTypes=#[t]:=by apply Array.ext';simpa using qC
        subst ha hb;split at x9
        · rename_i xH;simp only[Oi,Pi_]at x9;obtain⟨rfl,rfl⟩:=x9
          cases hv with | cons h1 t1=>cases t1 with | nil =>
          simp only[aop,LOp.loud,pop,Bool.false_eq_true,if_false,Om,Pi_]at h;obtain⟨r',hb,rfl,rfl,rfl⟩:=h
          have ht:(Ng P t=true∧P.underlying t=some .string)∨(Ng P t=false∧∃e,P.underlying t=some (.slice e)):=by
            cases hs:Ng P t with
            | true=>exact .inl ⟨rfl,strT_iff.1 hs⟩
            | false =>
              rw[hs]at xH;simp only[Bool.false_or]at xH;obtain⟨e,he⟩:=Option.isSome_iff_exists.1 xH;exact .inr ⟨rfl,e,sliceT_iff.1 he⟩
          obtain⟨v,h3,h4⟩:=len_ok (P:=P) (ty:=oty) ht h1 hb;exact run_bi .len (Builtin.len_ #[t] oty #[ev x]) (fun k=>by simp[builtin]) rfl ⟨v,w,h3,Xu.pure hr h4⟩
        split at x9
        · rename_i n e he;simp only[Oi,Pi_]at x9;obtain⟨rfl,rfl⟩:=x9
          cases hv with | cons h1 t1=>cases t1 with | nil =>
          simp only[aop,LOp.loud,pop,Bool.false_eq_true,if_false,Option.map_some,Oi,Pi_]at h;obtain⟨rfl,rfl,rfl⟩:=h;exact run_bi .len (Builtin.len_ #[t] oty #[ev x]) (fun k=>by simp[builtin]) rfl ⟨.int .i64 n,w,by simp[Builtin.len_,run_underlying (arrayT_iff.1 he),goInt],Xu.pure hr (.int _ _)⟩
        simp at x9
      simp at x9
    · -- cap
      split at x9
      · rename_i x t yc qC;have ha:args=#[x]:=by apply Array.ext';simpa using yc
        have hb:argTypes=#[t]:=by apply Array.ext';simpa using qC
        subst ha hb;split at x9
        · rename_i xH;simp only[Oi,Pi_]at x9;obtain⟨rfl,rfl⟩:=x9
          cases hv with | cons h1 t1=>cases t1 with | nil =>
          simp only[aop,LOp.loud,pop,Bool.false_eq_true,if_false,Om,Pi_]at h;obtain⟨r',hb,rfl,rfl,rfl⟩:=h;obtain⟨e,he⟩:=Option.isSome_iff_exists.1 xH;obtain⟨v,h3,h4⟩:=cap_ok (P:=P) (ty:=oty) (sliceT_iff.1 he) h1 hb;exact run_bi .cap (Builtin.cap_ #[t] oty #[ev x]) (fun k=>by simp[builtin]) rfl ⟨v,w,h3,Xu.pure hr h4⟩
        simp at x9
      simp at x9
    · -- append
      split at x9
      · rename_i sx x t t' yc qC;have ha:args=#[sx,x]:=by apply Array.ext';simpa using yc
        have hb:argTypes=#[t,t']:=by apply Array.ext';simpa using qC
        subst ha hb;split at x9
        · rename_i xH;split at x9
          · rename_i e he;split at x9
            · rename_i i z hi hz;split at x9
              · rename_i hl;simp only[Oi,Pi_]at x9;obtain⟨rfl,rfl⟩:=x9
                cases hv with | cons h1 t1=>cases t1 with | cons h2 t2=>cases t2 with | nil =>
                rename_i d1 d2;generalize hx:ev x=vx at h2;cases d2<;>simp only[aop,LOp.loud,lop,if_true,reduceCtorEq]at h;cases h2;refine run_bi .append (Builtin.append_ #[t,t'] oty #[ev sx,ev x]) (fun k=>by simp[builtin]) rfl ?_;rw[hx];exact appstr_ok hr (sliceT_iff.1 he) (strT_iff.1 xH) hi hl.2.1 hz hl.2.2.1 hl.2.2.2 (kd_of kd _) h1 h
              simp at x9
            simp at x9
          simp at x9
        split at x9
        · rename_i htt;subst htt;split at x9
          · rename_i e he;split at x9
            · rename_i i n z hi hn hz;split at x9
              · rename_i hl;simp only[Oi,Pi_]at x9;obtain⟨rfl,rfl⟩:=x9
                cases hv with | cons h1 t1=>cases t1 with | cons h2 t2=>cases t2 with | nil =>
                simp only[aop,LOp.loud,lop,if_true]at h;exact run_bi .append (Builtin.append_ #[t,t] oty #[ev sx,ev x]) (fun k=>by simp[builtin]) rfl (append_ok hr (sliceT_iff.1 he) hi hn hz hl.1 hl.2 (kd_of kd _) h1 h2 h)
              simp at x9
            simp at x9
          simp at x9
        split at x9
        · rename_i hit;obtain⟨kn,hkn⟩:=Option.isSome_iff_exists.1 hit;split at x9
          · rename_i e he;split at x9
            · rename_i i n z hi hn hz;split at x9
              · rename_i hl;simp only[Oi,Pi_]at x9;obtain⟨rfl,rfl⟩:=x9
                cases hv with | cons h1 t1=>cases t1 with | cons h2 t2=>cases t2 with | nil =>
                rename_i d1 d2;generalize rT:ev sx=vs at h1;generalize vV:ev x=vx at h2;cases d1<;>cases d2<;>simp only[aop,LOp.loud,lop,if_true,reduceCtorEq]at h;cases h1;cases h2;refine run_bi .append (Builtin.append_ #[t,t'] oty #[ev sx,ev x]) (fun k=>by simp[builtin]) rfl ?_;rw[rT,vV];exact appmk_ok hr (sliceT_iff.1 he) (intT_iff.1 hkn) hi hn hz hl.1 (kd:=if kd.of e=0 then 0 else 2) (by split<;>simp) hl.2 h
              simp at x9
            simp at x9
          simp at x9
        simp at x9
      simp at x9
    · -- copy
      split at x9
      · rename_i dx x t t' yc qC;have ha:args=#[dx,x]:=by apply Array.ext';simpa using yc
        have hb:argTypes=#[t,t']:=by apply Array.ext';simpa using qC
        subst ha hb;split at x9
        · rename_i e he;split at x9
          · rename_i i n hi hn;split at x9
            · rename_i uE;subst uE;split at x9
              · rename_i xH;split at x9
                · simp only [Oi, Pi_] at x9;obtain⟨rfl,rfl⟩:=x9
                  cases hv with | cons h1 t1=>cases t1 with | cons h2 t2=>cases t2 with | nil =>
                  rename_i d1 d2;generalize hx:ev x=vx at h2;cases d2<;>simp only[aop,LOp.loud,lop,if_true,reduceCtorEq]at h;cases h2;by_cases vO:kd.of e=0
                  · rw[if_pos vO]at h;simp at h
                  rw[if_neg vO]at h;refine run_bi .copy (Builtin.copy_ #[t,t'] oty #[ev dx,ev x]) (fun k=>by simp[builtin]) rfl ?_;rw[hx];exact copys_ok hr (sliceT_iff.1 he) hn h1 h
                simp at x9
              split at x9
              · rename_i htt;subst htt;simp only[Oi,Pi_]at x9;obtain⟨rfl,rfl⟩:=x9
                cases hv with | cons h1 t1=>cases t1 with | cons h2 t2=>cases t2 with | nil =>
                rename_i d1 d2;simp only[aop,LOp.loud,lop,if_true]at h
                cases qD:readK (kd.of e) S 1 d2 with
                | none=>rw[qD]at h;simp at h
                | some src =>
                  rw[qD]at h;exact run_bi .copy (Builtin.copy_ #[t,t] oty #[ev dx,ev x]) (fun k=>by simp[builtin]) rfl (copy_ok hr (sliceT_iff.1 he) hn h1 h2 qD h)
              simp at x9
            simp at x9
          simp at x9
        simp at x9
      simp at x9
    · -- max
      simp only[Oi,Pi_]at x9;obtain⟨rfl,rfl⟩:=x9;simp only[aop,LOp.loud,Bool.false_eq_true,if_false,Om,Pi_]at h;obtain⟨r',hb,rfl,rfl,rfl⟩:=h;have he:(args.toList.map ev).toArray=args.map ev:=by apply Array.ext';simp
      obtain⟨v,h3,h4⟩:=maxs_ok (P:=P) (ts:=argTypes) (t:=oty) hv hb;rw[he]at h3;exact run_bi .max (Builtin.max_ argTypes oty (args.map ev)) (fun k=>by simp[builtin]) rfl ⟨v,w,h3,Xu.pure hr h4⟩
    · -- min
      simp only[Oi,Pi_]at x9;obtain⟨rfl,rfl⟩:=x9;simp only[aop,LOp.loud,Bool.false_eq_true,if_false,Om,Pi_]at h;obtain⟨r',hb,rfl,rfl,rfl⟩:=h;have he:(args.toList.map ev).toArray=args.map ev:=by apply Array.ext';simp
      obtain⟨v,h3,h4⟩:=mins_ok (P:=P) (ts:=argTypes) (t:=oty) hv hb;rw[he]at h3;exact run_bi .min (Builtin.min_ argTypes oty (args.map ev)) (fun k=>by simp[builtin]) rfl ⟨v,w,h3,Xu.pure hr h4⟩
    · -- the bytes of a slice
      split at x9
      · rename_i x yc;have ha:args=#[x]:=by apply Array.ext';simpa using yc
        subst ha;simp only[Oi,Pi_]at x9;obtain⟨rfl,rfl⟩:=x9
        cases hv with | cons h1 t1=>cases t1 with | nil =>
        simp only[aop,LOp.loud,lop,if_true,Om,Pi_]at h;obtain⟨r',hb,rfl,rfl,rfl⟩:=h;obtain⟨v,h3,h4⟩:=sdata_ok (P:=P) (ts:=argTypes) (ty:=oty) hr h1 hb;exact run_bi .unsafeSliceData (Builtin.unsafeSliceData_ argTypes oty #[ev x]) (fun k=>by simp[builtin]) rfl ⟨v,w,h3,Xu.pure hr h4⟩
      simp at x9
    · -- bytes as a string
      split at x9
      · rename_i x y t t' yc qC;have ha:args=#[x,y]:=by apply Array.ext';simpa using yc
        have hb:argTypes=#[t,t']:=by apply Array.ext';simpa using qC
        subst ha hb;split at x9
        · rename_i e zU;split at x9
          · rename_i hc;simp only[Oi,Pi_]at x9;obtain⟨rfl,rfl⟩:=x9
            cases hv with | cons h1 t1=>cases t1 with | cons h2 t2=>cases t2 with | nil =>
            rename_i d1 d2;generalize hy:ev y=vy at h2;simp only[aop,LOp.loud,if_true]at h;unfold lop at h;split at h<;>simp only[reduceCtorEq,List.cons.injEq,and_true,LOp.ustr.injEq]at *;rename_i e' p n heq1 heq2;subst heq1;obtain⟨rfl,rfl⟩:=heq2;cases h2;refine run_bi .unsafeString (Builtin.unsafeString_ #[t,t'] oty #[ev x,ev y]) (fun k=>by simp[builtin]) rfl ?_;rw[hy];exact ustr_ok hr zU hc.2 h1 h
          simp at x9
        simp at x9
      simp at x9
    simp at x9
  case h_29 t x =>
    split at x9
    · rename_i xH;simp only[Oi,Pi_]at x9;obtain⟨rfl,rfl⟩:=x9
      cases hv with | cons h1 t1=>cases t1 with | nil =>
      rename_i d1;generalize hx:ev x=vx at h1;cases d1<;>simp only[aop,LOp.loud,lop,if_true,reduceCtorEq]at h;cases h1;simp only[Oi,Pi_]at h;obtain⟨rfl,rfl,rfl⟩:=h;refine Does.val (s:=Instr.range t (ev x)) rfl ?_;rw[hx];exact rngs_ok hr (strT_iff.1 xH)
    simp at x9
  case h_30 it isString =>
    split at x9
    · rename_i xH;subst xH;simp only[Oi,Pi_]at x9;obtain⟨rfl,rfl⟩:=x9
      cases hv with | cons h1 t1=>cases t1 with | nil =>
      rename_i d1;cases d1<;>simp only[aop,LOp.loud,lop,if_true,reduceCtorEq]at h;exact Does.val (s:=Instr.next (ev it) true oty) rfl (nexts_ok hr h1 h)
    simp at x9
  case h_31=>simp at x9
end
open Go.RowKit
section
variable {P:Program}
def rf (o:Option Nat):Fence:={ Fence.wide with round:=o }
theorem rf_fn(o:Option Nat)(f:FuncId):(rf o).fn f:=trivial
theorem rf_deep(o:Option Nat){n:Nat}:(rf o).depth.isSome=true→1≤n:=fun h=>by simp[rf,Fence.wide]at h
theorem calls_rf{o:Option Nat}{n:Nat}{f:FuncId}{args:Array Value}{w:World}{R:Ending→World→Prop}(h:Calls P f args w R):CallsIn (rf o) n P f args w R:=callsIn_wide.2 h
theorem Wu{ro:Option Nat}{n:Nat}{o:Oper}{a:Act}{w:World}{K:Act→World→Prop}{Q:Exit→Act→World→Prop}(yF:∀c,o.op≠.defer c)(h:o.uponIn (rf ro) n P a K Q ((execOp a.eval o).run P w)):o.wpIn (rf ro) n P a w K Q :=
 ⟨fun _ _=>trivial,by rw[Oper.semAt_eq _ _ _ yF];exact h⟩
def LeL (L0 L:Nat→Option Fix):Prop:=∀g x,L0 g=some x→L g=some x
def XOK (G:Nat→Option (List D)) (L0:Nat→Option Fix) (X:HX):Prop:=X.G=G∧LeL L0 X.L
def RndOK (P:Program) (x:Fix) (vs:List Value) (w:World) (R:Ending→World→Prop):Prop :=
 ∃tm,(Instr.yield x.b vs.toArray).run P w=.ok (.round x.b x.fn tm x.assign x.body) w∧∀n,RoundIn (rf none) n P x.b x.fn tm x.assign x.body w R
def Oe (P:Program) (G:Nat→Option (List D)) (L0:Nat→Option Fix) (call:Aq):Prop :=
 (∀f ds S r S' wr,f<YB→call f ds S=some (r,S',wr)→∀w (ρ:Xn) vs,XOK G L0 ρ.X→Rel w ρ S.heap→VL w ρ S.heap ds vs →
  (callFunc f vs.toArray).run P w=.ok (.enter f vs.toArray) w∧Calls P f vs.toArray w fun e w'=>∃v,e=.returned v∧Xu w ρ S r S' wr v w') ∧
 (∀g ds S r S' wr,call (YB+g) ds S=some (r,S',wr)→∃x,L0 g=some x∧∀w (ρ:Xn) vs,XOK G L0 ρ.X→Rel w ρ S.heap→VL w ρ S.heap ds vs →
  RndOK P x vs w fun e w'=>∃v,e=.returned v∧Xu w ρ S r S' wr v w')
theorem lowOp_call{kd:Kd}{o:Oper}{f:FuncId}{xs:List Operand}(h:Oj P kd o=some (.call f,xs)):∃args tys,o.op=.call ⟨.value (.func f),args,tys⟩∧xs=args.toList:=by
 have hx:∀{s:String} {b:Prop} [Decidable b] {l:LOp},(if b then Li s else none)=some l→l≠.call f:=by
  intro s b _ l hl e;subst e;split at hl
  ·
   unfold Li at hl
   repeat' (first | (split at hl;skip) | (simp at hl;done))
   all_goals simp at hl
  simp at hl
 unfold Oj at h;split at h
 case h_28 c yR =>
  obtain⟨callee,args,tys⟩:=c;simp only at h;split at h
  ·
   simp at h
  ·
   rename_i f';split at h
   ·
    split at h
    ·
     split at h
     ·
      repeat' (first | (split at h;skip) | (simp at h;done))
      all_goals simp at h
     split at h
     ·
      rename_i l' hl';simp only[Oi,Pi_]at h;exact absurd h.1 (hx hl')
     simp at h
    simp only[Oi,Pi_,LOp.call.injEq]at h;obtain⟨rfl,rfl⟩:=h;exact⟨args,tys,yR,rfl⟩
   simp at h
  all_goals (repeat' (first | (split at h;skip) | (simp at h;done)))
  all_goals first
   | (simp at h;done)
   | (simp only[Om,Pi_,reduceCtorEq,false_and,and_false,exists_false]at h;done)
 all_goals (repeat' (first | (split at h;skip) | (simp at h;done)))
 all_goals first
  | (simp at h;done)
  | (simp only[Om,Pi_,reduceCtorEq,false_and,and_false,exists_false]at h;done)
theorem Ph{kd:Kd}{o:Oper}{xs:List Operand}(h:Oj P kd o=some (.callv,xs)):∃t args tys,o.op=.call ⟨.value (.tmp t),args,tys⟩∧xs=.tmp t::args.toList:=by
 have hx:∀{s:String} {b:Prop} [Decidable b] {l:LOp},(if b then Li s else none)=some l→l≠.callv:=by
  intro s b _ l hl e;subst e;split at hl
  ·
   unfold Li at hl
   repeat' (first | (split at hl;skip) | (simp at hl;done))
   all_goals simp at hl
  simp at hl
 unfold Oj at h;split at h
 case h_28 c yR =>
  obtain⟨callee,args,tys⟩:=c;simp only at h;split at h
  ·
   simp at h
  ·
   rename_i f';split at h
   ·
    split at h
    ·
     split at h
     ·
      repeat' (first | (split at h;skip) | (simp at h;done))
      all_goals simp at h
     split at h
     ·
      rename_i l' hl';simp only[Oi,Pi_]at h;exact absurd h.1 (hx hl')
     simp at h
    simp at h
   simp at h
  ·
   simp only[Oi,Pi_]at h;obtain⟨_,rfl⟩:=h;exact⟨_,args,tys,yR,rfl⟩
  all_goals (repeat' (first | (split at h;skip) | (simp at h;done)))
  all_goals first
   | (simp at h;done)
   | (simp only[Om,Pi_,reduceCtorEq,false_and,and_false,exists_false]at h;done)
 all_goals (repeat' (first | (split at h;skip) | (simp at h;done)))
 all_goals first
  | (simp at h;done)
  | (simp only[Om,Pi_,reduceCtorEq,false_and,and_false,exists_false]at h;done)
theorem lowOp_invoke{kd:Kd}{o:Oper}{tab:List (TypeId × FuncId)}{xs:List Operand}(h:Oj P kd o=some (.invoke tab,xs)):∃recv name args tys,o.op=.call ⟨.invoke recv name,args,tys⟩∧xs=recv::args.toList∧tab=Sl P name:=by
 have hx:∀{s:String} {b:Prop} [Decidable b] {l:LOp},(if b then Li s else none)=some l→l≠.invoke tab:=by
  intro s b _ l hl e;subst e;split at hl
  ·
   unfold Li at hl
   repeat' (first | (split at hl;skip) | (simp at hl;done))
   all_goals simp at hl
  simp at hl
 unfold Oj at h;split at h
 case h_28 c yR =>
  obtain⟨callee,args,tys⟩:=c;simp only at h;split at h
  ·
   simp only[Oi,Pi_,LOp.invoke.injEq]at h;obtain⟨rfl,rfl⟩:=h;exact⟨_,_,args,tys,yR,rfl,rfl⟩
  ·
   rename_i f';split at h
   ·
    split at h
    ·
     split at h
     ·
      repeat' (first | (split at h;skip) | (simp at h;done))
      all_goals simp at h
     split at h
     ·
      rename_i l' hl';simp only[Oi,Pi_]at h;exact absurd h.1 (hx hl')
     simp at h
    simp at h
   simp at h
  ·
   simp at h
  all_goals (repeat' (first | (split at h;skip) | (simp at h;done)))
  all_goals first
   | (simp at h;done)
   | (simp only[Om,Pi_,reduceCtorEq,false_and,and_false,exists_false]at h;done)
 all_goals (repeat' (first | (split at h;skip) | (simp at h;done)))
 all_goals first
  | (simp at h;done)
  | (simp only[Om,Pi_,reduceCtorEq,false_and,and_false,exists_false]at h;done)
theorem mem_lookup{α β:Type}[BEq α][LawfulBEq α]{l:List (α × β)}{a:α}{b:β}(h:l.lookup a=some b):(a,b)∈l:=by
 induction l with
 | nil=>simp at h
 | cons p l ih =>
  obtain⟨x,y⟩:=p;simp only[List.lookup_cons]at h;split at h
  ·
   rename_i he;simp only[Oi]at h;rw[eq_of_beq he,h];exact List.mem_cons_self
  exact List.mem_cons_of_mem _ (ih h)
theorem pointerT_iff{t:TypeId}:O7 P t=true↔∃e,P.underlying t=some (.pointer e):=by
 unfold O7;split
 ·
  rename_i e hu;exact⟨fun _=>⟨e,hu⟩,fun _=>rfl⟩
 rename_i hn;exact⟨fun h=>by simp at h,fun ⟨e,he⟩=>absurd he (hn e)⟩
theorem run_method{w:World}{name:String}{tab:List (TypeId × FuncId)}{t:TypeId}{f:FuncId}{v:Value}(htab:tab=Sl P name)(h:tab.lookup t=some f):(method (P.types.size+Made.depth) t v name).run P w=.ok (f,v) w:=by
 subst htab;have hm:=mem_lookup h;unfold Sl at hm;simp only[List.mem_filterMap,List.mem_range]at hm;obtain⟨t',xq,hx⟩:=hm;split at hx
 ·
  rename_i i hi;split at hx
  ·
   rename_i m hfm;split at hx
   ·
    rename_i f' pr hmf;rw[Option.ite_none_right_eq_some]at hx;obtain⟨hc,hx⟩:=hx;simp only[Oi,Pi_]at hx;obtain⟨rfl,rfl⟩:=hx;rw[Bool.and_eq_true,Bool.and_eq_true,Bool.and_eq_true,beq_iff_eq,Array.isEmpty_iff]at hc;obtain⟨⟨⟨hp,hpr⟩,hus⟩,hb⟩:=hc;obtain⟨td,hu⟩:=Option.isSome_iff_exists.1 hus;obtain⟨k,hk⟩:∃k,P.types.size+Made.depth=k+1:=⟨P.types.size+Made.depth-1,by omega⟩;rw[hk];have hti:(typeInfo t').run P w=.ok i w:=by simp[typeInfo,hi]
    unfold method;rw[Ab hti];simp only[hfm,hp];have hfo:(follow [] t' (.val v)).run P w=.ok (t',.val v) w:=rfl;rw[Ab hfo];simp only[hmf]
    have hre : (receiverAt t' (.val v) pr (if (#[] : Array FieldStep).isEmpty = true then some ((name.splitOn ".").getLastD name) else none)).run P w = .ok v w := by
     unfold receiverAt;rw[Ab (run_underlying hu w)]
     cases zU:O7 P t' with
     | true =>
      rw[zU]at hpr;subst hpr;obtain⟨e,he⟩:=pointerT_iff.1 zU;rw[hu]at he;simp only[Oi]at he;subst he;rfl
     | false =>
      rw[zU]at hpr;subst hpr
      cases td<;>first | rfl | (exfalso;have:O7 P t'=true:=pointerT_iff.2 ⟨_,hu⟩;rw[zU]at this;simp at this)
    rw[Ab hre];rfl
   simp at hx
  simp at hx
 simp at hx
theorem Ls{kd:Kd}{o:Oper}{x:LOp × List Operand}(h:Oj P kd o=some x):∀c,o.op≠.defer c:=by
 intro c hc;unfold Oj at h;rw[hc]at h;simp at h
theorem exOp_ok{ro:Option Nat}{n:Nat}{G:Nat→Option (List D)}{L0:Nat→Option Fix}{call:Aq}(y9:Oe P G L0 call){kd:Kd}{o:Oper}{l:LOp}{xs:List Operand}{a:Act}{w:World}{ρ:Xn}{S S':St}{ds:List D}{r:D}{wr:Bool}{K:Act→World→Prop}{Q:Exit→Act→World→Prop}
  (hG:XOK G L0 ρ.X) (rD:Pi P kd o=some (l,xs)) (hv:VL w ρ S.heap ds (xs.map a.eval)) (hr:Rel w ρ S.heap) (h:Al call l ds S=some (r,S',wr)) (hK:∀v w',Xu w ρ S r S' wr v w'→K (a.put o.dst v) w'):o.wpIn (rf ro) n P a w K Q:=by
 have x9:Oj P kd o=some (l,xs):=by
  unfold Pi at rD;split at rD
  ·
   rename_i x hx;rw[hx];exact rD
  simp only[Oi,Pi_]at rD;obtain⟨rfl,rfl⟩:=rD;simp[Al,aop,LOp.loud,pop]at h
 have plain:aop l ds S=some (r,S',wr)→o.wpIn (rf ro) n P a w K Q:=by
  intro h;obtain⟨nx,v,w',h1,h2,h3⟩:=aop_ok (fun _=>rfl) x9 hv hr h;refine Wu (Ls x9) ?_;rw[h1];rcases h2 with rfl | ⟨rfl,rfl⟩
  ·
   exact hK v w' h3
  exact hK undef w' h3
 have fin:∀f vs,(execOp a.eval o).run P w=(callFunc f vs).run P w→(callFunc f vs).run P w=.ok (.enter f vs) w∧(Calls P f vs w fun e w'=>∃v,e=.returned v∧Xu w ρ S r S' wr v w')→o.wpIn (rf ro) n P a w K Q:=by
  rintro f vs he ⟨h1,h2⟩;refine Wu (Ls x9) ?_;rw[he,h1,Oper.uponIn_enter];refine⟨rf_deep ro,(calls_rf h2).mono ?_⟩;rintro e w' ⟨v,rfl,hp⟩;exact hK v w' hp
 unfold Al at h;split at h
 ·
  rename_i f;obtain⟨args,tys,yR,rfl⟩:=lowOp_call x9;split at h
  ·
   simp at h
  rename_i yU;have hc:=y9.1 f ds S r S' wr (Nat.lt_of_not_le yU) h w ρ _ hG hr hv;have he:(args.toList.map a.eval).toArray=args.map a.eval:=by apply Array.ext';simp
  rw[he]at hc;refine fin f (args.map a.eval) ?_ hc;simp[execOp,yR,resolve,Deferred.ofValue,invoke,Act.eval]
 ·
  split at h
  ·
   rename_i f caps ys;obtain⟨t,args,tys,yR,rfl⟩:=Ph x9;split at h
   ·
    simp at h
   rename_i yU
   cases hv with
   | cons h1 t1 =>
    generalize hx:a.eval (.tmp t)=vx at h1
    cases h1 with
    | fn _ _ vs hl hh =>
     have hc:=y9.1 f _ S r S' wr (Nat.lt_of_not_le yU) h w ρ _ hG hr (t1.append (VL.of hl hh));have he:(args.toList.map a.eval++vs).toArray=args.map a.eval++vs.toArray:=by apply Array.ext';simp
     rw[he]at hc;refine fin f _ ?_ hc;simp only[Act.eval]at hx;simp[execOp,yR,resolve,Deferred.ofValue,invoke,Act.eval,hx]
  ·
   rename_i f cs ys;obtain⟨t,args,tys,yR,rfl⟩:=Ph x9;split at h
   ·
    simp at h
   rename_i yU
   cases hv with
   | cons h1 t1 =>
    generalize hx:a.eval (.tmp t)=vx at h1
    cases h1 with
    | bfn _ _ vs hl hh =>
     have hc:=y9.1 f _ S r S' wr (Nat.lt_of_not_le yU) h w ρ _ hG hr ((VL.of hl hh).append t1);have he:(vs++args.toList.map a.eval).toArray=vs.toArray++args.map a.eval:=by apply Array.ext';simp
     rw[he]at hc;refine fin f _ ?_ hc;simp only[Act.eval]at hx;simp[execOp,yR,resolve,Deferred.ofValue,invoke,Act.eval,hx]
  ·
   rename_i g ys;obtain⟨t,args,tys,yR,rfl⟩:=Ph x9
   cases hv with
   | cons h1 t1 =>
    generalize hx:a.eval (.tmp t)=vx at h1
    cases h1 with
    | yld _ x ob hgo hX =>
     obtain⟨x0,ku,hrd⟩:=y9.2 g _ S r S' wr h;obtain rfl:=hX x0 (hG.2 g x0 ku);obtain⟨tm,hy,hrn⟩:=hrd w ρ _ hG hr t1;have he:(args.toList.map a.eval).toArray=args.map a.eval:=by apply Array.ext';simp
     rw[he]at hy;refine Wu (Ls x9) ?_
     have h0:(execOp a.eval o).run P w=(Instr.yield x0.b (args.map a.eval)).run P w:=by
      simp only[Act.eval]at hx;simp[execOp,yR,resolve,Deferred.ofValue,invoke,Act.eval,hx]
     rw[h0,hy,Oper.uponIn_round];refine⟨rf_deep ro,RoundIn.mono (hrn (n-1)) ?_⟩;rintro e w' ⟨v,rfl,hp⟩;exact hK v w' hp
  simp at h
 ·
  rename_i tab;obtain⟨recv,name,args,tys,yR,rfl,htab⟩:=lowOp_invoke x9
  have go:∀(t:TypeId) (d:D) (v:Value) (ys:List D) (f:FuncId),a.eval recv=.iface t v→VR w ρ S.heap d v→VL w ρ S.heap ys (args.toList.map a.eval)→tab.lookup t=some f→(if YB≤f then none else call f (d::ys) S)=some (r,S',wr)→o.wpIn (rf ro) n P a w K Q:=by
   intro t d v ys f he hd hys qL yw;split at yw
   ·
    simp at yw
   rename_i yU;have hc:=y9.1 f _ S r S' wr (Nat.lt_of_not_le yU) yw w ρ _ hG hr (.cons hd hys);have he2:(v::args.toList.map a.eval).toArray=#[v]++args.map a.eval:=by apply Array.ext';simp
   rw[he2]at hc;refine fin f _ ?_ hc;have hm:=run_method (w:=w) (v:=v) htab qL;have hp:Sem.run P program w=.ok P w:=rfl
   have h0:execOp a.eval o=invoke (.fn (.method name) #[]) (#[a.eval recv]++args.map a.eval):=by
    unfold execOp;rw[yR];rfl
   rw[h0,he]
   have e1:(#[Value.iface t v]++args.map a.eval)[0]?=some (.iface t v):=by
    rw[Array.getElem?_append_left (by simp)];rfl
   have e2:(#[Value.iface t v]++args.map a.eval).extract 1 (#[Value.iface t v]++args.map a.eval).size=args.map a.eval:=by
    apply Array.ext';simp only[Array.toList_extract,Array.toList_append,List.extract_eq_take_drop,Array.size_append];simp;rw[List.take_of_length_le (by simp)]
   simp only[invoke,e1,e2,callMethod];rw[Ab hp,Ab hm]
  split at h
  ·
   rename_i t d ys;split at h
   ·
    rename_i f qL
    cases hv with
    | cons h1 t1 =>
    generalize hx:a.eval recv=vx at h1
    cases h1 with
    | ifc _ _ v hf hvv h1=>exact go t d v ys f hx h1 t1 qL h
   simp at h
  ·
   rename_i t d ys;split at h
   ·
    rename_i f qL
    cases hv with
    | cons h1 t1 =>
    generalize hx:a.eval recv=vx at h1
    cases h1 with
    | ifr _ _ v hvv h1=>exact go t d v ys f hx h1 t1 qL h
   simp at h
  simp at h
 exact plain h
def sig (slots:List Nat) (prev:List (Option Tmp)) (vals env:List D) (t:Nat):D :=
 match G5 prev t with
 | some d=>vals.getD d .undef
 | none=>match idxOf slots t with
  | some j=>env.getD j .undef
  | none=>.undef
def FR (w:World) (ρ:Xn) (H:List Xh) (nt:Nat) (σ:Nat→D) (a:Act):Prop :=
 a.tmps.size=nt∧∀t,t<nt→VR w ρ H (σ t) (a.tmps.getD t undef)
theorem Sb(slots:List Nat)(o:Option Tmp)(prev:List (Option Tmp))(r:D)(vals env:List D)(t:Nat):sig slots (o::prev) (r::vals) env t=if o=some t then r else sig slots prev vals env t:=by
 have e:G5 (o::prev) t=if o=some t then some 0 else (G5 prev t).map (·+1):=rfl
 unfold sig;rw[e];by_cases h:o=some t
 ·
  simp[h]
 simp only[h,if_false]
 cases G5 prev t with
 | none=>simp
 | some d=>simp
theorem FR.put{w w':World}{ρ ρ':Xn}{S S':St}{nt:Nat}{σ σ':Nat→D}{a:Act}{dst:Option Tmp}{r:D}{v:Value}(h:FR w ρ S.heap nt σ a)(hs:Stp w ρ S w' ρ' S')(hv:VR w' ρ' S'.heap r v)(hd:Gu nt dst=true)(hσ:∀t,σ' t=if dst=some t then r else σ t) :
  FR w' ρ' S'.heap nt σ' (a.put dst v):=by
 cases dst with
 | none=>exact⟨h.1,fun t ht=>by rw[hσ];simpa [Act.put] using (h.2 t ht).mono hs⟩
 | some d =>
  have hdl:d<a.tmps.size:=by rw[h.1];simpa [Gu] using hd
  refine⟨by simpa [Act.put] using h.1,fun t ht=>?_⟩;rw[hσ];by_cases e:d=t
  ·
   subst e;simp[Act.put,hdl,hv]
  have e':¬some d=some t:=by simpa using e
  rw[if_neg e'];have:=(h.2 t ht).mono hs;simp only[Act.put,Array.getD_eq_getD_getElem?,Array.getElem?_setIfInBounds,if_neg e]at this ⊢;exact this
theorem F6{l:List Nat}{t j:Nat}(h:idxOf l t=some j):l[j]?=some t:=by
 induction l generalizing j with
 | nil=>simp[idxOf]at h
 | cons s l ih =>
  unfold idxOf at h;split at h
  ·
   rename_i e;simp at h;subst h e;rfl
  simp only[Om]at h;obtain⟨k,hk,rfl⟩:=h;simpa using ih hk
theorem Ic{l:List (Option Tmp)}{t d:Nat}(h:G5 l t=some d):l[d]?=some (some t):=by
 induction l generalizing d with
 | nil=>simp[G5]at h
 | cons s l ih =>
  unfold G5 at h;split at h
  ·
   rename_i e;simp at h;subst h e;rfl
  simp only[Om]at h;obtain⟨k,hk,rfl⟩:=h;simpa using ih hk
theorem opd_ok{w:World}{ρ:Xn}{H:List Xh}{nt:Nat}{slots:List Nat}{prev:List (Option Tmp)}{vals env:List D}{a:Act}{x:Operand}{y:Xk}{gl:Nat→Option (List D)}(xJ:∀g row,gl g=some row→VR w ρ H (.X7 row 0) (.pointer (some ⟨g,0,none⟩)))(h:Rk gl slots prev x=some y)(hs:slots.all (·<nt)=true)(hp:∀d∈prev,Gu nt d=true)
    (hf:∀t,x=.tmp t→VR w ρ H (sig slots prev vals env t) (a.tmps.getD t undef)):VR w ρ H (opd vals env y) (a.eval x):=by
  unfold Rk at h;split at h
  · rename_i t;have h1:=hf t rfl;unfold sig at h1;split at h
    · rename_i d hd;simp only[Oi]at h;subst h;simp only[hd]at h1;exact h1
    rename_i hd;simp only[Om]at h;obtain⟨j,hj,rfl⟩:=h;simp only[hd,hj]at h1;exact h1
  · rename_i v;simp only[Oi]at h;subst h
    cases hc:Qy v with
    | none=>exact .undef _
    | some d=>exact Ob hc
  · simp only [Oi] at h;subst h;exact .fn _ [] [] rfl (fun j d v h=>by simp at h)
  rename_i g;simp only[Oi]at h;subst h
  cases hg:gl g with
  | none=>exact .undef _
  | some row=>exact xJ g row hg
theorem tmp_in{nt:Nat}{slots:List Nat}{prev:List (Option Tmp)}{t:Nat}{y:Xk}{gl:Nat→Option (List D)}(h:Rk gl slots prev (.tmp t)=some y)(hs:slots.all (·<nt)=true)(hp:∀d∈prev,Gu nt d=true):t<nt:=by
 unfold Rk at h;simp only at h;split at h
 ·
  rename_i d hd;have:=hp _ (Lm (Ic hd));simpa [Gu] using this
 simp only[Om]at h;obtain⟨j,hj,_⟩:=h;have:=List.all_eq_true.1 hs t (Lm (F6 hj));simpa using this
theorem opds_ok{w:World}{ρ:Xn}{H:List Xh}{nt:Nat}{slots:List Nat}{prev:List (Option Tmp)}{vals env:List D}{a:Act}{gl:Nat→Option (List D)}(xJ:∀g row,gl g=some row→VR w ρ H (.X7 row 0) (.pointer (some ⟨g,0,none⟩)))(hs:slots.all (·<nt)=true)(hp:∀d∈prev,Gu nt d=true):∀{xs:List Operand} {ys:List Xk},Nr gl slots prev xs=some ys →
  (∀t,.tmp t∈xs→t<nt→VR w ρ H (sig slots prev vals env t) (a.tmps.getD t undef))→VL w ρ H (ys.map (opd vals env)) (xs.map a.eval)
 | [],ys,h,_=>by simp only[Nr,Oi]at h;subst h;exact .nil
 | x :: xs, ys, h, hf => by
  unfold Nr at h;split at h
  ·
   rename_i y m hy hm;simp only[Oi]at h;subst h;refine .cons (opd_ok xJ hy hs hp fun t ht=>?_) (opds_ok xJ hs hp hm fun t ht=>hf t (List.mem_cons_of_mem _ ht));subst ht;exact hf t (List.mem_cons_self ..) (tmp_in hy hs hp)
  simp at h
theorem Pv {dsts : List (Option Tmp)} {vals : List D} {slots0 : List Nat} : ∀ {slots : List Nat} {k : Nat} {env : List D} (j : Nat), (exports (H6 dsts slots k) vals env).getD j .undef = if k ≤ j ∧ j < k + slots.length ∧ j < env.length then (match G5 dsts (slots.getD (j - k) 0) with | some d => vals.getD d .undef | none => env.getD j .undef) else env.getD j .undef
  | [],k,env,j=>by simp only[H6,exports,List.length_nil];rw[if_neg (by omega)]
  | s :: l, k, env, j => by
    unfold H6;split
    · rename_i d hd;simp only[exports];rw[Pv (slots0:=slots0) (slots:=l) (k:=k+1) j];by_cases e:k=j
      · subst e;rw[if_neg (by omega)];by_cases hl:k<env.length
        · rw [if_pos ⟨Nat.le_refl _, by simp, hl⟩];simp[hd,hl]
        rw[if_neg (by omega)];simp[hl]
      have h1:(env.set k (vals.getD d .undef)).getD j .undef=env.getD j .undef:=by simp[List.getD,Ln_ e]
      rw[h1];by_cases h2:k+1≤j∧j<k+1+l.length∧j<env.length
      · rw [if_pos (by simpa using h2), if_pos (by simp; omega)];rw[show j-k=(j-(k+1))+1 by omega];simp
      rw[if_neg (by simpa using h2),if_neg (by simp;omega)]
    rename_i hd;rw[Pv (slots0:=slots0) (slots:=l) (k:=k+1) j];by_cases e:k=j
    · subst e;rw[if_neg (by omega)];by_cases hl:k<env.length
      · rw [if_pos ⟨Nat.le_refl _, by simp, hl⟩];simp[hd]
      rw[if_neg (by omega)]
    by_cases h2:k+1≤j∧j<k+1+l.length∧j<env.length
    · rw [if_pos h2, if_pos (by simp; omega)];rw[show j-k=(j-(k+1))+1 by omega];simp
    rw[if_neg h2,if_neg (by simp;omega)]
theorem Jt{vals:List D}:∀{es:List (Nat × Nat)} {env:List D},(exports es vals env).length=env.length
 | [],env=>rfl
 | (j,d)::es,env=>by simp only[exports];rw[Jt];simp
theorem Ti{vals:List D}{n:Nat}:∀{es:List (Nat × Nat)} {env:List D},(∀p∈es,p.1<n)→(exports es vals env).drop n=env.drop n
 | [],env,_=>rfl
 | (j,d)::es,env,h=>by
  simp only[exports];rw[Ti fun p hp=>h p (List.mem_cons_of_mem _ hp)];have:=h (j,d) List.mem_cons_self;rw[List.drop_set_of_lt this]
theorem Uw{dsts:List (Option Tmp)}:∀{slots:List Nat} {k:Nat},∀p∈H6 dsts slots k,p.1<k+slots.length
 | [],k,p,h=>by simp[H6]at h
 | s :: l, k, p, h => by
  unfold H6 at h;split at h
  ·
   rcases List.mem_cons.1 h with rfl | h
   ·
    simp
   have:=Uw (slots:=l) (k:=k+1) p h;simp;omega
  have:=Uw (slots:=l) (k:=k+1) p h;simp;omega
theorem sig_end{dsts:List (Option Tmp)}{slots:List Nat}{vals env:List D}(hl:slots.length≤env.length)(t:Nat):sig slots [] [] (exports (H6 dsts slots 0) vals env) t=(match idxOf slots t with | some _=>sig slots dsts vals env t | none=>.undef):=by
 unfold sig;simp only[G5]
 cases hj:idxOf slots t with
 | none=>rfl
 | some j =>
  have hm:=F6 hj;have yP:=lt_of_some hm;simp only;rw[Pv (slots0:=slots),if_pos (by omega)];have:slots.getD (j-0) 0=t:=by simp[List.getD,hm]
  rw[this]
theorem FR.end_{w:World}{ρ:Xn}{H:List Xh}{nt:Nat}{dsts:List (Option Tmp)}{slots:List Nat}{vals env:List D}{a:Act}(hl:slots.length≤env.length)(h:FR w ρ H nt (sig slots dsts vals env) a):FR w ρ H nt (sig slots [] [] (exports (H6 dsts slots 0) vals env)) a:=by
 refine⟨h.1,fun t ht=>?_⟩;rw[sig_end hl]
 cases idxOf slots t with
 | none=>exact .undef _
 | some j=>exact h.2 t ht
theorem guard_ok{w:World}{ρ:Xn}{H:List Xh}{nt:Nat}{slots:List Nat}{prev:List (Option Tmp)}{vals env:List D}{a:Act}{ops:Array Oper}{j d:Nat}{b b':Bool}{t:Tmp}(hjd:(ops[j]?).bind (·.dst)=some t)(zW:G5 prev t=some d)(hp:∀d∈prev,Gu nt d=true)
  (hf:VR w ρ H (sig slots prev vals env t) (a.tmps.getD t undef)) (xC:a.tmps.size=nt) (hv:vals.getD d .undef=.bool b'):yielded ops a.tmps j=some b':=by
 unfold sig at hf;simp only[zW,hv]at hf
 have ht:t<a.tmps.size:=by
  have:=hp _ (Lm (Ic zW));rw[xC];simpa [Gu] using this
 unfold yielded;rw[hjd];simp only[Option.bind_some,Array.getElem?_eq_getElem ht];simp only[Array.getD,ht,dif_pos]at hf;generalize hx:a.tmps[t]=x at hf;have hx':a.tmps.getInternal t ht=x:=hx;rw[hx']at hf;cases hf;rfl
theorem guard_skip{w:World}{ρ:Xn}{H:List Xh}{nt:Nat}{slots:List Nat}{prev:List (Option Tmp)}{vals env:List D}{a:Act}{ops:Array Oper}{j d:Nat}{t:Tmp}(hjd:(ops[j]?).bind (·.dst)=some t)(zW:G5 prev t=some d)(hp:∀d∈prev,Gu nt d=true)
  (hf:VR w ρ H (sig slots prev vals env t) (a.tmps.getD t undef)) (xC:a.tmps.size=nt) (hv:vals.getD d .undef=.skip):yielded ops a.tmps j=none:=by
 unfold sig at hf;simp only[zW,hv]at hf
 have ht:t<a.tmps.size:=by
  have:=hp _ (Lm (Ic zW));rw[xC];simpa [Gu] using this
 unfold yielded;rw[hjd];simp only[Option.bind_some,Array.getElem?_eq_getElem ht];simp only[Array.getD,ht,dif_pos]at hf;generalize hx:a.tmps[t]=x at hf;have hx':a.tmps.getInternal t ht=x:=hx;rw[hx']at hf;cases hf;rfl
theorem kd_glob{kd:Kd}{g:Nat}{row:List D}(h:kd.glob g=some row):kd.glob g=some row:=h
theorem seq_part {ro : Option Nat} {n : Nat} {G : Nat → Option (List D)} {L0 : Nat → Option Fix} {call : Aq} (y9 : Oe P G L0 call) {kd : Kd} {nt : Nat} {slots : List Nat} {ops : Array Oper} {env : List D} {Q : Exit → Act → World → Prop} (tl : List Oper) (rF : ∀ g row, kd.glob g = some row → G g = some row) (hs : slots.all (· < nt) = true) :
    ∀ (os : List Oper) (k : Nat) (prev : List (Option Tmp)) (vals : List D) (los : List Xj) (S : St) (vals' : List D) (S' : St) (a : Act) (w : World) (ρ : Xn), ops.toList.drop k = os ++ tl → prev = ((ops.toList.take k).map (·.dst)).reverse → (∀ d ∈ prev, Gu nt d = true) →
      Uj P kd nt slots os prev=some los→Hg call los vals env S=some (vals',S')→Rel w ρ S.heap→XOK G L0 ρ.X→FR w ρ S.heap nt (sig slots prev vals env) a →
      (∀a' w' ρ',Rel w' ρ' S'.heap→Stp w ρ S w' ρ' S'→FR w' ρ' S'.heap nt (sig slots (((ops.toList.take (k+os.length)).map (·.dst)).reverse) vals' env) a'→a'.defers=a.defers→wpOpsIn (rf ro) n P ops Q (List.range' (k+os.length) tl.length) a' w') →
      wpOpsIn (rf ro) n P ops Q (List.range' k (os.length+tl.length)) a w:=by
  intro os
  induction os with
  | nil =>
    intro k prev vals los S vals' S' a w ρ hk zO hp x9 yA hr hG hf hQ;simp only[Uj,Oi]at x9;subst x9;simp only[Hg,Oi,Pi_]at yA;obtain⟨rfl,rfl⟩:=yA;have:=hQ a w ρ hr (Stp.refl _ _ _) (by simpa [zO] using hf) rfl;simpa using this
  | cons o os ih =>
    intro k prev vals los S vals' S' a w ρ hk zO hp x9 yA hr hG hf hQ
    have hko:ops.toList[k]?=some o:=by
      have:(ops.toList.drop k)[0]?=some o:=by rw[hk];rfl
      simpa using this
    have zy:k<ops.toList.length:=lt_of_some hko;have hko':ops[k]?=some o:=by simpa using hko
    have hdrop:ops.toList.drop (k+1)=os++tl:=by
      have:(ops.toList.drop k).drop 1=os++tl:=by rw[hk];rfl
      rwa [List.drop_drop]at this
    have kH:o.dst::prev=((ops.toList.take (k+1)).map (·.dst)).reverse:=by
      rw[List.take_succ_eq_append_getElem zy,List.map_append,List.reverse_append,←zO];have:ops.toList[k]=o:=by rw[Lg zy]at hko;injection hko
      simp[this]
    have wV:prev.length=k:=by rw[zO,List.length_reverse,List.length_map,List.length_take];omega
    unfold Uj at x9;split at x9
    · simp at x9
    rename_i l xs hlop;split at x9
    · rename_i args g rest yc hg rC;split at x9
      · rename_i hd;simp only[Oi]at x9;subst x9
        have hp':∀d∈o.dst::prev,Gu nt d=true:=by
          intro d hd';rcases List.mem_cons.1 hd' with rfl | hd'
          · exact hd
          exact hp d hd'
        rw[show (o::os).length+tl.length=(os.length+tl.length)+1 by simp;omega,List.range'_succ];simp only[wpOpsIn,hko']
        have go:Region.wanted o (yielded ops a.tmps)=true→(match Al call l (args.map (opd vals env)) S with | none=>none | some (r,S1,wr)=>Hg call rest (r::vals) env S1)=some (vals',S') →
            (if Region.wanted o (yielded ops a.tmps)=true then o.wpIn (rf ro) n P a w (wpOpsIn (rf ro) n P ops Q (List.range' (k+1) (os.length+tl.length))) Q else (∀f,o.about P w a.eval=some f→(rf ro).fn f)∧wpOpsIn (rf ro) n P ops Q (List.range' (k+1) (os.length+tl.length)) (a.put o.dst undef) w):=by
          intro hw hx;rw[if_pos hw];split at hx
          · simp at hx
          rename_i r S1 wr yR;refine exOp_ok y9 hG hlop (opds_ok (fun g row hg=>(hr.glob g row (by rw[hG.1];exact rF g row (kd_glob hg))).1) hs hp yc fun t _ ht=>hf.2 t ht) hr yR ?_;rintro v w1 ⟨ρ1,h1,h2,h3,_⟩;refine ih (k+1) (o.dst::prev) (r::vals) rest S1 vals' S' _ w1 ρ1 hdrop kH hp' rC hx h1 (by rw[h2.hid];exact hG) (hf.put h2 h3 hd fun t=>Sb slots o.dst prev r vals env t) ?_;intro a' w' ρ' h4 h5 h6 h7;have:=hQ a' w' ρ' h4 (h2.trans h5) (by rw[show k+(o::os).length=k+1+os.length by simp;omega];exact h6) (h7.trans (by cases o.dst<;>rfl));rw[show k+1+os.length=k+(o::os).length by simp;omega];exact this
        unfold Hg at yA
        cases hgo:o.guard with
        | none =>
          rw[hgo]at hg;simp only[Jp,Oi]at hg;subst hg;simp only[onG]at yA;exact go (by simp[Region.wanted,hgo]) yA
        | some jb =>
          obtain⟨j,b⟩:=jb;rw[hgo]at hg;unfold Jp at hg;simp only at hg;split at hg
          · rename_i hj;split at hg
            · rename_i t ht;split at hg
              · rename_i zW;simp only[Oi]at hg;subst hg;simp only[onG]at yA
                have hjd:(ops[j]?).bind (·.dst)=some t:=by
                  rw[zO]at ht;have yP:j<ops.toList.length:=by omega
                  have h1:((ops.toList.take k).map (·.dst)).length=k:=by rw[List.length_map,List.length_take];omega
                  simp only[List.getD,List.length_reverse,h1]at ht;rw[List.getElem?_reverse (by rw[h1];omega),h1,show k-1-(k-1-j)=j by omega]at ht;simp only[Lp_,List.getElem?_take]at ht;rw[if_pos (by omega)]at ht;have h2:ops[j]?=some ops.toList[j]:=by simp
                  rw[Lg yP]at ht;rw[h2];simpa using ht
                split at yA
                · simp at yA
                · -- the guard says no
                  rename_i hv;split at hv
                  · rename_i b' hb';simp only[Oi]at hv
                    have hy:=guard_ok (b:=b) hjd zW hp (hf.2 t (by
                      have:=hp _ (Lm (Ic zW))
                      simpa [Gu] using this)) hf.1 hb'
                    have hw:Region.wanted o (yielded ops a.tmps)=false:=by
                      simp only[Region.wanted,hgo,hy];simpa using hv
                    rw[hw];simp only[Bool.false_eq_true,if_false];refine⟨fun _ _=>trivial,?_⟩;refine ih (k+1) (o.dst::prev) (.skip::vals) rest S vals' S' _ w ρ hdrop kH hp' rC yA hr hG (hf.put (Stp.refl _ _ _) .skip hd fun t=>Sb slots o.dst prev .skip vals env t) ?_;intro a' w' ρ' h4 h5 h6 h7;have:=hQ a' w' ρ' h4 h5 (by rw[show k+(o::os).length=k+1+os.length by simp;omega];exact h6) (h7.trans (by cases o.dst<;>rfl));rw[show k+1+os.length=k+(o::os).length by simp;omega];exact this
                  · rename_i hb'
                    have hy:=guard_skip hjd zW hp (hf.2 t (by
                      have:=hp _ (Lm (Ic zW))
                      simpa [Gu] using this)) hf.1 hb'
                    have hw:Region.wanted o (yielded ops a.tmps)=false:=by
                      simp only[Region.wanted,hgo,hy];rfl
                    rw[hw];simp only[Bool.false_eq_true,if_false];refine⟨fun _ _=>trivial,?_⟩;refine ih (k+1) (o.dst::prev) (.skip::vals) rest S vals' S' _ w ρ hdrop kH hp' rC yA hr hG (hf.put (Stp.refl _ _ _) .skip hd fun t=>Sb slots o.dst prev .skip vals env t) ?_;intro a' w' ρ' h4 h5 h6 h7;have:=hQ a' w' ρ' h4 h5 (by rw[show k+(o::os).length=k+1+os.length by simp;omega];exact h6) (h7.trans (by cases o.dst<;>rfl));rw[show k+1+os.length=k+(o::os).length by simp;omega];exact this
                  simp at hv
                rename_i hv;split at hv
                · rename_i b' hb';simp only[Oi]at hv
                  have hy:=guard_ok (b:=b) hjd zW hp (hf.2 t (by
                    have:=hp _ (Lm (Ic zW))
                    simpa [Gu] using this)) hf.1 hb'
                  refine go ?_ yA;simp only[Region.wanted,hgo,hy];simpa using hv
                · simp at hv
                simp at hv
              simp at hg
            simp at hg
          simp at hg
      simp at x9
    simp at x9
theorem seq_ok{ro:Option Nat}{n:Nat}{G:Nat→Option (List D)}{L0:Nat→Option Fix}{call:Aq}(y9:Oe P G L0 call){kd:Kd}{nt:Nat}{slots:List Nat}{ops:Array Oper}{env:List D}{Q:Exit→Act→World→Prop}(rF:∀g row,kd.glob g=some row→G g=some row)(hs:slots.all (·<nt)=true) :
  ∀(os:List Oper) (k:Nat) (prev:List (Option Tmp)) (vals:List D) (los:List Xj) (S:St) (vals':List D) (S':St) (a:Act) (w:World) (ρ:Xn),ops.toList.drop k=os→prev=((ops.toList.take k).map (·.dst)).reverse→(∀d∈prev,Gu nt d=true) →
   Uj P kd nt slots os prev=some los→Hg call los vals env S=some (vals',S')→Rel w ρ S.heap→XOK G L0 ρ.X→FR w ρ S.heap nt (sig slots prev vals env) a →
   (∀a' w' ρ',Rel w' ρ' S'.heap→Stp w ρ S w' ρ' S'→FR w' ρ' S'.heap nt (sig slots (dstsOf ops.toList) vals' env) a'→a'.defers=a.defers→Q .normal a' w') →
   wpOpsIn (rf ro) n P ops Q (List.range' k os.length) a w:=by
 intro os k prev vals los S vals' S' a w ρ hk zO hp x9 yA hr hG hf hQ
 have zy:k+os.length=max k ops.toList.length:=by
  have:=congrArg List.length hk;simp only[List.length_drop]at this;omega
 refine seq_part y9 [] rF hs os k prev vals los S vals' S' a w ρ (by simpa using hk) zO hp x9 yA hr hG hf fun a' w' ρ' h1 h2 h3 h4=>?_;rw[List.take_of_length_le (by omega)]at h3;exact hQ a' w' ρ' h1 h2 h3 h4
end
open Go.RowKit
def Down (ops:Array Oper) (L:Nat→Prop):Prop:=∀i o,ops[i]?=some o→L i→∀e∈o.after,Region.binds .any e=true→L e.on
theorem one_bit (get : Nat → Nat) : ∀ (es : List Edge) (s i : Nat), (es.foldl (fun s e => if Region.binds .any e then s ||| 2 ^ e.on ||| get e.on else s) s).testBit i = true → s.testBit i = true ∨ ∃ e ∈ es, Region.binds .any e = true ∧ (i = e.on ∨ (get e.on).testBit i = true)
  | [],s,i,h=>.inl h
  | e :: es, s, i, h => by
    rw[List.foldl_cons]at h;rcases one_bit get es _ i h with h1 | ⟨e',he',h2⟩
    · by_cases hb : Region.binds .any e = true
      · rw [if_pos hb, Nat.testBit_or, Nat.testBit_or, Bool.or_eq_true, Bool.or_eq_true] at h1;rcases h1 with (h1 | h1) | h1
        · exact .inl h1
        · refine .inr ⟨e, by simp, hb, .inl ?_⟩;rw[Nat.testBit_two_pow]at h1;have:e.on=i:=by simpa using h1
          exact this.symm
        exact .inr ⟨e,by simp,hb,.inr h1⟩
      rw[if_neg hb]at h1;exact .inl h1
    exact .inr ⟨e',by simp[he'],h2⟩
theorem before_aux{ops:Array Oper}{L:Nat→Prop}(hL:Down ops L):∀(os:List Oper) (acc:Array Nat),ops.toList.drop acc.size=os→(∀j i,(acc.getD j 0).testBit i=true→L j→L i)→∀j i,((os.foldl (fun acc o=>acc.push (o.after.foldl (fun s e=>if Region.binds .any e then s ||| 2 ^ e.on ||| acc.getD e.on 0 else s) 0)) acc).getD j 0).testBit i=true→L j→L i
 | [],acc,hd,h=>h
 | o :: os, acc, hd, h => by
  rw[List.foldl_cons]
  have ho:ops[acc.size]?=some o:=by
   have:(ops.toList.drop acc.size)[0]?=some o:=by rw[hd];rfl
   simpa using this
  refine before_aux hL os _ ?_ ?_
  ·
   have:(ops.toList.drop acc.size).drop 1=os:=by rw[hd];rfl
   rw[List.drop_drop]at this;simpa using this
  intro j i hj hLj;by_cases xq:j<acc.size
  ·
   have e:(acc.push (o.after.foldl (fun s e=>if Region.binds .any e then s ||| 2 ^ e.on ||| acc.getD e.on 0 else s) 0)).getD j 0=acc.getD j 0:=by
    simp only[Array.getD_eq_getD_getElem?];rw[Array.getElem?_push_lt xq,Array.getElem?_eq_getElem xq]
   rw[e]at hj;exact h j i hj hLj
  by_cases rM:j=acc.size
  ·
   subst rM
   have e:(acc.push (o.after.foldl (fun s e=>if Region.binds .any e then s ||| 2 ^ e.on ||| acc.getD e.on 0 else s) 0)).getD acc.size 0=o.after.foldl (fun s e=>if Region.binds .any e then s ||| 2 ^ e.on ||| acc.getD e.on 0 else s) 0:=by
    simp[Array.getD_eq_getD_getElem?]
   rw[e,←Array.foldl_toList]at hj;rcases one_bit (fun k=>acc.getD k 0) _ _ _ hj with h1 | ⟨e',he',hb,h2⟩
   ·
    simp at h1
   have hLe:=hL _ o ho hLj e' (Array.mem_toList_iff.1 he') hb;rcases h2 with rfl | h2
   ·
    exact hLe
   exact h _ _ h2 hLe
  have e:(acc.push (o.after.foldl (fun s e=>if Region.binds .any e then s ||| 2 ^ e.on ||| acc.getD e.on 0 else s) 0)).getD j 0=0:=by
   simp only[Array.getD_eq_getD_getElem?];rw[Array.getElem?_eq_none (by simp;omega)];rfl
  rw[e]at hj;simp at hj
theorem Qa{ops:Array Oper}{L:Nat→Prop}(hL:Down ops L){j i:Nat}(h:((Region.before ops).toList.getD j 0).testBit i=true)(hj:L j):L i:=by
 have:=before_aux hL ops.toList #[] (by simp) (by simp) j i;refine this ?_ hj;unfold Region.before at h;rw[←Array.foldl_toList]at h;simpa using h
theorem Sk{ops:Array Oper}{L:Nat→Prop}(hL:Down ops L){i j:Nat}(h:ordered (Region.before ops).toList i j=true):(j<i→L i→L j)∧(i<j→L j→L i):=by
 unfold ordered at h;refine⟨fun xq hi=>?_,fun xq hj=>?_⟩
 ·
  rw[show Nat.max i j=i from Nat.max_eq_left (Nat.le_of_lt xq),show Nat.min i j=j from Nat.min_eq_right (Nat.le_of_lt xq)]at h;exact Qa hL h hi
 rw[show Nat.max i j=j from Nat.max_eq_right (Nat.le_of_lt xq),show Nat.min i j=i from Nat.min_eq_left (Nat.le_of_lt xq)]at h;exact Qa hL h hj
theorem countP_le'{p q:Nat→Bool}(h:∀x,q x=true→p x=true):∀l:List Nat,l.countP q≤l.countP p
 | []=>by simp
 | a::l=>by
  have ih:=countP_le' h l;simp only[List.countP_cons];have:=h a;cases hq:q a<;>cases hp:p a<;>simp_all<;>omega
theorem countP_lt'{p q:Nat→Bool}(h:∀x,q x=true→p x=true){i:Nat}(hp:p i=true)(hq:q i=false):∀l:List Nat,i∈l→l.countP q<l.countP p
 | [],hi=>by simp at hi
 | a :: l, hi => by
  simp only[List.countP_cons];rcases List.mem_cons.1 hi with rfl | hi
  ·
   have:=countP_le' h l;simp[hp,hq];omega
  have ih:=countP_lt' h hp hq l hi;have:=h a;cases hq':q a<;>cases hp':p a<;>simp_all<;>omega
section
variable {P:Program} {ops:Array Oper} {Q:Exit→Act→World→Prop}
theorem wp_region_inv {ro : Option Nat} {n : Nat} {id : Nat} {a0 : Act} {w0 : World} (hm : P.follows .mixedOrders = true) (hB : ∀ i o, ops[i]? = some o → ∀ e ∈ o.after, Region.binds .any e = true → e.on < i) (Inv : (Nat → Prop) → Act → World → Prop)
    (h0:Inv (fun _=>False) a0 w0.drew)
    (hstep:∀L i o a w,ops[i]?=some o→¬L i→Down ops L→(∀e∈o.after,Region.binds .any e=true→L e.on)→Inv L a w→wpOpIn (rf ro) n P ops Q i (fun a' w'=>Inv (fun k=>L k∨k=i) a' w') a w)
    (hend:∀L a w,(∀i,i<ops.size→L i)→Inv L a w→Q .normal a w):(Code.region id ops true).wpIn (rf ro) n P Q a0 w0:=by
  refine wpIn_region_any hm ?_
  have key:∀(fuel:Nat) (listed:Array Bool) (a:Act) (w:World),listed.size=ops.size→(List.range ops.size).countP (fun i=>!listed.getD i false)≤fuel→Down ops (fun i=>listed.getD i false=true)→Inv (fun i=>listed.getD i false=true) a w→wpAnyIn (rf ro) n P .any ops Q fuel listed a w:=by
    intro fuel
    induction fuel with
    | zero =>
      intro listed a w hs hc hd h
      have xw:∀i,i<ops.size→listed.getD i false=true:=by
        intro i hi;have h0:(List.range ops.size).countP (fun i=>!listed.getD i false)=0:=by omega
        rw[List.countP_eq_zero]at h0;simpa using h0 i (List.mem_range.2 hi)
      refine⟨?_,hend _ a w xw h⟩;rw[List.eq_nil_iff_forall_not_mem];intro j hj;obtain⟨hu,o,ho,_⟩:=mem_ready.1 hj;have yP:=(Array.getElem?_eq_some_iff.1 ho).1;have:=xw j yP;rw[getD_both hu]at this;cases this
    | succ fuel ih =>
      intro listed a w hs hc hd h;refine⟨fun hnil=>hend _ a w ?_ h,fun i hi=>?_⟩
      · intro i
        induction i using Nat.strongRecOn with
        | _ i ihs =>
          intro zh
          cases hli:listed.getD i false with
          | true=>rfl
          | false =>
            exfalso;have ho:ops[i]?=some ops[i]:=Array.getElem?_eq_getElem zh;have hr:i∈Region.ready .any ops listed:=mem_ready.2 ⟨getD_in (by omega) hli,ops[i],ho,fun e he hb=>ihs e.on (hB i _ ho e he hb) (Nat.lt_trans (hB i _ ho e he hb) zh)⟩;rw[hnil]at hr;cases hr
      obtain⟨hu,o,ho,xw⟩:=mem_ready.1 hi;have zh:=(Array.getElem?_eq_some_iff.1 ho).1
      have xL:(fun k=>(listed.setIfInBounds i true).getD k false=true)=(fun k=>listed.getD k false=true∨k=i):=by
        funext k
        apply propext;by_cases hki:i=k
        · subst hki;simp[hs,zh]
        rw[getD_set_ne false hki];constructor
        · exact .inl
        rintro (h | h)
        · exact h
        exact absurd h.symm hki
      have hni:¬(listed.getD i false=true):=by rw[getD_both hu];simp
      refine wpOpIn_mono ?_ (hstep _ i o a w ho hni hd xw h);intro a' w' hinv;refine ih _ _ _ (by simp[hs]) ?_ ?_ (by rw[xL];exact hinv)
      · have := countP_lt' (p := fun k => !listed.getD k false) (q := fun k => !(listed.setIfInBounds i true).getD k false) (i := i) ?_ ?_ ?_ (List.range ops.size) (List.mem_range.2 zh)
        · omega
        · intro x hx';simp only[Bool.not_eq_true']at hx' ⊢;rw[Bool.eq_false_iff]at hx' ⊢;intro hc;apply hx';have:=congrFun xL x;rw[this];exact .inl hc
        · simp only[Bool.not_eq_true'];exact getD_both hu
        simp only[Bool.not_eq_false'];have:=congrFun xL i;rw[this];exact .inr rfl
      rw[xL];intro k ok hk hLk e he hb;rcases hLk with hLk | rfl
      · exact .inl (hd k ok hk hLk e he hb)
      rw[ho]at hk;injection hk with hk;subst hk;exact .inl (xw e he hb)
  refine key ops.size _ a0 _ (by simp) (Nat.le_trans (List.countP_le_length) (by simp)) ?_ ?_
  · intro i o ho hL;simp[Array.getD]at hL
  have:(fun i=>(Array.replicate ops.size false).getD i false=true)=(fun _=>False):=by
    funext i
    apply propext;simp[Array.getD]
  rw[this];exact h0
end
open Go.RowKit
def Ig (call:Aq):Prop:=∀f ds S r S',call f ds S=some (r,S',false)→S'=S
theorem lop_clean{l:LOp}{ds:List D}{S S':St}{r:D}(h:lop l ds S=some (r,S',false)):S'=S:=by
 unfold lop at h
 repeat' (first | (simp at h;done) | (split at h))
 all_goals first
  | (simp at h;done)
  | (simp only[Oi,Pi_]at h;exact h.2.1.symm)
  | (simp only[Om,Pi_]at h;obtain⟨_,_,h1,h2,h3⟩:=h;first | exact h2.symm | (cases h3;done))
  | skip
 all_goals
  first | unfold Bo at h | unfold Av at h | unfold ustrD at h | unfold Nc at h | unfold nextsD at h | unfold Dy at h
  repeat' (first | (simp at h;done) | (split at h) | (unfold Av at h;skip))
  all_goals first
   | (simp at h;done)
   | (simp only[Oi,Pi_]at h;exact h.2.1.symm)
theorem aop_clean{l:LOp}{ds:List D}{S S':St}{r:D}(h:aop l ds S=some (r,S',false)):S'=S:=by
 unfold aop at h;split at h
 ·
  exact lop_clean h
 simp only[Om,Pi_]at h;obtain⟨_,_,_,h2,_⟩:=h;exact h2.symm
theorem N8{call:Aq}(hc:Ig call){l:LOp}{ds:List D}{S S':St}{r:D}(h:Al call l ds S=some (r,S',false)):S'=S:=by
 unfold Al at h;split at h
 ·
  split at h
  ·
   simp at h
  exact hc _ _ _ _ _ h
 ·
  split at h
  ·
   split at h
   ·
    simp at h
   exact hc _ _ _ _ _ h
  ·
   split at h
   ·
    simp at h
   exact hc _ _ _ _ _ h
  ·
   exact hc _ _ _ _ _ h
  simp at h
 ·
  split at h
  ·
   split at h
   ·
    split at h
    ·
     simp at h
    exact hc _ _ _ _ _ h
   simp at h
  ·
   split at h
   ·
    split at h
    ·
     simp at h
    exact hc _ _ _ _ _ h
   simp at h
  simp at h
 exact aop_clean h
theorem Rv{call:Aq}{l:LOp}{ds:List D}{S S':St}{r:D}{wr:Bool}(hl:l.loud=false)(h:Al call l ds S=some (r,S',wr)):S'=S∧wr=false∧∀S2,Al call l ds S2=some (r,S2,false):=by
 have ha:Al call l ds=aop l ds:=by cases l<;>first | rfl | (simp[LOp.loud]at hl;done)
 rw[ha]at h ⊢;unfold aop at h;simp only[hl,Bool.false_eq_true,if_false,Om,Pi_]at h;obtain⟨r',h1,rfl,rfl,rfl⟩:=h;exact⟨rfl,rfl,fun S2=>by simp[aop,hl,h1]⟩
theorem Tw{α:Type}{p:α→α→Bool}(hp:∀a b,p a b=true→a=b):∀{l m:List α},Qf p l m=true→l=m
 | [],[],_=>rfl
 | a::l,b::m,h=>by
  simp only[Qf,Bool.and_eq_true]at h;rw[hp a b h.1,Tw hp h.2]
 | [],_::_,h=>by simp[Qf]at h
 | _::_,[],h=>by simp[Qf]at h
theorem eqbN_eq:∀(n:Nat) (a b:D),Wq n a b=true→a=b
 | 0,a,b,h=>by simp[Wq]at h
 | n+1,a,b,h=>by
  have ih:=eqbN_eq n;have ih2:∀l m:List D,Qf (Wq n) l m=true→l=m:=fun l m h=>Tw ih h;have ih3:∀l m:List (List D),Qf (Qf (Wq n)) l m=true→l=m:=fun l m h=>Tw ih2 h;cases a<;>cases b<;>simp only[Wq,Bool.and_eq_true,decide_eq_true_eq,beq_iff_eq,Bool.false_eq_true]at h
  case int=>rw[h.1,h.2]
  case bool=>rw[h]
  case str a b=>cases a;cases b;simp only[D.str.injEq,ByteArray.mk.injEq];exact Array.ext' h
  case agg=>rw[ih2 _ _ h]
  case tup=>rw[ih2 _ _ h]
  case ptr=>obtain⟨⟨⟨rfl,rfl⟩,rfl⟩,rfl⟩:=h;rfl
  case X7=>obtain⟨rfl,h⟩:=h;rw[ih2 _ _ h]
  case sl=>obtain⟨⟨rfl,rfl⟩,h⟩:=h;rw[ih3 _ _ h]
  case msl=>obtain⟨⟨⟨⟨rfl,rfl⟩,rfl⟩,rfl⟩,rfl⟩:=h;rfl
  case fn=>obtain⟨rfl,h⟩:=h;rw[ih2 _ _ h]
  case bfn=>obtain⟨rfl,h⟩:=h;rw[ih2 _ _ h]
  case mref=>obtain⟨rfl,rfl⟩:=h;rfl
  case iter=>obtain⟨rfl,rfl⟩:=h;rfl
  case mp=>rw[ih3 _ _ h]
  case ifc=>obtain⟨rfl,h⟩:=h;rw[ih _ _ h]
  case ifr=>obtain⟨rfl,h⟩:=h;rw[ih _ _ h]
  case yld=>rw[h]
  all_goals rfl
theorem Xh.eqb_eq{a b:Xh}(h:a.eqb b=true):a=b:=by
 simp only[Xh.eqb,Bool.and_eq_true,decide_eq_true_eq,beq_iff_eq]at h;obtain⟨⟨⟨⟨⟨h1,h2⟩,h3⟩,h4⟩,h5⟩,h6⟩:=h;have h7:=Tw (fun l m h=>Tw (eqbN_eq 12) h) h6;cases a;cases b;simp only at h1 h2 h3 h4 h5 h7;rw[h1,h2,h3,h4,h5,h7]
theorem Tp:∀(l m:List Xh) (k g:Nat),k+g∉chg l m k→m[g]?=l[g]?
  | [],[],k,g,_=>rfl
  | [], b :: m, k, g, h => by
    cases g with
    | zero=>simp[chg]at h
    | succ g=>exact Tp [] m (k+1) g (fun hm=>h (by rw[chg];rw[show k+(g+1)=k+1+g by omega];exact List.mem_cons_of_mem _ hm))
  | a :: l, [], k, g, h => by
    cases g with
    | zero=>simp[chg]at h
    | succ g=>exact Tp l [] (k+1) g (fun hm=>h (by rw[chg];rw[show k+(g+1)=k+1+g by omega];exact List.mem_cons_of_mem _ hm))
  | a :: l, b :: m, k, g, h => by
    by_cases hab:a.eqb b=true
    · have e := Xh.eqb_eq hab;subst e;rw[chg,if_pos hab]at h
      cases g with
      | zero=>rfl
      | succ g=>exact Tp l m (k+1) g (by rw[show k+1+g=k+(g+1) by omega];exact h)
    rw[chg,if_neg hab]at h
    cases g with
    | zero=>simp at h
    | succ g=>exact Tp l m (k+1) g (fun hm=>h (by rw[show k+(g+1)=k+1+g by omega];exact List.mem_cons_of_mem _ hm))
def Jz:LOp→Bool
 | .call _ | .callv | .invoke _=>true
 | _=>false
def Q7 (l:LOp) (W:List Nat) (S S':St):Prop:=Jz l=true→∀g,g∉W→S'.heap[g]?=S.heap[g]?
theorem chg_ok(l:LOp)(S S':St):Q7 l (chg S.heap S'.heap 0) S S':=fun _ g hg=>Tp _ _ 0 g (by rw[Nat.zero_add];exact hg)
inductive Eff where
 | none
 | set (g:Nat) (o:Xh)
 | new (o:Xh)
def Eff.app:Eff→St→St
 | .none,S=>S
 | .set g o,S=>setAt S g o
 | .new o,S=>newAt S o
def Eff.within (n:Nat) (W:List Nat) (c:Bool):Eff→Prop
 | .none=>True
 | .set g _=>g∈W
 | .new _=>c=true∧n∈W
def Framed (call:Aq) (l:LOp) (ds:List D) (S:St) (r:D) (S':St) (wr:Bool) (fp:FP):Prop :=
 ∃R W eff,fp.reads=some R∧fp.writes=some W∧S'=Eff.app eff S∧Eff.within S.heap.length W fp.creates eff ∧
  ∀T:St,(∀g∈R,T.heap[g]?=S.heap[g]?)→(fp.creates=true→T.heap.length=S.heap.length)→Al call l ds T=some (r,eff.app T,wr)
theorem Gf{S T:St}{g v:Nat}(h:T.heap[g]?=S.heap[g]?):rowsOf T g v=rowsOf S g v:=by simp[rowsOf,h]
theorem snap_plain{m:Nat}{H:List Xh}{d:D}(h:Ay d=true):snap m H d=some d:=by
 cases d<;>first | rfl | (simp[Ay]at h;done)
theorem U9{m:Nat}{H:List Xh}:∀{ds:List D},ds.all Ay=true→Bl m H ds=some ds
 | [],_=>rfl
 | d::ds,h=>by
  simp only[List.all_cons,Bool.and_eq_true]at h;simp[Bl,snap_plain h.1,U9 h.2]
theorem snapV_plain{m:Nat}{H:List Xh}{d:D}(h:Xo d=true):Xp m H d=some d:=by
 unfold Xo at h;split at h
 ·
  simp[Xp,U9 h]
 rename_i hn;unfold Xp;split
 ·
  rename_i cs;exact absurd rfl (hn cs)
 exact snap_plain h
theorem fpApp_loud(s x r:D)(wr:Bool):(Bv s x r wr).loud=true:=by
 unfold Bv;cases wr
 ·
  rfl
 simp only[if_true];split
 ·
  split<;>rfl
 rfl
theorem fpMk_loud(r:D)(wr:Bool):(Cq r wr).loud=true:=by
 unfold Cq;split<;>cases wr<;>rfl
theorem fpOf_loud(l:LOp)(ds:List D)(r:D)(wr:Bool)(U:List Nat):(Dx l ds r wr U).loud=l.loud:=by
 unfold Dx
 repeat' split
 all_goals first
  | rfl
  | (cases wr<;>rfl)
  | exact fpApp_loud ..
  | exact fpMk_loud ..
  | (rename_i h;simp[h,Ba];cases wr<;>rfl)
  | (rename_i h;simp at h;simp[h,Af])
theorem Fs{call:Aq}{l:LOp}{ds:List D}{S S':St}{r:D}{wr:Bool}(h:Al call l ds S=some (r,S',wr)){f:St→Option D}(he:∀T:St,Al call l ds T=(f T).map fun r=>(r,T,false))(R:List Nat)(hT:∀T:St,(∀g∈R,T.heap[g]?=S.heap[g]?)→f T=f S){U:List Nat}(hf:Dx l ds r wr U=Am R):Framed call l ds S r S' wr (Dx l ds r wr U):=by
 rw[he S,Om]at h;obtain⟨r',h1,h2⟩:=h;simp only[Pi_]at h2;obtain⟨rfl,rfl,rfl⟩:=h2;rw[hf];exact⟨R,[],.none,rfl,rfl,rfl,trivial,fun T hR _=>by rw[he T,hT T hR,h1];rfl⟩
theorem read_congr{S T:St}{sz:Nat}{x:D}(h:∀g∈Cc x,T.heap[g]?=S.heap[g]?):Bw T sz x=Bw S sz x∧Da T sz x=Da S sz x:=by
 cases x with
 | msl g v lo n c=>simp[Bw,Da,Gf (h g (by simp[Cc]))]
 | _=>exact⟨rfl,rfl⟩
theorem rowsOf_lt{S:St}{g v:Nat}{o:Xh}(h:rowsOf S g v=some o):g<S.heap.length:=by
 unfold rowsOf at h;split at h
 ·
  rename_i h1;exact (List.getElem?_eq_some_iff.1 h1).1
 simp at h
theorem fp_app {e sz bytes kind : Nat} {s x r : D} {new : List (List D)} {S S' : St} {wr : Bool} {F : St → Option (D × St × Bool)}
    (hF:∀T:St,(∀g∈Cc s++Cc x,T.heap[g]?=S.heap[g]?)→F T=Av e sz bytes kind s new T) (h:Av e sz bytes kind s new S=some (r,S',wr)) :
    ∃ R W eff, (Bv s x r wr).reads = some R ∧ (Bv s x r wr).writes = some W ∧ S' = Eff.app eff S ∧ Eff.within S.heap.length W (Bv s x r wr).creates eff ∧
      ∀T:St,(∀g∈R,T.heap[g]?=S.heap[g]?)→((Bv s x r wr).creates=true→T.heap.length=S.heap.length)→F T=some (r,eff.app T,wr):=by
  have quiet:∀r,wr=false→S'=S→(∀T:St,(∀g∈Cc s++Cc x,T.heap[g]?=S.heap[g]?)→Av e sz bytes kind s new T=some (r,T,false))→∃R W eff,(Bv s x r wr).reads=some R∧(Bv s x r wr).writes=some W∧S'=Eff.app eff S∧Eff.within S.heap.length W (Bv s x r wr).creates eff ∧
      ∀T:St,(∀g∈R,T.heap[g]?=S.heap[g]?)→((Bv s x r wr).creates=true→T.heap.length=S.heap.length)→F T=some (r,eff.app T,wr):=by
    intro r h1 h2 h3;subst h1 h2;exact⟨_,_,.none,rfl,rfl,rfl,trivial,fun T hR _=>by rw[hF T hR,h3 T hR];rfl⟩
  have fresh:∀v lo n c o,wr=true→S'=newAt S o→(Cc s≠[S.heap.length])→(∀T:St,(∀g∈Cc s++Cc x,T.heap[g]?=S.heap[g]?)→Av e sz bytes kind s new T=some (.msl T.heap.length v lo n c,newAt T o,true))→∃R W eff,(Bv s x (.msl S.heap.length v lo n c) wr).reads=some R∧(Bv s x (.msl S.heap.length v lo n c) wr).writes=some W∧S'=Eff.app eff S∧Eff.within S.heap.length W (Bv s x (.msl S.heap.length v lo n c) wr).creates eff ∧
      ∀T:St,(∀g∈R,T.heap[g]?=S.heap[g]?)→((Bv s x (.msl S.heap.length v lo n c) wr).creates=true→T.heap.length=S.heap.length)→F T=some (.msl S.heap.length v lo n c,eff.app T,wr):=by
    intro v lo n c o h1 h2 xA h3;subst h1 h2;have hf:Bv s x (.msl S.heap.length v lo n c) true=⟨true,some (Cc s++Cc x),some [S.heap.length],true,none⟩:=by simp only[Bv,if_true,if_neg xA]
    rw[hf];exact⟨_,_,.new o,rfl,rfl,rfl,⟨rfl,by simp⟩,fun T hR hl=>by rw[hF T hR,h3 T hR,hl rfl];rfl⟩
  have inpl:∀g v lo n c o,wr=true→S'=setAt S g o→Cc s=[g]→(∀T:St,(∀g∈Cc s++Cc x,T.heap[g]?=S.heap[g]?)→Av e sz bytes kind s new T=some (.msl g v lo n c,setAt T g o,true))→∃R W eff,(Bv s x (.msl g v lo n c) wr).reads=some R∧(Bv s x (.msl g v lo n c) wr).writes=some W∧S'=Eff.app eff S∧Eff.within S.heap.length W (Bv s x (.msl g v lo n c) wr).creates eff ∧
      ∀T:St,(∀g∈R,T.heap[g]?=S.heap[g]?)→((Bv s x (.msl g v lo n c) wr).creates=true→T.heap.length=S.heap.length)→F T=some (.msl g v lo n c,eff.app T,wr):=by
    intro g v lo n c o h1 h2 xA h3;subst h1 h2;have hf:Bv s x (.msl g v lo n c) true=⟨true,some (Cc s++Cc x),some [g],false,none⟩:=by simp only[Bv,if_true,if_pos xA]
    rw[hf];exact⟨_,_,.set g o,rfl,rfl,rfl,by simp[Eff.within],fun T hR _=>by rw[hF T hR,h3 T hR];rfl⟩
  cases s with
  | X4 =>
    simp only[Av]at h quiet fresh;split at h
    · rename_i hc;simp only[Oi,Pi_]at h;obtain⟨rfl,rfl,rfl⟩:=h;exact quiet _ rfl rfl fun T hT=>by rw[if_pos hc]
    rename_i hc;split at h
    · rename_i hb;simp only[Oi,Pi_]at h;obtain⟨rfl,rfl,rfl⟩:=h;exact fresh _ _ _ _ _ rfl rfl (by simp[Cc]) fun T hT=>by rw[if_neg hc,if_pos hb]
    simp at h
  | sl s' rows cap =>
    simp only[Av]at h quiet fresh;split at h
    · rename_i hc;simp only[Oi,Pi_]at h;obtain⟨rfl,rfl,rfl⟩:=h;exact quiet _ rfl rfl fun T hT=>by rw[if_pos hc]
    rename_i hc;split at h
    · rename_i hb;simp only[Oi,Pi_]at h;obtain⟨rfl,rfl,rfl⟩:=h;exact fresh _ _ _ _ _ rfl rfl (by simp[Cc]) fun T hT=>by rw[if_neg hc,if_pos hb]
    simp at h
  | msl g v lo n cap =>
    simp only[Av]at h quiet fresh inpl
    cases ho:rowsOf S g v with
    | none=>rw[ho]at h;simp at h
    | some o =>
      rw[ho]at h;have hg:=rowsOf_lt ho;have hT':∀T:St,(∀k∈Cc (D.msl g v lo n cap)++Cc x,T.heap[k]?=S.heap[k]?)→rowsOf T g v=some o:=fun T hT=>(Gf (hT g (by simp[Cc]))).trans ho;by_cases h1:o.sz=sz∧o.elem=e∧lo=0∧n=o.rows.length∧cap=none∧(if kind=0 then o.kind=0 else (o.kind=1∨o.kind=2))∧(n+new.length)*bytes≤140737488355328
      · replace h : some (D.msl g (v + 1) 0 (n + new.length) none, setAt S g { o with rows := o.rows ++ new, ver := v + 1, grow := true }, true) = some (r, S', wr) := by rw [← h]; exact (if_pos h1).symm
        simp only[Oi,Pi_]at h;obtain⟨rfl,rfl,rfl⟩:=h;exact inpl _ _ _ _ _ _ rfl rfl rfl fun T hT=>by rw[hT' T hT];exact if_pos h1
      by_cases h2:o.sz=sz∧o.elem=e∧lo=0∧cap=none∧(if kind=0 then o.kind=0 else o.kind=2)∧n+new.length≤o.rows.length
      · replace h : some (D.msl g v 0 (n + new.length) none, setAt S g { o with rows := o.rows.take n ++ new ++ o.rows.drop (n + new.length) }, true) = some (r, S', wr) := by rw [← h]; exact ((if_neg h1).trans (if_pos h2)).symm
        simp only[Oi,Pi_]at h;obtain⟨rfl,rfl,rfl⟩:=h;exact inpl _ _ _ _ _ _ rfl rfl rfl fun T hT=>by rw[hT' T hT];exact (if_neg h1).trans (if_pos h2)
      by_cases h3:o.sz=sz∧o.elem=e∧cap=some n∧(if kind=0 then o.kind=0 else (o.kind=1∨o.kind=2))∧(n+new.length)*bytes≤140737488355328
      · by_cases h4 : new.isEmpty = true
        · replace h : some (D.msl g v lo n cap, S, false) = some (r, S', wr) := by rw [← h]; exact ((if_neg h1).trans ((if_neg h2).trans ((if_pos h3).trans (if_pos h4)))).symm
          simp only[Oi,Pi_]at h;obtain⟨rfl,rfl,rfl⟩:=h;exact quiet _ rfl rfl fun T hT=>by rw[hT' T hT];exact (if_neg h1).trans ((if_neg h2).trans ((if_pos h3).trans (if_pos h4)))
        replace h:some (D.msl S.heap.length 0 0 (n+new.length) none,newAt S ⟨e,sz,(o.rows.drop lo).take n++new,0,kind,true⟩,true)=some (r,S',wr):=by rw[←h];exact ((if_neg h1).trans ((if_neg h2).trans ((if_pos h3).trans (if_neg h4)))).symm
        simp only[Oi,Pi_]at h;obtain⟨rfl,rfl,rfl⟩:=h;exact fresh _ _ _ _ _ rfl rfl (by simp only[Cc];intro hq;injection hq;omega) fun T hT=>by rw[hT' T hT];exact (if_neg h1).trans ((if_neg h2).trans ((if_pos h3).trans (if_neg h4)))
      replace h:none=some (r,S',wr):=by rw[←h];exact ((if_neg h1).trans ((if_neg h2).trans (if_neg h3))).symm
      simp at h
  | _=>simp[Av]at h
theorem J3{m:Nat}{H:List Xh}:∀{ds:List D},ds.all Xo=true→Ah m H ds=some ds
 | [],_=>rfl
 | d::ds,h=>by
  simp only[List.all_cons,Bool.and_eq_true]at h;simp[Ah,snapV_plain h.1,J3 h.2]
theorem snap_congr{S T:St}{x:D}(h:∀g∈refs1 x,T.heap[g]?=S.heap[g]?):snap T.heap.length T.heap x=snap S.heap.length S.heap x:=by
 cases x with
 | msl g v lo n c =>
  have e:=h g (by simp[refs1]);simp only[snap,e]
  cases hg:S.heap[g]? with
  | none=>rfl
  | some o =>
   have h1:=lt_of_some hg;have h2:g<T.heap.length:=lt_of_some (e.trans hg);simp only[show ¬T.heap.length≤g by omega,show ¬S.heap.length≤g by omega]
 | mref g v =>
  have e:=h g (by simp[refs1]);simp only[snap,e]
  cases hg:S.heap[g]? with
  | none=>simp only[if_pos (List.getElem?_eq_none_iff.1 (e.trans hg)),if_pos (List.getElem?_eq_none_iff.1 hg)]
  | some o =>
   have h1:=lt_of_some hg;have h2:g<T.heap.length:=lt_of_some (e.trans hg);rw[if_neg (show ¬T.heap.length≤g by omega),if_neg (show ¬S.heap.length≤g by omega)]
 | _=>rfl
theorem Vb{S T:St}:∀{xs:List D},(∀g∈xs.flatMap refs1,T.heap[g]?=S.heap[g]?)→Bl T.heap.length T.heap xs=Bl S.heap.length S.heap xs
 | [],_=>rfl
 | x::xs,h=>by
  simp only[Bl];rw[snap_congr fun g hg=>h g (by simp[hg]),Vb fun g hg=>h g (by simp only[List.flatMap_cons,List.mem_append];exact .inr hg)]
theorem snapV_congr{S T:St}{x:D}(h:∀g∈refV x,T.heap[g]?=S.heap[g]?):Xp T.heap.length T.heap x=Xp S.heap.length S.heap x:=by
 have key:=@snap_congr S T x
 cases x with
 | agg cs=>simp only[Xp];rw[Vb h]
 | _=>exact key h
theorem fp_cases2 {call : Aq} {l : LOp} {ds : List D} {S S' : St} {r : D} {wr : Bool} {U : List Nat} (hn : Jz l = false) (h : Al call l ds S = some (r, S', wr)) : Framed call l ds S r S' wr (Dx l ds r wr U) ∨ Dx l ds r wr U = Ba wr := by
  cases hl:l.loud with
  | false =>
    left;obtain⟨rfl,rfl,h2⟩:=Rv hl h
    have e:Dx l ds r false U=Af:=by
      cases l<;>first | rfl | (simp[LOp.loud]at hl;done) | skip
      rename_i st _ _ _ _;cases st
      · simp[LOp.loud]at hl
      rfl
    rw[e];exact⟨[],[],.none,rfl,rfl,rfl,trivial,fun T _ _=>h2 T⟩
  | true =>
    cases l with
    | load sz agg =>
      left
      match ds,h with
      | [a], h =>
        have he:∀T:St,Al call (.load sz agg) [a] T=(G6 sz agg T a).map fun r=>(r,T,false):=fun T=>rfl
        cases a with
        | ptr g v i o =>
          refine Fs h he [g] (fun T hT=>?_) rfl;simp only[G6,Gf (hT g (by simp))]
        | _=>refine Fs h he [] (fun T hT=>?_) rfl;rfl
      | [],h=>simp[Al,aop,LOp.loud,lop]at h
      | _::_::_,h=>simp[Al,aop,LOp.loud,lop]at h
    | X0 sz =>
      left
      match ds,h with
      | [a, i], h =>
        have he:∀T:St,Al call (.X0 sz) [a,i] T=(Fe T sz a i).map fun r=>(r,T,false):=fun T=>rfl
        cases a with
        | msl g v lo n c =>
          refine Fs h he [g] (fun T hT=>?_) rfl;cases i<;>simp only[Fe,Gf (hT g (by simp))]
        | _=>refine Fs h he [] (fun T hT=>?_) rfl;cases i<;>rfl
      | [],h=>simp[Al,aop,LOp.loud,lop]at h
      | [_],h=>simp[Al,aop,LOp.loud,lop]at h
      | _::_::_::_,h=>simp[Al,aop,LOp.loud,lop]at h
    | mapget kf z ok =>
      left
      match ds,h with
      | [a, i], h =>
        have he:∀T:St,Al call (.mapget kf z ok) [a,i] T=(Jg T kf z ok a i).map fun r=>(r,T,false):=fun T=>rfl
        cases a with
        | mref g v =>
          refine Fs h he [g] (fun T hT=>?_) rfl;simp only[Jg,J5,Gf (hT g (by simp))]
        | _=>refine Fs h he [] (fun T hT=>?_) rfl;rfl
      | [],h=>simp[Al,aop,LOp.loud,lop]at h
      | [_],h=>simp[Al,aop,LOp.loud,lop]at h
      | _::_::_::_,h=>simp[Al,aop,LOp.loud,lop]at h
    | slice st sz lo hi mx =>
      cases st with
      | true=>simp[LOp.loud]at hl
      | false =>
        left
        match ds,h with
        | a :: xs, h =>
          have he:∀T:St,Al call (.slice false sz lo hi mx) (a::xs) T=(match Bt lo hi mx xs with | some (p,q,m)=>D5 T sz a p q m | none=>none).map fun r=>(r,T,false):=by
            intro T;show lop (.slice false sz lo hi mx) (a::xs) T=_;simp only[lop];split<;>(rename_i hq;rw[hq];try rfl)
          cases a with
          | msl g v o n c =>
            refine Fs h he [g] (fun T hT=>?_) rfl;simp only[D5,Hy,Gf (hT g (by simp))]
          | _=>refine Fs h he [] (fun T hT=>?_) rfl;rfl
        | [],h=>simp[Al,aop,LOp.loud,lop]at h
    | strb =>
      left
      match ds,h with
      | [a], h =>
        cases a with
        | str s=>exact Fs h (f:=fun T=>some (.sl 1 (byteRows s) none)) (fun T=>rfl) [] (fun T hT=>rfl) rfl
        | _=>simp[Al,aop,LOp.loud,lop]at h
      | [],h=>simp[Al,aop,LOp.loud,lop]at h
      | _::_::_,h=>simp[Al,aop,LOp.loud,lop]at h
    | append e sz bytes kind =>
      left
      match ds,h with
      | [s, x], h =>
        have he:∀T:St,Al call (.append e sz bytes kind) [s,x] T=Bo e sz bytes kind s x T:=fun T=>rfl;rw[he]at h;unfold Bo at h
        cases hn:(if kind=0 then Da S sz x else Bw S sz x) with
        | none=>rw[hn]at h;simp at h
        | some new =>
          rw[hn]at h;refine fp_app (F:=fun T=>Al call (.append e sz bytes kind) [s,x] T) (fun T hT=>?_) h;obtain⟨h1,h2⟩:=read_congr (sz:=sz) (x:=x) fun g hg=>hT g (List.mem_append.2 (.inr hg));rw[he];unfold Bo;rw[h1,h2,hn]
      | [],h=>simp[Al,aop,LOp.loud,lop]at h
      | [_],h=>simp[Al,aop,LOp.loud,lop]at h
      | _::_::_::_,h=>simp[Al,aop,LOp.loud,lop]at h
    | Xz e sz len z ps kind =>
      by_cases hk:(decide (kind=0)||ds.all Xo)=true
      · have uX : Dx (.Xz e sz len z ps kind) ds r wr U = Cq r wr := by simp only [Dx]; rw [if_pos hk]
        have he:∀T:St,Al call (.Xz e sz len z ps kind) ds T=lop (.Xz e sz len z ps kind) ds T:=fun T=>rfl;rw[he]at h;by_cases h0:kind=0
        · simp only [lop, if_pos h0] at h
          cases hf:Dl (List.replicate len z) sz ps ds with
          | none=>rw[hf]at h;simp at h
          | some rs =>
            rw[hf]at h;simp only[Oi,Pi_]at h;obtain⟨rfl,rfl,rfl⟩:=h;left;rw[uX];exact⟨[],[S.heap.length],.new ⟨e,sz,rs,0,0,false⟩,rfl,rfl,rfl,⟨rfl,by simp⟩,fun T _ hT=>by rw[he];simp only[lop,if_pos h0,hf,hT rfl];rfl⟩
        have hp:ds.all Xo=true:=by simpa [h0] using hk
        simp only[lop,if_neg h0,J3 hp]at h
        cases hf:Dm (List.replicate len z) sz ps ds with
        | none=>rw[hf]at h;simp at h
        | some rs =>
          rw[hf]at h;simp only at h;by_cases h2:kind=2
          · rw [if_pos h2] at h;simp only[Oi,Pi_]at h;obtain⟨rfl,rfl,rfl⟩:=h;left;rw[uX];exact⟨[],[S.heap.length],.new ⟨e,sz,rs,0,2,false⟩,rfl,rfl,rfl,⟨rfl,by simp⟩,fun T _ hT=>by rw[he];simp only[lop,if_neg h0,J3 hp,hf,if_pos h2,hT rfl];rfl⟩
          rw[if_neg h2]at h;simp only[Oi,Pi_]at h;obtain⟨rfl,rfl,rfl⟩:=h;left;rw[uX];exact⟨[],[],.none,rfl,rfl,rfl,trivial,fun T _ _=>by rw[he];simp only[lop,if_neg h0,J3 hp,hf,if_neg h2];rfl⟩
      right;simp only[Dx];rw[if_neg hk]
    | boxc sz =>
      left
      match ds,h with
      | [x],h=>exact Fs h (f:=fun T=>if x.val&&x.cells.length==sz&&x.cells.all D.free then some (.X7 x.cells 0) else none) (fun T=>by simp only[Al,aop,LOp.loud,if_true,lop];split<;>rfl) [] (fun T hT=>rfl) rfl
      | [],h=>simp[Al,aop,LOp.loud,lop]at h
      | _::_::_,h=>simp[Al,aop,LOp.loud,lop]at h
    | box e sz =>
      left
      match ds,h with
      | [x], h =>
        simp only[Al,aop,LOp.loud,if_true,lop]at h;split at h
        · rename_i hx;simp only[Oi,Pi_]at h;obtain⟨rfl,rfl,rfl⟩:=h;exact⟨[],[S.heap.length],.new ⟨e,sz,[x.cells],0,0,false⟩,rfl,rfl,rfl,⟨rfl,by simp⟩,fun T _ hT=>by simp only[Al,aop,LOp.loud,if_true,lop,if_pos hx,hT rfl];rfl⟩
        simp at h
      | [],h=>simp[Al,aop,LOp.loud,lop]at h
      | _::_::_,h=>simp[Al,aop,LOp.loud,lop]at h
    | mknz e =>
      left;rcases ds with _ | ⟨a,_ | ⟨b,ds⟩⟩
      · simp[Al,aop,LOp.loud,lop]at h
      · have he : ∀ T : St, Al call (.mknz e) [a] T = lop (.mknz e) [a] T := fun T => rfl;rw[he]at h
        cases a with
        | int k n =>
          cases k<;>first | (simp[lop]at h;done) | skip
          simp only[lop]at h;split at h
          · rename_i hx;simp only[Oi,Pi_]at h;obtain⟨rfl,rfl,rfl⟩:=h;exact⟨[],[S.heap.length],.new ⟨e,1,List.replicate n.toNat [.junk],0,2,true⟩,rfl,rfl,rfl,⟨rfl,by simp⟩,fun T _ hT=>by rw[he];simp only[lop,if_pos hx,hT rfl];rfl⟩
          simp at h
        | _=>simp[lop]at h
      simp[Al,aop,LOp.loud,lop]at h
    | mkslice e sz bytes z kind =>
      left;rcases ds with _ | ⟨a,_ | ⟨b,_ | ⟨c,ds⟩⟩⟩
      · simp[Al,aop,LOp.loud,lop]at h
      · simp[Al,aop,LOp.loud,lop]at h
      · cases a <;> first | (simp [Al, aop, LOp.loud, lop] at h; done) | skip
        cases b<;>first | (simp[Al,aop,LOp.loud,lop]at h;done) | skip
        rename_i k1 l k2 c;simp only[Al,aop,LOp.loud,if_true,lop]at h;split at h
        · rename_i hx;simp only[Oi,Pi_]at h;obtain⟨rfl,rfl,rfl⟩:=h;exact⟨[],[S.heap.length],.new ⟨e,sz,List.replicate l.toNat z,0,kind,decide (l≠c)⟩,rfl,rfl,rfl,⟨rfl,by simp⟩,fun T _ hT=>by simp only[Al,aop,LOp.loud,if_true,lop,if_pos hx,hT rfl];rfl⟩
        simp at h
      simp[Al,aop,LOp.loud,lop]at h
    | store sz =>
      match ds,h with
      | [a, x], h =>
        cases a with
        | ptr g v i o =>
          left;have hf:Dx (.store sz) [.ptr g v i o,x] r wr U=⟨true,some (g::refV x),some [g],false,none⟩:=rfl;simp only[Al,aop,LOp.loud,if_true,lop,Om,Pi_]at h;obtain⟨S1,h1,rfl,rfl,rfl⟩:=h;simp only[I1]at h1;split at h1
          · rename_i ob zS;split at h1
            · rename_i row xO;split at h1
              · rename_i y hy;split at h1
                · rename_i hc;simp only[Oi]at h1;subst h1;rw[hf];refine⟨g::refV x,[g],.set g { ob with rows:=ob.rows.set i (overlay row o y.cells) },rfl,rfl,rfl,by simp[Eff.within],fun T hT _=>?_⟩;have kJ:rowsOf T g v=some ob:=(Gf (hT g (by simp))).trans zS
                  have hy':(if ob.kind=0 then some x else Xp T.heap.length T.heap x)=some y:=by
                    rw[←hy];split
                    · rfl
                    exact snapV_congr fun g' hg'=>hT g' (List.mem_cons_of_mem _ hg')
                  simp only[Al,aop,LOp.loud,if_true,lop,I1,kJ,xO,hy',if_pos hc];rfl
                simp at h1
              simp at h1
            simp at h1
          simp at h1
        | _=>right;rfl
      | [],h=>simp[Al,aop,LOp.loud,lop]at h
      | [_],h=>simp[Al,aop,LOp.loud,lop]at h
      | _::_::_::_,h=>simp[Al,aop,LOp.loud,lop]at h
    | call f=>simp[Jz]at hn
    | callv=>simp[Jz]at hn
    | invoke tab=>simp[Jz]at hn
    | _=>right;simp_all [Dx,LOp.loud]
theorem call_fp{l:LOp}(h:Jz l=true)(ds:List D)(r:D)(wr:Bool)(U:List Nat):Dx l ds r wr U=if wr then ⟨true,none,some U,true,none⟩ else Ba false:=by
 cases l<;>first | rfl | (simp[Jz]at h)
theorem Jq{call:Aq}(hc:Ig call){l:LOp}{ds:List D}{S S':St}{r:D}{wr:Bool}{U:List Nat}(h:Al call l ds S=some (r,S',wr))(hU:Q7 l U S S'):Framed call l ds S r S' wr (Dx l ds r wr U)∨Dx l ds r wr U=Ba wr∨(Jz l=true∧wr=true∧Dx l ds r wr U=⟨true,none,some U,true,none⟩∧∀g,g∉U→S'.heap[g]?=S.heap[g]?):=by
 cases hl:Jz l with
 | true =>
  cases wr with
  | false=>exact .inr (.inl (call_fp hl ds r false U))
  | true=>exact .inr (.inr ⟨rfl,rfl,call_fp hl ds r true U,hU hl⟩)
 | false =>
  rcases fp_cases2 hl h with h1 | h1
  ·
   exact .inl h1
  exact .inr (.inl h1)
theorem app_get{e:Eff}{S:St}{W:List Nat}{c:Bool}(h:e.within S.heap.length W c){g:Nat}(hg:g∉W):(e.app S).heap[g]?=S.heap[g]?:=by
 cases e with
 | none=>rfl
 | set g' o =>
  have xA:g'≠g:=fun e=>hg (e▸h);simp[Eff.app,setAt,Ln_ xA]
 | new o =>
  have xA:g≠S.heap.length:=fun e=>hg (e▸h.2);simp only[Eff.app,newAt];rcases Nat.lt_or_ge g S.heap.length with h1 | h1
  ·
   rw[La_ h1]
  rw[Lr_ h1,List.getElem?_eq_none h1];simp only[List.getElem?_eq_none_iff,List.length_singleton];omega
theorem app_len{e:Eff}{S:St}{W:List Nat}{c:Bool}(h:e.within S.heap.length W c)(hc:c=false):(e.app S).heap.length=S.heap.length:=by
 cases e with
 | none=>rfl
 | set g' o=>simp[Eff.app,setAt]
 | new o=>rw[hc]at h;cases h.1
theorem app_comm{e f:Eff}{S:St}{W V:List Nat}{c d:Bool}(he:e.within S.heap.length W c)(hf:f.within S.heap.length V d)(hd:∀g∈W,g∉V)(hcd:¬(c=true∧d=true)):e.app (f.app S)=f.app (e.app S):=by
 cases e with
 | none=>rfl
 | set g o =>
  cases f with
  | none=>rfl
  | set g' o' =>
   have xA:g≠g':=fun e=>hd g he (e▸hf);simp only[Eff.app,setAt,St.mk.injEq];exact⟨List.set_comm _ _ (fun e=>xA e.symm),by omega⟩
  | new o' =>
   have xA:g≠S.heap.length:=fun e=>hd g he (e▸hf.2);simp only[Eff.app,setAt,newAt,St.mk.injEq,and_true];rw[List.set_append];split
   ·
    rfl
   rename_i h1;rw[List.set_eq_of_length_le (l:=S.heap) (by omega),List.set_eq_of_length_le (by simp;omega)]
 | new o =>
  cases f with
  | none=>rfl
  | set g' o' =>
   have xA:g'≠S.heap.length:=fun e=>hd _ he.2 (e▸hf);simp only[Eff.app,setAt,newAt,St.mk.injEq,and_true];rw[List.set_append];split
   ·
    rfl
   rename_i h1;rw[List.set_eq_of_length_le (l:=S.heap) (by omega),List.set_eq_of_length_le (by simp;omega)]
  | new o'=>exact absurd ⟨he.1,hf.1⟩ hcd
theorem Tj{l m:List Nat}(h:dj (some l) (some m)=true):∀g∈l,g∉m:=by
 intro g hg hm
 cases l with
 | nil=>cases hg
 | cons a l =>
  cases m with
  | nil=>cases hm
  | cons b m =>
   have:=List.all_eq_true.1 h g hg;simp at this;simp at hm;rcases hm with hm | hm
   ·
    exact this.1 hm
   exact this.2 hm
theorem dj_some0{l:List Nat}(h:dj none (some l)=true):l=[]:=by
 cases l with
 | nil=>rfl
 | cons a l=>simp[dj]at h
theorem Tk{l:List Nat}(h:dj (some l) none=true):l=[]:=by
 cases l with
 | nil=>rfl
 | cons a l=>simp[dj]at h
theorem framed_nc{l:LOp}{ds:List D}{r:D}{wr:Bool}{U R:List Nat}(h:(Dx l ds r wr U).reads=some R):Jz l=false:=by
 cases hl:Jz l with
 | false=>rfl
 | true =>
  rw[call_fp hl]at h;cases wr<;>simp[Ba]at h
theorem chg_nc{l:LOp}(h:Jz l=false)(U:List Nat)(S S':St):Q7 l U S S':=fun hc=>by rw[h]at hc;cases hc
theorem Hw(l:LOp)(U:List Nat)(S:St):Q7 l U S S:=fun _ _ _=>rfl
theorem swap {call : Aq} (hc : Ig call) {la lb : LOp} {da db : List D} {ra rb : D} {wa wb : Bool} {Ua Ub : List Nat} {S S1 S2 : St} (h1 : Al call la da S = some (ra, S1, wa)) (h2 : Al call lb db S1 = some (rb, S2, wb)) (hUa : Q7 la Ua S S1) (hUb : Q7 lb Ub S1 S2) (hi : Bn (Dx la da ra wa Ua) (Dx lb db rb wb Ub) = true) :
    ∃S3,Al call lb db S=some (rb,S3,wb)∧Al call la da S3=some (ra,S2,wa)∧((Dx la da ra wa Ua).writes=none→S2=S1)∧((Dx lb db rb wb Ub).writes=none→S3=S2)∧Q7 lb Ub S S3∧Q7 la Ua S3 S2:=by
  cases hla:la.loud with
  | false =>
    obtain⟨rfl,rfl,h3⟩:=Rv hla h1;refine⟨S2,h2,h3 S2,fun hw=>?_,fun _=>rfl,hUb,Hw _ _ _⟩;rcases Jq hc h1 hUa with⟨_,_,_,_,hw',_⟩ | hf | ⟨_,_,hf,_⟩
    · rw[hw]at hw';cases hw'
    · rw[hf]at hw;cases hw
    rw[hf]at hw;cases hw
  | true =>
    cases hlb:lb.loud with
    | false =>
      obtain⟨rfl,rfl,h3⟩:=Rv hlb h2;refine⟨S,h3 S,h1,fun _=>rfl,fun hw=>?_,Hw _ _ _,hUa⟩;rcases Jq hc h2 hUb with⟨_,_,_,_,hw',_⟩ | hf | ⟨_,_,hf,_⟩
      · rw[hw]at hw';cases hw'
      · rw[hf]at hw;cases hw
      rw[hf]at hw;cases hw
    | true =>
      simp only[Bn,fpOf_loud,hla,hlb,Bool.not_true,Bool.false_or,Bool.and_eq_true,Bool.not_eq_true']at hi;obtain⟨⟨⟨⟨⟨d1,d2⟩,d3⟩,d4⟩,d5⟩,d6⟩:=hi;rcases Jq hc h1 hUa with⟨Ra,Wa,ea,hra,kD,rfl,yD,hTa⟩ | xX | ⟨hca,rfl,xX,hga⟩
      · have nca := framed_nc hra;rcases Jq hc h2 hUb with⟨Rb,Wb,eb,hrb,hwb,rfl,qz,hTb⟩ | qb | ⟨hcb,rfl,qb,hgb⟩
        · rw [hra, hwb] at d3;rw[kD,hrb]at d1;rw[kD,hwb]at d2;have d1:=Tj d1;have d2:=Tj d2;have d3:=Tj d3;have xg:∀(hcb:(Dx lb db rb wb Ub).creates=true),(ea.app S).heap.length=S.heap.length:=fun hcb=>app_len yD (by rw[hcb]at d4;simpa using d4)
          have hib':eb.within S.heap.length Wb (Dx lb db rb wb Ub).creates:=by
            cases eb with
            | none=>trivial
            | set g o=>exact qz
            | new o=>exact⟨qz.1,by rw[←xg qz.1];exact qz.2⟩
          have hb:Al call lb db S=some (rb,eb.app S,wb):=hTb S (fun g hg=>(app_get yD fun hgw=>d1 g hgw hg).symm) (fun hcb=>(xg hcb).symm);have ha:Al call la da (eb.app S)=some (ra,ea.app (eb.app S),wa):=hTa (eb.app S) (fun g hg=>app_get hib' fun hgw=>d3 g hgw hg) (fun hca=>app_len hib' (by rw[hca]at d4;simpa using d4));rw[app_comm yD hib' d2 (fun hcd=>by rw[hcd.1,hcd.2]at d4;cases d4)]at ha;exact⟨eb.app S,hb,ha,fun hw=>(by rw[hw]at kD;cases kD),fun hw=>(by rw[hw]at hwb;cases hwb),chg_nc (framed_nc hrb) _ _ _,chg_nc nca _ _ _⟩
        · cases wb with
          | true =>
            rw[qb,hra]at d3;rw[qb,kD]at d2;rw[qb]at d4;have hR:=dj_some0 (by simpa [Ba] using d3);have hW:=Tk (by simpa [Ba] using d2);subst hR hW;have hca:(Dx la da ra wa Ua).creates=false:=by simpa [Ba] using d4
            have he:∀T:St,ea.app T=T:=fun T=>by
              cases ea with
              | none=>rfl
              | set g o=>cases yD
              | new o=>cases yD.2
            rw[he]at h1 h2 hUb;refine⟨S2,h2,?_,fun hw=>(by rw[kD]at hw;cases hw),fun _=>rfl,hUb,chg_nc nca _ _ _⟩;have:=hTa S2 (fun g hg=>(by cases hg)) (fun h=>by rw[hca]at h;cases h);rwa [he]at this
          | false =>
            have:=N8 hc h2;subst this;rw[qb,kD]at d1;have hW:=Tk (by simpa [Ba] using d1);subst hW;rw[qb]at d5;have hca:(Dx la da ra wa Ua).creates=false:=by simpa [Ba] using d5
            have he:ea.app S=S:=by
              cases ea with
              | none=>rfl
              | set g o=>cases yD
              | new o=>cases yD.2
            rw[he]at h1 h2 ⊢;exact⟨S,h2,h1,fun _=>rfl,fun _=>rfl,Hw _ _ _,Hw _ _ _⟩
        rw[qb,kD]at d1;rw[qb]at d4;rw[qb,hra]at d3;have hW:=Tk d1;subst hW;have hcra:(Dx la da ra wa Ua).creates=false:=by simpa using d4
        have d3:=Tj d3
        have he:∀T:St,ea.app T=T:=fun T=>by
          cases ea with
          | none=>rfl
          | set g o=>cases yD
          | new o=>cases yD.2
        rw[he]at h1 h2 hgb hUb;refine⟨S2,h2,?_,fun hw=>(by rw[kD]at hw;cases hw),fun _=>rfl,hUb,chg_nc nca _ _ _⟩;have:=hTa S2 (fun g hg=>hgb g fun hm=>d3 g hm hg) (fun h=>by rw[hcra]at h;cases h);rwa [he]at this
      · cases wa with
        | true =>
          rcases Jq hc h2 hUb with⟨Rb,Wb,eb,hrb,hwb,rfl,qz,hTb⟩ | qb | ⟨hcb,rfl,qb,hgb⟩
          · rw [xX, hrb] at d1;rw[xX,hwb]at d2;rw[xX]at d4;have hR:=dj_some0 (by simpa [Ba] using d1);have hW:=dj_some0 (by simpa [Ba] using d2);subst hR hW;have hcb:(Dx lb db rb wb Ub).creates=false:=by simpa [Ba] using d4
            have he:∀T:St,eb.app T=T:=fun T=>by
              cases eb with
              | none=>rfl
              | set g o=>cases qz
              | new o=>cases qz.2
            rw[he]at h2 ⊢;refine⟨S,?_,h1,fun _=>rfl,fun hw=>(by rw[hwb]at hw;cases hw),Hw _ _ _,hUa⟩;have:=hTb S (fun g hg=>(by cases hg)) (fun h=>by rw[hcb]at h;cases h);rwa [he]at this
          · rw[qb,xX]at d1;exact absurd (show dj none none=true by cases wb<;>exact d1) (by decide)
          rw[qb,xX]at d1;exact absurd (show dj none none=true from d1) (by decide)
        | false =>
          have:=N8 hc h1;subst this;rcases Jq hc h2 hUb with⟨Rb,Wb,eb,hrb,hwb,rfl,qz,hTb⟩ | qb | ⟨hcb,rfl,qb,hgb⟩
          · rw [xX, hwb] at d3;have hW:=Tk (by simpa [Ba] using d3);subst hW
            have he:eb.app S1=S1:=by
              cases eb with
              | none=>rfl
              | set g o=>cases qz
              | new o=>cases qz.2
            rw[he]at h2 ⊢;exact⟨S1,h2,h1,fun _=>rfl,fun _=>rfl,Hw _ _ _,Hw _ _ _⟩
          · cases wb with
            | true=>rw[qb,xX]at d3;exact absurd (show dj none none=true from d3) (by decide)
            | false =>
              have:=N8 hc h2;subst this;exact⟨S2,h2,h1,fun _=>rfl,fun _=>rfl,Hw _ _ _,Hw _ _ _⟩
          rw[qb,xX]at d6;simp[Ba]at d6
      rcases Jq hc h2 hUb with⟨Rb,Wb,eb,hrb,hwb,rfl,qz,hTb⟩ | qb | ⟨hcb,rfl,qb,hgb⟩
      · rw [xX, hrb] at d1;rw[xX,hwb]at d3;rw[xX]at d4;have d1:=Tj d1;have hW:=Tk d3;subst hW;have hcrb:(Dx lb db rb wb Ub).creates=false:=by simpa using d4
        have he:∀T:St,eb.app T=T:=fun T=>by
          cases eb with
          | none=>rfl
          | set g o=>cases qz
          | new o=>cases qz.2
        rw[he]at h2 ⊢;refine⟨S,?_,h1,fun _=>rfl,fun hw=>(by rw[hwb]at hw;cases hw),Hw _ _ _,hUa⟩;have:=hTb S (fun g hg=>(hga g fun hm=>d1 g hm hg).symm) (fun h=>by rw[hcrb]at h;cases h);rwa [he]at this
      · rw[xX,qb]at d5;cases wb<;>simp[Ba]at d5
      rw[xX,qb]at d5;simp at d5
open Go.RowKit
def Fa {α:Type} (V:Nat→α) (i:Nat):List α:=((List.range i).map V).reverse
theorem Mv{α:Type}(V:Nat→α)(i:Nat):Fa V (i+1)=V i::Fa V i:=by simp[Fa,List.range_succ]
theorem Nw{α:Type}{V W:Nat→α}{i:Nat}(h:∀k,k<i→V k=W k):Fa V i=Fa W i:=by
 unfold Fa;congr 1;exact List.map_congr_left fun k hk=>h k (List.mem_range.1 hk)
theorem Pm{α:Type}(V:Nat→α)(i:Nat):(Fa V i).length=i:=by simp[Fa]
theorem Ku{α:Type}(V:Nat→α):∀(i d:Nat),d<i→(Fa V i)[d]?=some (V (i-1-d))
 | 0,d,h=>by omega
 | i+1,0,h=>by rw[Mv];simp
 | i+1,d+1,h=>by
  rw[Mv,Ls_,Ku V i d (by omega)];congr 2;omega
theorem stp_drew(w:World)(ρ:Xn)(S:St):Stp w ρ S w.drew ρ S :=
 ⟨rfl,rfl,rfl,rfl,Nat.le_refl _,Nat.le_refl _,fun b _ h=>⟨rfl,h⟩,fun b q h=>⟨rfl,h⟩,fun _ _ _ _ _ _=>rfl,fun g o h=>⟨o,h,⟨Nat.le_refl _,rfl⟩,fun _=>rfl,fun _=>⟨rfl,rfl,rfl,Nat.le_refl _,fun b cur _ h=>⟨cur,h,rfl⟩⟩⟩,fun _ _ _ _ h=>h⟩
def M3 (ops:Array Oper) (i:Nat):List (Option Tmp):=((ops.toList.take i).map (·.dst)).reverse
theorem dstTo_succ{ops:Array Oper}{i:Nat}{o:Oper}(h:ops[i]?=some o):M3 ops (i+1)=o.dst::M3 ops i:=by
 have hl:ops.toList[i]?=some o:=by simpa using h
 have xq:=lt_of_some hl;unfold M3;rw[List.take_succ_eq_append_getElem xq,List.map_append,List.reverse_append];have:ops.toList[i]=o:=by rw[Lg xq]at hl;injection hl
 simp[this]
theorem sig_to{ops:Array Oper}{slots:List Nat}{V:Nat→D}{env:List D}{t:Nat}(hu:∀(k k':Nat) (o o':Oper),ops[k]?=some o→ops[k']?=some o'→o.dst=some t→o'.dst=some t→k=k') :
    ∀i,i≤ops.size→((∃k o,k<i∧ops[k]?=some o∧o.dst=some t∧sig slots (M3 ops i) (Fa V i) env t=V k)∨((∀k o,k<i→ops[k]?=some o→o.dst≠some t)∧sig slots (M3 ops i) (Fa V i) env t=sig slots [] [] env t))
  | 0,_=>.inr ⟨fun k o hk=>by omega,by simp[M3,Fa]⟩
  | i + 1, hi => by
    have ho:ops[i]?=some ops[i]:=Array.getElem?_eq_getElem (by omega);rw[dstTo_succ ho,Mv,Sb];by_cases e:ops[i].dst=some t
    · exact .inl ⟨i,ops[i],by omega,ho,e,by simp[e]⟩
    rw[if_neg e];rcases sig_to hu i (by omega) with⟨k,o,hk,yS,hd,hs⟩ | ⟨hn,hs⟩
    · exact .inl ⟨k,o,by omega,yS,hd,hs⟩
    refine .inr ⟨fun k o hk yS hd=>?_,hs⟩;by_cases hki:k=i
    · subst hki;rw[ho]at yS;injection yS with yS;subst yS;exact e hd
    exact hn k o (by omega) yS hd
inductive TStep (call:Aq) (n:Nat) (news:List (TypeId × List D)) (tl env:List D) (V:Nat→D) (ST:Nat→St) (W:Nat→Bool) (F:Nat→FP) (i:Nat) (lo:Xj):Prop
 | skip (hg:onG (Fa V i++tl) lo.guard=some false) (h1:V i=.skip) (h2:ST (i+1)=ST i) (h3:F i=Af)
 | run (hg:onG (Fa V i++tl) lo.guard=some true) (h:Al call lo.op (lo.args.map (opd (Fa V i++tl) env)) (ST i)=some (V i,ST (i+1),W i)) (hF:F i=Ac n lo (lo.args.map (opd (Fa V i++tl) env)) (V i) (W i) (chg (ST i).heap (ST (i+1)).heap 0)) (hs:Ar n news lo (Fa F i) (F i) (ST (i+1))=true)
theorem trace_ex {call : Aq} {n : Nat} {news : List (TypeId × List D)} {tl env : List D} : ∀ (los : List Xj) (k : Nat) (V0 : Nat → D) (F0 : Nat → FP) (S : St) (valsF : List D) (SF : St), Im call n news los (Fa F0 k) (Fa V0 k ++ tl) env S = some (valsF, SF) →
    ∃(V:Nat→D) (ST:Nat→St) (W:Nat→Bool) (F:Nat→FP),(∀j,j<k→V j=V0 j)∧(∀j,j<k→F j=F0 j)∧ST k=S∧ST (k+los.length)=SF∧valsF=Fa V (k+los.length)++tl∧∀i lo,los[i]?=some lo→TStep call n news tl env V ST W F (k+i) lo
  | [], k, V0, F0, S, valsF, SF, h => by
    simp only[Im,Oi,Pi_]at h;obtain⟨rfl,rfl⟩:=h;exact⟨V0,fun _=>S,fun _=>false,F0,fun _ _=>rfl,fun _ _=>rfl,rfl,rfl,rfl,fun i lo hi=>by simp at hi⟩
  | lo :: los, k, V0, F0, S, valsF, SF, h => by
    have fin:∀(r:D) (S1:St) (wr:Bool) (fp:FP),Im call n news los (fp::Fa F0 k) (r::(Fa V0 k++tl)) env S1=some (valsF,SF) →
        (∀V ST W F,Fa V k=Fa V0 k→Fa F k=Fa F0 k→V k=r→F k=fp→ST k=S→ST (k+1)=S1→W k=wr→TStep call n news tl env V ST W F k lo) →
        ∃(V:Nat→D) (ST:Nat→St) (W:Nat→Bool) (F:Nat→FP),(∀j,j<k→V j=V0 j)∧(∀j,j<k→F j=F0 j)∧ST k=S∧ST (k+(lo::los).length)=SF∧valsF=Fa V (k+(lo::los).length)++tl∧∀i lo',(lo::los)[i]?=some lo'→TStep call n news tl env V ST W F (k+i) lo':=by
      intro r S1 wr fp hx ht
      have e1:r::(Fa V0 k++tl)=Fa (fun i=>if i=k then r else V0 i) (k+1)++tl:=by
        rw[Mv];simp only[if_true,List.cons_append,List.cons.injEq,true_and];rw[Nw (V:=fun i=>if i=k then r else V0 i) (W:=V0) (fun j hj=>by rw[if_neg (by omega)])]
      have e2:fp::Fa F0 k=Fa (fun i=>if i=k then fp else F0 i) (k+1):=by
        rw[Mv];simp only[if_true,List.cons.injEq,true_and];rw[Nw (V:=fun i=>if i=k then fp else F0 i) (W:=F0) (fun j hj=>by rw[if_neg (by omega)])]
      rw[e1,e2]at hx;obtain⟨V,ST,W,F,h1,h2,h3,h4,h5,h6⟩:=trace_ex los (k+1) _ _ S1 valsF SF hx;have hV:∀j,j<k→V j=V0 j:=fun j hj=>by rw[h1 j (by omega),if_neg (by omega)]
      have hF:∀j,j<k→F j=F0 j:=fun j hj=>by rw[h2 j (by omega),if_neg (by omega)]
      refine⟨V,fun i=>if i=k then S else ST i,fun i=>if i=k then wr else W i,F,hV,hF,by simp,?_,?_,?_⟩
      · simp only [List.length_cons];rw[if_neg (by omega),←h4];congr 1;omega
      · rw [h5, List.length_cons];congr 2;omega
      intro i lo' hi
      cases i with
      | zero =>
        simp at hi;subst hi;exact ht V _ _ F (Nw hV) (Nw hF) (by rw[h1 k (by omega)];simp) (by rw[h2 k (by omega)];simp) (by simp) (by simp[h3]) (by simp)
      | succ i =>
        simp at hi;have:=h6 i lo' hi;rw[show k+1+i=k+(i+1) by omega]at this
        cases this with
        | skip hg a1 a2 a3=>exact .skip hg a1 (by rw[if_neg (by omega),if_neg (by omega)];exact a2) a3
        | run hg hh hF hs=>exact .run hg (by rw[if_neg (by omega),if_neg (by omega),if_neg (by omega)];exact hh) (by rw[if_neg (by omega),if_neg (by omega),if_neg (by omega)];exact hF) (by rw[if_neg (by omega)];exact hs)
    unfold Im at h;split at h
    · simp at h
    · rename_i hg;exact fin .skip S false Af h fun V ST W F a1 a2 a3 a4 a5 a6 a7=>.skip (by rw[a1];exact hg) a3 (by rw[a6,a5]) a4
    rename_i hg;split at h
    · simp at h
    rename_i r S' wr yR;split at h
    · rename_i yS;exact fin r S' wr _ h fun V ST W F a1 a2 a3 a4 a5 a6 a7=>.run (by rw[a1];exact hg) (by rw[a1,a3,a5,a6,a7];exact yR) (by rw[a1,a3,a4,a5,a6,a7]) (by rw[a2,a4,a6];exact yS)
    simp at h
theorem Rl {P : Program} {kd : Kd} {nt : Nat} {slots bs : List Nat} {k : Nat} : ∀ {os : List Oper} {prev : List (Option Tmp)} {r0 : Nat} {los : List Xj}, Rm P kd nt slots bs k os prev r0 = some los →
    los.length=os.length∧(∀o∈os,Gu nt o.dst=true)∧∀i o,os[i]?=some o →
      (∃p,Le P o=some p∧los[i]?=some ⟨.mv,[.loc (prev.length+i+(k-1-(r0+(D7 P (os.take i)).length)))],none,Pb bs (prev.length+i),some (r0+(D7 P (os.take i)).length)⟩) ∨
      (Le P o=none∧∃l xs args g,(∃mt':Bool,Pi P (kd.lit mt') o=some (l,xs))∧Nr kd.glob slots (((os.take i).map (·.dst)).reverse++prev) xs=some args∧Jp (((os.take i).map (·.dst)).reverse++prev) o.guard=some g∧los[i]?=some ⟨l,args,g,Pb bs (prev.length+i),none⟩)
  | [], prev, r0, los, h => by
    simp only[Rm,Oi]at h;subst h;exact⟨rfl,by simp,fun i o hi=>by simp at hi⟩
  | o :: os, prev, r0, los, h => by
    unfold Rm at h;split at h
    · rename_i hd;split at h
      · rename_i p hp;split at h
        · rename_i rest hr;simp only[Oi]at h;subst h;obtain⟨h1,h2,h3⟩:=Rl hr;refine⟨by simp[h1],fun o' ho'=>?_,fun i o' hi=>?_⟩
          · rcases List.mem_cons.1 ho' with rfl | ho'
            · exact hd
            exact h2 o' ho'
          cases i with
          | zero =>
            simp at hi;subst hi;exact .inl ⟨p,hp,by simp[D7]⟩
          | succ i =>
            simp at hi;have e1:prev.length+(i+1)=(o.dst::prev).length+i:=by simp;omega
            have e2:r0+(D7 P ((o::os).take (i+1))).length=r0+1+(D7 P (os.take i)).length:=by
              simp only[D7,List.take_succ_cons,List.filterMap_cons,hp,List.length_cons];omega
            rw[e1,e2];rcases h3 i o' hi with⟨p',q1,q2⟩ | ⟨q0,l',xs',args',g',q1,q2,q3,q4⟩
            · exact .inl ⟨p',q1,by simpa using q2⟩
            exact .inr ⟨q0,l',xs',args',g',q1,by simpa using q2,by simpa using q3,by simpa using q4⟩
        simp at h
      rename_i hp;split at h
      · simp at h
      rename_i l xs hl;split at h
      · rename_i args g rest ha hg hr;simp only[Oi]at h;subst h;obtain⟨h1,h2,h3⟩:=Rl hr;refine⟨by simp[h1],fun o' ho'=>?_,fun i o' hi=>?_⟩
        · rcases List.mem_cons.1 ho' with rfl | ho'
          · exact hd
          exact h2 o' ho'
        cases i with
        | zero =>
          simp at hi;subst hi;exact .inr ⟨hp,l,xs,args,g,⟨_,hl⟩,by simpa using ha,by simpa using hg,by simp⟩
        | succ i =>
          simp at hi;have e1:prev.length+(i+1)=(o.dst::prev).length+i:=by simp;omega
          have e2:r0+(D7 P ((o::os).take (i+1))).length=r0+(D7 P (os.take i)).length:=by
            simp only[D7,List.take_succ_cons,List.filterMap_cons,hp]
          rw[e1,e2];rcases h3 i o' hi with⟨p',q1,q2⟩ | ⟨q0,l',xs',args',g',q1,q2,q3,q4⟩
          · exact .inl ⟨p',q1,by simpa using q2⟩
          exact .inr ⟨q0,l',xs',args',g',q1,by simpa using q2,by simpa using q3,by simpa using q4⟩
      simp at h
    simp at h
structure Ev where
 op:LOp
 ds:List D
 r:D
 wr:Bool
 U:List Nat
def Ev.fp (e:Ev):FP:=Dx e.op e.ds e.r e.wr e.U
def Runs (call:Aq) (E:Nat→Option Ev) (Z:Nat→List Xh→Prop):List Nat→St→St→Prop
 | [],S,S'=>S'=S
 | i::l,S,S'=>match E i with
  | none=>Runs call E Z l S S'
  | some e=>∃S1,Al call e.op e.ds S=some (e.r,S1,e.wr)∧Q7 e.op e.U S S1∧(e.fp.writes=none→Z i S1.heap)∧Runs call E Z l S1 S'
theorem Runs.drop{call:Aq}{E:Nat→Option Ev}{Z:Nat→List Xh→Prop}{i:Nat}(hi:E i=none){post:List Nat}:∀{pre:List Nat} {S S':St},Runs call E Z (pre++i::post) S S'→Runs call E Z (pre++post) S S'
 | [],S,S',h=>by simpa [Runs,hi] using h
 | j :: pre, S, S', h => by
  simp only[List.cons_append,Runs]at h ⊢;split at h
  ·
   rename_i hj;exact Runs.drop hi h
  rename_i e hj;obtain⟨S1,h1,hU,h2,h3⟩:=h;exact⟨S1,h1,hU,h2,Runs.drop hi h3⟩
theorem Runs.front{call:Aq}(hc:Ig call){E:Nat→Option Ev}{Z:Nat→List Xh→Prop}{i:Nat}{e:Ev}(hi:E i=some e){post:List Nat}:∀{pre:List Nat} {S S':St},Runs call E Z (pre++i::post) S S'→(∀j∈pre,∀e',E j=some e'→Bn e'.fp e.fp=true) →
  ∃S1,Al call e.op e.ds S=some (e.r,S1,e.wr)∧Q7 e.op e.U S S1∧(e.fp.writes=none→Z i S1.heap)∧Runs call E Z (pre++post) S1 S'
 | [],S,S',h,_=>by simpa [Runs,hi] using h
 | j :: pre, S, S', h, hd => by
  simp only[List.cons_append,Runs]at h ⊢;split at h
  ·
   rename_i hj;exact Runs.front hc hi h fun k hk=>hd k (List.mem_cons_of_mem _ hk)
  rename_i e' hj;obtain⟨S1,h1,hU,h2,h3⟩:=h;obtain⟨S2,k1,kU,k2,k3⟩:=Runs.front hc hi h3 fun k hk=>hd k (List.mem_cons_of_mem _ hk);obtain⟨S3,q1,q2,q3,q4,q5,q6⟩:=swap hc h1 k1 hU kU (hd j (by simp) e' hj);exact⟨S3,q1,q5,fun hw=>by rw[q4 hw];exact k2 hw,S2,q2,q6,fun hw=>by rw[q3 hw];exact h2 hw,k3⟩
open Go.RowKit
theorem okFP_get:∀{bs:List Bool} {fs:List FP} {x:FP},Cf bs fs x=true→∀(d:Nat) (f:FP),fs[d]?=some f→∃b,bs[d]?=some b∧Ap b f x=true
 | [],[],x,h,d,f,hd=>by simp at hd
 | b::bs,[],x,h,d,f,hd=>by simp at hd
 | [],_::_,x,h,d,f,hd=>by simp[Cf]at h
 | b::bs,f'::fs,x,h,0,f,hd=>by
  simp only[Cf,Bool.and_eq_true]at h;simp at hd;subst hd;exact⟨b,rfl,h.1⟩
 | b::bs,f'::fs,x,h,d+1,f,hd=>by
  simp only[Cf,Bool.and_eq_true]at h;exact okFP_get h.2 d f (by simpa using hd)
theorem Rw:∀{bs:List Bool} {fs:List FP} {g:Nat},g∈Ej bs fs→∃(d:Nat) (f:FP),bs[d]?=some true∧fs[d]?=some f∧f.hoist=some g
 | [],fs,g,h=>by simp[Ej]at h
 | b::bs,[],g,h=>by simp[Ej]at h
 | b :: bs, f :: fs, g, h => by
  unfold Ej at h;split at h
  ·
   rename_i g' hb hf;rcases List.mem_cons.1 h with rfl | h
   ·
    exact⟨0,f,rfl,rfl,hf⟩
   obtain⟨d,f',h1,h2,h3⟩:=Rw h;exact⟨d+1,f',h1,h2,h3⟩
  obtain⟨d,f',h1,h2,h3⟩:=Rw h;exact⟨d+1,f',h1,h2,h3⟩
theorem sameD_eq{a b:D}(h:Ir a b=true):a=b:=by
 unfold Ir at h;split at h
 all_goals first | rfl | (simp at h;done) | skip
 ·
  simp only[Bool.and_eq_true,decide_eq_true_eq]at h;rw[h.1,h.2]
 ·
  simp only[beq_iff_eq]at h;rw[h]
 simp only[decide_eq_true_eq]at h;rw[h]
theorem sameDs_eq:∀{l m:List D},Fq l m=true→l=m
 | [],[],_=>rfl
 | a::l,b::m,h=>by
  simp only[Fq,Bool.and_eq_true]at h;rw[sameD_eq h.1,sameDs_eq h.2]
 | [],_::_,h=>by simp[Fq]at h
 | _::_,[],h=>by simp[Fq]at h
theorem sameNew_eq{p:TypeId × List D}{x:Option Xh}(h:E9 p x=true):x=some (Gg p):=by
 unfold E9 at h;split at h
 ·
  simp only[Bool.and_eq_true,decide_eq_true_eq]at h;obtain⟨⟨rfl,rfl⟩,h3⟩:=h;rw[sameDs_eq h3];rfl
 simp at h
theorem R8{n:Nat}{dn:List Nat}{H:List Xh}:∀{l:List (TypeId × List D)} {r0:Nat},Aw n dn H l r0=true→∀r p,l[r]?=some p→n+(r0+r)∉dn→H[n+(r0+r)]?=some (Gg p)
  | [],r0,h,r,p,hr,_=>by simp at hr
  | q :: l, r0, h, 0, p, hr, hn => by
    simp only[Aw,Bool.and_eq_true,Bool.or_eq_true]at h;simp at hr;subst hr;rcases h.1 with h1 | h1
    · exact absurd (by simpa using h1) hn
    exact sameNew_eq h1
  | q :: l, r0, h, r + 1, p, hr, hn => by
    simp only[Aw,Bool.and_eq_true]at h;have e:r0+(r+1)=r0+1+r:=by omega
    rw[e]at hn ⊢;exact R8 h.2 r p (by simpa using hr) hn
theorem fpApp_hoist(s x r:D)(wr:Bool):(Bv s x r wr).hoist=none:=by
 unfold Bv;cases wr
 ·
  rfl
 simp only[if_true];split
 ·
  split<;>rfl
 rfl
theorem fpMk_hoist(r:D)(wr:Bool):(Cq r wr).hoist=none:=by
 unfold Cq;split<;>cases wr<;>rfl
theorem Rt(l:LOp)(ds:List D)(r:D)(wr:Bool)(U:List Nat):(Dx l ds r wr U).hoist=none:=by
 unfold Dx
 repeat' split
 all_goals first | rfl | (cases wr<;>rfl) | exact fpApp_hoist .. | exact fpMk_hoist ..
def rk (P:Program) (ops:Array Oper) (j:Nat):Nat:=(D7 P (ops.toList.take j)).length
theorem rk_get{P:Program}{ops:Array Oper}{j:Nat}{o:Oper}{p:TypeId × List D}(ho:ops[j]?=some o)(hp:Le P o=some p):(D7 P ops.toList)[rk P ops j]?=some p:=by
 have hl:ops.toList[j]?=some o:=by simpa using ho
 have xq:=lt_of_some hl
 have e:ops.toList=ops.toList.take j++o::ops.toList.drop (j+1):=by
  conv=>lhs;rw[←List.take_append_drop j ops.toList]
  rw[List.drop_eq_getElem_cons xq];rw[Lg xq]at hl;injection hl with hl;rw[hl]
 unfold rk
 conv=>lhs;arg 1;rw[e]
 unfold D7;rw[List.filterMap_append,Lr_ (Nat.le_refl _),Nat.sub_self,List.filterMap_cons_some hp];rfl
theorem rk_lt{P:Program}{ops:Array Oper}{i j:Nat}{o:Oper}{p:TypeId × List D}(ho:ops[i]?=some o)(hp:Le P o=some p)(hij:i<j):rk P ops i<rk P ops j:=by
 have hl:ops.toList[i]?=some o:=by simpa using ho
 have xq:=lt_of_some hl
 have e:ops.toList.take j=ops.toList.take i++o::(ops.toList.take j).drop (i+1):=by
  conv=>lhs;rw[←List.take_append_drop i (ops.toList.take j)]
  have hlt':i<(ops.toList.take j).length:=by rw[List.length_take];omega
  rw[List.drop_eq_getElem_cons hlt',List.take_take,Nat.min_eq_left (Nat.le_of_lt hij)];rw[Lg xq]at hl;injection hl with hl;rw[List.getElem_take,hl]
 unfold rk
 conv=>rhs;rw[e]
 unfold D7;rw[List.filterMap_append,Ll_,List.filterMap_cons_some hp,List.length_cons];omega
theorem rk_inj{P:Program}{ops:Array Oper}{i j:Nat}{o o':Oper}{p p':TypeId × List D}(ho:ops[i]?=some o)(hp:Le P o=some p)(ho':ops[j]?=some o')(hp':Le P o'=some p')(h:rk P ops i=rk P ops j):i=j:=by
 rcases Nat.lt_trichotomy i j with h1 | h1 | h1
 ·
  have:=rk_lt ho hp h1;omega
 ·
  exact h1
 have:=rk_lt ho' hp' h1;omega
theorem newOf_some{P:Program}{o:Oper}{p:TypeId × List D}(h:Le P o=some p):∃n,o.op=.alloc p.1∧o.guard=none∧H8 P p.1=some p.2∧Cj P p.1=some n∧p.2.length=n:=by
 unfold Le at h;split at h
 ·
  rename_i e ho hg;split at h
  ·
   rename_i z n hz hn;split at h
   ·
    rename_i hl;simp only[Oi]at h;subst h;exact⟨n,ho,hg,hz,hn,hl⟩
   simp at h
  simp at h
 simp at h
theorem dstTo_len{ops:Array Oper}{i:Nat}(h:i≤ops.size):(M3 ops i).length=i:=by
 unfold M3;rw[List.length_reverse,List.length_map,List.length_take,Array.length_toList];omega
theorem sig_tl{slots:List Nat}{prev:List (Option Tmp)}{vals tl env:List D}{t i:Nat}(hp:prev.length=i)(hv:vals.length=i):sig slots prev (vals++tl) env t=sig slots prev vals env t:=by
  unfold sig;split
  · rename_i d hd;have:=lt_of_some (Ic hd);simp only[List.getD_eq_getElem?_getD];rw[La_ (by omega)]
  rfl
theorem newsVals_get{n k r:Nat}(h:r<k):(Ex n k)[k-1-r]?=some (.ptr (n+r) 0 0 0):=by
 have:=Ku (fun r=>D.ptr (n+r) 0 0 0) k (k-1-r) (by omega);rw[show k-1-(k-1-r)=r by omega]at this;exact this
noncomputable def notB (p:Prop):Bool:=@decide (¬p) (Classical.propDecidable _)
theorem notB_iff{p:Prop}:notB p=true↔¬p:=by unfold notB;exact @decide_eq_true_iff _ (Classical.propDecidable _)
theorem notB_congr{p q:Prop}(h:p↔q):notB p=notB q:=by rw[propext h]
noncomputable def left (n:Nat) (L:Nat→Prop):List Nat:=(List.range n).filter (fun i=>notB (L i))
theorem left_split{n i:Nat}{L:Nat→Prop}(hi:i<n)(hL:¬L i):∃pre post,left n L=pre++i::post∧left n (fun k=>L k∨k=i)=pre++post∧∀j∈pre,j<i∧¬L j:=by
  have e:List.range n=List.range i++i::List.range' (i+1) (n-i-1):=by
    rw[List.range_eq_range',List.range_eq_range',←List.range'_succ,show n-i-1+1=n-i by omega];have:=List.range'_append (s:=0) (m:=i) (n:=n-i) (step:=1);simp only[Nat.one_mul,Nat.zero_add]at this;rw[this];congr 1;omega
  refine⟨(List.range i).filter (fun k=>notB (L k)),(List.range' (i+1) (n-i-1)).filter (fun k=>notB (L k)),?_,?_,?_⟩
  · unfold left;rw[e,List.filter_append,List.filter_cons_of_pos (by rw[notB_iff];exact hL)]
  · unfold left;rw[e,List.filter_append,List.filter_cons_of_neg (by rw[notB_iff];simp)];congr 1
    · apply List.filter_congr;intro k hk;have:k≠i:=by have:=List.mem_range.1 hk;omega
      exact notB_congr (by simp[this])
    apply List.filter_congr;intro k hk;have:k≠i:=by have:=List.mem_range'_1.1 hk;omega
    exact notB_congr (by simp[this])
  intro j hj;rw[List.mem_filter]at hj;exact⟨List.mem_range.1 hj.1,notB_iff.1 hj.2⟩
section
variable {P:Program} {call:Aq} {kd:Kd} {nt:Nat} {slots:List Nat} {ops:Array Oper} {env:List D} {Q:Exit→Act→World→Prop}
structure DInv (P:Program) (call:Aq) (ops:Array Oper) (slots:List Nat) (nt:Nat) (env:List D) (V:Nat→D) (E:Nat→Option Ev) (Z:Nat→List Xh→Prop) (S SF:St) (w0:World) (ρ0:Xn) (df:List Deferred) (L:Nat→Prop) (a:Act) (w:World) (ρ:Xn) (S1:St):Prop where
 rel:Rel w ρ S1.heap
 stp:Stp w0 ρ0 S w ρ S1
 size:a.tmps.size=nt
 defers:a.defers=df
 slot:∀t,t<nt→(∃k o,ops[k]?=some o∧L k∧o.dst=some t∧VR w ρ S1.heap (V k) (a.tmps.getD t undef))∨((∀k o,ops[k]?=some o→L k→o.dst≠some t)∧VR w ρ S1.heap (sig slots [] [] env t) (a.tmps.getD t undef))
 runs:Runs call E Z (left ops.size L) S1 SF
 pend:∀j o p,ops[j]?=some o→¬L j→Le P o=some p→S1.heap[S.heap.length+rk P ops j]?=some (Gg p)∧ρ (S.heap.length+rk P ops j)=none
theorem draw_ok {ro : Option Nat} {nf : Nat} {G : Nat → Option (List D)} {L0 : Nat → Option Fix} (rF : ∀ g row, kd.glob g = some row → G g = some row) (hm : P.follows .mixedOrders = true) (y9 : Oe P G L0 call) (zK : Ig call) {S S' : St} {vals' : List D} {los : List Xj} {w : World} {ρ : Xn} {a : Act} {id : Nat} (hs : slots.all (· < nt) = true) (hdraw : drawOk P kd ops (Region.before ops).toList = true)
    (x9:Rm P kd nt slots (Region.before ops).toList (D7 P ops.toList).length ops.toList [] 0=some los) (yA:Im call S.heap.length (D7 P ops.toList) los [] (Ex S.heap.length (D7 P ops.toList).length) env ⟨S.heap++(D7 P ops.toList).map Gg,S.low⟩=some (vals',S')) (hr:Rel w ρ S.heap) (hG:XOK G L0 ρ.X) (hf:FR w ρ S.heap nt (sig slots [] [] env) a)
    (hQ:∀a' w' ρ',Rel w' ρ' S'.heap→Stp w ρ S w' ρ' S'→FR w' ρ' S'.heap nt (sig slots (dstsOf ops.toList) vals' env) a'→a'.defers=a.defers→Q .normal a' w'):(Code.region id ops true).wpIn (rf ro) nf P Q a w:=by
  obtain⟨zX,hdin,yu⟩:=Rl x9;generalize zQ:Ex S.heap.length (D7 P ops.toList).length=tl at yA;obtain⟨V,ST,W,F,_,_,t2,t3,t4,t5⟩:=trace_ex los 0 (fun _=>.undef) (fun _=>Af) _ vals' S' yA;simp only[Nat.zero_add,List.length_nil]at t3 t4 t5 yu;have xC:los.length=ops.size:=by rw[zX];simp
  rw[xC]at t3 t4
  -- the checks
  have kV:∀i o,ops[i]?=some o→(∀e∈o.after,Region.binds .any e=true→e.on<i)∧∀k o' d,ops[k]?=some o'→o'.dst=some d→k≠i→o.dst≠some d ∧
      (ordered (Region.before ops).toList i k=true∨((∀(mt:Bool) l xs,Pi P (kd.lit mt) o=some (l,xs)→.tmp d∉xs)∧∀j b oj,o.guard=some (j,b)→ops[j]?=some oj→oj.dst≠some d)):=by
    intro i o ho;have zh:=(Array.getElem?_eq_some_iff.1 ho).1;have h:=List.all_eq_true.1 hdraw i (List.mem_range.2 zh);rw[ho]at h;simp only[Bool.and_eq_true]at h;obtain⟨h1,h2⟩:=h;refine⟨fun e he hb=>?_,fun k o' d hk hd xA=>?_⟩
    · have := List.all_eq_true.1 h1 e (Array.mem_toList_iff.2 he);simpa [hb] using this
    have zy:=(Array.getElem?_eq_some_iff.1 hk).1;have h3:=List.all_eq_true.1 h2 k (List.mem_range.2 zy);rw[hk]at h3;simp only[hd,Bool.or_eq_true,beq_iff_eq,xA,false_or,Bool.and_eq_true,bne_iff_ne,ne_eq]at h3;refine⟨h3.1,?_⟩;rcases h3.2 with h4 | ⟨h4,h5⟩
    · exact .inl h4
    refine .inr ⟨fun mt l xs hl kM=>?_,fun j b oj hg hj he=>?_⟩
    · cases mt with
      | true =>
        rw[hl]at h4;have:=List.all_eq_true.1 h4.1 _ kM;simp at this
      | false =>
        have h4:=h4.2;rw[hl]at h4;have:=List.all_eq_true.1 h4 _ kM;simp at this
    rw[hg]at h5;simp only[hj]at h5;simp[he]at h5
  have hu:∀(t k k':Nat) (o o':Oper),ops[k]?=some o→ops[k']?=some o'→o.dst=some t→o'.dst=some t→k=k':=by
    intro t k k' o o' hk hk' hd hd';by_cases e:k'=k
    · exact e.symm
    exact absurd hd ((kV k o hk).2 k' o' t hk' hd' e).1
  have hT:∀i,i<ops.size→∃lo,los[i]?=some lo∧TStep call S.heap.length (D7 P ops.toList) tl env V ST W F i lo:=fun i hi=>⟨los[i]'(by omega),Lg (by omega),t5 i _ (Lg (by omega))⟩
  -- the operations as they were run
  let E:Nat→Option Ev:=fun i=>match los[i]? with
    | some lo=>if onG (Fa V i++tl) lo.guard=some true∧lo.hoist=none then some ⟨lo.op,lo.args.map (opd (Fa V i++tl) env),V i,W i,chg (ST i).heap (ST (i+1)).heap 0⟩ else none
    | none=>none
  let Z:Nat→List Xh→Prop:=fun i H=>∀r p,(D7 P ops.toList)[r]?=some p→S.heap.length+r∉Ej (Pb (Region.before ops).toList i) (Fa F i)→H[S.heap.length+r]?=some (Gg p)
  have hordo:∀i lo,los[i]?=some lo→lo.ord=Pb (Region.before ops).toList i:=by
    intro i lo xU;have zh:i<ops.size:=by have:=lt_of_some xU;omega
    rcases yu i ops[i] (by simp[zh]) with⟨p,_,q2⟩ | ⟨_,l,xs,args,g,_,_,_,q4⟩
    · rw[xU]at q2;injection q2 with q2;rw[q2]
    rw[xU]at q4;injection q4 with q4;rw[q4]
  -- hoisted operations
  have kQ:∀i o p,ops[i]?=some o→Le P o=some p→(∃lo,los[i]?=some lo∧lo.hoist=some (rk P ops i))∧E i=none∧V i=.ptr (S.heap.length+rk P ops i) 0 0 0∧(F i).hoist=some (S.heap.length+rk P ops i)∧Cf (Pb (Region.before ops).toList i) (Fa F i) (F i)=true:=by
    intro i o p ho hp;have zh:=(Array.getElem?_eq_some_iff.1 ho).1;rcases yu i o (by simpa using ho) with⟨p',q1,q2⟩ | ⟨q0,_⟩
    · obtain ⟨lo, xU, ht⟩ := hT i zh;rw[xU]at q2;injection q2 with q2;have hho:lo.hoist=some (rk P ops i):=by rw[q2];rfl
      have hE:E i=none:=by simp only[E,xU,hho];simp
      have yI:rk P ops i<(D7 P ops.toList).length:=lt_of_some (rk_get ho hp)
      cases ht with
      | skip hg=>rw[q2]at hg;simp[onG]at hg
      | run hg hh hF yS =>
        refine⟨⟨lo,xU,hho⟩,hE,?_,?_,?_⟩
        · rw [q2] at hh;simp only[Al,aop,LOp.loud,pop,List.map_cons,List.map_nil,opd,Bool.false_eq_true,if_false,Option.map_some,Oi,Pi_]at hh;rw[←hh.1];have h1:=newsVals_get (n:=S.heap.length) yI;rw[zQ]at h1;simp only[List.getD_eq_getElem?_getD];rw[Lr_ (by rw[Pm];omega),Pm,Nat.add_sub_cancel_left];show (tl[(D7 P ops.toList).length-1-rk P ops i]?).getD _=_;rw[h1];rfl
        · rw[hF];simp[Ac,hho]
        have h1:=yS;simp only[Ar,Bool.and_eq_true]at h1;rw[←hordo i lo xU];exact h1.1
    rw[hp]at q0;cases q0
  -- the others
  have kI:∀i lo e,los[i]?=some lo→E i=some e→e=⟨lo.op,lo.args.map (opd (Fa V i++tl) env),V i,W i,chg (ST i).heap (ST (i+1)).heap 0⟩∧F i=e.fp∧Al call e.op e.ds (ST i)=some (e.r,ST (i+1),e.wr)∧Cf (Pb (Region.before ops).toList i) (Fa F i) (F i)=true∧(e.fp.writes=none→Z i (ST (i+1)).heap):=by
    intro i lo e xU he;simp only[E,xU]at he;split at he
    · rename_i hc;simp only[Oi]at he;subst he;have zh:i<ops.size:=by have:=lt_of_some xU;omega
      obtain⟨lo',uT,ht⟩:=hT i zh;rw[xU]at uT;injection uT with uT;subst uT
      cases ht with
      | skip hg=>rw[hc.1]at hg;cases hg
      | run hg hh hF yS =>
        simp only[Ar,Bool.and_eq_true,Bool.or_eq_true]at yS;have hFe:F i=(⟨lo.op,lo.args.map (opd (Fa V i++tl) env),V i,W i,chg (ST i).heap (ST (i+1)).heap 0⟩:Ev).fp:=by rw[hF];simp[Ac,hc.2,Ev.fp]
        refine⟨rfl,hFe,hh,by rw[←hordo i lo xU];exact yS.1,fun hw r p hr hn=>?_⟩;rcases yS.2 with h1 | h1
        · rw[hFe,hw]at h1;cases h1
        have:=R8 h1 r p hr (by rw[hordo i lo xU,Nat.zero_add];exact hn);rwa [Nat.zero_add]at this
    cases he
  have hruns0 : ∀ m k, k + m = ops.size → Runs call E Z (List.range' k m) (ST k) S' := by
    intro m
    induction m with
    | zero=>intro k hk;rw[show k=ops.size by omega,t3];rfl
    | succ m ih =>
      intro k hk;obtain⟨lo,xU,ht⟩:=hT k (by omega);rw[List.range'_succ];have ihk:=ih (k+1) (by omega);simp only[Runs]
      cases hE:E k with
      | none =>
        have xH:ST (k+1)=ST k:=by
          cases ht with
          | skip hg h1 h2 h3=>exact h2
          | run hg hh hF yS =>
            have hho:lo.hoist≠none:=by
              intro hn;simp[E,xU,hg,hn]at hE
            rcases yu k ops[k] (by simp) with⟨p,_,q2⟩ | ⟨_,l,xs,args,g,_,_,_,q4⟩
            · rw [xU] at q2;injection q2 with q2;rw[q2]at hh;simp only[Al,aop,LOp.loud,pop,List.map_cons,List.map_nil,opd,Bool.false_eq_true,if_false,Option.map_some,Oi,Pi_]at hh;exact hh.2.1.symm
            rw[xU]at q4;injection q4 with q4;rw[q4]at hho;exact absurd rfl hho
        rw[xH]at ihk;exact ihk
      | some e =>
        obtain⟨he,_,h3,_,h5⟩:=kI k lo e xU hE;exact⟨ST (k+1),h3,by rw[he];exact chg_ok _ _ _,h5,ihk⟩
  refine wp_region_inv hm (fun i o ho=>(kV i o ho).1) (fun L a' w'=>∃ρ' S1,DInv P call ops slots nt env V E Z S S' w ρ a.defers L a' w' ρ' S1) ⟨ρ,ST 0,?_⟩ ?_ ?_
  · rw [t2];have xH:Stp w ρ S w.drew ρ ⟨S.heap++(D7 P ops.toList).map Gg,S.low⟩:=(stp_news hr _).trans (stp_drew w ρ _);refine⟨?_,xH,hf.1,rfl,fun t ht=>.inr ⟨fun k o _ h=>h.elim,(hf.2 t ht).mono xH⟩,?_,fun j o p hj _ hp=>?_⟩
    · exact⟨hr.inj,fun g b hb=>by
        obtain⟨o,ho,hk⟩:=hr.obj g b hb
        exact⟨o,by rw[La_ (lt_of_some ho)];exact ho,hk.mono xH rfl⟩,hr.hids xH,hr.globs xH,hr.lpss xH⟩
    · have h0 := hruns0 ops.size 0 (by omega);rw[t2]at h0
      have:left ops.size (fun _=>False)=List.range' 0 ops.size:=by
        unfold left;rw[List.filter_eq_self.2 (fun k _=>notB_iff.2 (fun h=>h)),List.range_eq_range']
      rw[this];exact h0
    have hg:=rk_get hj hp;refine⟨?_,?_⟩
    · show (S.heap ++ (D7 P ops.toList).map Gg)[S.heap.length + rk P ops j]? = _;rw[Lr_ (by omega),Nat.add_sub_cancel_left,Lp_,hg];rfl
    cases hρ:ρ (S.heap.length+rk P ops j) with
    | none=>rfl
    | some b=>have:=hr.in hρ;omega
  · -- one operation
    rintro L i o a1 w1 ho hni hdown hdep ⟨ρ1,S1,hI⟩;have zh:=(Array.getElem?_eq_some_iff.1 ho).1;obtain⟨lo,xU,ht⟩:=hT i zh;have hdst:Gu nt o.dst=true:=hdin o (by rw[Array.mem_toList_iff];exact Array.mem_of_getElem? ho)
    have zO:∀d∈M3 ops i,Gu nt d=true:=by
      intro d hd;unfold M3 at hd;rw[List.mem_reverse,List.mem_map]at hd;obtain⟨o',ho',rfl⟩:=hd;exact hdin o' (List.mem_of_mem_take ho')
    obtain⟨pre,post,r9,wu,hpre⟩:=left_split zh hni;have hruns:=hI.runs;rw[r9]at hruns
    -- what the operation sees
    have hdown':Down ops (fun k=>L k∨k=i):=by
      intro k ok hk hLk e he hb;rcases hLk with hLk | rfl
      · exact .inl (hdown k ok hk hLk e he hb)
      rw[ho]at hk;injection hk with hk;subst hk;exact .inl (hdep e he hb)
    have hanc:∀k,k<i→ordered (Region.before ops).toList i k=true→L k:=fun k hk h=>((Sk hdown' h).1 hk (.inr rfl)).resolve_right (by omega);have hdesc:∀k,i<k→ordered (Region.before ops).toList i k=true→¬L k:=fun k hk h hLk=>hni ((Sk hdown h).2 hk hLk);have hbit:∀k,k<i→((Region.before ops).toList.getD i 0).testBit k=true→L k:=fun k hk h=>(Qa hdown' h (.inr rfl)).resolve_right (by omega)
    -- behind it
    have hput:∀(v:Value) (w2:World) (ρ2:Xn) (S2:St),Rel w2 ρ2 S2.heap→Stp w ρ S w2 ρ2 S2→Fwd w1 ρ1 S1.heap w2 ρ2 S2.heap→VR w2 ρ2 S2.heap (V i) v→Runs call E Z (pre++post) S2 S' →
        (∀j o p,ops[j]?=some o→¬L j→j≠i→Le P o=some p→S2.heap[S.heap.length+rk P ops j]?=some (Gg p)∧ρ2 (S.heap.length+rk P ops j)=none) →
        ∃ρ' S2,DInv P call ops slots nt env V E Z S S' w ρ a.defers (fun k=>L k∨k=i) (a1.put o.dst v) w2 ρ' S2:=by
      intro v w2 ρ2 S2 qE xH hfw wo xu hpend;refine⟨ρ2,S2,⟨qE,xH,?_,?_,fun t ht=>?_,by rw[wu];exact xu,fun j oj p hj hLj hp=>hpend j oj p hj (fun h=>hLj (.inl h)) (fun h=>hLj (.inr h)) hp⟩⟩
      · cases o.dst with
        | none=>exact hI.size
        | some d=>simpa [Act.put] using hI.size
      · cases o.dst with
        | none=>exact hI.defers
        | some d=>exact hI.defers
      by_cases e:o.dst=some t
      · refine .inl ⟨i, o, ho, .inr rfl, e, ?_⟩;have zQ:t<a1.tmps.size:=by rw[hI.size];exact ht
        rw[e];simpa [Act.put,zQ] using wo
      have yX:(a1.put o.dst v).tmps.getD t undef=a1.tmps.getD t undef:=by
        cases hd:o.dst with
        | none=>rfl
        | some d =>
          have xA:d≠t:=fun h=>e (by rw[hd,h]);simp only[Act.put,Array.getD_eq_getD_getElem?,Array.getElem?_setIfInBounds,if_neg xA]
      rw[yX];rcases hI.slot t ht with⟨k',o',hk',hLk',hd',hvr'⟩ | ⟨uz,hvr'⟩
      · exact .inl ⟨k',o',hk',.inl hLk',hd',hvr'.fwd hfw⟩
      refine .inr ⟨fun k o' hk hLk=>?_,hvr'.fwd hfw⟩;rcases hLk with hLk | rfl
      · exact uz k o' hk hLk
      rw[ho]at hk;injection hk with hk;subst hk;exact e
    rcases yu i o (by simpa using ho) with⟨p,hp,k4⟩ | ⟨hnn,l,xs,args,g,k1,k2,k3,k4⟩
    · -- a new variable
      obtain⟨⟨lo',uT,_⟩,hE,hV,_,_⟩:=kQ i o p ho hp;obtain⟨n,yR,qM,hz,hn,xg⟩:=newOf_some hp;obtain⟨hobj,yE⟩:=hI.pend i o p ho hni hp;obtain⟨v,w2,ob,xu,xD,qE,wo⟩:=alloc_fill (P:=P) (S:=S1) (g:=S.heap.length+rk P ops i) hI.rel hz hn xg hobj yE;unfold wpOpIn;rw[ho];have hw:Region.wanted o (yielded ops a1.tmps)=true:=by simp[Region.wanted,qM]
      simp only[hw,if_true]
      have hx:(execOp a1.eval o).run P w1=.ok (.value v) w2:=by
        have he:execOp a1.eval o=(do pure (.value (←Instr.alloc p.1 true (.tuple #[])))):=by simp[execOp,yR]
        rw[he,Ab xu];rfl
      refine Wu (fun c hc=>by rw[yR]at hc;cases hc) ?_;rw[hx];refine hput v w2 _ S1 qE (stp_fill hI.stp hI.rel xD yE (by omega)) (fwd_fill hI.rel xD yE) (by rw[hV];exact wo) (Runs.drop hE hruns) fun j oj p' hj hLj xA hp'=>?_;obtain⟨q1,q2⟩:=hI.pend j oj p' hj hLj hp';refine⟨q1,?_⟩;simp only[upd];rw[if_neg (fun h=>xA (rk_inj hj hp' ho hp (by omega)))];exact q2
    rw[xU]at k4;injection k4 with k4;subst k4;simp only[List.append_nil]at k2 k3
    have hsee:∀t,t<nt→(∀k o',ops[k]?=some o'→o'.dst=some t→k≠i→ordered (Region.before ops).toList i k=true)→VR w1 ρ1 S1.heap (sig slots (M3 ops i) (Fa V i++tl) env t) (a1.tmps.getD t undef):=by
      intro t ht hord;rw[sig_tl (dstTo_len (Nat.le_of_lt zh)) (Pm V i)];rcases sig_to (slots:=slots) (V:=V) (env:=env) (hu t) i (Nat.le_of_lt zh) with⟨k,ok,hk,yS,hd,hsg⟩ | ⟨hn,hsg⟩
      · rw [hsg];have hLk:=hanc k hk (hord k ok yS hd (by omega));rcases hI.slot t ht with⟨k',o',hk',hLk',hd',wo⟩ | ⟨uz,_⟩
        · have := hu t k k' ok o' yS hk' hd hd';subst this;exact wo
        exact absurd hd (uz k ok yS hLk)
      rw[hsg];rcases hI.slot t ht with⟨k',o',hk',hLk',hd',wo⟩ | ⟨uz,wo⟩
      · exfalso;have hki:¬k'<i:=fun h=>hn k' o' h hk' hd';have xA:k'≠i:=fun e=>hni (e▸hLk');exact hdesc k' (by omega) (hord k' o' hk' hd' xA) hLk'
      exact wo
    have qH:VL w1 ρ1 S1.heap (args.map (opd (Fa V i++tl) env)) (xs.map a1.eval):=by
      refine opds_ok (fun g row hg=>(hI.rel.glob g row (by rw[hI.stp.hid,hG.1];exact rF g row hg)).1) hs zO k2 fun t kM ht=>hsee t ht fun k o' hk hd xA=>?_;rcases ((kV i o ho).2 k o' t hk hd xA).2 with h | ⟨h,_⟩
      · exact h
      obtain⟨mt',k1⟩:=k1;exact absurd kM (h mt' l xs k1)
    have kR : ∀ j b d b0, o.guard = some (j, b) → g = some (d, b0) → (∀ b', (Fa V i ++ tl).getD d .undef = .bool b' → yielded ops a1.tmps j = some b') ∧ ((Fa V i ++ tl).getD d .undef = .skip → yielded ops a1.tmps j = none) ∧ b0 = b := by
      intro j b d b0 qM hg;rw[qM]at k3;unfold Jp at k3;simp only at k3;split at k3
      · rename_i hj;split at k3
        · rename_i t htt;split at k3
          · rename_i zW;simp only[Oi]at k3;subst k3;simp only[Oi,Pi_]at hg;obtain⟨rfl,rfl⟩:=hg
            have xg:((ops.toList.take i).map (·.dst)).reverse.length=i:=by
              rw[List.length_reverse,List.length_map,List.length_take,Array.length_toList];omega
            rw[xg]at hj htt zW;have yP:j<ops.toList.length:=by rw[Array.length_toList];omega
            have hjd:(ops[j]?).bind (·.dst)=some t:=by
              have h1:((ops.toList.take i).map (·.dst)).length=i:=by rw[List.length_map,List.length_take,Array.length_toList];omega
              rw[List.getD_eq_getElem?_getD,List.getElem?_reverse (by rw[h1];omega),h1,show i-1-(i-1-j)=j by omega]at htt;simp only[Lp_,List.getElem?_take]at htt;rw[if_pos hj,Lg yP]at htt;have h2:ops[j]?=some ops.toList[j]:=by simp
              rw[h2];simpa using htt
            have htn:t<nt:=by
              have:=zO _ (Lm (Ic zW));simpa [Gu] using this
            have hvis:=hsee t htn fun k o' hk hd xA=>by
              obtain⟨oj,hoj,hdj⟩:∃oj,ops[j]?=some oj∧oj.dst=some t:=by
                cases hx:ops[j]? with
                | none=>simp[hx]at hjd
                | some oj=>exact⟨oj,rfl,by simpa [hx] using hjd⟩
              rcases ((kV i o ho).2 k o' t hk hd xA).2 with h | ⟨_,h⟩
              · exact h
              exact absurd hdj (h j _ oj qM hoj)
            refine⟨fun b' hb'=>?_,fun hb'=>?_,rfl⟩
            · rw [xg] at hb';exact guard_ok (b:=b) hjd zW zO hvis hI.size hb'
            rw[xg]at hb';exact guard_skip hjd zW zO hvis hI.size hb'
          simp at k3
        simp at k3
      simp at k3
    cases ht with
    | skip hg h1 h2 h3 =>
      have hE:E i=none:=by simp only[E,xU,hg];simp
      have hw : Region.wanted o (yielded ops a1.tmps) = false := by
        cases qM:o.guard with
        | none=>rw[qM]at k3;simp only[Jp,Oi]at k3;subst k3;simp[onG]at hg
        | some jb =>
          obtain⟨j,b2⟩:=jb
          cases rH:g with
          | none=>simp[rH,onG]at hg
          | some db =>
            obtain⟨d,b⟩:=db;simp only[rH,onG]at hg;split at hg
            · rename_i b' hb';simp only[Oi]at hg;obtain⟨hy,_,rfl⟩:=kR j b2 d b qM rH;have hy:=hy b' hb';simp only[Region.wanted,qM,hy];simpa using hg
            · rename_i hb';obtain⟨_,hy,rfl⟩:=kR j b2 d b qM rH;have hy:=hy hb';simp only[Region.wanted,qM,hy];rfl
            simp at hg
      unfold wpOpIn;rw[ho];simp only[hw,Bool.false_eq_true,if_false];refine⟨fun _ _=>trivial,?_⟩;exact hput undef w1 ρ1 S1 hI.rel hI.stp (Stp.refl w1 ρ1 S1).fwd (by rw[h1];exact .skip) (Runs.drop hE hruns) fun j oj p hj hLj _ hp=>hI.pend j oj p hj hLj hp
    | run hg hh hF yS =>
      have hw : Region.wanted o (yielded ops a1.tmps) = true := by
        cases qM:o.guard with
        | none=>simp[Region.wanted,qM]
        | some jb =>
          obtain⟨j,b2⟩:=jb
          cases rH:g with
          | none =>
            rw[qM,rH]at k3;unfold Jp at k3;simp only at k3;split at k3
            · split at k3
              · split at k3<;>simp at k3
              simp at k3
            simp at k3
          | some db =>
            obtain⟨d,b⟩:=db;simp only[rH,onG]at hg;split at hg
            · rename_i b' hb';simp only[Oi]at hg;obtain⟨hy,_,rfl⟩:=kR j b2 d b qM rH;have hy:=hy b' hb';simp only[Region.wanted,qM,hy];simpa using hg
            · simp at hg
            simp at hg
      have hE:E i=some ⟨l,args.map (opd (Fa V i++tl) env),V i,W i,chg (ST i).heap (ST (i+1)).heap 0⟩:=by simp only[E,xU];rw[if_pos ⟨hg,trivial⟩]
      obtain⟨_,hFe,_,hokF,_⟩:=kI i _ _ xU hE;have hFh:(F i).hoist=none:=by rw[hFe];exact Rt _ _ _ _ _
      have hpair:∀j,j<i→∃b,(b=true→L j)∧Ap b (F j) (F i)=true:=by
        intro j hj;obtain⟨b,h1,h2⟩:=okFP_get hokF (i-1-j) (F j) (by rw[Ku F i _ (by omega)];congr 2;omega);refine⟨b,fun hb=>hbit j hj ?_,h2⟩;have h3:=Ku (fun k=>((Region.before ops).toList.getD i 0).testBit k) i (i-1-j) (by omega);have h4:(Pb (Region.before ops).toList i)[i-1-j]?=some (((Region.before ops).toList.getD i 0).testBit (i-1-(i-1-j))):=h3;rw[h4,show i-1-(i-1-j)=j by omega]at h1;injection h1 with h1;rw[h1];exact hb
      obtain⟨S2,r1,rU,r2,r3⟩:=Runs.front zK hE hruns (fun j hj e' he'=>by
        obtain⟨hji,hnL⟩:=hpre j hj;obtain⟨lo',uT,_⟩:=hT j (by omega);obtain⟨_,hFj,_,_,_⟩:=kI j lo' e' uT he';obtain⟨b,h1,h2⟩:=hpair j hji;have hFjh:(F j).hoist=none:=by rw[hFj];exact Rt _ _ _ _ _
        simp only[Ap,hFh,hFjh,Bool.or_eq_true]at h2;rcases h2 with h2 | h2
        · exact absurd (h1 h2) hnL
        rw[hFj,hFe]at h2;exact h2)
      unfold wpOpIn;rw[ho];simp only[hw,if_true];refine exOp_ok y9 (by rw[hI.stp.hid];exact hG) k1.choose_spec qH hI.rel r1 ?_;rintro v w2 ⟨ρ2,q1,q2,q3,_⟩;refine hput v w2 ρ2 S2 q1 (hI.stp.trans q2) q2.fwd q3 r3 fun j oj p hj hLj xA hp=>?_;obtain⟨p1,p2⟩:=hI.pend j oj p hj hLj hp;obtain⟨_,_,_,hFjh,hokj⟩:=kQ j oj p hj hp
      have yX:S2.heap[S.heap.length+rk P ops j]?=some (Gg p):=by
        cases hwr:(F i).writes with
        | none =>
          rw[hFe]at hwr;refine r2 hwr _ p (rk_get hj hp) fun hd=>?_;obtain⟨d,f,d1,d2,d3⟩:=Rw hd;have hdl:d<i:=by have:=lt_of_some d2;rw[Pm]at this;exact this
          rw[Ku F i d hdl]at d2;injection d2 with d2;subst d2;have d4:(Pb (Region.before ops).toList i)[d]?=some (((Region.before ops).toList.getD i 0).testBit (i-1-d)):=Ku (fun k=>((Region.before ops).toList.getD i 0).testBit k) i d hdl;rw[d4]at d1;injection d1 with d1;have hLd:=hbit (i-1-d) (by omega) d1;obtain⟨lo',uT,ht'⟩:=hT (i-1-d) (by omega);have hod:ops[i-1-d]?=some ops[i-1-d]:=Array.getElem?_eq_getElem (by omega)
          cases hpd:Le P ops[i-1-d] with
          | some p' =>
            obtain⟨_,_,_,hh',_⟩:=kQ (i-1-d) _ p' hod hpd;rw[hh']at d3;injection d3 with d3;have:=rk_inj hod hpd hj hp (by omega);exact hLj (this▸hLd)
          | none =>
            have hnh:(F (i-1-d)).hoist=none:=by
              rcases yu (i-1-d) ops[i-1-d] (by simp) with⟨p',q1',_⟩ | ⟨_,l',xs',args',g',_,_,_,q4'⟩
              · rw[hpd]at q1';cases q1'
              rw[uT]at q4';injection q4' with q4'
              cases ht' with
              | skip hg' h1' h2' h3'=>rw[h3'];rfl
              | run hg' hh' hF' hok'=>rw[hF',q4'];exact Rt _ _ _ _ _
            rw[hnh]at d3;cases d3
        | some Wr =>
          have wm:Az (S.heap.length+rk P ops j) (F i).writes=true:=by
            rcases Nat.lt_trichotomy j i with h | h | h
            · obtain ⟨b, h1, h2⟩ := hpair j h;simp only[Ap,hFjh,hFh,Bool.or_eq_true]at h2;rcases h2 with h2 | h2
              · exact absurd (h1 h2) hLj
              exact h2
            · exact absurd h xA
            obtain⟨b,h1,h2⟩:=okFP_get hokj (j-1-i) (F i) (by rw[Ku F j _ (by omega)];congr 2;omega);simp only[Ap,hFjh,hFh]at h2;exact h2
          rw[hwr]at wm;have wm:S.heap.length+rk P ops j∉Wr:=by simpa [Az] using wm
          rw[←p1];rcases Jq zK r1 rU with⟨R,W',eff,_,hw',rfl,yC,_⟩ | xw | ⟨_,hwt,xw,hgU⟩
          · have : W' = Wr := by
              rw[hFe]at hwr;have hw2:(Ev.fp ⟨l,args.map (opd (Fa V i++tl) env),V i,W i,chg (ST i).heap (ST (i+1)).heap 0⟩).writes=some W':=hw';rw[hw2]at hwr;injection hwr
            subst this;exact app_get yC wm
          · rw [hFe] at hwr;have hall':Ev.fp ⟨l,args.map (opd (Fa V i++tl) env),V i,W i,chg (ST i).heap (ST (i+1)).heap 0⟩=Ba (W i):=xw;rw[hall']at hwr
            cases hWi:W i with
            | true=>rw[hWi]at hwr;cases hwr
            | false =>
              simp only[hWi]at r1;rw[N8 zK r1]
          rw[hFe]at hwr;have hall':Ev.fp ⟨l,args.map (opd (Fa V i++tl) env),V i,W i,chg (ST i).heap (ST (i+1)).heap 0⟩=⟨true,none,some (chg (ST i).heap (ST (i+1)).heap 0),true,none⟩:=xw;rw[hall']at hwr;simp only[Oi]at hwr;exact hgU _ (by rw[hwr];exact wm)
      refine⟨yX,?_⟩;obtain⟨o',ho',_,_,hv'⟩:=q2.obj _ _ p1;rw[yX]at ho';injection ho' with ho';subst ho';rw[(hv' rfl).1];exact p2
  -- the end
  rintro L a1 w1 xw ⟨ρ1,S1,hI⟩
  have hSt:S'=S1:=by
    have h:=hI.runs
    have:left ops.size L=[]:=by
      unfold left;rw[List.filter_eq_nil_iff];intro k hk;rw[notB_iff];exact fun h=>h (xw k (List.mem_range.1 hk))
    rw[this]at h;exact h
  subst hSt;have hslot:=hI.slot;refine hQ a1 w1 ρ1 hI.rel hI.stp ⟨hI.size,fun t ht=>?_⟩ hI.defers;have hde:dstsOf ops.toList=M3 ops ops.size:=by unfold dstsOf M3;rw[List.take_of_length_le (by simp)]
  rw[hde,t4,sig_tl (dstTo_len (Nat.le_refl _)) (Pm V _)];rcases sig_to (slots:=slots) (V:=V) (env:=env) (hu t) ops.size (Nat.le_refl _) with⟨k,ok,hk,yS,hd,hsg⟩ | ⟨hn,hsg⟩
  · rw [hsg];rcases hslot t ht with⟨k',o',hk',hLk',hd',wo⟩ | ⟨uz,_⟩
    · have := hu t k k' ok o' yS hk' hd hd';subst this;exact wo
    exact absurd hd (uz k ok yS (xw k hk))
  rw[hsg];rcases hslot t ht with⟨k',o',hk',hLk',hd',wo⟩ | ⟨uz,wo⟩
  · exact absurd hd' (hn k' o' (Array.getElem?_eq_some_iff.1 hk').1 hk')
  exact wo
end
open Go.RowKit
theorem lst_some{S:St}{g j:Nat}(h:lst S g=some j):S.heap[g]?=some (Jw j):=by
 unfold lst lstO at h;split at h
 ·
  rename_i o ho;split at h
  ·
   rename_i n hn;split at h
   ·
    rename_i hc;simp only[Oi]at h;subst h;obtain⟨h1,h2,h3,h4,h5⟩:=hc;rw[ho];cases o;simp only at h1 h2 h3 h4 h5 hn;subst h1 h2 h3 h4 h5 hn;rfl
   simp at h
  simp at h
 simp at h
section
variable {w w':World} {ρ:Xn} {S:St}
theorem rel_newloop{r:Loop}{ob:Xh}(hr:Rel w ρ S.heap)(h:Xx w w' (.loop r))(hk:ob.kind=3)(uH:ob.elem=2):Rel w' (upd ρ S.heap.length w.heap.size) (newAt S ob).heap:=by
  have hs:=Fh (ob:=ob) hr h;refine⟨fun g g' b hg hg'=>?_,fun g b hb=>?_,hr.hids hs,hr.globs hs,hr.lpss hs⟩
  · simp only [upd] at hg hg';split at hg<;>split at hg'
    · omega
    · injection hg with hg;have:=hr.lt hg';omega
    · injection hg' with hg';have:=hr.lt hg;omega
    exact hr.inj g g' b hg hg'
  simp only[upd]at hb;split at hb
  · rename_i wK;injection hb with hb;subst hb wK;exact⟨ob,by simp[newAt],fun e=>absurd hk e,fun _=>⟨fun h0=>absurd (h0.symm.trans uH) (by decide),fun h1=>absurd (h1.symm.trans uH) (by decide),fun _ _=>⟨r,h.new⟩⟩⟩
  obtain⟨o',ho,hk'⟩:=hr.obj g b hb;exact⟨o',by simp only[newAt];rw[La_ (lt_of_some ho)];exact ho,hk'.mono hs (h.old b (hr.lt hb))⟩
theorem R7{g b j0 j:Nat}{r0 r':Loop}(hr:Rel w ρ S.heap)(hb:ρ g=some b)(ho:S.heap[g]?=some (Jw j0))(hc:w.heap[b]?=some (.loop r0))(h:Xy w w' b (.loop r'))(hx:∀x,ρ.X.L g=some x→r'=x.rc j) :
    Stp w ρ S w' ρ (Oo S g j):=by
  have zA:=lt_of_some ho;refine⟨rfl,h.os,h.tape,h.output,by have:=h.size;omega,Nat.min_le_left _ _,fun b' hb' hg=>⟨h.old b' (fun e=>hg g (e▸hb)),hg⟩,fun b' q hi=>?_,fun g' b' o'' ho' hg hb'=>h.old b' (fun e=>?_),fun g' o'' ho'=>?_,fun g' x hX hb' hl=>?_⟩
  · by_cases e : b' = b
    · subst e;obtain⟨o1,xG,y7,hq1⟩:=hi.2.2 g hb;rw[ho]at xG;injection xG with xG;subst xG;cases y7
    refine⟨El (h.old b' e) q,by rw[h.size];exact hi.1,hi.2.1,fun g' hg'=>?_⟩;have xA:g≠g':=fun e'=>e (by subst e';rw[hb]at hg';injection hg' with hg';exact hg'.symm);obtain⟨o1,xG,y7⟩:=hi.2.2 g' hg';exact⟨o1,by simp only[Oo,setAt];rw[Ln_ xA];exact xG,y7⟩
  · subst e;have:=hr.inj g' g b' hb' hb;subst this;have:g'<min S.low g':=hg;exact absurd (Nat.min_le_right S.low g') (by omega)
  · by_cases e : g = g'
    · subst e;rw[ho]at ho';injection ho' with ho';subst ho';refine⟨Jw j,by simp[Oo,setAt,zA],⟨Nat.le_refl _,rfl⟩,fun hg=>?_,fun hv=>⟨rfl,rfl,rfl,Nat.le_refl _,fun b' cu hb' uL=>?_⟩⟩
      · exact absurd (Nat.min_le_right S.low g) (by have:g<min S.low g:=hg;omega)
      rw[hb]at hb';injection hb' with hb';subst hb';rw[hc]at uL;cases uL
    refine⟨o'',by simp only[Oo,setAt];rw[Ln_ e];exact ho',⟨Nat.le_refl _,rfl⟩,fun _=>rfl,fun _=>⟨rfl,rfl,rfl,Nat.le_refl _,fun b' cu hb' uL=>⟨cu,?_,rfl⟩⟩⟩;rw[h.old b' (fun e'=>e (by subst e';exact hr.inj g g' b' hb hb'))];exact uL
  by_cases e:g=g'
  · subst e;rw[hb]at hb';injection hb' with hb';exact⟨j,by simp[Oo,setAt,zA],by rw[←hb',h.new,hx x hX]⟩
  obtain⟨j1,q1,q2⟩:=hl;have xA:x.b≠b:=fun e'=>e (hr.inj g g' b hb (by rw[hb',e']));exact⟨j1,by simp only[Oo,setAt];rw[Ln_ e];exact q1,(h.old _ xA).trans q2⟩
theorem rel_loop{g b j0 j:Nat}{r0 r':Loop}(hr:Rel w ρ S.heap)(hb:ρ g=some b)(ho:S.heap[g]?=some (Jw j0))(hc:w.heap[b]?=some (.loop r0))(h:Xy w w' b (.loop r'))(hx:∀x,ρ.X.L g=some x→r'=x.rc j) :
    Rel w' ρ (Oo S g j).heap:=by
  have xH:=R7 hr hb ho hc h hx;have zA:=lt_of_some ho;refine⟨hr.inj,fun g' b' hb'=>?_,hr.hids xH,hr.globs xH,hr.lpss xH⟩;by_cases e:g=g'
  · subst e;rw[hb]at hb';injection hb' with hb';subst hb';exact⟨Jw j,by simp[Oo,setAt,zA],fun h3=>absurd rfl h3,fun _=>⟨fun h0=>(by cases h0),fun h1=>(by cases h1),fun _ _=>⟨r',h.new⟩⟩⟩
  obtain⟨o1,xG,y7⟩:=hr.obj g' b' hb';refine⟨o1,by simp only[Oo,setAt];rw[Ln_ e];exact xG,y7.mono xH (h.old b' (fun e'=>e (by subst e';exact hr.inj g g' b' hb hb')))⟩
end
theorem VR.setX{w:World}{f:Nat→Option Nat}{X X':HX}{H:List Xh}(hP:X'.P=X.P)(hL:∀g,g<H.length→∀y,X'.L g=some y→X.L g=some y){d:D}{v:Value}(h:VR w ⟨f,X⟩ H d v):VR w ⟨f,X'⟩ H d v:=by
 have hI:∀b q,Imm w ⟨f,X⟩ H b q→Imm w ⟨f,X'⟩ H b q:=fun b q h=>⟨h.1,by show ¬X'.P b q;rw[hP];exact h.2.1,h.2.2⟩
 induction h with
 | undef v=>exact .undef v
 | skip=>exact .skip
 | nili=>exact .nili
 | junk n=>exact .junk n
 | ifc t d v hf hv _ ih=>exact .ifc t d v hf hv ih
 | ifr t d v hv _ ih=>exact .ifr t d v hv ih
 | iter g v r ob hg hv h=>exact .iter g v r ob hg hv h
 | int k n=>exact .int k n
 | bool b=>exact .bool b
 | str s=>exact .str s
 | agg cs vs hl hc _ ih=>exact .agg cs vs hl hc ih
 | tup cs vs hl _ ih=>exact .tup cs vs hl ih
 | nilp=>exact .nilp
 | ptr g v i o a ob hg hv xK h=>exact .ptr g v i o a ob hg hv xK h
 | X7 row o b q f hc _ ih=>exact .X7 row o b q f (fun j d hj ho=>⟨(hc j d hj ho).1,hI _ _ (hc j d hj ho).2.1,(hc j d hj ho).2.2⟩) ih
 | X4=>exact .X4
 | sl sz rows cap A n c hn xV xB hz b o f hA hc _ ih=>exact .sl sz rows cap A n c hn xV xB hz b o f hA (fun i r j d hi hj=>⟨(hc i r j d hi hj).1,hI _ _ (hc i r j d hi hj).2.1,(hc i r j d hi hj).2.2⟩) ih
 | msl g v lo n cap A c ob xV xB hg hv xK h=>exact .msl g v lo n cap A c ob xV xB hg hv xK h
 | fn f cs vs hl _ ih=>exact .fn f cs vs hl ih
 | nilfn=>exact .nilfn
 | mref g v r ob hg hv h=>exact .mref g v r ob hg hv h
 | nilm=>exact .nilm
 | yld g x ob hg hX=>exact .yld g x ob hg fun y hy=>hX y (hL g (lt_of_some hg) y hy)
 | bfn f cs vs hl _ ih=>exact .bfn f cs vs hl ih
 | mp rows b clock es f hb hx hf hl hz he hc _ ih=>exact .mp rows b clock es f hb (by show ¬X'.P b 0;rw[hP];exact hx) hf hl hz he hc ih
theorem ObjOK.setX{w:World}{f:Nat→Option Nat}{X X':HX}{H:List Xh}(hP:X'.P=X.P)(hL:∀g,g<H.length→∀y,X'.L g=some y→X.L g=some y){o:Xh}{b:Nat}(h:ObjOK w ⟨f,X⟩ H o b):ObjOK w ⟨f,X'⟩ H o b:=by
 obtain⟨cur,hc,hz,xB,hl,hk,hh⟩:=h;refine⟨cur,hc,hz,xB,hl,hk,fun i r j d hi hj=>?_⟩;obtain⟨h1,h2,v,hv,wo⟩:=hh i r j d hi hj;exact⟨h1,h2,v,hv,wo.setX hP hL⟩
theorem MapOK.setX{w:World}{f:Nat→Option Nat}{X X':HX}{H:List Xh}(hP:X'.P=X.P)(hL:∀g,g<H.length→∀y,X'.L g=some y→X.L g=some y){o:Xh}{b:Nat}(h:MapOK w ⟨f,X⟩ H o b):MapOK w ⟨f,X'⟩ H o b:=by
 obtain⟨es,clock,hc,hz,hl,hh⟩:=h;refine⟨es,clock,hc,hz,hl,fun i r hi=>?_⟩;obtain⟨e,k,v,h1,h2,h3,h4,h5,h6⟩:=hh i r hi;exact⟨e,k,v,h1,h2,h3,h4,h5.setX hP hL,h6.setX hP hL⟩
theorem Rel.setX{w:World}{f:Nat→Option Nat}{X X':HX}{H:List Xh}(hr:Rel w ⟨f,X⟩ H)(hP:X'.P=X.P)(hG:X'.G=X.G)(hL:∀g,g<H.length→∀y,X'.L g=some y→X.L g=some y)
  (hlp:∀g x,X'.L g=some x→f g=some x.b∧U5 w H g x∧∀t,t<x.nt→VR w ⟨f,X'⟩ H (x.sg t) (x.tmps.getD t undef)):Rel w ⟨f,X'⟩ H :=
 ⟨hr.inj,fun g b hb=>by
  obtain⟨o,ho,hk⟩:=hr.obj g b hb
  exact⟨o,ho,fun h3=>(hk.1 h3).setX hP hL,fun h3=>⟨fun h0=>((hk.2 h3).1 h0).setX hP hL,(hk.2 h3).2.1,(hk.2 h3).2.2⟩⟩,
  fun b q hx=>hr.hid b q (by show X.P b q;rw[←hP];exact hx),
  fun g row hg=>by
   obtain⟨h1,h2⟩:=hr.glob g row (by show X.G g=some row;rw[←hG];exact hg)
   exact⟨h1.setX hP hL,h2⟩,hlp⟩
theorem Stp.setX{w w':World}{f f':Nat→Option Nat}{X X':HX}{S S':St}(h:Stp w ⟨f,X⟩ S w' ⟨f',X⟩ S')(hP:X'.P=X.P)(hL:∀g y,X'.L g=some y→X.L g=some y):Stp w ⟨f,X'⟩ S w' ⟨f',X'⟩ S' :=
 ⟨rfl,h.os,h.tape,h.output,h.size,h.low,h.out,fun b q hi=>by
  obtain⟨h1,h2⟩:=h.imm b q ⟨hi.1,by show ¬X.P b q;rw[←hP];exact hi.2.1,hi.2.2⟩
  exact⟨h1,h2.1,by show ¬X'.P b q;rw[hP];exact h2.2.1,h2.2.2⟩,h.keep,h.obj,fun g x hX hb hl=>h.lp g x (hL g x hX) hb hl⟩
section
variable {w w':World} {ρ:Xn} {H:List Xh} {r:Nat} {ds:Option (List Deferred)} {o':Obj}
theorem VR.late(hd:w.heap[r]?=some (.deferred ds))(hb:Xy w w' r o'){d:D}{v:Value}(h:VR w ρ H d v):VR w' ρ H d v:=by
 have hc:∀b q u,w.cell? ⟨b,q,none⟩=some u→w'.cell? ⟨b,q,none⟩=some u:=fun b q u hu=>by
  have xA:b≠r:=fun e=>by subst e;simp[World.cell?,hd]at hu
  rw[El (hb.old b xA) q];exact hu
 have hI:∀b q,Imm w ρ H b q→Imm w' ρ H b q:=fun b q h=>⟨by rw[hb.size];exact h.1,h.2⟩
 induction h with
 | undef v=>exact .undef v
 | skip=>exact .skip
 | nili=>exact .nili
 | junk n=>exact .junk n
 | ifc t d v hf hv _ ih=>exact .ifc t d v hf hv ih
 | ifr t d v hv _ ih=>exact .ifr t d v hv ih
 | iter g v r ob hg hv h=>exact .iter g v r ob hg hv h
 | int k n=>exact .int k n
 | bool b=>exact .bool b
 | str s=>exact .str s
 | agg cs vs hl hc _ ih=>exact .agg cs vs hl hc ih
 | tup cs vs hl _ ih=>exact .tup cs vs hl ih
 | nilp=>exact .nilp
 | ptr g v i o a ob hg hv xK h=>exact .ptr g v i o a ob hg hv xK h
 | X7 row o b q f yB _ ih=>exact .X7 row o b q f (fun j d hj ho=>⟨hc _ _ _ (yB j d hj ho).1,hI _ _ (yB j d hj ho).2.1,(yB j d hj ho).2.2⟩) ih
 | X4=>exact .X4
 | sl sz rows cap A n c hn xV xB hz b o f hA yB _ ih=>exact .sl sz rows cap A n c hn xV xB hz b o f hA (fun i r j d hi hj=>⟨hc _ _ _ (yB i r j d hi hj).1,hI _ _ (yB i r j d hi hj).2.1,(yB i r j d hi hj).2.2⟩) ih
 | msl g v lo n cap A c ob xV xB hg hv xK h =>
  refine .msl g v lo n cap A c ob xV xB hg hv xK fun e=>?_;obtain⟨b,h1,h2,h3,h4⟩:=h e;refine⟨b,h1,h2,h3,fun hn=>?_⟩;obtain⟨cur,h5,h6⟩:=h4 hn;exact⟨cur,(hb.old b (fun e=>by subst e;rw[hd]at h5;cases h5)).trans h5,h6⟩
 | fn f cs vs hl _ ih=>exact .fn f cs vs hl ih
 | nilfn=>exact .nilfn
 | mref g v r ob hg hv h=>exact .mref g v r ob hg hv h
 | nilm=>exact .nilm
 | yld g x ob hg hX=>exact .yld g x ob hg hX
 | bfn f cs vs hl _ ih=>exact .bfn f cs vs hl ih
 | mp rows b clock es f rY hx hf hl hz he hc _ ih=>exact .mp rows b clock es f ((hb.old b (fun e=>by subst e;rw[hd]at rY;cases rY)).trans rY) hx hf hl hz he hc ih
theorem Rel.late(hr:Rel w ρ H)(hd:w.heap[r]?=some (.deferred ds))(hb:Xy w w' r o'):Rel w' ρ H:=by
  have old:∀{b:Nat} {o:Obj},w.heap[b]?=some o→(∀x,o≠.deferred x)→w'.heap[b]?=some o:=fun {b o} h hn=>(hb.old b (fun e=>by subst e;rw[hd]at h;exact hn _ (Option.some.inj h).symm)).trans h;refine⟨hr.inj,fun g b hg=>?_,fun b q hx=>⟨by rw[hb.size];exact (hr.hid b q hx).1,(hr.hid b q hx).2⟩,fun g row hg=>?_,fun g x hX=>?_⟩
  · obtain ⟨o, ho, hk⟩ := hr.obj g b hg;refine⟨o,ho,fun h3=>?_,fun h3=>⟨fun h0=>?_,fun h1=>?_,fun h0 h1=>?_⟩⟩
    · obtain ⟨cur, hc, hz, xB, hl, yO, hh⟩ := hk.1 h3;refine⟨cur,old hc (fun _ e=>by cases e),hz,xB,hl,yO,fun i r j d hi hj=>?_⟩;obtain⟨h1,h2,v,hv,wo⟩:=hh i r j d hi hj;exact⟨h1,h2,v,hv,wo.late hd hb⟩
    · obtain ⟨es, clock, hc, hz, hl, hh⟩ := (hk.2 h3).1 h0;refine⟨es,clock,old hc (fun _ e=>by cases e),hz,hl,fun i r hi=>?_⟩;obtain⟨e,k,v,h1,h2,h3,h4,h5,h6⟩:=hh i r hi;exact⟨e,k,v,h1,h2,h3,h4,h5.late hd hb,h6.late hd hb⟩
    · obtain ⟨s, pos, hc, h2⟩ := (hk.2 h3).2.1 h1;exact⟨s,pos,old hc (fun _ e=>by cases e),h2⟩
    obtain⟨rr,hc⟩:=(hk.2 h3).2.2 h0 h1;exact⟨rr,old hc (fun _ e=>by cases e)⟩
  · obtain ⟨h1, h2, cs, t, z, h3, h4⟩ := hr.glob g row hg;exact⟨h1.late hd hb,h2,cs,t,z,old h3 (fun _ e=>by cases e),h4⟩
  obtain⟨h1,⟨j,h2,h3⟩,h4⟩:=hr.lps g x hX;exact⟨h1,⟨j,h2,old h3 (fun _ e=>by cases e)⟩,fun t ht=>(h4 t ht).late hd hb⟩
theorem stp_late{w0:World}{ρ0:Xn}{S0 S:St}(vZ:Rel w0 ρ0 S0.heap)(hs:Stp w0 ρ0 S0 w ρ S)(hd:w.heap[r]?=some (.deferred ds))(hb:Xy w w' r o')(hn:w0.heap.size≤r):Stp w0 ρ0 S0 w' ρ S:=by
  have old:∀{b:Nat} {o:Obj},w.heap[b]?=some o→(∀x,o≠.deferred x)→w'.heap[b]?=some o:=fun {b o} h uz=>(hb.old b (fun e=>by subst e;rw[hd]at h;exact uz _ (Option.some.inj h).symm)).trans h;refine⟨hs.hid,hb.os.trans hs.os,hb.tape.trans hs.tape,hb.output.trans hs.output,by rw[hb.size];exact hs.size,hs.low,fun b h1 h2=>?_,fun b q hi=>?_,fun g b o ho hg rY=>?_,fun g o ho=>?_,fun g x hX rY hl=>?_⟩
  · obtain ⟨k1, k2⟩ := hs.out b h1 h2;exact⟨(hb.old b (by omega)).trans k1,k2⟩
  · obtain ⟨k1, k2⟩ := hs.imm b q hi;have:=hi.1;exact⟨(El (hb.old b (by omega)) q).trans k1,by rw[hb.size];exact k2.1,k2.2⟩
  · have := vZ.lt rY;exact (hb.old b (by omega)).trans (hs.keep g b o ho hg rY)
  · obtain ⟨o2, h1, h2, h3, h4⟩ := hs.obj g o ho;refine⟨o2,h1,h2,h3,fun hv=>?_⟩;obtain⟨a1,a2,a3,a4,a5⟩:=h4 hv;refine⟨a1,a2,a3,a4,fun b cur q1 q2=>?_⟩;obtain⟨cur',q3,q4⟩:=a5 b cur q1 q2;exact⟨cur',old q3 (fun _ e=>by cases e),q4⟩
  obtain⟨j,q1,q2⟩:=hs.lp g x hX rY hl;exact⟨j,q1,old q2 (fun _ e=>by cases e)⟩
end
end Go.Proofs.YtlhdliikahebhaaGreatDoor
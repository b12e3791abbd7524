/- Proved here: parts of the proof, joined (Lo9d, Lo9e, Lo10, Lo11, Lo12, Lo13, Lo14, Lo14b): an abstract machine, its soundness, what functions of the program compute in it; no condition. -/
import Derived.Lib.UnsafeStr
import Derived.Lib.Builder
import Derived.Lib.Bytealg
import Derived.Lib.AppendStr
import Derived.Lib.AppendZeros
import Derived.Lib.MakeNoZero
import Derived.Laws.CopyRow
import Derived.Laws.IdiomCopy
import Derived.Lib.BufferWrite
import Derived.StillTail
import Derived.Test.YtbhnlppboegmjaaGreatDoorLN1
namespace Go.Proofs.YtbhnlppboegmjaaGreatDoor
open Go.RowKit
set_option linter.unusedVariables false
set_option linter.unusedSimpArgs false
section
variable {P:Program} {w:World} {ρ:Aaa} {S:St}
theorem ptrT_iff{t e:TypeId}:ptrT P t=some e↔P.underlying t=some (.pointer e):=by
 unfold ptrT;split
 ·
  rename_i e' h;simp[h]
 rename_i h;constructor
 ·
  intro h';simp at h'
 intro h';exact absurd h' (h e)
theorem unsT_iff{t:TypeId}:unsT P t=true↔P.underlying t=some .unsafePointer:=by
 unfold unsT;split
 ·
  rename_i h;simp[h]
 rename_i h;constructor
 ·
  intro h';simp at h'
 intro h';exact absurd h' h
theorem eqp_ok {d1 d2 : D} {v1 v2 : Value} {t e : TypeId} {n : Nat} {b : Bool} {op : BinOp} {x y : Operand} (ho : op = .eql ∨ op = .neq) (ht : ptrT P t = some e) (hn : Dx P e = some n) (h1 : VR w ρ S.heap d1 v1) (h2 : VR w ρ S.heap d2 v2) (h : eqpD S d1 d2 = some b) :
    ∃v,(do eqGuard op t x y v1 v2;binOp op t v1 v2).run P w=.ok v w∧VR w ρ S.heap (.bool (b != decide (op=.neq))) v:=by
  have hu:=ptrT_iff.1 ht
  have key:(∀d:Nat,(Op.equalIn (d+1) t v1 v2).run P w=.ok b w)→(eqGuard op t x y v1 v2).run P w=.ok () w→(op=.eql→binOp op t v1 v2=(do pure (.bool (←Op.equal t v1 v2))))→(op=.neq→binOp op t v1 v2=(do pure (.bool (!(←Op.equal t v1 v2))))) →
      ∃v,(do eqGuard op t x y v1 v2;binOp op t v1 v2).run P w=.ok v w∧VR w ρ S.heap (.bool (b != decide (op=.neq))) v:=by
    intro he hg hb1 hb2;have hq:(Op.equal t v1 v2).run P w=.ok b w:=he 9999;rcases ho with rfl | rfl
    · exact⟨.bool b,by rw[Ah hg,hb1 rfl,Ah hq];rfl,by cases b<;>exact .bool _⟩
    exact⟨.bool !b,by rw[Ah hg,hb2 rfl,Ah hq];rfl,by cases b<;>exact .bool _⟩
  unfold eqpD at h;split at h
  · simp only [Oi] at h;subst h;cases h1;cases h2;exact key (fun d=>by unfold Op.equalIn;rw[Ah (run_underlying hu w)];rfl) (by rcases ho with rfl | rfl<;>rfl) (by rintro rfl;rfl) (by rintro rfl;rfl)
  · simp only [Oi] at h;subst h;cases h1;cases h2;exact key (fun d=>by unfold Op.equalIn;rw[Ah (run_underlying hu w)];rfl) (by rcases ho with rfl | rfl<;>rfl) (by rintro rfl;rfl) (by rintro rfl;rfl)
  · simp only [Oi] at h;subst h;cases h1;cases h2;exact key (fun d=>by unfold Op.equalIn;rw[Ah (run_underlying hu w)];rfl) (by rcases ho with rfl | rfl<;>rfl) (by rintro rfl;rfl) (by rintro rfl;rfl)
  · simp only [Oi] at h;subst h;cases h1;cases h2;exact key (fun d=>by unfold Op.equalIn;rw[Ah (run_underlying hu w)];rfl) (by rcases ho with rfl | rfl<;>rfl) (by rintro rfl;rfl) (by rintro rfl;rfl)
  · simp only [Oi] at h;subst h;cases h1;cases h2;exact key (fun d=>by unfold Op.equalIn;rw[Ah (run_underlying hu w)];rfl) (by rcases ho with rfl | rfl<;>rfl) (by rintro rfl;rfl) (by rintro rfl;rfl)
  · rename_i g v i o g' v' i' o';split at h
    · rename_i ob ob' zu kL;split at h
      · rename_i kD;subst kD;simp only[Oi]at h
        cases h1 with | ptr _ _ _ _ a1 ob1 zi wY wF yu =>
        cases h2 with | ptr _ _ _ _ a2 ob2 uz wQ vH zX =>
        unfold rowsOf at zu kL;simp only[zi]at zu kL;rw[zi]at uz;injection uz with uz;subst uz;split at zu
        · rename_i e1;split at kL
          · rename_i e2;simp only[Oi]at zu kL;subst zu;obtain⟨b1,r1,rfl⟩:=yu e1;obtain⟨b2,r2,rfl⟩:=zX e2;rw[r1]at r2;injection r2 with r2;subst r2;obtain⟨i2,d2,yP,hd2,xJ,h0⟩:=D6 hn;refine key (fun d=>?_) (by rcases ho with rfl | rfl<;>rfl) (by rintro rfl;rfl) (by rintro rfl;rfl);unfold Op.equalIn;rw[Ah (run_underlying hu w)];simp only;rw[Ah (run_sizeOf hn)];have hn0:n≠0:=by omega
            simp only[hn0,ne_eq,not_false_eq_true,if_true];unfold sameAddr;simp only[beq_self_eq_true,if_true]
            have:((⟨b1,i*ob1.sz+o,none⟩:Addr)==⟨b1,i'*ob1.sz+o',none⟩)=b:=by
              rw[←h];by_cases hq:i*ob1.sz+o=i'*ob1.sz+o'
              · simp[hq]
              simp[hq]
            rw[this];rfl
          simp at kL
        simp at zu
      simp at h
    simp at h
  simp at h
theorem shape_of{b:Nat}{cur:Array Value}{e:TypeId}{f:Nat × Nat}(h:w.heap[b]?=some (.cells cur e f)):w.shape? b=some (e,cur.size):=by simp[World.shape?,h]
theorem whole_ptr{t:TypeId}{n:Nat}{x r:D}{v:Value}(hr:Rel w ρ S.heap)(hx:VR w ρ S.heap x v)(h:Qz S t n x=some r) :
  VR w ρ S.heap r v∧(v=.pointer none∨∃b,v=.pointer (some ⟨b,0,none⟩)∧w.shape? b=some (t,n)):=by
 unfold Qz at h;split at h
 ·
  simp only[Oi]at h;subst h;cases hx;exact⟨.nilp,.inl rfl⟩
 ·
  rename_i g ver;split at h
  ·
   rename_i ob zu;split at h
   ·
    rename_i hk;obtain⟨hk0,rfl,rfl,wF,vH⟩:=hk;simp only[Oi]at h;subst h;refine⟨hx,.inr ?_⟩
    cases hx with | ptr _ _ _ _ a ob1 hg hv xW hc =>
    unfold rowsOf at zu;simp only[hg]at zu;split at zu
    ·
     rename_i e1;simp only[Oi]at zu;subst zu;obtain⟨b,hb,rfl⟩:=hc e1;obtain⟨o1,xH,cur,xG,hz,⟨c,yM,yE,_,vg⟩,hl,wU,hh⟩:=hr.cel hb hg xW;rw[hg]at xH;injection xH with xH;subst xH;refine⟨b,by simp,?_⟩;rw[shape_of xG,yM,vg vH,wF,Nat.one_mul]
    simp at zu
   simp at h
  simp at h
 simp at h
theorem cellsOf_size{t:TypeId}{n:Nat}(h:Dx P t=some n):P.cellsOf t=n:=by
 obtain⟨i,d,hi,hd,xJ,h0⟩:=D6 h;simp[Program.cellsOf,hi,xJ]
theorem toU_ok{s d t:TypeId}{n:Nat}{x r:D}{v:Value}(hr:Rel w ρ S.heap)(hs:ptrT P s=some t)(hd:unsT P d=true)(hn:Dx P t=some n)(hx:VR w ρ S.heap x v)(h:Qz S t n x=some r) :
  (convert s d v).run P w=.ok v w∧VR w ρ S.heap r v:=by
 obtain⟨h1,h2⟩:=whole_ptr hr hx h;refine⟨?_,h1⟩;obtain⟨i,td,hi,htd,xJ,h0⟩:=D6 hn;rcases h2 with rfl | ⟨b,rfl,hsh⟩
 ·
  simp[convert,run_underlying (ptrT_iff.1 hs),run_underlying (unsT_iff.1 hd),Conv.unsafePointer]
 exact Lib.run_to_unsafe w ⟨b,0,none⟩ (ptrT_iff.1 hs) (unsT_iff.1 hd) hi (by omega) hsh (by simpa using h0)
theorem liesAt_whole{t:TypeId}{n:Nat}(hc:P.cellsOf t=n)(h0:0<n):liesAt P P.depth t (n / P.cellsOf t) 0 t 1=true:=by
 have hd:P.depth=(2*(P.types.size+Made.depth)+1)+1:=rfl;rw[hd];simp only[liesAt,Bool.or_eq_true];left;rw[hd];have h1:n / n=1:=Nat.div_self h0;have hn0:n≠0:=by omega
 simp[rowAt,hc,h1,sameLayout,hn0]
theorem ofU_ok{s d t:TypeId}{n:Nat}{x r:D}{v:Value}(hr:Rel w ρ S.heap)(hs:unsT P s=true)(hd:ptrT P d=some t)(hn:Dx P t=some n)(hx:VR w ρ S.heap x v)(h:Qz S t n x=some r) :
  (convert s d v).run P w=.ok v w∧VR w ρ S.heap r v:=by
 obtain⟨h1,h2⟩:=whole_ptr hr hx h;refine⟨?_,h1⟩;obtain⟨i,td,hi,htd,xJ,h0⟩:=D6 hn;rcases h2 with rfl | ⟨b,rfl,hsh⟩
 ·
  simp[convert,run_underlying (unsT_iff.1 hs),run_underlying (ptrT_iff.1 hd),Conv.unsafePointer]
 exact Lib.run_from_unsafe w ⟨b,0,none⟩ (unsT_iff.1 hs) (ptrT_iff.1 hd) hi hsh (liesAt_whole (cellsOf_size hn) h0)
theorem sdata_ok {ts : Array TypeId} {ty : TypeId} {x r : D} {v : Value} (hr : Rel w ρ S.heap) (hx : VR w ρ S.heap x v) (h : sdataD S x = some r) : ∃ u, (Builtin.unsafeSliceData_ ts ty #[v]).run P w = .ok u w ∧ VR w ρ S.heap r u := by
  unfold sdataD at h;split at h
  · simp only [Oi] at h;subst h;cases hx;exact⟨_,Lib.run_unsafeSliceData_nil w ts ty 0 0,.nilp⟩
  · rename_i g ver m;split at h
    · rename_i ob zu;split at h
      · simp only [Oi] at h;subst h
        cases hx with | msl _ _ _ _ _ A c ob1 yc xE hg hv xW hc =>
        refine⟨_,Lib.run_unsafeSliceData_row w ts ty A _ c (by omega),.ptr g ver 0 0 A ob1 hg hv xW fun e=>?_⟩;obtain⟨b,hb,_,hA,_⟩:=hc e;exact⟨b,hb,by rw[hA (.inr rfl)];simp⟩
      simp at h
    simp at h
  simp at h
theorem freeze_set{b n:Nat}{cur:Array Value}{e:TypeId}(h:w.heap[b]?=some (.cells cur e (0,0)))(o:Nat)(hn:n≠0):Aaj w (w.freeze ⟨b,o,none⟩ n) b (.cells cur e (o,o+n)):=by
  have xO:=lt_of_heap h;refine⟨by simp[World.freeze,hn],by simp[World.freeze,hn],by simp[World.freeze,hn],by simp[World.freeze,hn],?_,fun k hk=>?_⟩
  · simp[World.freeze,hn,Array.getElem?_modify,h]
  simp[World.freeze,hn,Array.getElem?_modify,Ne.symm hk]
theorem Zl : ∀ {rows : List (List D)} {l : List UInt8}, Ti rows = some l → rows.length = l.length ∧ ∀ (j : Nat) (x : UInt8), l[j]? = some x → rows[j]? = some [D.int .u8 (x.toNat : Int)]
  | [], l, h => by
    simp only[Ti,Oi]at h;subst h;exact⟨rfl,fun j x h=>by simp at h⟩
  | r :: rows, l, h => by
    unfold Ti at h;split at h
    · simp at *
    · rename_i n l' vW;simp only[List.cons.injEq]at vW;obtain⟨rfl,rfl⟩:=vW;split at h
      · rename_i hb;simp only[Om]at h;obtain⟨l2,zF,rfl⟩:=h;obtain⟨h1,h2⟩:=Zl zF;refine⟨by simp[h1],fun j x hj=>?_⟩
        cases j with
        | zero =>
          simp at hj;subst hj;have:(UInt8.ofNat n.toNat).toNat=n.toNat:=by simp;omega
          simp[this];omega
        | succ j=>simpa using h2 j x (by simpa using hj)
      simp at h
    simp at h
theorem ustr_ok {pt it ty e : TypeId} {p r : D} {n : Int} {v : Value} {S' : St} {wr : Bool} (hr : Rel w ρ S.heap) (hp : ptrT P pt = some e) (hc : Dx P e = some 1) (hx : VR w ρ S.heap p v) (h : ustrD S e p n = some (r, S', wr)) :
    ∃u w',(Builtin.unsafeString_ #[pt,it] ty #[v,.int .i64 n]).run P w=.ok u w'∧Aaf w ρ S r S' wr u w':=by
  unfold ustrD at h;split at h
  · split at h
    · rename_i hn;subst hn;simp only[Oi,Pi_]at h;obtain⟨rfl,rfl,rfl⟩:=h;cases hx;exact⟨_,w,Lib.run_unsafeString_none w pt it ty none,Aaf.pure hr (.str _)⟩
    simp at h
  · rename_i g ver;split at h
    · rename_i ob zu;split at h
      · rename_i y7;obtain⟨hkind,xJ,he,hn,wS⟩:=y7;split at h
        · rename_i l hl;simp only[Oi,Pi_]at h;obtain⟨rfl,rfl,rfl⟩:=h
          cases hx with | ptr _ _ _ _ a ob1 hg hv xW vK =>
          unfold rowsOf at zu;simp only[hg]at zu;split at zu
          · rename_i e1;simp only[Oi]at zu;subst zu;subst e1;obtain⟨b,hb,rfl⟩:=vK rfl;obtain⟨o1,xH,cur,xG,hz,⟨c,yM,yE,uS,vg⟩,yY,wU,hh⟩:=hr.cel hb hg xW;rw[hg]at xH;injection xH with xH;subst xH;obtain⟨xg,hat0⟩:=Zl hl
            have hat:∀(j:Nat) (x:UInt8),l[j]?=some x→ob1.rows[j]?=some [D.int .u8 (x.toNat:Int)]:=fun j x hj=>by
              have h1:=hat0 j x hj;rw[List.getElem?_take]at h1;split at h1
              · exact h1
              simp at h1
            rw[List.length_take,Nat.min_eq_left wS]at xg;obtain⟨m,rfl⟩:∃m:Nat,n=m:=⟨n.toNat,by omega⟩;simp only[Int.toNat_natCast]at xg wS;subst he;subst xg;by_cases xw:l=[]
            · subst xw;simp only[List.length_nil];refine⟨_,w,Lib.run_unsafeString_none w pt it ty _,updN ρ g,?_,?_,.str _,by simp⟩
              · exact rel_drop (o':={ ob1 with ver:=ob1.ver+1 }) hr hb hg xG (⟨rfl,rfl,rfl,rfl,xG,fun _ _=>rfl⟩:Aaj w w b (.cells cur ob1.elem (0,0))) (by simp) rfl
              exact Q4 (o':={ ob1 with ver:=ob1.ver+1 }) hr hb hg xG (⟨rfl,rfl,rfl,rfl,xG,fun _ _=>rfl⟩:Aaj w w b (.cells cur ob1.elem (0,0))) (by simp) rfl
            have kN:l.length≠0:=by simpa using xw
            have xM:=freeze_set xG 0 kN
            have xA:=Lib.run_unsafeString_row (P:=P) w pt it ty ob1.elem (ptrT_iff.1 hp) (cellsOf_size hc) b cur.size (shape_of xG) l xw (by rw[yM,xJ];omega) (by unfold maxLen at uS;omega) (fun j x hj=>by
              have xX:=hat j x hj;obtain⟨_,_,v,wY,wQ⟩:=hh j _ 0 _ xX rfl;cases wQ;rw[add_plain,Nat.zero_add];simp only[World.cell?,xG]
              simpa [xJ] using wY)
            simp only[Nat.zero_mul,Nat.zero_add]at xA ⊢;refine⟨_,_,xA,updN ρ g,?_,?_,.str _,by simp⟩
            · exact rel_drop (o':={ ob1 with ver:=ob1.ver+1 }) hr hb hg xG xM (by simp) rfl
            exact Q4 (o':={ ob1 with ver:=ob1.ver+1 }) hr hb hg xG xM (by simp) rfl
          simp at zu
        simp at h
      simp at h
    simp at h
  simp at h
theorem strsh_ok {s e : TypeId} {x r : D} {v : Value} {S' : St} {wr : Bool} (hr : Rel w ρ S.heap) (hs : P.underlying s = some (.slice e)) (he : P.underlying e = some (.int .u8)) (hx : VR w ρ S.heap x v) (h : strshD S x = some (r, S', wr)) :
    ∃u w',(convert s s v).run P w=.ok u w'∧Aaf w ρ S r S' wr u w':=by
  unfold strshD at h;split at h
  · rename_i g ver n;split at h
    · rename_i ob zu;split at h
      · rename_i y7;obtain⟨vH,xJ,rfl,hgr⟩:=y7;simp only[Oi,Pi_]at h;obtain⟨rfl,rfl,rfl⟩:=h
        cases hx with | msl _ _ _ _ _ A c ob1 yc xE hg hv xW hc =>
        unfold rowsOf at zu;simp only[hg]at zu;split at zu
        · rename_i e1;simp only[Oi]at zu;subst zu;subst e1;obtain⟨b,hb,xU,hA,vK⟩:=hc rfl;obtain⟨o1,xH,cur,xG,hz,⟨cc,yM,yE,uS,vg⟩,yY,wU,hh⟩:=hr.cel hb hg xW;rw[hg]at xH;injection xH with xH;subst xH;obtain⟨cur1,yu,zX⟩:=vK rfl;rw[xG]at yu;injection yu with yu;injection yu with yu;subst yu
          have hce:c=ob1.rows.length:=by
            have h1:=vg hgr;rw[yM,h1,xJ]at zX;omega
          have hA0:=hA (.inr rfl);simp only[Nat.zero_mul]at hA0;subst hA0;have xM:=freeze_set xG cur.size (show (1:Nat)≠0 by decide)
          have xA:(convert s s (.slice (some ⟨b,0,none⟩) ob1.rows.length c)).run P w=.ok (.slice (some ⟨b,0,none⟩) ob1.rows.length c) (w.freeze ⟨b,cur.size,none⟩ 1):=by
            simp[convert,run_underlying hs,run_underlying he,markStringish,shape_of xG]
          refine⟨_,_,xA,updN ρ g,rel_drop (o':={ ob1 with ver:=ob1.ver+1 }) hr hb hg xG xM (by simp) rfl,Q4 (o':={ ob1 with ver:=ob1.ver+1 }) hr hb hg xG xM (by simp) rfl,?_,by simp⟩;have xP:=Q4 (o':={ ob1 with ver:=ob1.ver+1 }) hr hb hg xG xM (by simp) rfl;refine .sl 1 ob1.rows (some ob1.rows.length) ⟨b,0,none⟩ ob1.rows.length c rfl yc (fun k hk=>by simp at hk;omega) (fun r hr'=>by rw[yY r hr',xJ]) b 0 (fun i j=>(cur[i*1+j]?).getD .nilFunc) (fun _=>rfl) (fun i r j d hi hj=>?_) (fun i r j d hi hj=>?_)
          · obtain ⟨q1, q2, u, q3, q4⟩ := hh i r j d hi hj;rw[xJ]at q3;refine⟨?_,⟨by rw[xM.size];exact lt_of_heap xG,?_,?_⟩,q2 (by omega)⟩
            · simp only[World.cell?,xM.new,Nat.zero_add,q3,Option.isSome_none,Bool.false_eq_true,if_false,Option.getD_some]
            · intro hX;exact (hr.hid b _ hX).2 g hb
            intro g' hg';simp only[updN]at hg';split at hg'
            · simp at hg'
            rename_i xw;exact absurd (hr.inj g' g b hg' hb) xw
          obtain⟨q1,q2,u,q3,q4⟩:=hh i r j d hi hj;rw[xJ]at q3;rw[q3];exact q4.mono xP
        simp at zu
      simp at h
    simp at h
  simp at h
theorem rngs_ok{t:TypeId}{s:ByteArray}(hr:Rel w ρ S.heap)(ht:P.underlying t=some .string):∃v w',(Instr.range t (.string s)).run P w=.ok v w'∧Aaf w ρ S (.iter S.heap.length 0) (newAt S ⟨1,2,[[.str s,.int .i64 0]],0,3,false⟩) true v w':=by
  have xB:=Aai.alloc w (.stringIter s 0);refine⟨.pointer (some ⟨w.heap.size,0,none⟩),w.alloc (.stringIter s 0),?_,_,rel_newiter (ob:=⟨1,2,[[.str s,.int .i64 0]],0,3,false⟩) hr xB rfl (show (1:Nat)≠0 by decide) rfl,Hz hr xB,?_,by simp⟩
  · unfold Instr.range;rw[Ah (run_underlying ht w)];rfl
  exact .iter _ 0 _ ⟨1,2,[[.str s,.int .i64 0]],0,3,false⟩ (by simp[newAt]) (Nat.le_refl _) (fun _=>by simp[upd])
theorem Yv{b pos:Nat}{s:ByteArray}(h:w.heap[b]?=some (.stringIter s pos)):(getObj b).run P w=.ok (.stringIter s pos) w:=by
 simp[getObj,Sem.run,h]
theorem run_setIter{b pos:Nat}{s:ByteArray}{o:Obj}(h:w.heap[b]?=some (.stringIter s pos)):(setObj b o).run P w=.ok () { w with heap:=w.heap.setIfInBounds b o }:=by
 simp[setObj,Sem.run,h]
theorem nexts_ok {ty : TypeId} {g ver : Nat} {r : D} {v : Value} {S' : St} {wr : Bool} (hr : Rel w ρ S.heap) (hx : VR w ρ S.heap (.iter g ver) v) (h : nextsD S g ver = some (r, S', wr)) :
    ∃u w',(Instr.next v true ty).run P w=.ok u w'∧Aaf w ρ S r S' wr u w':=by
  unfold nextsD at h;split at h
  · rename_i ob zu;split at h
    · rename_i hk;split at h
      · rename_i s pos xC
        cases hx with | iter _ _ b ob1 hg hv hc =>
        unfold rowsOf at zu;simp only[hg]at zu;split at zu
        · rename_i e1;simp only[Oi]at zu;subst zu;subst e1;have hb:=hc rfl;obtain⟨s1,p1,h1,h2⟩:=hr.iter hb hg hk.1 (by rw[hk.2];decide);rw[xC]at h2;simp only[List.cons.injEq,D.str.injEq,D.int.injEq,and_true,true_and]at h2;obtain⟨rfl,rfl⟩:=h2;rw[Int.toNat_natCast]at h;have yc:∀c e f,Obj.stringIter s p1≠.cells c e f:=fun _ _ _ e=>by cases e
          have uV:=lt_of_heap h1;split at h
          · rename_i xO;simp only[Oi,Pi_]at h;obtain⟨rfl,rfl,rfl⟩:=h;have xM:=Aaj.setObj (w:=w) (o:=.stringIter s (p1+(Utf8.decode s p1).2)) uV;refine⟨.tuple #[.bool true,goInt p1,.int .i32 (Utf8.decode s p1).1],_,?_,ρ,rel_iter hr hb hg hk.1 (by rw[hk.2];decide) h1 yc xM ⟨rfl,rfl,rfl,by simp[xC],rfl⟩ rfl,Ob hr hb hg hk.1 h1 yc xM ⟨rfl,rfl,rfl,by simp[xC],rfl⟩,?_,by simp⟩
            · unfold Instr.next
              simp only;rw[Ah (Yv h1)];simp only[xO,if_true];rw[Ah (run_setIter h1)];rfl
            have hv:VL w ρ S.heap [D.bool true,.int .i64 p1,.int .i32 (Utf8.decode s p1).1] [.bool true,goInt p1,.int .i32 (Utf8.decode s p1).1]:=.cons (.bool _) (.cons (.int _ _) (.cons (.int _ _) .nil));have xP:=Ob hr hb hg hk.1 h1 yc xM (o':={ ob1 with rows:=[[.str s,.int .i64 (p1+(Utf8.decode s p1).2:Nat)]] }) ⟨rfl,rfl,rfl,by simp[xC],rfl⟩;exact .tup _ [.bool true,goInt p1,.int .i32 (Utf8.decode s p1).1] rfl (fun j d v e1 e2=>(hv.get e1 e2).mono xP)
          rename_i xO;simp only[Oi,Pi_]at h;obtain⟨rfl,rfl,rfl⟩:=h;refine⟨.tuple #[.bool false],w,?_,Aaf.pure hr (.tup [.bool false] [.bool false] rfl (fun j d v=>VL.get (.cons (.bool _) .nil)))⟩;unfold Instr.next
          simp only;rw[Ah (Yv h1)];simp only[xO,if_false];rfl
        simp at zu
      simp at h
    simp at h
  simp at h
theorem ext_none : Extern.allNextRows.lookup "" = none := by kernel_rfl
theorem ext_idx : Extern.allNextRows.lookup "internal/bytealg.IndexByteString" = none ∧ Extern.allGenericRows.lookup "internal/bytealg.IndexByteString" = none ∧ Extern.allTypedRows.lookup "internal/bytealg.IndexByteString" = none ∧ Extern.allRows.lookup "internal/bytealg.IndexByteString" = some Extern.BytealgIndexByte.indexByte := ⟨by kernel_rfl, by kernel_rfl, by kernel_rfl, by kernel_rfl⟩
theorem ext_cnt : Extern.allNextRows.lookup "internal/bytealg.CountString" = none ∧ Extern.allGenericRows.lookup "internal/bytealg.CountString" = none ∧ Extern.allTypedRows.lookup "internal/bytealg.CountString" = none ∧ Extern.allRows.lookup "internal/bytealg.CountString" = some Extern.BytealgCount.count := ⟨by kernel_rfl, by kernel_rfl, by kernel_rfl, by kernel_rfl⟩
theorem ext_esc : Extern.allNextRows.lookup "internal/abi.NoEscape" = none ∧ Extern.allGenericRows.lookup "internal/abi.NoEscape" = none ∧ Extern.allTypedRows.lookup "internal/abi.NoEscape" = none ∧ Extern.allRows.lookup "internal/abi.NoEscape" = some Extern.AbiNoEscape.same := ⟨by kernel_rfl, by kernel_rfl, by kernel_rfl, by kernel_rfl⟩
theorem run_ext {f : FuncId} {fn : Func} {name : String} {g : Array Value → Sem Value} {vs : Array Value} {v : Value} {w' : World} (hf : P.funcs[f]? = some fn) (hb : fn.body.isNone = true) (hn : fn.name = name) (ho : fn.origin = "") (xw : (name == "runtime.NumGoroutine") = false)
  (hx:Extern.allNextRows.lookup name=none∧Extern.allGenericRows.lookup name=none∧Extern.allTypedRows.lookup name=none∧Extern.allRows.lookup name=some g) (h:(g vs).run P w=.ok v w'):(callFunc f vs).run P w=.ok (.value v) w':=by
 obtain⟨h1,h2,h3,h4⟩:=hx;have hp:Sem.run P program w=.ok P w:=rfl;have zV:Extern.findNext fn=none:=by simp[Extern.findNext,hn,ho,h1,ext_none]
 have hfd:Extern.find fn=some g:=by simp[Extern.find,hn,h2,h3,h4]
 unfold callFunc;rw[Ah hp];simp only[hf];rw[if_neg (by rw[hn,xw];simp),if_pos hb];rw[Ah (a:=()) (w':=w) rfl];simp only[zV,hfd];rw[Ah h];rfl
theorem idxb_run{s:ByteArray}{c:Int}:(Extern.BytealgIndexByte.indexByte #[.string s,.int .u8 c]).run P w=.ok (.int .i64 (match (List.range s.size).find? (fun i=>s[i]! == UInt8.ofNat c.toNat) with | some i=>(i:Int) | none=>-1)) w:=by
 have hdef:Extern.BytealgIndexByte.indexByte #[.string s,.int .u8 c]=(do
   let b ←Extern.Bytes.bytesOf (.string s)
   let c ←Extern.Bytes.asByte (.int .u8 c)
   match (List.range b.size).find? fun i=>b[i]! == c with
   | some i=>pure (goInt i)
   | none=>pure (goInt (-1))):=rfl
 rw[hdef,Ah (a:=s) (w':=w) rfl,Ah (a:=UInt8.ofNat c.toNat) (w':=w) rfl];cases (List.range s.size).find? (fun i=>s[i]! == UInt8.ofNat c.toNat)<;>rfl
theorem cntb_run{s:ByteArray}{c:Int}:(Extern.BytealgCount.count #[.string s,.int .u8 c]).run P w=.ok (.int .i64 (s.foldl (fun n x=>if x==UInt8.ofNat c.toNat then n+1 else n) (0:Nat))) w:=by
 have hdef:Extern.BytealgCount.count #[.string s,.int .u8 c]=(do
   let b ←Extern.Bytes.bytesOf (.string s)
   let c ←Extern.Bytes.asByte (.int .u8 c)
   pure (goInt (b.foldl (fun n x=>if x==c then n+1 else n) (0:Nat)))):=rfl
 rw[hdef,Ah (a:=s) (w':=w) rfl,Ah (a:=UInt8.ofNat c.toNat) (w':=w) rfl];rfl
theorem appNoneS{t u ty e:TypeId}{i:TypeInfo}(ht:P.underlying t=some (.slice e))(hu:P.underlying u=some .string)(hi:P.info? e=some i){A:Option Addr}{n c:Nat}(yc:n≤c){s:ByteArray}(hs:s.size=0) :
  (Builtin.append_ #[t,u] ty #[.slice A n c,.string s]).run P w=.ok (.slice A n c) w:=by
 cases A with
 | none=>simp[Builtin.append_,run_underlying ht,run_underlying hu,sizeOf,typeInfo,hi,Builtin.lenOf,Builtin.firstCells,yc,hs]
 | some a=>simp[Builtin.append_,run_underlying ht,run_underlying hu,sizeOf,typeInfo,hi,Builtin.lenOf,Builtin.firstCells,yc,hs,storeCells]
theorem appstr_ok{t u ty e:TypeId}{i:TypeInfo}{kind:Nat}{z:List D}{s r:D}{vs:Value}{str:ByteArray}{S':St}{wr:Bool}(hr:Rel w ρ S.heap)(ht:P.underlying t=some (.slice e))(hu:P.underlying u=some .string)(hi:P.info? e=some i)(hn:Dx P e=some 1)(hz:Ji P e=some z)(hzl:z.length=1)(hb:0<i.bytes)(hk:kind=0∨kind=1∨kind=2)
    (hs:VR w ρ S.heap s vs) (h:Bo e 1 i.bytes kind s (Ea str) S=some (r,S',wr)) :
    ∃v w',(Builtin.append_ #[t,u] ty #[vs,.string str]).run P w=.ok v w'∧Aaf w ρ S r S' wr v w':=by
  obtain⟨i1,zv,wG,wP,hzc,_,_⟩:=Hl (w:=w) (ρ:=ρ) (H:=S.heap) hz;rw[hi]at wG;injection wG with wG;subst wG;obtain⟨i2,d2,yP,hd2,xJ,h0⟩:=D6 hn;rw[hi]at yP;injection yP with yP;subst yP;have xg:(Ea str).length=str.size:=by simp[Ea]
  refine Zm hr hi hn hzc hzl hb hk hs (fun r hr'=>by
    simp only[Ea,List.mem_map]at hr';obtain⟨b,_,rfl⟩:=hr'
    rfl) ?_ ?_ h
  · intro xw A m c hm;exact appNoneS ht hu hi hm (by rw[←xg,xw];rfl)
  intro xw;refine⟨Lib.strCells str,by rw[Lib.strCells_length,xg,Nat.mul_one],Lib.strCells_oneCell str,fun i r j d hi' hj=>?_,fun zY k1 k2=>?_,fun bb sLen sCap olds xU holds hg k1 k2=>?_,fun g sLen sCap cur hg wI yO=>?_⟩
  · simp only [Ea, Lp_, Om] at hi';obtain⟨b,hb',rfl⟩:=hi';have hj0:j=0:=by have:=lt_of_some hj;simp at this;exact this
    subst hj0;simp at hj;subst hj;refine⟨rfl,fun _=>rfl,.int .u8 b.toNat,?_,.int _ _⟩;simp[Lib.strCells,hb']
  · rw [xg] at zY k1 k2 ⊢;have:=run_append_nil_string (P:=P) w t u ty e i zv ht hu hi wP str zY k1 k2;have e:Array.map (fun b:UInt8=>Value.int .u8 (b.toNat:Int)) str.data=(Lib.strCells str).toArray:=by apply Array.ext';simp[Lib.strCells]
    rw[this,e]
  · rw [xg] at hg k1 k2 ⊢;exact Lib.run_append_grow_string (P:=P) w t u ty e i zv ht hu hi wP bb sLen sCap olds xU holds str hg k1 k2
  rw[xg]at wI ⊢;rw[Lib.strCells_length,xJ,Nat.mul_one]at yO ⊢;exact Lib.run_append_room_string (P:=P) w t u ty e i ht hu hi xJ g sLen sCap cur hg str wI yO
theorem appmk_ok{t u ty e:TypeId}{i:TypeInfo}{n:Nat}{z:List D}{k kn:IntKind}{m:Int}{r:D}{S':St}{wr:Bool}(hr:Rel w ρ S.heap)(ht:P.underlying t=some (.slice e))(hu:P.underlying u=some (.int kn))(hi:P.info? e=some i)(hn:Dx P e=some n)(hz:Ji P e=some z)(hzl:z.length=n){kd:Nat}(qY:kd=0∨kd=2)(hb:0<i.bytes)
    (h:(if 0<m∧m.toNat*i.bytes≤140737488355328 then some (D.msl S.heap.length 0 0 m.toNat none,newAt S ⟨e,n,List.replicate m.toNat z,0,kd,true⟩,true) else none)=some (r,S',wr)) :
    ∃v w',(Builtin.append_ #[t,u] ty #[.slice none 0 0,.int k m]).run P w=.ok v w'∧Aaf w ρ S r S' wr v w':=by
  obtain⟨i1,zv,wG,wP,hzc,xu,yC⟩:=Hl (w:=w) (ρ:=ρ) (H:=S.heap) hz;rw[hi]at wG;injection wG with wG;subst wG;obtain⟨i2,d2,yP,hd2,xJ,h0⟩:=D6 hn;rw[hi]at yP;injection yP with yP;subst yP;split at h
  · rename_i hc;obtain⟨hm,hby⟩:=hc;simp only[Oi,Pi_]at h;obtain⟨rfl,rfl,rfl⟩:=h;obtain⟨q,rfl⟩:∃q:Nat,m=q:=⟨m.toNat,by omega⟩;rw[Int.toNat_natCast]at hby ⊢;have h1:q*1≤q*i.bytes:=Nat.mul_le_mul_left _ hb;have hq:0<q:=by omega
    have hml:q≤maxLen:=by simp only[maxLen];omega
    have xA:=Lib.run_append_nil_zeros (P:=P) w t u ty e i zv k kn ht hu hi wP q hq (by rw[xJ];exact h0) (by omega) (by omega);have xB:=Aai.drewAlloc w (.cells (Builtin.zeroCells zv.cells q++Builtin.zeroCells zv.cells (grownCap w q 0 e-q)) e);have ug:=grownCap_ge w q 0 e;have uS:=grownCap_le_maxLen w q 0 e hml;subst hzl;have hzs:zv.cells.size=z.length:=hzc.1
    have vJ:(Builtin.zeroCells zv.cells q++Builtin.zeroCells zv.cells (grownCap w q 0 e-q)).size=grownCap w q 0 e*z.length:=by
      simp only[Array.size_append,size_zeroCells,hzs,←Nat.add_mul];congr 1;omega
    have yB:=RowsIn.replicate (kk:=True) hzc xu yC q h0
    have xC:∀i' r' j d,(List.replicate q z)[i']?=some r'→r'[j]?=some d→d.Aag=true∧d.free=true∧∃v,(Builtin.zeroCells zv.cells q++Builtin.zeroCells zv.cells (grownCap w q 0 e-q))[i'*z.length+j]?=some v∧VR w ρ S.heap d v:=by
      intro i' r' j d hi' hj;obtain⟨q1,q2,v,q3,q4⟩:=yB.2 i' r' j d hi' hj;refine⟨q1,q2 trivial,v,?_,q4⟩;have e1:Builtin.zeroCells zv.cells q=(Array.range (q*z.length)).map (zv.cells[· % zv.cells.size]!):=by rw[←hzs];rfl
      rw[←e1]at q3;rw[Array.getElem?_append_left (Array.getElem?_eq_some_iff.1 q3).1];exact q3
    refine⟨_,_,xA,_,Nb (ob:=⟨e,z.length,List.replicate q z,0,kd,true⟩) hr xB h0 ⟨_,vJ,by simpa using ug,uS,by simp⟩ (fun r hr'=>by rw[List.eq_of_mem_replicate hr']) (qY.elim .inl fun h=>.inr (.inr h)) (fun i' r' j d hi' hj=>?_),Hz hr xB,?_,by simp⟩
    · obtain ⟨q1, q2, q3⟩ := xC i' r' j d hi' hj;exact⟨q1,fun _=>q2,q3⟩
    refine .msl _ 0 0 _ none _ _ ⟨e,z.length,List.replicate q z,0,kd,true⟩ ug (fun k hk=>by cases hk) (by simp[newAt]) (Nat.le_refl _) (by show kd≠3;omega) fun _=>⟨w.heap.size,by simp[upd],by simp,fun _=>by simp,fun _=>⟨_,xB.new,by simpa using vJ⟩⟩
  simp at h
end
open Go.RowKit
section
variable {P:Program} {w:World} {ρ:Aaa} {S:St}
theorem over_rows{run:Sem Value}{kind g ver lo n m c:Nat}{cap:Option Nat}{A:Addr}{ob:Z9}{new:List (List D)}{news:List Value}
    (hr:Rel w ρ S.heap) (hs:VR w ρ S.heap (.msl g ver lo n cap) (.slice (some A) n c)) (hg:S.heap[g]?=some ob) (hv:ob.ver=ver) (xJ:ob.sz=1) (wU:kW kind ob.kind=true)
    (hm:new.length=m) (hmn:m≤n) (wS:news.length=m) (hnew1:∀r∈new,r.length=1)
    (uw:∀(i:Nat) (d:D),new[i]?=some [d]→d.Aag=true∧(kind≠0→d.free=true)∧∃v,news[i]?=some v∧VR w ρ S.heap d v)
    (rC:m=0→run.run P w=.ok (goInt 0) w)
    (xA:∀(b o:Nat) (cur:Array Value) (e:TypeId),m≠0→w.heap[b]?=some (.cells cur e (0,0))→o+m≤cur.size→A=⟨b,o,none⟩→run.run P w=.ok (goInt ((m:Nat):Int)) (w.setRow b (cur.toList.take o++news++cur.toList.drop (o+m)).toArray)) :
    ∃v w',run.run P w=.ok v w'∧Aaf w ρ S (.int .i64 m) (setAt S g { ob with rows:=ob.rows.take lo++new++ob.rows.drop (lo+m) }) true v w':=by
  cases hs with
  | msl _ _ _ _ _ _ _ ob1 yc xE zi yI xW xG =>
  rw[hg]at zi;injection zi with zi;subst zi;obtain⟨b,hρ,xU,hA,_⟩:=xG hv;obtain⟨o1,xH,cur,hc,hz,⟨cc,yM,yE,uS,vg⟩,hl,hkk',hh⟩:=hr.cel hρ hg xW;rw[hg]at xH;injection xH with xH;subst xH;obtain⟨hk01,hkf,hkf'⟩:=kW_ok wU;rw[xJ]at hl hh yM hA;simp only[Nat.mul_one]at yM hh hA
  have hrl':(ob.rows.take lo++new++ob.rows.drop (lo+m)).length=ob.rows.length:=by
    simp only[Ll_,List.length_take,List.length_drop];omega
  have wu:({ ob with rows:=ob.rows.take lo++new++ob.rows.drop (lo+m) }:Z9).sz=ob.sz∧({ ob with rows:=ob.rows.take lo++new++ob.rows.drop (lo+m) }:Z9).elem=ob.elem∧({ ob with rows:=ob.rows.take lo++new++ob.rows.drop (lo+m) }:Z9).kind=ob.kind∧ob.rows.length≤({ ob with rows:=ob.rows.take lo++new++ob.rows.drop (lo+m) }:Z9).rows.length∧ob.ver≤({ ob with rows:=ob.rows.take lo++new++ob.rows.drop (lo+m) }:Z9).ver:=⟨rfl,rfl,rfl,by show ob.rows.length≤(ob.rows.take lo++new++ob.rows.drop (lo+m)).length;omega,Nat.le_refl _⟩
  have uO:∀r∈ob.rows.take lo++new++ob.rows.drop (lo+m),r.length=ob.sz:=by
    intro r hr';rw[xJ];rcases List.mem_append.1 hr' with h1 | h1
    · rcases List.mem_append.1 h1 with h2 | h2
      · exact hl r (List.mem_of_mem_take h2)
      exact hnew1 r h2
    exact hl r (List.mem_of_mem_drop h1)
  by_cases hm0:m=0
  · have hnew : new = [] := List.eq_nil_of_length_eq_zero (hm.trans hm0);subst hnew;have xM:Aaj w w b (.cells cur ob.elem (0,0)):=⟨rfl,rfl,rfl,rfl,hc,fun _ _=>rfl⟩;have yQ:ob.rows.take lo++[]++ob.rows.drop (lo+m)=ob.rows:=by rw[hm0];simp
    refine⟨_,w,rC hm0,ρ,P9 xW hr hρ hg hc xM rfl wu (fun _ _ _=>rfl) ⟨cc,by rw[xJ,Nat.mul_one];exact yM,by show _≤cc;rw[yQ];exact yE,uS,by intro h;show _=(_:List (List D)).length;rw[yQ];exact vg h⟩ uO (by rw[show ({ ob with rows:=ob.rows.take lo++[]++ob.rows.drop (lo+m) }:Z9).rows=ob.rows from yQ];intro i r j d h1 h2;have:=hh i r j d h1 h2;simpa [xJ] using this),Oa hr hρ hg hc xM rfl wu (fun _ _ _=>rfl),by rw[hm0];exact .int _ _,by simp⟩
  have hA0:=hA (.inl (by omega));have yO:lo+m≤cur.size:=by omega
  have hrn:=xA b lo cur ob.elem hm0 hc yO hA0;have xM:=Aaj.setRow (cs:=(cur.toList.take lo++news++cur.toList.drop (lo+m)).toArray) hc
  have yj:∀q:Nat,(cur.toList.take lo++news++cur.toList.drop (lo+m)).toArray[q]?=if lo≤q∧q<lo+m then news[q-lo]? else cur[q]?:=by
    intro q;have:=P5 (cur:=cur.toList) (vs:=news) (o:=lo) (by rw[wS];simpa using yO) q;rw[wS]at this;simpa using this
  have y9:(cur.toList.take lo++news++cur.toList.drop (lo+m)).toArray.size=cur.size:=by
    simp only[List.size_toArray,Ll_,List.length_take,List.length_drop,Array.length_toList];omega
  generalize (cur.toList.take lo++news++cur.toList.drop (lo+m)).toArray=cur' at xM yj y9 hrn;have uy:ob.kind=1→∀q,q<ob.rows.length*ob.sz→cur'[q]?=cur[q]?:=fun h=>absurd h hk01
  have xC:∀i' r' j d,(ob.rows.take lo++new++ob.rows.drop (lo+m))[i']?=some r'→r'[j]?=some d→d.Aag=true∧(ob.kind≠0→d.free=true)∧∃v,cur'[i'*ob.sz+j]?=some v∧VR w ρ S.heap d v:=by
    intro i' r' j d hi' hj;have yG:=uO r' (Lm hi');rw[xJ]at yG ⊢;obtain⟨d',rfl⟩:∃d',r'=[d']:=List.length_eq_one_iff.1 yG;have hj0:j=0:=by have:=lt_of_some hj;simp at this;exact this
    subst hj0;simp only[Lz,Oi]at hj;subst hj;simp only[Nat.mul_one,Nat.add_zero];have qV:(ob.rows.take lo).length=lo:=by rw[List.length_take];omega
    rw[Lo_]at hi';by_cases c1:i'<lo
    · rw [La_ (by omega), List.getElem?_take_of_lt c1] at hi';obtain⟨q1,q2,v,q3,q4⟩:=hh i' _ 0 d' hi' rfl;refine⟨q1,q2,v,?_,q4⟩;rw[yj,if_neg (by omega)];simpa using q3
    rw[Lr_ (by omega),qV]at hi';by_cases c2:i'-lo<m
    · rw [La_ (by omega)] at hi';obtain⟨q1,q2,v,q3,q4⟩:=uw (i'-lo) d' hi';refine⟨q1,fun h=>q2 (hkf h),v,?_,q4⟩;rw[yj,if_pos (by omega)];exact q3
    rw[Lr_ (by omega),List.getElem?_drop]at hi';obtain⟨q1,q2,v,q3,q4⟩:=hh _ _ 0 d' hi' rfl;refine⟨q1,q2,v,?_,q4⟩;rw[yj,if_neg (by omega)];rw[Nat.add_zero,show lo+m+(i'-lo-new.length)=i' by omega]at q3;exact q3
  exact⟨_,_,hrn,ρ,P9 xW hr hρ hg hc xM y9 wu uy ⟨cc,by rw[y9,xJ,Nat.mul_one];exact yM,by show (ob.rows.take lo++new++ob.rows.drop (lo+m)).length≤cc;omega,uS,fun h=>by show cc=(ob.rows.take lo++new++ob.rows.drop (lo+m)).length;rw[hrl'];exact vg h⟩ uO xC,Oa hr hρ hg hc xM y9 wu uy,.int _ _,by simp⟩
theorem Yk {t u ty e : TypeId} {kind : Nat} {d r : D} {vd vx : Value} {S' : St} {wr : Bool} {src : List (List D)} {cells : List Value} (hr : Rel w ρ S.heap) (ht : P.underlying t = some (.slice e)) (kC : (P.info? e).map (·.size) = some 1)
    (hd:VR w ρ S.heap d vd) (yE:cells.length=src.length) (hsrc1:∀r∈src,r.length=1)
    (zA:∀(i:Nat) (d:D),src[i]?=some [d]→d.Aag=true∧(kind≠0→d.free=true)∧∃v,cells[i]?=some v∧VR w ρ S.heap d v)
    (rC:∀(A:Option Addr) (n c:Nat),min src.length n=0→(Builtin.copy_ #[t,u] ty #[.slice A n c,vx]).run P w=.ok (goInt 0) w)
    (xA:∀(b o n c:Nat) (cur:Array Value) (q:TypeId),min src.length n≠0→w.heap[b]?=some (.cells cur q (0,0))→o+min src.length n≤cur.size→(Builtin.copy_ #[t,u] ty #[.slice (some ⟨b,o,none⟩) n c,vx]).run P w=.ok (goInt ((min src.length n:Nat):Int)) (w.setRow b (cur.toList.take o++cells.take (min src.length n)++cur.toList.drop (o+min src.length n)).toArray))
    (h:Ih 1 kind d src S=some (r,S',wr)):∃v w',(Builtin.copy_ #[t,u] ty #[vd,vx]).run P w=.ok v w'∧Aaf w ρ S r S' wr v w':=by
  unfold Ih at h;split at h
  · cases hd;simp only[Oi,Pi_]at h;obtain⟨rfl,rfl,rfl⟩:=h;exact⟨_,w,rC none 0 0 (by simp),Aaf.pure hr (.int _ _)⟩
  · split at h
    · rename_i s rows cap hc;simp only[Oi,Pi_]at h;obtain⟨rfl,rfl,rfl⟩:=h
      cases hd with
      | sl _ _ _ A n c hn =>
        refine⟨_,w,rC (some A) n c ?_,Aaf.pure hr (.int _ _)⟩;rcases hc.2 with h1 | h1
        · have : src = [] := by simpa using h1
          simp[this]
        have:rows=[]:=by simpa using h1
        simp[hn,this]
    simp at h
  · rename_i g ver lo n cap;unfold rowsOf at h
    cases hd with
    | msl _ _ _ _ _ A c ob yc xE hg yI xW xG =>
    simp only[hg]at h;by_cases hv:ob.ver=ver
    · subst hv;simp only[if_true]at h;split at h
      · rename_i hc;simp only[Oi,Pi_]at h;obtain⟨rfl,rfl,rfl⟩:=h;refine over_rows (run:=Builtin.copy_ #[t,u] ty #[.slice (some A) n c,vx]) (m:=min src.length n) (new:=src.take (min src.length n)) (news:=cells.take (min src.length n)) hr (.msl g ob.ver lo n cap A c ob yc xE hg yI xW xG) hg rfl hc.1 hc.2 (by rw[List.length_take];omega) (by omega) (by rw[List.length_take,yE];omega) (fun r hr'=>hsrc1 r (List.mem_of_mem_take hr')) (fun i d hi=>?_) (fun h0=>rC _ _ _ h0) (fun b o cur q h0 yM yO hA=>?_)
        · have yS : i < min src.length n := by have := lt_of_some hi; rw [List.length_take] at this; omega
          rw[List.getElem?_take_of_lt yS]at hi;obtain⟨q1,q2,v,q3,q4⟩:=zA i d hi;exact⟨q1,q2,v,by rw[List.getElem?_take_of_lt yS];exact q3,q4⟩
        subst hA;exact xA b o n c cur q h0 yM yO
      simp at h
    simp[hv]at h
  simp at h
theorem copy_ok{t ty e:TypeId}{kind:Nat}{d x r:D}{vd vx:Value}{S':St}{wr:Bool}{src:List (List D)}(hr:Rel w ρ S.heap)(ht:P.underlying t=some (.slice e))(hn:Dx P e=some 1)
    (hd:VR w ρ S.heap d vd) (hx:VR w ρ S.heap x vx) (qm:Wi kind S 1 x=some src) (h:Ih 1 kind d src S=some (r,S',wr)) :
    ∃v w',(Builtin.copy_ #[t,t] ty #[vd,vx]).run P w=.ok v w'∧Aaf w ρ S r S' wr v w':=by
  obtain⟨i,d2,hi,hd2,xJ,h0⟩:=D6 hn;have kC:(P.info? e).map (·.size)=some 1:=by rw[hi];simp[xJ]
  obtain⟨A,c,rfl,yY,hs⟩:=srcK_ok hr hx qm;by_cases he:src=[]
  · subst he;refine Yk (cells:=[]) hr ht kC hd rfl (by simp) (by simp) (fun A' n c' hm=>?_) (fun b o n c' cur q hm=>by simp at hm) h;exact run_copy_none (P:=P) w t t ty e A' A n c' _ c ht kC (by simp)
  obtain⟨b0,o0,f,rfl,hf⟩:=hs he
  have uM:∀(i:Nat) (d:D),src[i]?=some [d]→w.cell? ⟨b0,o0+i,none⟩=some (f i 0)∧VR w ρ S.heap d (f i 0)∧d.Aag=true∧(kind≠0→d.free=true):=by
    intro i d hi;obtain⟨q1,q2,q3,q4⟩:=hf i [d] 0 d hi rfl;rw[Nat.mul_one,Nat.add_zero]at q1;exact⟨q1,q2,q3,q4⟩
  have vP:∀i,i<src.length→∃d,src[i]?=some [d]:=by
    intro i hi;have h1:=yY _ (List.getElem_mem hi);obtain⟨d,hd⟩:=List.length_eq_one_iff.1 h1;exact⟨d,by rw[Lg hi,hd]⟩
  have vg:∀(j:Nat) (v:Value),((List.range src.length).map fun i=>f i 0)[j]?=some v→j<src.length∧v=f j 0:=by
    intro j v hj;have yL:=lt_of_some hj;simp only[List.length_map,List.length_range]at yL;rw[Lp_,List.getElem?_range yL]at hj;simp only[Option.map_some,Oi]at hj;exact⟨yL,hj.symm⟩
  refine Yk (cells:=(List.range src.length).map fun i=>f i 0) hr ht kC hd (by simp) yY (fun i d hi=>?_) (fun A' n c' hm=>?_) (fun b o n c' cur q hm yM yO=>?_) h
  · obtain ⟨q1, q2, q3, q4⟩ := uM i d hi;have yS:=lt_of_some hi;exact⟨q3,q4,f i 0,by rw[Lp_,List.getElem?_range yS];rfl,q2⟩
  · exact run_copy_none (P:=P) w t t ty e A' (some ⟨b0,o0,none⟩) n c' _ c ht kC hm
  have hl:(((List.range src.length).map fun i=>f i 0).take (min src.length n)).length=min src.length n:=by simp
  have:=run_copy_row (P:=P) w t t ty e b o n c' ⟨b0,o0,none⟩ src.length c cur q (((List.range src.length).map fun i=>f i 0).take (min src.length n)) ht kC yM hl (fun j v hj=>?_) (by rw[hl];exact yO) (fun v hv=>?_)
  · rw [hl] at this;exact this
  · have yL : j < min src.length n := by have := lt_of_some hj; rw [hl] at this; exact this
    rw[List.getElem?_take_of_lt yL]at hj;obtain⟨h1,rfl⟩:=vg j v hj;obtain⟨d,hd⟩:=vP j h1;rw[add_plain];exact (uM j d hd).1
  obtain⟨j,hj,rfl⟩:=List.mem_iff_getElem.1 (List.mem_of_mem_take hv);simp only[List.length_map,List.length_range]at hj;obtain⟨d,hd⟩:=vP j hj;simp only[List.getElem_map,List.getElem_range];exact ((uM j d hd).2.1.oneCell (uM j d hd).2.2.1).1
theorem copys_ok{t u ty e:TypeId}{kind:Nat}{d r:D}{s:ByteArray}{vd:Value}{S':St}{wr:Bool}(hr:Rel w ρ S.heap)(ht:P.underlying t=some (.slice e))(hn:Dx P e=some 1)
    (hd:VR w ρ S.heap d vd) (h:Ih 1 kind d (Ea s) S=some (r,S',wr)) :
    ∃v w',(Builtin.copy_ #[t,u] ty #[vd,.string s]).run P w=.ok v w'∧Aaf w ρ S r S' wr v w':=by
  obtain⟨i,d2,hi,hd2,xJ,h0⟩:=D6 hn;have kC:(P.info? e).map (·.size)=some 1:=by rw[hi];simp[xJ]
  have hbl:(Ea s).length=s.size:=by simp[Ea]
  have yE:(Lib.byteCells s.data.toList).length=s.size:=by rw[Lib.byteCells_length];simp
  refine Yk (cells:=Lib.byteCells s.data.toList) hr ht kC hd (by rw[yE,hbl]) (fun r hr'=>?_) (fun i d hi=>?_) (fun A n c hm=>?_) (fun b o n c cur q hm yM yO=>?_) h
  · simp only [Ea, List.mem_map] at hr';obtain⟨_,_,rfl⟩:=hr';rfl
  · simp only [Ea, Lp_, Om, List.cons.injEq, and_true] at hi;obtain⟨b,hb,rfl⟩:=hi;refine⟨rfl,fun _=>rfl,.int .u8 b.toNat,?_,.int _ _⟩;simp[Lib.byteCells,hb]
  · rw [hbl] at hm;simp only[Builtin.copy_,Sem.run_bind];cases A<;>simp[run_underlying ht,Builtin.lenOf,Builtin.firstCells,sizeOf,typeInfo,hi,hm,storeCells,Result.andThen]
  rw[hbl]at hm yO ⊢;have hl:((Lib.byteCells s.data.toList).take (min s.size n)).length=min s.size n:=by rw[List.length_take,yE];omega
  have xP:=run_storeCells_at P b o q ((Lib.byteCells s.data.toList).take (min s.size n)) 0 cur w yM (by rw[hl];simpa using yO) (fun v hv=>Lib.byteCells_one _ v (List.mem_of_mem_take hv));rw[hl]at xP;simp only[Nat.add_zero]at xP;simp[Builtin.copy_,run_underlying ht,Builtin.lenOf,Builtin.firstCells,sizeOf,typeInfo,hi];rw[show List.take (min s.size n) (List.map (fun b:UInt8=>Value.int IntKind.u8 (b.toNat:Int)) s.data.toList)=(Lib.byteCells s.data.toList).take (min s.size n) from rfl,xP];simp[Result.andThen]
theorem digits_u8:∀(n t:Nat) (acc:Array Value),(∀(i:Nat) (v:Value),acc[i]?=some v→∃k:Int,v=.int .u8 k)→∀(i:Nat) (v:Value),(Extern.BytealgMakeNoZero.digits n t acc)[i]?=some v→∃k:Int,v=.int .u8 k
 | 0,_,_,h=>h
 | n + 1, t, acc, h => by
  rw[Extern.BytealgMakeNoZero.digits];refine digits_u8 n _ _ fun i v hi=>?_;rw[Array.getElem?_push]at hi;split at hi
  ·
   simp only[Oi]at hi;exact⟨_,hi.symm⟩
  exact h i v hi
theorem mknz_run(ps:Array TypeId){t e:TypeId}(ht:P.underlying t=some (.slice e))(n:Nat)(hn:n≤140737488355328) :
  ∃cs:Array Value,(Extern.BytealgMakeNoZero.makeNoZero ps #[t] #[.int .i64 n]).run P w=.ok (.slice (some ⟨w.heap.size,0,none⟩) n cs.size) (w.drew.drew.alloc (.cells cs e))∧n≤cs.size∧cs.size≤maxLen∧∀(i:Nat) (v:Value),cs[i]?=some v→∃k:Int,v=.int .u8 k:=by
 obtain⟨cs,h1,h2,h3⟩:=Lib.run_makeNoZero (P:=P) w ps t e ht n (by omega);refine⟨cs,h1,h2,h3 (by simp only[maxLen];omega),?_⟩
 have hdef:Extern.BytealgMakeNoZero.makeNoZero ps #[t] #[.int .i64 n] =
   (do
    let .slice elem ← underlying t | stuck "bytealg.MakeNoZero: slice type expected"
    if (n : Int) < 0 || (n : Int) > 2 ^ 48 then runtimePanic (.error "makeslice: len out of range")
    let cap ←choose (.appendCap (n:Int).toNat 0 elem)
    askRoom cap
    let bytes ← choose (.extern "internal/bytealg.MakeNoZero.bytes" 0)
    let a ←newRow elem (Extern.BytealgMakeNoZero.digits cap bytes #[])
    pure (.slice (some a) (n:Int).toNat cap)):=rfl
 rw[hdef]at h1;have g1:¬(n:Int)<0:=by omega
 have g2:¬(281474976710656:Int)<(n:Int):=by omega
 simp[run_underlying ht,g1,g2,Question.forced,newRow]at h1;obtain⟨_,h5⟩:=h1;have h6:=congrArg (fun w':World=>w'.heap[w.heap.size]?) h5;have e1:∀o:Obj,(w.drew.drew.alloc o).heap[w.heap.size]?=some o:=fun o=>heap_alloc_new w.drew.drew o;simp only[e1,Oi,Obj.cells.injEq]at h6;obtain⟨h6,_⟩:=h6;rw[←h6];exact digits_u8 _ _ _ (by simp)
theorem drew2_add(w:World)(o:Obj):Aai w (w.drew.drew.alloc o) o:=⟨rfl,rfl,rfl,by simp,heap_alloc_new w.drew.drew o,fun k h=>heap_alloc_old w.drew.drew o h⟩
theorem mknz_ok(ps:Array TypeId){t e:TypeId}{k:IntKind}{n:Int}(hr:Rel w ρ S.heap)(ht:P.underlying t=some (.slice e))(hk:k=.i64)(h0:0≤n)(hn:n≤140737488355328) :
    ∃v w',(Extern.BytealgMakeNoZero.makeNoZero ps #[t] #[.int k n]).run P w=.ok v w'∧Aaf w ρ S (.msl S.heap.length 0 0 n.toNat none) (newAt S ⟨e,1,List.replicate n.toNat [.junk],0,2,true⟩) true v w':=by
  subst hk;obtain⟨m,rfl⟩:∃m:Nat,n=m:=⟨n.toNat,by omega⟩;simp only[Int.toNat_natCast];obtain⟨cs,h1,h2,h3,h4⟩:=mknz_run (P:=P) (w:=w) ps ht m (by omega);have xB:=drew2_add w (.cells cs e);refine⟨_,_,h1,_,Nb (ob:=⟨e,1,List.replicate m [.junk],0,2,true⟩) hr xB (by simp) ⟨cs.size,by simp,by simpa using h2,h3,by simp⟩ (fun r hr'=>by rw[List.eq_of_mem_replicate hr'];rfl) (.inr (.inr rfl)) (fun i' r' j d hi' hj=>?_),Hz hr xB,?_,by simp⟩
  · have hr' := List.eq_of_mem_replicate (Lm hi');subst hr';have yS:i'<m:=by have:=lt_of_some hi';simpa using this
    have hj0:j=0:=by have:=lt_of_some hj;simp at this;exact this
    subst hj0;simp only[Lz,Oi]at hj;subst hj;have hq:i'<cs.size:=by omega
    obtain⟨q,hq2⟩:=h4 i' cs[i'] (Array.getElem?_eq_getElem hq);refine⟨rfl,fun _=>rfl,cs[i'],by simp[hq],?_⟩;rw[hq2];exact .junk q
  refine .msl _ 0 0 _ none _ _ ⟨e,1,List.replicate m [.junk],0,2,true⟩ h2 (fun k hk=>by cases hk) (by simp[newAt]) (Nat.le_refl _) (by simp) fun _=>⟨w.heap.size,by simp[upd],by simp,fun _=>by simp,fun _=>⟨_,xB.new,by simp⟩⟩
theorem checkKeyS : ∀ (d : Nat) (t : TypeId) (Aak : List Nat), F6 P d t = some Aak → ∀ (b : Bool) (k : Nat) (a : D) (va : Value), VR w ρ S.heap a va → a.val = true → a.cells.length = Aak.length → (Hg P t = true → ∃ cs, a = .agg cs) →
    (Instr.checkKey b (d+k) t va).run P w=.ok () w
  | 0,t,Aak,h=>by simp[F6]at h
  | d + 1, t, Aak, h => by
    intro b k a va h1 ha xg hag;rw[show d+1+k=(d+k)+1 by omega];simp only[F6]at h;split at h
    · rename_i kk hu;simp[Instr.checkKey,run_underlying hu]
    · rename_i hu;simp[Instr.checkKey,run_underlying hu]
    · rename_i hu;simp[Instr.checkKey,run_underlying hu]
    · rename_i fs hu;split at h
      · simp at h
      obtain⟨xs,rfl⟩:=hag (by simp[Hg,hu])
      cases h1 with | agg _ va hl1 yu hh1 =>
      have key:∀(fl:List Field) (o:Nat) (fm:List Nat),eqFields P (F6 P d) fl o=some fm→o+fm.length≤xs.length →
          (forIn fl PUnit.unit (fun (f : Field) (_ : PUnit) => (if f.name ≠ "_" then (do Instr.checkKey b (d + k) f.type (← part f.type va.toArray f.offset); pure (ForInStep.yield PUnit.unit)) else pure (ForInStep.yield PUnit.unit) : Sem (ForInStep PUnit)))).run P w = .ok PUnit.unit w := by
        intro fl
        induction fl with
        | nil=>intro o fm hf yD;simp
        | cons f fl ihl =>
          intro o fm hf yD;simp only[eqFields]at hf;split at hf
          · simp at hf
          rename_i rH;simp only[not_or,ne_eq,Decidable.not_not]at rH;obtain⟨wJ,hoff⟩:=rH;split at hf
          · rename_i fa m zW xJ;split at hf
            · rename_i hlen';simp only[Om]at hf;obtain⟨fm',hf',rfl⟩:=hf;simp only[Ll_]at yD
              have uM:Hg P f.type=false→m=1:=by
                intro hg
                cases d with
                | zero=>simp[F6]at zW
                | succ d' =>
                  simp only[F6]at zW;split at zW
                  · simp only[Oi]at zW;subst zW;exact hlen'.symm
                  · simp only[Oi]at zW;subst zW;exact hlen'.symm
                  · simp only[Oi]at zW;subst zW;exact hlen'.symm
                  · rename_i hu';unfold Hg at hg;rw[hu']at hg;simp at hg
                  simp at zW
              obtain⟨pa,a1,a2,a3,a4⟩:∃p,Au xs o m (Hg P f.type)=some p∧p.cells.length=m∧p.val=true∧(Hg P f.type=true→∃c,p=.agg c):=by
                cases hg:Hg P f.type with
                | true =>
                  refine⟨.agg ((xs.drop o).take m),by simp[Au];omega,by simp[D.cells];omega,?_,fun _=>⟨_,rfl⟩⟩;simp only[D.val,List.all_eq_true]at yu ⊢;intro c hc';exact yu c (List.mem_of_mem_drop (List.mem_of_mem_take hc'))
                | false =>
                  have:=uM hg;subst this;have xO:o<xs.length:=by omega
                  have yE:xs[o].Aag=true:=by
                    simp only[List.all_eq_true]at yu;exact yu _ (List.getElem_mem xO)
                  refine⟨xs[o],by simp[Au,xO],?_,?_,fun h=>by simp at h⟩
                  · cases e:xs[o]<;>first | rfl | (rw[e]at yE;simp[D.Aag]at yE)
                  cases e:xs[o]<;>first | rfl | (rw[e]at yE;simp[D.Aag]at yE)
              obtain⟨xa,x1,x2⟩:=Rl (P:=P) hl1 yu hh1 a1 xJ rfl;have hq:=checkKeyS d f.type fa zW b k pa xa x2 a3 (by rw[a2,hlen']) a4;simp only[List.forIn_cons,Sem.run_bind,wJ,ne_eq,not_false_eq_true,if_true,hoff,x1,Result.andThen_ok,hq,Sem.run_pure];exact ihl (o+m) fm' hf' (by omega)
            simp at hf
          simp at hf
      have hk:=key fs.toList 0 Aak h (by simp only[D.cells]at xg;omega);rw[Array.forIn_toList]at hk;simp only[Instr.checkKey,Sem.run_bind,run_underlying hu,Result.andThen_ok];refine Eq.trans (congrArg (fun z=>Result.andThen z _) hk) ?_;rfl
    simp at h
theorem keyS_free {Aak : List Nat} {k : D} (h : Rx Aak k = true) : k.freeV = true ∧ k.val = true := by
  unfold Rx at h;split at h
  · rename_i cs;simp only[Bool.and_eq_true,beq_iff_eq,List.all_eq_true]at h;obtain⟨h1,h2⟩:=h
    have key:∀d∈cs,d.free=true∧d.Aag=true:=by
      intro d hd;obtain⟨i,hi,rfl⟩:=List.mem_iff_getElem.1 hd
      have:=h2 (cs[i],Aak[i]'(by omega)) (by
        rw[List.mem_iff_getElem]
        exact⟨i,by simp;omega,by simp⟩)
      simp only at this
      revert this
      cases e:cs[i]<;>cases e2:Aak[i]'(by omega)<;>simp[isKey,D.free,D.Aah,D.Aag]
    exact⟨by simp only[D.freeV,List.all_eq_true];exact fun d hd=>(key d hd).1,by simp only[D.val,List.all_eq_true];exact fun d hd=>(key d hd).2⟩
  simp at h
theorem keyS_check{kt:TypeId}{Aak:List Nat}{k:D}{vk:Value}{b:Bool}(zZ:Hg P kt=true)(qX:F6 P 9 kt=some Aak)(yh:Rx Aak k=true)(hk:VR w ρ S.heap k vk):(Instr.checkKey b 10000 kt vk).run P w=.ok () w:=by
 obtain⟨_,h2⟩:=keyS_free yh;refine checkKeyS 9 kt Aak qX b 9991 k vk hk h2 ?_ fun _=>?_
 ·
  unfold Rx at yh;split at yh
  ·
   simp only[Bool.and_eq_true,beq_iff_eq]at yh;exact yh.1
  simp at yh
 unfold Rx at yh;split at yh
 ·
  exact⟨_,rfl⟩
 simp at yh
theorem eqS_run{kt:TypeId}{Aak:List Nat}{cs ds:List D}{va vb:Value}{r:Bool}(zZ:Hg P kt=true)(qX:F6 P 9 kt=some Aak)(h1:VR w ρ S.heap (.agg cs) va)(h2:VR w ρ S.heap (.agg ds) vb)(he:Dl Aak cs ds=some r):(Op.equal kt va vb).run P w=.ok r w:=by
 have wY:(D.agg cs).val=true:=by cases h1 with | agg _ _ _ hc _=>exact hc
 have wQ:(D.agg ds).val=true:=by cases h2 with | agg _ _ _ hc _=>exact hc
 exact Yj 9 kt Aak qX 9991 _ _ _ _ r h1 h2 wY wQ he (fun _=>⟨⟨_,rfl⟩,⟨_,rfl⟩⟩) (fun h=>by rw[zZ]at h;simp at h)
theorem Zc {kt : TypeId} {Aak : List Nat} {k : D} {vk : Value} (zZ : Hg P kt = true) (qX : F6 P 9 kt = some Aak) (hk : VR w ρ S.heap k vk) : ∀ {rows : List (List D)} {es : List MapEntry} {i : Nat} {x : Option (Nat × D)}, es.length = rows.length → (∀ (j : Nat) (r : List D), rows[j]? = some r → ∃ (e : MapEntry) (a v : D), es[j]? = some e ∧ r = [a, v] ∧ VR w ρ S.heap a e.key ∧ VR w ρ S.heap v e.val) → I4 Aak k rows i = some x →
    (x=none∧(Instr.findAsking kt vk es i).run P w=.ok none w)∨∃(j:Nat) (v:D) (e:MapEntry) (cs ds:List D),x=some (i+j,v)∧(∃a,a=D.agg ds∧rows[j]?=some [a,v]∧k=.agg cs∧VR w ρ S.heap a e.key)∧es[j]?=some e∧VR w ρ S.heap v e.val∧Dl Aak cs ds=some true∧(Instr.findAsking kt vk es i).run P w=.ok (some (i+j,e.val)) w
  | [], es, i, x, hl, hh, h => by
    have:es=[]:=by simpa using hl
    subst this;simp only[I4,Oi]at h;subst h;exact .inl ⟨rfl,rfl⟩
  | r :: rows, es, i, x, hl, hh, h => by
    cases es with
    | nil=>simp at hl
    | cons e es =>
      obtain⟨e',a,v,h1,h2,h3,h4⟩:=hh 0 r rfl;simp at h1;subst h1 h2;simp only[I4]at h;split at h
      · rename_i cs ds
        cases hb:Dl Aak cs ds with
        | none=>simp[hb]at h
        | some bb =>
          have qp:=eqS_run zZ qX hk h3 hb
          cases bb with
          | true =>
            simp only[hb,Oi]at h;subst h;exact .inr ⟨0,v,e,cs,ds,rfl,⟨_,rfl,rfl,rfl,h3⟩,rfl,h4,hb,by unfold Instr.findAsking;rw[Ah qp];rfl⟩
          | false =>
            simp only[hb]at h;rcases Zc zZ qX hk (es:=es) (by simpa using hl) (fun j r hj=>by simpa using hh (j+1) r (by simpa using hj)) h with⟨rfl,hf⟩ | ⟨j,v2,e2,c2,d2,hx,⟨a2,q0,hr,q1,q2⟩,he,q3,q4,hf⟩
            · exact .inl ⟨rfl,by unfold Instr.findAsking;rw[Ah qp];exact hf⟩
            refine .inr ⟨j+1,v2,e2,c2,d2,by rw[hx];congr 2;omega,⟨a2,q0,by simpa using hr,q1,q2⟩,by simpa using he,q3,q4,?_⟩;unfold Instr.findAsking;rw[Ah qp];simp only[Bool.false_eq_true,if_false];rw[hf];congr 3;omega
      simp at h
theorem find_S{kt:TypeId}{Aak:List Nat}{k:D}{vk:Value}(zZ:Hg P kt=true)(qX:F6 P 9 kt=some Aak)(hk:VR w ρ S.heap k vk){rows:List (List D)}{es:List MapEntry}{x:Option (Nat × D)}(hl:es.length=rows.length)(hh:∀(j:Nat) (r:List D),rows[j]?=some r→∃(e:MapEntry) (a v:D),es[j]?=some e∧r=[a,v]∧VR w ρ S.heap a e.key∧VR w ρ S.heap v e.val)(h:I4 Aak k rows 0=some x) :
  (x=none∧(Instr.findKey kt vk es).run P w=.ok none w)∨∃(j:Nat) (v:D) (e:MapEntry) (a:D),x=some (0+j,v)∧rows[j]?=some [a,v]∧es[j]?=some e∧VR w ρ S.heap v e.val∧VR w ρ S.heap a e.key∧(∃cs ds,k=.agg cs∧a=.agg ds∧Dl Aak cs ds=some true)∧(Instr.findKey kt vk es).run P w=.ok (some (0+j,e.val)) w:=by
 obtain⟨fs,hu⟩:∃kd,P.underlying kt=some kd∧((∃fs,kd=.struct fs)∨∃n e,kd=.array n e):=by
  unfold Hg at zZ;split at zZ
  ·
   rename_i hu;exact⟨_,hu,.inl ⟨_,rfl⟩⟩
  ·
   rename_i hu;exact⟨_,hu,.inr ⟨_,_,rfl⟩⟩
  simp at zZ
 have hfk:(Instr.findKey kt vk es).run P w=(Instr.findAsking kt vk es 0).run P w:=by
  unfold Instr.findKey;rw[Ah (run_underlying hu.1 w)]
  cases es with
  | nil=>rfl
  | cons e es=>rcases hu.2 with⟨fs,rfl⟩ | ⟨n,e,rfl⟩<;>rfl
 rw[hfk];rcases Zc zZ qX hk hl hh h with h1 | ⟨j,v,e,cs,ds,h1,⟨a,rfl,h3,h4,h5⟩,h6,h7,h8,h9⟩
 ·
  exact .inl h1
 exact .inr ⟨j,v,e,_,h1,h3,h6,h7,h5,⟨cs,ds,h4,rfl,h8⟩,h9⟩
theorem sameBits_S {Aak : List Nat} {k a : D} {vk va : Value} (hk : VR w ρ S.heap k vk) (ha : VR w ρ S.heap a va) (h : ∃ cs ds, k = .agg cs ∧ a = .agg ds ∧ Dl Aak cs ds = some true) : Instr.sameBits 10000 va vk = true := by
  obtain⟨cs,ds,rfl,rfl,he⟩:=h
  cases hk with | agg _ vs hl hc hh =>
  cases ha with | agg _ us zF zX hh2 =>
  have key:∀(Aak:List Nat) (cs ds:List D) (vs us:List Value),vs.length=cs.length→us.length=ds.length→(∀(j:Nat) (d:D) (v:Value),cs[j]?=some d→vs[j]?=some v→VR w ρ S.heap d v)→(∀(j:Nat) (d:D) (v:Value),ds[j]?=some d→us[j]?=some v→VR w ρ S.heap d v)→Dl Aak cs ds=some true→us.length=vs.length∧((us.zip vs).all fun (x,y)=>Instr.sameBits 9999 x y)=true:=by
    intro Aak
    induction Aak with
    | nil =>
      intro cs ds vs us h1 h2 _ _ he;cases cs<;>cases ds<;>simp[Dl]at he;have:vs=[]:=by simpa using h1
      have:us=[]:=by simpa using h2
      simp_all
    | cons f Aak ih =>
      intro cs ds vs us h1 h2 g1 g2 he
      cases cs with
      | nil=>cases ds<;>simp[Dl]at he
      | cons c cs =>
        cases ds with
        | nil=>simp[Dl]at he
        | cons d ds =>
          cases vs with
          | nil=>simp at h1
          | cons v vs =>
            cases us with
            | nil=>simp at h2
            | cons u us =>
              simp only[Dl]at he;split at he
              · rename_i vH;simp only[Bool.and_eq_true]at vH;split at he
                · rename_i x y e1 e2;simp only[Oi,Bool.and_eq_true]at he;obtain⟨rfl,rfl⟩:=he;obtain⟨q1,q2⟩:=ih cs ds vs us (by simpa using h1) (by simpa using h2) (fun j d v hd hv=>g1 (j+1) d v (by simpa using hd) (by simpa using hv)) (fun j d v hd hv=>g2 (j+1) d v (by simpa using hd) (by simpa using hv)) e2;have:=We (n:=9998) vH.1 (g1 0 c v rfl rfl) (g2 0 d u rfl rfl) e1;exact⟨by simp[q1],by simp only[List.zip_cons_cons,List.all_cons,Bool.and_eq_true];exact⟨this,q2⟩⟩
                simp at he
              simp at he
  obtain⟨q1,q2⟩:=key Aak cs ds vs us hl zF hh hh2 he;show (us.toArray.size==vs.toArray.size&&(us.toArray.toList.zip vs.toArray.toList).all fun (x,y)=>Instr.sameBits 9999 x y)=true;simp only[Bool.and_eq_true,beq_iff_eq];exact⟨by simpa using q1,by simpa using q2⟩
theorem mapgetS_ok {t kt e : TypeId} {Aak : List Nat} {z m k r : D} {vm vk : Value} {ok : Bool} (hr : Rel w ρ S.heap) (ht : P.underlying t = some (.map kt e)) (zZ : Hg P kt = true) (qX : F6 P 9 kt = some Aak) (hz : Qv P e = some z) (hm : VR w ρ S.heap m vm) (hk : VR w ρ S.heap k vk)
    (h:Lp S Aak z ok m k=some r):∃v,(Instr.lookup t vm vk ok).run P w=.ok v w∧VR w ρ S.heap r v:=by
  unfold Lp at h;split at h
  · rename_i rows xC;obtain⟨es,hes,xJ,xu⟩:=map_rows hr hm xC;split at h
    · rename_i yh
      obtain⟨zv,wW,yT⟩:∃zv,(zeroValue e).run P w=.ok zv w∧VR w ρ S.heap z zv:=by
        unfold Qv at hz;split at hz
        · rename_i i hi;split at hz
          · rename_i zv wP;exact⟨zv,by simp[zeroValue,typeInfo,hi,wP],Qm hz⟩
          simp at hz
        simp at hz
      have hck:=fun b=>keyS_check (b:=b) zZ qX yh hk
      have vP:∀j v,(Instr.findKey kt vk es.toList).run P w=.ok (some (j,v)) w→(Instr.lookup t vm vk ok).run P w=.ok (if ok then .tuple #[v,.bool true] else v) w:=by
        intro j v hx;unfold Instr.lookup;rw[Ah (run_underlying ht w)];rcases hes with⟨rfl,rfl⟩ | ⟨b,clock,rfl,hb⟩
        · simp only;rw[Ah (a:=(#[]:Array MapEntry)) (w':=w) rfl,Ah (hck _),Ah hx];rfl
        simp only;rw[Ah (Ib hb)];simp only;rw[Ah (a:=es) (w':=w) rfl,Ah (hck _),Ah hx];rfl
      have yJ:(Instr.findKey kt vk es.toList).run P w=.ok none w→(Instr.lookup t vm vk ok).run P w=.ok (if ok then .tuple #[zv,.bool false] else zv) w:=by
        intro hx;unfold Instr.lookup;rw[Ah (run_underlying ht w)];rcases hes with⟨rfl,rfl⟩ | ⟨b,clock,rfl,hb⟩
        · simp only;rw[Ah (a:=(#[]:Array MapEntry)) (w':=w) rfl,Ah (hck _),Ah hx];simp only;rw[Ah wW];rfl
        simp only;rw[Ah (Ib hb)];simp only;rw[Ah (a:=es) (w':=w) rfl,Ah (hck _),Ah hx];simp only;rw[Ah wW];rfl
      have uI:∀(x:D) (v:Value) (b:Bool),VR w ρ S.heap x v→VR w ρ S.heap (.tup [x,.bool b]) (.tuple #[v,.bool b]):=by
        intro x v b hx;have hv:VL w ρ S.heap [x,.bool b] [v,.bool b]:=.cons hx (.cons (.bool _) .nil);exact .tup [x,.bool b] [v,.bool b] rfl (fun j d v=>hv.get)
      cases hf:I4 Aak k rows 0 with
      | none=>simp[hf]at h
      | some x =>
        rcases find_S zZ qX hk (es:=es.toList) (by simpa using xJ) (fun j r hj=>by obtain⟨e,a,v,h1,h2⟩:=xu j r hj;exact⟨e,a,v,by simpa using h1,h2⟩) hf with⟨rfl,zV⟩ | ⟨j,v,e2,a,rfl,xX,he,q1,q2,q3,zV⟩
        · simp only [hf, Oi] at h;subst h;refine⟨_,yJ zV,?_⟩;cases ok
          · exact yT
          exact uI _ _ _ yT
        simp only[hf,Oi]at h;subst h;refine⟨_,vP _ _ zV,?_⟩;cases ok
        · exact q1
        exact uI _ _ _ q1
    simp at h
  simp at h
theorem mapsetS_ok {t kt e : TypeId} {Aak : List Nat} {m k v : D} {vm vk vv : Value} {S' : St} (hr : Rel w ρ S.heap) (ht : P.underlying t = some (.map kt e)) (zZ : Hg P kt = true) (qX : F6 P 9 kt = some Aak) (hm : VR w ρ S.heap m vm) (hk : VR w ρ S.heap k vk) (hv : VR w ρ S.heap v vv) (h : Ht S Aak m k v = some S') :
    ∃w',(Instr.mapUpdate t vm vk vv).run P w=.ok () w'∧Aaf w ρ S .undef S' true undef w':=by
  unfold Ht at h;split at h
  · rename_i g ver
    cases hm with
    | mref _ _ r ob hg yI hh =>
      unfold rowsOf at h;simp only[hg]at h;by_cases hvv:ob.ver=ver
      · subst hvv;simp only[if_true]at h;split at h
        · rename_i wU;obtain⟨xW,kT,yh⟩:=wU;split at h
          · rename_i v' qp;have hv':=Q7 hr (Nat.le_refl _) hv qp;split at h
            · rename_i hfc;simp only[Bool.and_eq_true]at hfc;have hρ:=hh rfl;obtain⟨es,clock,hc,hs,hl,xu⟩:=hr.map hρ hg xW kT;have uP:=keyS_free yh;have hck:=fun b=>keyS_check (b:=b) zZ qX yh hk;have uV:=lt_of_heap hc;have yc:∀c e f,Obj.map es clock≠.cells c e f:=fun _ _ _ e=>by cases e
              cases hf:I4 Aak k ob.rows 0 with
              | none=>simp[hf]at h
              | some x =>
                rcases find_S zZ qX hk (es:=es.toList) (by simpa using hs) (fun j r hj=>by obtain⟨e,a,v,h1,h2,_,_,h5,h6⟩:=xu j r hj;exact⟨e,a,v,by simpa using h1,h2,h5,h6⟩) hf with⟨rfl,zV⟩ | ⟨j,v0,e2,a,rfl,xX,he,q1,q2,q3,zV⟩
                · simp only [hf, Oi] at h;subst h;refine⟨{ w with heap:=w.heap.setIfInBounds r (.map (es.push ⟨vk,vv,clock⟩) (clock+1)) },?_,ρ,?_,Ob hr hρ hg xW hc yc (Aaj.setObj uV) ⟨rfl,rfl,rfl,by simp,rfl⟩,.undef _,by simp⟩
                  · unfold Instr.mapUpdate;rw[Ah (run_underlying ht w)];simp only;rw[Ah (Ib hc)];simp only;rw[Ah (hck _),Ah zV];exact P7 hc
                  refine Zu hr hρ hg xW kT hc yc (Aaj.setObj uV) ⟨rfl,rfl,rfl,by simp,rfl⟩ (by simp[hs]) ?_ ?_
                  · intro r' hr';simp only[List.mem_append,List.mem_singleton]at hr';rcases hr' with hr' | rfl
                    · exact hl r' hr'
                    rfl
                  intro i r' hi;simp only at hi;by_cases yS:i<ob.rows.length
                  · rw [La_ yS] at hi;obtain⟨e3,k3,v3,z1,z2⟩:=xu i r' hi;exact⟨e3,k3,v3,by rw[Array.getElem?_push_lt (by omega)];rw[Array.getElem?_eq_getElem (by omega)]at z1;exact z1,z2⟩
                  rw[Lr_ (by omega)]at hi;have wK:i-ob.rows.length=0:=by have:=lt_of_some hi;simp at this;omega
                  rw[wK]at hi;simp at hi;subst hi;have yV:i=es.size:=by omega
                  subst yV;exact⟨⟨vk,vv,clock⟩,k,v',by simp,rfl,uP,hfc,hk,hv'⟩
                simp only[hf,Oi,Nat.zero_add]at h;subst h;have he':es[j]?=some e2:=by simpa using he
                have yL:=(Array.getElem?_eq_some_iff.1 he').1
                have hkts:(Instr.keyThatStays (((es[0+j]?).map (·.key)).getD vk) vk).run P w=.ok vk w:=by
                  rw[Nat.zero_add,he'];unfold Instr.keyThatStays;simp only[Option.map_some,Option.getD_some];rw[if_pos (sameBits_S hk q2 q3)];rfl
                refine⟨{ w with heap:=w.heap.setIfInBounds r (.map (es.modify j fun e=>{ e with key:=vk,val:=vv }) clock) },?_,ρ,?_,Ob hr hρ hg xW hc yc (Aaj.setObj uV) ⟨rfl,rfl,rfl,by simp,rfl⟩,.undef _,by simp⟩
                · unfold Instr.mapUpdate;rw[Ah (run_underlying ht w)];simp only;rw[Ah (Ib hc)];simp only;rw[Ah (hck _),Ah zV];simp only;rw[Ah hkts];rw[Nat.zero_add];exact P7 hc
                refine Zu hr hρ hg xW kT hc yc (Aaj.setObj uV) ⟨rfl,rfl,rfl,by simp,rfl⟩ (by simp[hs]) ?_ ?_
                · intro r' hr';rcases List.mem_or_eq_of_mem_set hr' with hr' | rfl
                  · exact hl r' hr'
                  rfl
                intro i r' hi;simp only at hi;by_cases hij:j=i
                · subst hij;rw[List.getElem?_set_self (by omega)]at hi;simp only[Oi]at hi;subst hi;exact⟨{ e2 with key:=vk,val:=vv },k,v',by simp[Array.getElem?_modify,he'],rfl,uP,hfc,hk,hv'⟩
                rw[Ln_ hij]at hi;obtain⟨e3,k3,v3,z1,z2⟩:=xu i r' hi;exact⟨e3,k3,v3,by rw[Array.getElem?_modify,if_neg hij];exact z1,z2⟩
            simp at h
          simp at h
        simp at h
      simp[hvv]at h
  simp at h
end
open Go.RowKit
section
variable {P:Program} {w:World} {ρ:Aaa} {S:St}
def Does (P:Program) (w:World) (ρ:Aaa) (S:St) (ev:Operand→Value) (o:Oper) (r:D) (S':St) (wr:Bool):Prop :=
 ∃nx v w',(execOp ev o).run P w=.ok nx w'∧(nx=.value v∨nx=.skip∧v=undef)∧Aaf w ρ S r S' wr v w'
theorem Does.val{ev:Operand→Value}{o:Oper}{r:D}{S':St}{wr:Bool}{s:Sem Value}(he:execOp ev o=(do pure (.value (←s))))(h:∃v w',s.run P w=.ok v w'∧Aaf w ρ S r S' wr v w'):Does P w ρ S ev o r S' wr:=by
 obtain⟨v,w',h1,h2⟩:=h;exact⟨.value v,v,w',by rw[he,Ah h1];rfl,.inl rfl,h2⟩
theorem Does.pure{ev:Operand→Value}{o:Oper}{r:D}{s:Sem Value}(hr:Rel w ρ S.heap)(he:execOp ev o=(do pure (.value (←s))))(h:∃v,s.run P w=.ok v w∧VR w ρ S.heap r v):Does P w ρ S ev o r S false:=by
 obtain⟨v,h1,h2⟩:=h;exact Does.val he ⟨v,w,h1,Aaf.pure hr h2⟩
theorem eqb_ok{neg a b:Bool}{op:BinOp}{t:TypeId}{x y:Operand}{H:List Z9}(ho:op=.eql∨op=.neq)(hn:neg=decide (op=.neq))(ht:P.underlying t=some .bool) :
  ∃v,(do eqGuard op t x y (.bool a) (.bool b);binOp op t (.bool a) (.bool b)).run P w=.ok v w∧VR w ρ H (.bool ((a==b) != neg)) v:=by
 have h:∀d:Nat,(Op.equalIn (d+1) t (.bool a) (.bool b)).run P w=.ok (a==b) w:=fun d=>by simp[Op.equalIn,run_underlying ht]
 rcases ho with rfl | rfl
 ·
  subst hn;refine⟨.bool (a==b),?_,by cases a<;>cases b<;>exact .bool _⟩;simp only[eqGuard,binOp];simp[Op.equal,Op.maxDepth,h 9999]
 subst hn;refine⟨.bool !(a==b),?_,by cases a<;>cases b<;>exact .bool _⟩;simp only[eqGuard,binOp];simp[Op.equal,Op.maxDepth,h 9999]
theorem fold_ok{f:D→D→Option D}{g:Value→Value→Sem Value}(hfg:∀{d1 d2 r:D} {v1 v2:Value},VR w ρ S.heap d1 v1→VR w ρ S.heap d2 v2→f d1 d2=some r→∃v,(g v1 v2).run P w=.ok v w∧VR w ρ S.heap r v) :
  ∀{ds:List D} {vs:List Value} {d r:D} {v:Value},VR w ρ S.heap d v→VL w ρ S.heap ds vs→Jm f d ds=some r→∃u,(vs.foldlM g v).run P w=.ok u w∧VR w ρ S.heap r u:=by
 intro ds
 induction ds with
 | nil =>
  intro vs d r v hd hv h;cases hv;simp only[Jm,Oi]at h;subst h;exact⟨v,rfl,hd⟩
 | cons a ds ih =>
  intro vs d r v hd hv h
  cases hv with | cons h1 t1 =>
  simp only[Jm]at h;split at h
  ·
   rename_i z hz;obtain⟨u,h3,h4⟩:=hfg hd h1 hz;obtain⟨u2,h5,h6⟩:=ih h4 t1 h;refine⟨u2,?_,h6⟩;rw[List.foldlM_cons,Ah h3];exact h5
  simp at h
theorem max2_ok{d1 d2 r:D}{v1 v2:Value}(h1:VR w ρ S.heap d1 v1)(h2:VR w ρ S.heap d2 v2)(h:U9 d1 d2=some r):∃v,(Builtin.max2 v1 v2).run P w=.ok v w∧VR w ρ S.heap r v:=by
 unfold U9 at h;split at h
 ·
  split at h
  ·
   rename_i hk;subst hk;simp only[Oi]at h;subst h;cases h1;cases h2;exact⟨_,rfl,.int _ _⟩
  simp at h
 simp at h
theorem min2_ok{d1 d2 r:D}{v1 v2:Value}(h1:VR w ρ S.heap d1 v1)(h2:VR w ρ S.heap d2 v2)(h:minD d1 d2=some r):∃v,(Builtin.min2 v1 v2).run P w=.ok v w∧VR w ρ S.heap r v:=by
 unfold minD at h;split at h
 ·
  split at h
  ·
   rename_i hk;subst hk;simp only[Oi]at h;subst h;cases h1;cases h2;exact⟨_,rfl,.int _ _⟩
  simp at h
 simp at h
theorem maxs_ok{ts:Array TypeId}{t:TypeId}{ds:List D}{vs:List Value}{r:D}(hv:VL w ρ S.heap ds vs)(h:pop .max ds=some r):∃v,(Builtin.max_ ts t vs.toArray).run P w=.ok v w∧VR w ρ S.heap r v:=by
 cases hv with
 | nil=>simp[pop]at h
 | cons h1 t1=>exact fold_ok (fun a b c=>max2_ok a b c) h1 t1 h
theorem mins_ok{ts:Array TypeId}{t:TypeId}{ds:List D}{vs:List Value}{r:D}(hv:VL w ρ S.heap ds vs)(h:pop .min ds=some r):∃v,(Builtin.min_ ts t vs.toArray).run P w=.ok v w∧VR w ρ S.heap r v:=by
 cases hv with
 | nil=>simp[pop]at h
 | cons h1 t1=>exact fold_ok (fun a b c=>min2_ok a b c) h1 t1 h
theorem boolT_iff{t:TypeId}:boolT P t=true↔P.underlying t=some .bool:=by
 unfold boolT;split
 ·
  rename_i h;simp[h]
 rename_i h;constructor
 ·
  intro h';simp at h'
 intro h';exact absurd h' h
theorem intT_iff{t:TypeId}{k:IntKind}:X8 P t=some k↔P.underlying t=some (.int k):=by
 unfold X8;split
 ·
  rename_i k' h;simp[h]
 rename_i h;constructor
 ·
  intro h';simp at h'
 intro h';exact absurd h' (h k)
theorem mapT_iff{t k e:TypeId}:mapT P t=some (k,e)↔P.underlying t=some (.map k e):=by
 unfold mapT;split
 ·
  rename_i k' e' h;simp[h]
 rename_i h;constructor
 ·
  intro h';simp at h'
 intro h';exact absurd h' (h k e)
theorem Zf{s:TypeId}{k:Nat}{f:Field}(h:fieldT P s k=some f):∃fs,P.underlying s=some (.struct fs)∧fs[k]?=some f:=by
 unfold fieldT at h;split at h
 ·
  rename_i fs hu;exact⟨fs,hu,h⟩
 simp at h
theorem parts_zip(ps:Array (Nat × Operand))(ev:Operand→Value):(ps.map fun (i,x)=>(i,ev x))=((ps.toList.map (·.1)).zip ((ps.toList.map (·.2)).map ev)).toArray:=by
 apply Array.ext';simp only[Array.toList_map];generalize ps.toList=l
 induction l with
 | nil=>rfl
 | cons p l ih=>simp[ih]
theorem vo_of{H:List Z9}{lo hi mx:Option Operand}{ev:Operand→Value}{xs:List D}{a b m:Option D}(hv:VL w ρ H xs ((opnds [lo,hi,mx]).map ev))(h:Ee lo.isSome hi.isSome mx.isSome xs=some (a,b,m)) :
    VO w ρ H a (lo.map ev)∧VO w ρ H b (hi.map ev)∧VO w ρ H m (mx.map ev)∧(m.isSome=true→b.isSome=true):=by
  cases lo<;>cases hi<;>cases mx<;>simp only[opnds,List.filterMap_cons,List.filterMap_nil,id,List.map_cons,List.map_nil]at hv<;>simp only[Option.isSome_some,Option.isSome_none]at h
  all_goals
    first
      | (cases hv with
         | nil=>simp[Ee]at h;obtain⟨rfl,rfl,rfl⟩:=h;exact⟨.none,.none,.none,by simp⟩)
      | (cases hv with
         | cons h1 t1 => cases t1 with
           | nil=>simp[Ee]at h<;>(obtain⟨rfl,rfl,rfl⟩:=h;first | exact⟨.some h1,.none,.none,by simp⟩ | exact⟨.none,.some h1,.none,by simp⟩))
      | (cases hv with
         | cons h1 t1 => cases t1 with
           | cons h2 t2 => cases t2 with
             | nil=>simp[Ee]at h<;>(obtain⟨rfl,rfl,rfl⟩:=h;first | exact⟨.some h1,.some h2,.none,by simp⟩ | exact⟨.none,.some h1,.some h2,by simp⟩))
      | (cases hv with
         | cons h1 t1 => cases t1 with
           | cons h2 t2 => cases t2 with
             | cons h3 t3 => cases t3 with
               | nil=>simp[Ee]at h;obtain⟨rfl,rfl,rfl⟩:=h;exact⟨.some h1,.some h2,.some h3,by simp⟩)
      | (simp[Ee]at h;done)
set_option maxHeartbeats 4000000 in
theorem kd_of(kd:Kd)(e:TypeId):kd.of e=0∨kd.of e=1∨kd.of e=2:=by
 unfold Kd.of;split
 ·
  exact .inl rfl
 split
 ·
  exact .inr (.inr rfl)
 exact .inr (.inl rfl)
theorem ext_mk : Extern.allNextRows.lookup "internal/bytealg.MakeNoZero" = none ∧ Extern.allGenericRows.lookup "internal/bytealg.MakeNoZero" = none ∧ Extern.allTypedRows.lookup "internal/bytealg.MakeNoZero" = some Extern.BytealgMakeNoZero.makeNoZero := ⟨by kernel_rfl, by kernel_rfl, by kernel_rfl⟩
theorem run_mknz {f : FuncId} {fn : Func} {rt : TypeId} {vs : Array Value} {v : Value} {w' : World} (hf : P.funcs[f]? = some fn) (hb : fn.body.isNone = true) (hn : fn.name = "internal/bytealg.MakeNoZero") (ho : fn.origin = "") (hrt : fn.resultTypes = #[rt])
  (h:(Extern.BytealgMakeNoZero.makeNoZero fn.params #[rt] vs).run P w=.ok v w'):(callFunc f vs).run P w=.ok (.value v) w':=by
 obtain⟨h1,h2,h3⟩:=ext_mk;have hp:Sem.run P program w=.ok P w:=rfl;have zV:Extern.findNext fn=none:=by simp[Extern.findNext,hn,ho,h1,ext_none]
 have hfd:Extern.find fn=some (Extern.BytealgMakeNoZero.makeNoZero fn.params fn.resultTypes):=by simp[Extern.find,hn,h2,h3]
 unfold callFunc;rw[Ah hp];simp only[hf];rw[if_neg (by rw[hn];decide),if_pos hb];rw[Ah (a:=()) (w':=w) rfl];simp only[zV,hfd];rw[hrt,Ah h];rfl
theorem lop_mknz{e:TypeId}{ds:List D}{S:St}{r:D}{S':St}{wr:Bool}(h:lop (.mknz e) ds S=some (r,S',wr)):∃n:Int,ds=[.int .i64 n]∧0≤n∧n≤140737488355328∧r=.msl S.heap.length 0 0 n.toNat none∧S'=newAt S ⟨e,1,List.replicate n.toNat [.junk],0,2,true⟩∧wr=true:=by
 unfold lop at h;split at h<;>simp only[reduceCtorEq,LOp.mknz.injEq]at *;rename_i h1;subst h1;split at h
 ·
  rename_i hn;simp only[Oi,Pi_]at h;obtain⟨rfl,rfl,rfl⟩:=h;exact⟨_,rfl,hn.1,hn.2,rfl,rfl,rfl⟩
 simp at h
theorem tass_ok {t xt : TypeId} {td : TypeDesc} {z x r : D} {v : Value} {ok : Bool} {H : List Z9} (hu : P.underlying t = some td) (kM : ∀ m, td ≠ .interface m) (hz : Qv P t = some z) (hx : VR w ρ H x v) (h : pop (.tass t z ok) [x] = some r) :
    ∃u,(Instr.typeAssert v xt t ok).run P w=.ok u w∧VR w ρ H r u:=by
  obtain⟨zv,wW,yT⟩:∃zv,(zeroValue t).run P w=.ok zv w∧VR w ρ H z zv:=by
    unfold Qv at hz;split at hz
    · rename_i i hi;split at hz
      · rename_i zv wP;exact⟨zv,by simp[zeroValue,typeInfo,hi,wP],Qm hz⟩
      simp at hz
    simp at hz
  have uI:∀(x:D) (v:Value) (b:Bool),VR w ρ H x v→VR w ρ H (.tup [x,.bool b]) (.tuple #[v,.bool b]):=by
    intro x v b hx;have hv:VL w ρ H [x,.bool b] [v,.bool b]:=.cons hx (.cons (.bool _) .nil);exact .tup [x,.bool b] [v,.bool b] rfl (fun j d v=>hv.get)
  have hif:∀(t':TypeId) (u:Value),(Instr.typeAssert (.iface t' u) xt t true).run P w=.ok (if t'=t then .tuple #[u,.bool true] else .tuple #[zv,.bool false]) w:=by
    intro t' u;unfold Instr.typeAssert;simp only[Sem.run_bind,run_underlying hu,Result.andThen_ok]
    cases td<;>first | exact absurd rfl (kM _) | (simp only[if_true];split<;>rename_i he<;>simp[he,wW,Sem.run_bind])
  have hif2:∀(u:Value),(Instr.typeAssert (.iface t u) xt t false).run P w=.ok u w:=by
    intro u;unfold Instr.typeAssert;simp only[Sem.run_bind,run_underlying hu,Result.andThen_ok]
    cases td<;>first | exact absurd rfl (kM _) | simp
  have hni:(Instr.typeAssert .nilIface xt t true).run P w=.ok (.tuple #[zv,.bool false]) w:=by
    unfold Instr.typeAssert;simp only[Sem.run_bind,run_underlying hu,Result.andThen_ok]
    cases td<;>first | exact absurd rfl (kM _) | simp[wW,Sem.run_bind]
  unfold pop at h;split at h<;>simp only[reduceCtorEq,List.cons.injEq,and_true,LOp.tass.injEq]at *
  · rename_i t1 z1 ok1 t' d zU vW;obtain⟨rfl,rfl,rfl⟩:=zU;subst vW
    cases hx with
    | ifc _ _ u hf hv hxx =>
    by_cases he:t'=t
    · subst he;rw[if_pos rfl]at h;simp only[Oi]at h;subst h;cases ok
      · exact⟨_,hif2 _,hxx⟩
      exact⟨_,by rw[hif,if_pos rfl],uI _ _ _ hxx⟩
    rw[if_neg he]at h;cases ok
    · simp at h
    simp only[if_true,Oi]at h;subst h;exact⟨_,by rw[hif,if_neg he],uI _ _ _ yT⟩
  · rename_i t1 z1 ok1 t' d zU vW;obtain⟨rfl,rfl,rfl⟩:=zU;subst vW
    cases hx with
    | ifr _ _ u hv hxx =>
    by_cases he:t'=t
    · subst he;rw[if_pos rfl]at h;simp only[Oi]at h;subst h;cases ok
      · exact⟨_,hif2 _,hxx⟩
      exact⟨_,by rw[hif,if_pos rfl],uI _ _ _ hxx⟩
    rw[if_neg he]at h;cases ok
    · simp at h
    simp only[if_true,Oi]at h;subst h;exact⟨_,by rw[hif,if_neg he],uI _ _ _ yT⟩
  rename_i t1 z1 zU vW;obtain⟨rfl,rfl,rfl⟩:=zU;subst vW;cases hx;simp only[Oi]at h;subst h;exact⟨_,hni,uI _ _ _ yT⟩
set_option maxHeartbeats 8000000 in
theorem aop_ok {kd : Kd} {o : Oper} {l : LOp} {xs : List Operand} {ev : Operand → Value} {ds : List D} {r : D} {S' : St} {wr : Bool} (hevf : ∀ f, ev (.func f) = .func (.func f) #[] #[]) (x9 : lowOp P kd o = some (l, xs)) (hv : VL w ρ S.heap ds (xs.map ev)) (hr : Rel w ρ S.heap) (h : aop l ds S = some (r, S', wr)) :
    Does P w ρ S ev o r S' wr:=by
  obtain⟨odst,oop,oty,opos,oafter,oguard⟩:=o;unfold lowOp at x9;simp only at x9;split at x9
  case h_1 x =>
    simp only[Oi,Pi_]at x9;obtain⟨rfl,rfl⟩:=x9
    cases hv with | cons h1 t1=>cases t1 with | nil =>
    simp only[aop,LOp.loud,pop,Bool.false_eq_true,if_false,Option.map_some,Oi,Pi_]at h;obtain⟨rfl,rfl,rfl⟩:=h;exact⟨_,_,w,rfl,.inl rfl,Aaf.pure hr h1⟩
  case h_2 x =>
    simp only[Oi,Pi_]at x9;obtain⟨rfl,rfl⟩:=x9
    cases hv with | cons h1 t1=>cases t1 with | nil =>
    simp only[aop,LOp.loud,pop,Bool.false_eq_true,if_false,Option.map_some,Oi,Pi_]at h;obtain⟨rfl,rfl,rfl⟩:=h;exact⟨_,_,w,rfl,.inl rfl,Aaf.pure hr h1⟩
  case h_3 c a b =>
    simp only[Oi,Pi_]at x9;obtain⟨rfl,rfl⟩:=x9
    cases hv with | cons h1 t1=>cases t1 with | cons h2 t2=>cases t2 with | cons h3 t3=>cases t3 with | nil =>
    rename_i d1 d2 d3;cases d1<;>simp only[aop,LOp.loud,pop,Bool.false_eq_true,if_false,Option.map_some,Option.map_none,reduceCtorEq]at h;rename_i bb;simp only[Oi,Pi_]at h;obtain⟨rfl,rfl,rfl⟩:=h;generalize hc:ev c=vc at h1;cases h1;cases bb
    · exact⟨_,_,w,by simp[execOp,hc,asBool],.inl rfl,Aaf.pure hr h3⟩
    exact⟨_,_,w,by simp[execOp,hc,asBool],.inl rfl,Aaf.pure hr h2⟩
  case h_4 op t x y ty =>
    have key:l=.bin op→xs=[x,y]→Does P w ρ S ev ⟨odst,.binOp op t x y ty,oty,opos,oafter,oguard⟩ r S' wr:=by
      rintro rfl rfl
      cases hv with | cons h1 t1=>cases t1 with | cons h2 t2=>cases t2 with | nil =>
      simp only[aop,LOp.loud,pop,Bool.false_eq_true,if_false,Om,Pi_]at h;obtain⟨r',hb,rfl,rfl,rfl⟩:=h;exact Does.pure hr rfl (bin_ok h1 h2 hb)
    split at x9
    · rename_i zU;split at x9
      · rename_i hbt;simp only[Oi,Pi_]at x9;obtain⟨rfl,rfl⟩:=x9
        cases hv with | cons h1 t1=>cases t1 with | cons h2 t2=>cases t2 with | nil =>
        rename_i d1 d2;cases d1<;>cases d2<;>simp only[aop,LOp.loud,pop,Bool.false_eq_true,if_false,Option.map_some,Option.map_none,reduceCtorEq]at h;simp only[Oi,Pi_]at h;obtain⟨rfl,rfl,rfl⟩:=h;generalize hx:ev x=vx at h1;generalize hy:ev y=vy at h2;cases h1;cases h2;refine Does.pure (s:=(do eqGuard op t x y (ev x) (ev y);binOp op t (ev x) (ev y))) hr rfl ?_;rw[hx,hy];exact eqb_ok zU rfl (boolT_iff.1 hbt)
      split at x9
      · simp only [Oi, Pi_] at x9;exact key x9.1.symm x9.2.symm
      split at x9
      · rename_i fam hfam;split at x9
        · split at x9
          · rename_i e hpt;simp only[Om,Pi_]at x9;obtain⟨n,hn,rfl,rfl⟩:=x9
            cases hv with | cons h1 t1=>cases t1 with | cons h2 t2=>cases t2 with | nil =>
            simp only[aop,LOp.loud,lop,if_true,Om,Pi_]at h;obtain⟨b,hb,rfl,rfl,rfl⟩:=h;exact Does.pure hr rfl (eqp_ok zU hpt hn h1 h2 hb)
          simp at x9
        rename_i hf1;split at x9
        · simp at x9
        rename_i hf4;simp only[Oi,Pi_]at x9;obtain⟨rfl,rfl⟩:=x9
        cases hv with | cons h1 t1=>cases t1 with | cons h2 t2=>cases t2 with | nil =>
        simp only[aop,LOp.loud,pop,Bool.false_eq_true,if_false,Om,Pi_]at h;obtain⟨_,⟨b,hb,rfl⟩,rfl,rfl,rfl⟩:=h;refine Does.pure hr rfl (eqnil_ok zU hfam hf1 (fun h4=>?_) h1 h2 hb)
        cases hcx:isConst x with
        | true=>exact .inl rfl
        | false =>
          cases hcy:isConst y with
          | true=>exact .inr rfl
          | false=>exact absurd ⟨h4,hcx,hcy⟩ hf4
      split at x9
      · rename_i wV;split at x9
        · rename_i Aak hfl;simp only[Oi,Pi_]at x9;obtain⟨rfl,rfl⟩:=x9
          cases hv with | cons h1 t1=>cases t1 with | cons h2 t2=>cases t2 with | nil =>
          rename_i d1 d2;cases d1<;>cases d2<;>simp only[aop,LOp.loud,pop,Bool.false_eq_true,if_false,Option.map_some,Option.map_none,reduceCtorEq]at h;simp only[Om,Pi_]at h;obtain⟨_,⟨q,hq,rfl⟩,rfl,rfl,rfl⟩:=h;exact Does.pure (s:=(do eqGuard op t x y (ev x) (ev y);binOp op t (ev x) (ev y))) hr rfl (eqs_ok zU rfl wV hfl h1 h2 hq)
        simp at x9
      simp at x9
    simp only[Oi,Pi_]at x9;exact key x9.1.symm x9.2.symm
  case h_5 op t x =>
    simp only[Oi,Pi_]at x9;obtain⟨rfl,rfl⟩:=x9
    cases hv with | cons h1 t1=>cases t1 with | nil =>
    simp only[aop,LOp.loud,pop,Bool.false_eq_true,if_false,Om,Pi_]at h;obtain⟨r',hb,rfl,rfl,rfl⟩:=h;exact Does.pure hr rfl (un_ok h1 hb)
  case h_6 e =>
    split at x9
    · rename_i z n hz hn;split at x9
      · rename_i hl;simp only[Oi,Pi_]at x9;obtain⟨rfl,rfl⟩:=x9;cases hv;simp only[aop,LOp.loud,lop,if_true,Oi,Pi_]at h;obtain⟨rfl,rfl,rfl⟩:=h;exact Does.val rfl (alloc_ok hr hz hn hl)
      simp at x9
    simp at x9
  case h_7 e x =>
    cases hbx:kd.bx odst with
    | false =>
      rw[if_neg (by rw[hbx];exact Bool.false_ne_true)]at x9;simp only[Om,Pi_]at x9;obtain⟨n,hn,rfl,rfl⟩:=x9
      cases hv with | cons h1 t1=>cases t1 with | nil =>
      simp only[aop,LOp.loud,lop,if_true]at h;split at h
      · rename_i hc;simp only[Bool.and_eq_true,beq_iff_eq]at hc;simp only[Oi,Pi_]at h;obtain⟨rfl,rfl,rfl⟩:=h;exact Does.val rfl (box_ok hr hn h1 hc.1 hc.2)
      simp at h
    | true =>
      rw[if_pos hbx]at x9;simp only[Om,Pi_]at x9;obtain⟨n,hn,rfl,rfl⟩:=x9
      cases hv with | cons h1 t1=>cases t1 with | nil =>
      simp only[aop,LOp.loud,lop,if_true]at h;split at h
      · rename_i hc;simp only[Bool.and_eq_true,beq_iff_eq]at hc;simp only[Oi,Pi_]at h;obtain⟨rfl,rfl,rfl⟩:=h;exact Does.val rfl (boxc_ok hr h1 hc.1.1 hc.2)
      simp at h
  case h_8 t ps =>
    split at x9
    · rename_i z pl hz rE;split at x9
      · rename_i places hp;simp only[Oi,Pi_]at x9;obtain⟨rfl,rfl⟩:=x9;simp only[aop,LOp.loud,pop,Bool.false_eq_true,if_false,Om,Pi_]at h;obtain⟨_,⟨cs,hb,rfl⟩,rfl,rfl,rfl⟩:=h;refine Does.pure (s:=Instr.build t (ps.map fun (i,x)=>(i,ev x))) hr rfl ?_;rw[parts_zip];exact build_ok hz rE hp hv (by simp) hb
      simp at x9
    simp at x9
  case h_9 t len ps =>
    split at x9
    · rename_i e he;split at x9
      · rename_i z n hz hn;split at x9
        · rename_i hl;simp only[Oi,Pi_]at x9;obtain⟨rfl,rfl⟩:=x9;simp only[aop,LOp.loud,lop,if_true]at h;refine Does.val (s:=Instr.buildSlice t len (ps.map fun (i,x)=>(i,ev x))) rfl ?_;rw[parts_zip];generalize (if kd.bx odst=true then 1 else kd.of e)=kk at h;by_cases hk0:kk=0
          · rw [if_pos hk0] at h
            cases hf:Gn (List.replicate len z) n (ps.toList.map (·.1)) ds with
            | none=>rw[hf]at h;simp at h
            | some rs =>
              rw[hf]at h;simp only[Oi,Pi_]at h;obtain⟨rfl,rfl,rfl⟩:=h;exact bslice0_ok hr (sliceT_iff.1 he) hz hn hl.1 hl.2 hv (by simp) hf
          rw[if_neg hk0]at h
          cases hys:snapVs S.heap.length S.heap ds with
          | none=>rw[hys]at h;simp at h
          | some ys =>
            rw[hys]at h;simp only at h
            cases hrs:C9 (List.replicate len z) n (ps.toList.map (·.1)) ys with
            | none=>rw[hrs]at h;simp at h
            | some rs =>
              rw[hrs]at h;exact bslice_ok hr (sliceT_iff.1 he) hz hn hl.1 hl.2 hv (by simp) hys hrs h
        simp at x9
      simp at x9
    simp at x9
  case h_10 t a =>
    simp only[Om,Pi_]at x9;obtain⟨n,hn,rfl,rfl⟩:=x9
    cases hv with | cons h1 t1=>cases t1 with | nil =>
    simp only[aop,LOp.loud,lop,if_true,Om,Pi_]at h;obtain⟨r',hb,rfl,rfl,rfl⟩:=h;exact Does.pure hr rfl (load_ok hr h1 hb hn rfl)
  case h_11 t a x =>
    simp only[Om,Pi_]at x9;obtain⟨n,hn,rfl,rfl⟩:=x9
    cases hv with | cons h1 t1=>cases t1 with | cons h2 t2=>cases t2 with | nil =>
    simp only[aop,LOp.loud,lop,if_true,Om,Pi_]at h;obtain⟨S2,hb,rfl,rfl,rfl⟩:=h;obtain⟨w',h3,h4⟩:=store_ok hr h1 h2 hn hb;exact⟨.skip,undef,w',by simp[execOp,h3],.inr ⟨rfl,rfl⟩,h4⟩
  case h_12 x =>
    simp only[Oi,Pi_]at x9;obtain⟨rfl,rfl⟩:=x9
    cases hv with | cons h1 t1=>cases t1 with | nil =>
    rename_i d1;generalize hx:ev x=vx at h1;cases d1<;>simp only[aop,LOp.loud,pop,Bool.false_eq_true,if_false,Option.map_some,Option.map_none,reduceCtorEq]at h
    all_goals
      simp only[Oi,Pi_]at h;obtain⟨rfl,rfl,rfl⟩:=h;have h1':=h1;cases h1;exact⟨_,_,w,by simp[execOp,hx],.inl rfl,Aaf.pure hr h1'⟩
  case h_13 s x f =>
    split at x9
    · rename_i fd hfd;simp only[Om,Pi_]at x9;obtain⟨n,hn,rfl,rfl⟩:=x9
      cases hv with | cons h1 t1=>cases t1 with | nil =>
      simp only[aop,LOp.loud,pop,Bool.false_eq_true,if_false,Om,Pi_]at h;obtain⟨r',hb,rfl,rfl,rfl⟩:=h;obtain⟨fs,hu,hf⟩:=Zf hfd;exact Does.pure hr rfl (faddr_ok hu hf hn h1 hb)
    simp at x9
  case h_14 s x f =>
    split at x9
    · rename_i fd hfd;simp only[Om,Pi_]at x9;obtain⟨n,hn,rfl,rfl⟩:=x9
      cases hv with | cons h1 t1=>cases t1 with | nil =>
      rename_i d1;cases d1<;>simp only[aop,LOp.loud,pop,Bool.false_eq_true,if_false,Option.map_some,Option.map_none,reduceCtorEq]at h;simp only[Om,Pi_]at h;obtain⟨r',hb,rfl,rfl,rfl⟩:=h;obtain⟨fs,hu,hf⟩:=Zf hfd;generalize hx:ev x=vx at h1;refine Does.pure (s:=Instr.field s (ev x) f) hr rfl ?_;rw[hx]
      cases h1 with
      | agg _ vs hl hc hh =>
        obtain⟨v,h2,h3⟩:=Rl (P:=P) hl hc hh hb hn rfl;exact⟨v,by simp[Instr.field,run_underlying hu,hf,asAgg,h2],h3⟩
    simp at x9
  case h_15 t x i =>
    split at x9
    · rename_i e he;simp only[Om,Pi_]at x9;obtain⟨n,hn,rfl,rfl⟩:=x9
      cases hv with | cons h1 t1=>cases t1 with | cons h2 t2=>cases t2 with | nil =>
      simp only[aop,LOp.loud,lop,if_true,Om,Pi_]at h;obtain⟨r',hb,rfl,rfl,rfl⟩:=h;exact Does.pure hr rfl (iaddr_ok (sliceT_iff.1 he) hn h1 h2 hb)
    split at x9
    · rename_i len e he;simp only[Om,Pi_]at x9;obtain⟨n,hn,rfl,rfl⟩:=x9
      cases hv with | cons h1 t1=>cases t1 with | cons h2 t2=>cases t2 with | nil =>
      simp only[aop,LOp.loud,pop,Bool.false_eq_true,if_false,Om,Pi_]at h;obtain⟨r',hb,rfl,rfl,rfl⟩:=h;exact Does.pure hr rfl (aaddr_ok (arrayT_iff.1 he) hn h1 h2 hb)
    simp at x9
  case h_16 t x i =>
    split at x9
    · rename_i hs;simp only[Oi,Pi_]at x9;obtain⟨rfl,rfl⟩:=x9
      cases hv with | cons h1 t1=>cases t1 with | cons h2 t2=>cases t2 with | nil =>
      simp only[aop,LOp.loud,pop,Bool.false_eq_true,if_false,Om,Pi_]at h;obtain⟨r',hb,rfl,rfl,rfl⟩:=h;exact Does.pure hr rfl (index_ok hs h1 h2 hb)
    split at x9
    · rename_i len e he;simp only[Om,Pi_]at x9;obtain⟨n,hn,rfl,rfl⟩:=x9
      cases hv with | cons h1 t1=>cases t1 with | cons h2 t2=>cases t2 with | nil =>
      rename_i d1 d2;cases d1<;>cases d2<;>simp only[aop,LOp.loud,pop,Bool.false_eq_true,if_false,Option.map_some,Option.map_none,reduceCtorEq]at h;split at h
      · rename_i hj;simp only[Om,Pi_]at h;obtain⟨r',hb,rfl,rfl,rfl⟩:=h;generalize hx:ev x=vx at h1;generalize hi:ev i=vi at h2;cases h2;refine Does.pure (s:=Instr.index t (ev x) (ev i)) hr rfl ?_;rw[hx,hi]
        cases h1 with
        | agg _ vs hl hc hh =>
          obtain⟨v,h2,h3⟩:=Rl (P:=P) hl hc hh hb hn rfl;exact⟨v,by simp[Instr.index,asIntOf,run_underlying (arrayT_iff.1 he),hj,run_sizeOf hn,h2],h3⟩
      simp at h
    simp at x9
  case h_17 t x lo hi mx =>
    split at x9
    · rename_i hs;simp only[Oi,Pi_]at x9;obtain⟨rfl,rfl⟩:=x9
      cases hv with | cons h1 t1 =>
      rename_i d1 ds;generalize hx:ev x=vx at h1;cases d1<;>simp only[aop,LOp.loud,pop,Bool.false_eq_true,if_false,Option.map_some,Option.map_none,reduceCtorEq]at h;cases h1;split at h
      · rename_i a b hsa;simp only[Om,Pi_]at h;obtain⟨_,⟨⟨l,hh⟩,hb,rfl⟩,rfl,rfl,rfl⟩:=h;obtain⟨o1,o2,o3,_⟩:=vo_of t1 hsa;refine Does.pure (s:=Instr.sliceAt t (ev x) (lo.map ev) (hi.map ev) (mx.map ev)) hr rfl ?_;generalize mx.map ev=vm at o3;cases o3;rw[hx];exact⟨_,sliceStr_ok (strT_iff.1 hs) o1 o2 hb,.str _⟩
      simp at h
    split at x9
    · rename_i e he;simp only[Om,Pi_]at x9;obtain⟨n,hn,rfl,rfl⟩:=x9
      cases hv with | cons h1 t1 =>
      simp only[aop,LOp.loud,lop,if_true]at h;split at h
      · rename_i a b m hsa;simp only[Om,Pi_]at h;obtain⟨r',hb,rfl,rfl,rfl⟩:=h;obtain⟨o1,o2,o3,o4⟩:=vo_of t1 hsa;exact Does.pure hr rfl (slice_ok (sliceT_iff.1 he) hn h1 o1 o2 o3 o4 hb)
      simp at h
    simp at x9
  case h_18 x i =>
    simp only[Oi,Pi_]at x9;obtain⟨rfl,rfl⟩:=x9
    cases hv with | cons h1 t1=>cases t1 with | nil =>
    rename_i d1;cases d1<;>simp only[aop,LOp.loud,pop,Bool.false_eq_true,if_false,Option.map_some,Option.map_none,reduceCtorEq]at h;simp only[Om,Pi_]at h;obtain⟨r',hb,rfl,rfl,rfl⟩:=h;exact Does.pure hr rfl (extract_ok h1 hb)
  case h_19 t l c =>
    split at x9
    · rename_i e he;split at x9
      · rename_i i z n hi hz hn;split at x9
        · rename_i hl;simp only[Oi,Pi_]at x9;obtain⟨rfl,rfl⟩:=x9
          cases hv with | cons h1 t1=>cases t1 with | cons h2 t2=>cases t2 with | nil =>
          rename_i d1 d2;generalize hvl:ev l=vl at h1;generalize hvc:ev c=vc at h2;cases d1<;>cases d2<;>simp only[aop,LOp.loud,lop,if_true,reduceCtorEq]at h;cases h1;cases h2;refine Does.val (s:=Instr.makeSlice t (ev l) (ev c)) rfl ?_;rw[hvl,hvc];exact mkslice_ok hr (sliceT_iff.1 he) hi hn hz hl.1 hl.2 (kd_of kd _) h
        simp at x9
      simp at x9
    simp at x9
  case h_20 t rr =>
    split at x9
    · rename_i hn;simp only[Oi,Pi_]at x9;obtain⟨rfl,rfl⟩:=x9;cases hv;simp only[aop,LOp.loud,lop,if_true,Oi,Pi_]at h;obtain⟨rfl,rfl,rfl⟩:=h;have:rr=none:=by simpa using hn
      subst this;exact Does.val rfl (mkmap_ok hr)
    simp at x9
  case h_21 t m k v =>
    split at x9
    · rename_i kt e hmt;split at x9
      · rename_i kf hkf;simp only[Oi,Pi_]at x9;obtain⟨rfl,rfl⟩:=x9
        cases hv with | cons h1 t1=>cases t1 with | cons h2 t2=>cases t2 with | cons h3 t3=>cases t3 with | nil =>
        simp only[aop,LOp.loud,lop,if_true,Om,Pi_]at h;obtain⟨S2,hb,rfl,rfl,rfl⟩:=h;obtain⟨w',h4,h5⟩:=mapset_ok hr (mapT_iff.1 hmt) hkf h1 h2 h3 hb;exact⟨.skip,undef,w',by simp[execOp,h4],.inr ⟨rfl,rfl⟩,h5⟩
      split at x9
      · rename_i hag;simp only[Om,Pi_]at x9;obtain⟨Aak,hfm,rfl,rfl⟩:=x9
        cases hv with | cons h1 t1=>cases t1 with | cons h2 t2=>cases t2 with | cons h3 t3=>cases t3 with | nil =>
        simp only[aop,LOp.loud,lop,if_true,Om,Pi_]at h;obtain⟨S2,hb,rfl,rfl,rfl⟩:=h;obtain⟨w',h4,h5⟩:=mapsetS_ok hr (mapT_iff.1 hmt) hag hfm h1 h2 h3 hb;exact⟨.skip,undef,w',by simp[execOp,h4],.inr ⟨rfl,rfl⟩,h5⟩
      simp at x9
    simp at x9
  case h_22 t m k v =>
    split at x9
    · rename_i kt e hmt;split at x9
      · rename_i kf hkf;simp only[Oi,Pi_]at x9;obtain⟨rfl,rfl⟩:=x9
        cases hv with | cons h1 t1=>cases t1 with | cons h2 t2=>cases t2 with | cons h3 t3=>cases t3 with | nil =>
        simp only[aop,LOp.loud,lop,if_true,Om,Pi_]at h;obtain⟨S2,hb,rfl,rfl,rfl⟩:=h;obtain⟨w',h4,h5⟩:=mapset_ok hr (mapT_iff.1 hmt) hkf h1 h2 h3 hb;exact⟨.skip,undef,w',by simp[execOp,h4],.inr ⟨rfl,rfl⟩,h5⟩
      split at x9
      · rename_i hag;simp only[Om,Pi_]at x9;obtain⟨Aak,hfm,rfl,rfl⟩:=x9
        cases hv with | cons h1 t1=>cases t1 with | cons h2 t2=>cases t2 with | cons h3 t3=>cases t3 with | nil =>
        simp only[aop,LOp.loud,lop,if_true,Om,Pi_]at h;obtain⟨S2,hb,rfl,rfl,rfl⟩:=h;obtain⟨w',h4,h5⟩:=mapsetS_ok hr (mapT_iff.1 hmt) hag hfm h1 h2 h3 hb;exact⟨.skip,undef,w',by simp[execOp,h4],.inr ⟨rfl,rfl⟩,h5⟩
      simp at x9
    simp at x9
  case h_23 t m k ok =>
    split at x9
    · rename_i kt e hmt;split at x9
      · rename_i z kf hz hkf;simp only[Oi,Pi_]at x9;obtain⟨rfl,rfl⟩:=x9
        cases hv with | cons h1 t1=>cases t1 with | cons h2 t2=>cases t2 with | nil =>
        simp only[aop,LOp.loud,lop,if_true,Om,Pi_]at h;obtain⟨r',hb,rfl,rfl,rfl⟩:=h;exact Does.pure hr rfl (mapget_ok hr (mapT_iff.1 hmt) hkf hz h1 h2 hb)
      · rename_i z hz hkn;split at x9
        · rename_i hag;simp only[Om,Pi_]at x9;obtain⟨Aak,hfm,rfl,rfl⟩:=x9
          cases hv with | cons h1 t1=>cases t1 with | cons h2 t2=>cases t2 with | nil =>
          simp only[aop,LOp.loud,lop,if_true,Om,Pi_]at h;obtain⟨r',hb,rfl,rfl,rfl⟩:=h;exact Does.pure hr rfl (mapgetS_ok hr (mapT_iff.1 hmt) hag hfm hz h1 h2 hb)
        simp at x9
      simp at x9
    simp at x9
  case h_24 f first caps =>
    split at x9
    · rename_i hf;simp only[Oi,Pi_]at x9;obtain⟨rfl,rfl⟩:=x9;simp only[aop,LOp.loud,pop,Bool.false_eq_true,if_false,Option.map_some,Oi,Pi_]at h;obtain⟨rfl,rfl,rfl⟩:=h
      have hf0:first=#[]:=by simpa using hf
      subst hf0;refine Does.pure (s:=Instr.makeFunc (.func f) (#[].map ev) (caps.map ev)) hr rfl ⟨.func (.func f) #[] (caps.map ev),by simp[Instr.makeFunc],?_⟩;have:=VR.fn (w:=w) (ρ:=ρ) (H:=S.heap) f ds (caps.toList.map ev) hv.len (fun j d v=>hv.get);have he:(caps.toList.map ev).toArray=caps.map ev:=by apply Array.ext';simp
      rw[he]at this;exact this
    simp at x9
  case h_25 s d x =>
    split at x9
    · rename_i k1 k wF hk;simp only[Oi,Pi_]at x9;obtain⟨rfl,rfl⟩:=x9
      cases hv with | cons h1 t1=>cases t1 with | nil =>
      rename_i d1;cases d1<;>simp only[aop,LOp.loud,pop,Bool.false_eq_true,if_false,Option.map_some,Option.map_none,reduceCtorEq]at h;simp only[Oi,Pi_]at h;obtain⟨rfl,rfl,rfl⟩:=h;generalize hx:ev x=vx at h1;cases h1;refine Does.pure (s:=convert s d (ev x)) hr rfl ⟨.int k _,?_,.int _ _⟩;rw[hx];simp[convert,run_underlying (intT_iff.1 wF),run_underlying (intT_iff.1 hk),Conv.intToInt]
    split at x9
    · rename_i hss;simp only[Bool.and_eq_true]at hss;simp only[Oi,Pi_]at x9;obtain⟨rfl,rfl⟩:=x9
      cases hv with | cons h1 t1=>cases t1 with | nil =>
      rename_i d1;cases d1<;>simp only[aop,LOp.loud,pop,Bool.false_eq_true,if_false,Option.map_some,Option.map_none,reduceCtorEq]at h;simp only[Oi,Pi_]at h;obtain⟨rfl,rfl,rfl⟩:=h;generalize hx:ev x=vx at h1;cases h1;refine Does.pure (s:=convert s d (ev x)) hr rfl ⟨.string _,?_,.str _⟩;rw[hx];simp[convert,run_underlying (strT_iff.1 hss.1),run_underlying (strT_iff.1 hss.2)]
    split at x9
    · rename_i hud;split at x9
      · rename_i t hpt;simp only[Om,Pi_]at x9;obtain⟨n,hn,rfl,rfl⟩:=x9
        cases hv with | cons h1 t1=>cases t1 with | nil =>
        simp only[aop,LOp.loud,lop,if_true,Om,Pi_]at h;obtain⟨r',hb,rfl,rfl,rfl⟩:=h;obtain⟨h3,h4⟩:=toU_ok hr hpt hud hn h1 hb;exact Does.pure (s:=convert s d (ev x)) hr rfl ⟨_,h3,h4⟩
      simp at x9
    split at x9
    · rename_i hus;split at x9
      · rename_i t hpt;simp only[Om,Pi_]at x9;obtain⟨n,hn,rfl,rfl⟩:=x9
        cases hv with | cons h1 t1=>cases t1 with | nil =>
        simp only[aop,LOp.loud,lop,if_true,Om,Pi_]at h;obtain⟨r',hb,rfl,rfl,rfl⟩:=h;obtain⟨h3,h4⟩:=ofU_ok hr hus hpt hn h1 hb;exact Does.pure (s:=convert s d (ev x)) hr rfl ⟨_,h3,h4⟩
      simp at x9
    split at x9
    · rename_i e e' hse hde;split at x9
      · rename_i hc;obtain⟨rfl,yu,zX⟩:=hc;simp only[Oi,Pi_]at x9;obtain⟨rfl,rfl⟩:=x9
        cases hv with | cons h1 t1=>cases t1 with | nil =>
        simp only[aop,LOp.loud,lop,if_true]at h;exact Does.val (s:=convert s s (ev x)) rfl (strsh_ok hr (sliceT_iff.1 hse) (intT_iff.1 yu) h1 h)
      simp at x9
    · rename_i e hse hde;split at x9
      · rename_i hc;simp only[Bool.and_eq_true,decide_eq_true_eq,beq_iff_eq]at hc;simp only[Oi,Pi_]at x9;obtain⟨rfl,rfl⟩:=x9
        cases hv with | cons h1 t1=>cases t1 with | nil =>
        simp only[aop,LOp.loud,lop,if_true]at h;split at h
        · rename_i rows xC;simp only[Om,Pi_]at h;obtain⟨b,hb,rfl,rfl,rfl⟩:=h;exact Does.pure hr rfl ⟨_,bstr_ok hr (sliceT_iff.1 hse) (intT_iff.1 hc.1.1) (strT_iff.1 hc.1.2) h1 xC hb,.str _⟩
        simp at h
      simp at x9
    · rename_i e hse hde;split at x9
      · rename_i hc;simp only[Bool.and_eq_true,decide_eq_true_eq,beq_iff_eq]at hc;simp only[Oi,Pi_]at x9;obtain⟨rfl,rfl⟩:=x9
        cases hv with | cons h1 t1=>cases t1 with | nil =>
        rename_i d1;generalize hx:ev x=vx at h1;cases d1<;>simp only[aop,LOp.loud,lop,if_true,reduceCtorEq]at h;cases h1;simp only[Oi,Pi_]at h;obtain⟨rfl,rfl,rfl⟩:=h;refine Does.val (s:=convert s d (ev x)) rfl ?_;rw[hx];exact strb_ok hr (strT_iff.1 hc.1.2) (sliceT_iff.1 hde) (intT_iff.1 hc.1.1)
      simp at x9
    simp at x9
  case h_26 t x =>
    split at x9
    · simp at x9
    · simp at x9
    rename_i td kM hu;simp only[Oi,Pi_]at x9;obtain⟨rfl,rfl⟩:=x9
    cases hv with | cons h1 t1=>cases t1 with | nil =>
    simp only[aop,LOp.loud,pop,Bool.false_eq_true,if_false]at h;split at h
    · rename_i ru;simp only[Option.map_some,Oi,Pi_]at h;obtain⟨rfl,rfl,rfl⟩:=h;refine Does.pure hr (s:=Instr.makeInterface t (ev x)) rfl ⟨.iface t (ev x),?_,?_⟩
      · simp only [Instr.makeInterface, Sem.run_bind, run_underlying hu, Result.andThen_ok]
        cases td<;>first | rfl | exact absurd rfl (kM _)
      split
      · rename_i hf;exact .ifc t _ _ hf ru h1
      exact .ifr t _ _ ru h1
    simp at h
  case h_27 x xt t ok =>
    split at x9
    · simp at x9
    · simp at x9
    rename_i td kM hu;simp only[Om,Pi_]at x9;obtain⟨z,hz,rfl,rfl⟩:=x9
    cases hv with | cons h1 t1=>cases t1 with | nil =>
    simp only[aop,LOp.loud,Bool.false_eq_true,if_false,Om,Pi_]at h;obtain⟨r',hp,rfl,rfl,rfl⟩:=h;exact Does.pure hr (s:=Instr.typeAssert (ev x) xt t ok) rfl (tass_ok hu (fun m hm=>kM m hm) hz h1 hp)
  case h_28 c =>
    obtain⟨callee,args,argTypes⟩:=c
    have run_bi:∀(bi:Builtin) (s:Sem Value),(∀k,builtin bi argTypes oty k (args.map ev)=(do pure (.value (←s))))→callee=.builtin bi→(∃v w',s.run P w=.ok v w'∧Aaf w ρ S r S' wr v w') →
        Does P w ρ S ev ⟨odst,.call ⟨callee,args,argTypes⟩,oty,opos,oafter,oguard⟩ r S' wr:=by
      rintro bi s hs rfl hh;refine Does.val (s:=s) ?_ hh;simp only[execOp,resolve,invoke];rw[←hs (args.map fun | .const _=>true | _=>false)];rfl
    simp only at x9;split at x9
    · simp only [Oi, Pi_] at x9;obtain⟨rfl,rfl⟩:=x9;simp[aop,lop,LOp.loud]at h
    · -- a function
      rename_i f;split at x9
      · rename_i fn zV;split at x9
        · rename_i hbody;split at x9
          · rename_i hmz;split at x9
            · rename_i rt hrt;split at x9
              · rename_i e he;split at x9
                · rename_i hu8;simp only[Oi,Pi_]at x9;obtain⟨rfl,rfl⟩:=x9;have he':(args.toList.map ev).toArray=args.map ev:=by apply Array.ext';simp
                  have hrt':fn.resultTypes=#[rt]:=by apply Array.ext';simpa using hrt
                  simp only[aop,LOp.loud,if_true]at h;obtain⟨n,rfl,hn0,vF,rfl,rfl,rfl⟩:=lop_mknz h
                  have hvs:args.map ev=#[.int .i64 n]:=by
                    rw[←he'];generalize args.toList.map ev=vs at hv
                    cases hv with
                    | cons h1 t1 =>
                    cases t1 with
                    | nil =>
                    cases h1;rfl
                  obtain⟨v,w',h4,h5⟩:=mknz_ok (P:=P) fn.params hr (sliceT_iff.1 he) rfl hn0 vF;refine⟨.value v,v,w',?_,.inl rfl,h5⟩
                  have hh:(execOp ev ⟨odst,.call ⟨.value (.func f),args,argTypes⟩,oty,opos,oafter,oguard⟩).run P w=(callFunc f (args.map ev)).run P w:=by
                    simp[execOp,resolve,Deferred.ofValue,invoke,hevf]
                  rw[hh,hvs];exact run_mknz zV hbody hmz.1 hmz.2 hrt' h4
                simp at x9
              simp at x9
            simp at x9
          split at x9
          rotate_left
          · simp at x9
          rename_i l' hl';simp only[Oi,Pi_]at x9;obtain⟨rfl,rfl⟩:=x9;split at hl'
          · rename_i horig;have he:(args.toList.map ev).toArray=args.map ev:=by apply Array.ext';simp
            have run_x : ∀ (name : String) (g : Array Value → Sem Value), fn.name = name → (name == "runtime.NumGoroutine") = false → (Extern.allNextRows.lookup name = none ∧ Extern.allGenericRows.lookup name = none ∧ Extern.allTypedRows.lookup name = none ∧ Extern.allRows.lookup name = some g) →
                (∃v w',(g (args.map ev)).run P w=.ok v w'∧Aaf w ρ S r S' wr v w')→Does P w ρ S ev ⟨odst,.call ⟨.value (.func f),args,argTypes⟩,oty,opos,oafter,oguard⟩ r S' wr:=by
              rintro name g h1 h2 h3 ⟨v,w',h4,h5⟩;refine⟨.value v,v,w',?_,.inl rfl,h5⟩
              have hh:(execOp ev ⟨odst,.call ⟨.value (.func f),args,argTypes⟩,oty,opos,oafter,oguard⟩).run P w=(callFunc f (args.map ev)).run P w:=by
                simp[execOp,resolve,Deferred.ofValue,invoke,hevf]
              rw[hh];exact run_ext zV hbody h1 horig h2 h3 h4
            unfold Ol at hl';split at hl'
            · rename_i hnm;simp only[Oi]at hl';subst hl';refine run_x _ _ hnm (by decide) ext_idx ?_;rw[←he];generalize args.toList.map ev=vs at hv
              cases hv with
              | nil=>simp[aop,LOp.loud,pop]at h
              | cons h1 t1 => cases t1 with
                | nil=>simp[aop,LOp.loud,pop]at h
                | cons h2 t2 => cases t2 with
                  | cons h3 t3=>simp[aop,LOp.loud,pop]at h
                  | nil =>
                    rename_i d1 v1 d2 v2;simp only[aop,LOp.loud,Bool.false_eq_true,if_false,Om,Pi_]at h;obtain⟨r',hp,rfl,rfl,rfl⟩:=h;unfold pop at hp;split at hp<;>simp only[reduceCtorEq,List.cons.injEq,and_true,Oi]at *;rename_i s c vW;obtain⟨rfl,rfl⟩:=vW;subst hp;cases h1;cases h2;exact⟨_,w,idxb_run,Aaf.pure hr (.int _ _)⟩
            split at hl'
            · rename_i hnm;simp only[Oi]at hl';subst hl';refine run_x _ _ hnm (by decide) ext_cnt ?_;rw[←he];generalize args.toList.map ev=vs at hv
              cases hv with
              | nil=>simp[aop,LOp.loud,pop]at h
              | cons h1 t1 => cases t1 with
                | nil=>simp[aop,LOp.loud,pop]at h
                | cons h2 t2 => cases t2 with
                  | cons h3 t3=>simp[aop,LOp.loud,pop]at h
                  | nil =>
                    rename_i d1 v1 d2 v2;simp only[aop,LOp.loud,Bool.false_eq_true,if_false,Om,Pi_]at h;obtain⟨r',hp,rfl,rfl,rfl⟩:=h;unfold pop at hp;split at hp<;>simp only[reduceCtorEq,List.cons.injEq,and_true,Oi]at *;rename_i s c vW;obtain⟨rfl,rfl⟩:=vW;subst hp;cases h1;cases h2;exact⟨_,w,cntb_run,Aaf.pure hr (.int _ _)⟩
            split at hl'
            · rename_i hnm;simp only[Oi]at hl';subst hl';refine run_x _ _ hnm (by decide) ext_esc ?_;rw[←he];generalize args.toList.map ev=vs at hv
              cases hv with
              | nil=>simp[aop,LOp.loud,pop]at h
              | cons h1 t1 => cases t1 with
                | cons h2 t2=>simp[aop,LOp.loud,pop]at h
                | nil =>
                  simp only[aop,LOp.loud,pop,Bool.false_eq_true,if_false,Option.map_some,Oi,Pi_]at h;obtain⟨rfl,rfl,rfl⟩:=h;exact⟨_,w,rfl,Aaf.pure hr h1⟩
            simp at hl'
          simp at hl'
        simp only[Oi,Pi_]at x9;obtain⟨rfl,rfl⟩:=x9;simp[aop,lop,LOp.loud]at h
      simp at x9
    · simp only [Oi, Pi_] at x9;obtain⟨rfl,rfl⟩:=x9;simp[aop,lop,LOp.loud]at h
    · -- len
      split at x9
      · rename_i x t yt qj;have ha:args=#[x]:=by apply Array.ext';simpa using yt
        have hb:argTypes=#[t]:=by apply Array.ext';simpa using qj
        subst ha hb;split at x9
        · rename_i xP;simp only[Oi,Pi_]at x9;obtain⟨rfl,rfl⟩:=x9
          cases hv with | cons h1 t1=>cases t1 with | nil =>
          simp only[aop,LOp.loud,pop,Bool.false_eq_true,if_false,Om,Pi_]at h;obtain⟨r',hb,rfl,rfl,rfl⟩:=h
          have ht:(Qs P t=true∧P.underlying t=some .string)∨(Qs P t=false∧∃e,P.underlying t=some (.slice e)):=by
            cases hs:Qs P t with
            | true=>exact .inl ⟨rfl,strT_iff.1 hs⟩
            | false =>
              rw[hs]at xP;simp only[Bool.false_or]at xP;obtain⟨e,he⟩:=Option.isSome_iff_exists.1 xP;exact .inr ⟨rfl,e,sliceT_iff.1 he⟩
          obtain⟨v,h3,h4⟩:=len_ok (P:=P) (ty:=oty) ht h1 hb;exact run_bi .len (Builtin.len_ #[t] oty #[ev x]) (fun k=>by simp[builtin]) rfl ⟨v,w,h3,Aaf.pure hr h4⟩
        split at x9
        · rename_i n e he;simp only[Oi,Pi_]at x9;obtain⟨rfl,rfl⟩:=x9
          cases hv with | cons h1 t1=>cases t1 with | nil =>
          simp only[aop,LOp.loud,pop,Bool.false_eq_true,if_false,Option.map_some,Oi,Pi_]at h;obtain⟨rfl,rfl,rfl⟩:=h;exact run_bi .len (Builtin.len_ #[t] oty #[ev x]) (fun k=>by simp[builtin]) rfl ⟨.int .i64 n,w,by simp[Builtin.len_,run_underlying (arrayT_iff.1 he),goInt],Aaf.pure hr (.int _ _)⟩
        simp at x9
      simp at x9
    · -- cap
      split at x9
      · rename_i x t yt qj;have ha:args=#[x]:=by apply Array.ext';simpa using yt
        have hb:argTypes=#[t]:=by apply Array.ext';simpa using qj
        subst ha hb;split at x9
        · rename_i xP;simp only[Oi,Pi_]at x9;obtain⟨rfl,rfl⟩:=x9
          cases hv with | cons h1 t1=>cases t1 with | nil =>
          simp only[aop,LOp.loud,pop,Bool.false_eq_true,if_false,Om,Pi_]at h;obtain⟨r',hb,rfl,rfl,rfl⟩:=h;obtain⟨e,he⟩:=Option.isSome_iff_exists.1 xP;obtain⟨v,h3,h4⟩:=cap_ok (P:=P) (ty:=oty) (sliceT_iff.1 he) h1 hb;exact run_bi .cap (Builtin.cap_ #[t] oty #[ev x]) (fun k=>by simp[builtin]) rfl ⟨v,w,h3,Aaf.pure hr h4⟩
        simp at x9
      simp at x9
    · -- append
      split at x9
      · rename_i sx x t t' yt qj;have ha:args=#[sx,x]:=by apply Array.ext';simpa using yt
        have hb:argTypes=#[t,t']:=by apply Array.ext';simpa using qj
        subst ha hb;split at x9
        · rename_i xP;split at x9
          · rename_i e he;split at x9
            · rename_i i z hi hz;split at x9
              · rename_i hl;simp only[Oi,Pi_]at x9;obtain⟨rfl,rfl⟩:=x9
                cases hv with | cons h1 t1=>cases t1 with | cons h2 t2=>cases t2 with | nil =>
                rename_i d1 d2;generalize hx:ev x=vx at h2;cases d2<;>simp only[aop,LOp.loud,lop,if_true,reduceCtorEq]at h;cases h2;refine run_bi .append (Builtin.append_ #[t,t'] oty #[ev sx,ev x]) (fun k=>by simp[builtin]) rfl ?_;rw[hx];exact appstr_ok hr (sliceT_iff.1 he) (strT_iff.1 xP) hi hl.2.1 hz hl.2.2.1 hl.2.2.2 (kd_of kd _) h1 h
              simp at x9
            simp at x9
          simp at x9
        split at x9
        · rename_i htt;subst htt;split at x9
          · rename_i e he;split at x9
            · rename_i i n z hi hn hz;split at x9
              · rename_i hl;simp only[Oi,Pi_]at x9;obtain⟨rfl,rfl⟩:=x9
                cases hv with | cons h1 t1=>cases t1 with | cons h2 t2=>cases t2 with | nil =>
                simp only[aop,LOp.loud,lop,if_true]at h;exact run_bi .append (Builtin.append_ #[t,t] oty #[ev sx,ev x]) (fun k=>by simp[builtin]) rfl (append_ok hr (sliceT_iff.1 he) hi hn hz hl.1 hl.2 (kd_of kd _) h1 h2 h)
              simp at x9
            simp at x9
          simp at x9
        split at x9
        · rename_i hit;obtain⟨kn,hkn⟩:=Option.isSome_iff_exists.1 hit;split at x9
          · rename_i e he;split at x9
            · rename_i i n z hi hn hz;split at x9
              · rename_i hl;simp only[Oi,Pi_]at x9;obtain⟨rfl,rfl⟩:=x9
                cases hv with | cons h1 t1=>cases t1 with | cons h2 t2=>cases t2 with | nil =>
                rename_i d1 d2;generalize hvs:ev sx=vs at h1;generalize hvx:ev x=vx at h2;cases d1<;>cases d2<;>simp only[aop,LOp.loud,lop,if_true,reduceCtorEq]at h;cases h1;cases h2;refine run_bi .append (Builtin.append_ #[t,t'] oty #[ev sx,ev x]) (fun k=>by simp[builtin]) rfl ?_;rw[hvs,hvx];exact appmk_ok hr (sliceT_iff.1 he) (intT_iff.1 hkn) hi hn hz hl.1 (kd:=if kd.of e=0 then 0 else 2) (by split<;>simp) hl.2 h
              simp at x9
            simp at x9
          simp at x9
        simp at x9
      simp at x9
    · -- copy
      split at x9
      · rename_i dx x t t' yt qj;have ha:args=#[dx,x]:=by apply Array.ext';simpa using yt
        have hb:argTypes=#[t,t']:=by apply Array.ext';simpa using qj
        subst ha hb;split at x9
        · rename_i e he;split at x9
          · rename_i i n hi hn;split at x9
            · rename_i vF;subst vF;split at x9
              · rename_i xP;split at x9
                · simp only [Oi, Pi_] at x9;obtain⟨rfl,rfl⟩:=x9
                  cases hv with | cons h1 t1=>cases t1 with | cons h2 t2=>cases t2 with | nil =>
                  rename_i d1 d2;generalize hx:ev x=vx at h2;cases d2<;>simp only[aop,LOp.loud,lop,if_true,reduceCtorEq]at h;cases h2;by_cases hk0:kd.of e=0
                  · rw[if_pos hk0]at h;simp at h
                  rw[if_neg hk0]at h;refine run_bi .copy (Builtin.copy_ #[t,t'] oty #[ev dx,ev x]) (fun k=>by simp[builtin]) rfl ?_;rw[hx];exact copys_ok hr (sliceT_iff.1 he) hn h1 h
                simp at x9
              split at x9
              · rename_i htt;subst htt;simp only[Oi,Pi_]at x9;obtain⟨rfl,rfl⟩:=x9
                cases hv with | cons h1 t1=>cases t1 with | cons h2 t2=>cases t2 with | nil =>
                rename_i d1 d2;simp only[aop,LOp.loud,lop,if_true]at h
                cases qm:Wi (kd.of e) S 1 d2 with
                | none=>rw[qm]at h;simp at h
                | some src =>
                  rw[qm]at h;exact run_bi .copy (Builtin.copy_ #[t,t] oty #[ev dx,ev x]) (fun k=>by simp[builtin]) rfl (copy_ok hr (sliceT_iff.1 he) hn h1 h2 qm h)
              simp at x9
            simp at x9
          simp at x9
        simp at x9
      simp at x9
    · -- max
      simp only[Oi,Pi_]at x9;obtain⟨rfl,rfl⟩:=x9;simp only[aop,LOp.loud,Bool.false_eq_true,if_false,Om,Pi_]at h;obtain⟨r',hb,rfl,rfl,rfl⟩:=h;have he:(args.toList.map ev).toArray=args.map ev:=by apply Array.ext';simp
      obtain⟨v,h3,h4⟩:=maxs_ok (P:=P) (ts:=argTypes) (t:=oty) hv hb;rw[he]at h3;exact run_bi .max (Builtin.max_ argTypes oty (args.map ev)) (fun k=>by simp[builtin]) rfl ⟨v,w,h3,Aaf.pure hr h4⟩
    · -- min
      simp only[Oi,Pi_]at x9;obtain⟨rfl,rfl⟩:=x9;simp only[aop,LOp.loud,Bool.false_eq_true,if_false,Om,Pi_]at h;obtain⟨r',hb,rfl,rfl,rfl⟩:=h;have he:(args.toList.map ev).toArray=args.map ev:=by apply Array.ext';simp
      obtain⟨v,h3,h4⟩:=mins_ok (P:=P) (ts:=argTypes) (t:=oty) hv hb;rw[he]at h3;exact run_bi .min (Builtin.min_ argTypes oty (args.map ev)) (fun k=>by simp[builtin]) rfl ⟨v,w,h3,Aaf.pure hr h4⟩
    · -- the bytes of a slice
      split at x9
      · rename_i x yt;have ha:args=#[x]:=by apply Array.ext';simpa using yt
        subst ha;simp only[Oi,Pi_]at x9;obtain⟨rfl,rfl⟩:=x9
        cases hv with | cons h1 t1=>cases t1 with | nil =>
        simp only[aop,LOp.loud,lop,if_true,Om,Pi_]at h;obtain⟨r',hb,rfl,rfl,rfl⟩:=h;obtain⟨v,h3,h4⟩:=sdata_ok (P:=P) (ts:=argTypes) (ty:=oty) hr h1 hb;exact run_bi .unsafeSliceData (Builtin.unsafeSliceData_ argTypes oty #[ev x]) (fun k=>by simp[builtin]) rfl ⟨v,w,h3,Aaf.pure hr h4⟩
      simp at x9
    · -- bytes as a string
      split at x9
      · rename_i x y t t' yt qj;have ha:args=#[x,y]:=by apply Array.ext';simpa using yt
        have hb:argTypes=#[t,t']:=by apply Array.ext';simpa using qj
        subst ha hb;split at x9
        · rename_i e hpt;split at x9
          · rename_i hc;simp only[Oi,Pi_]at x9;obtain⟨rfl,rfl⟩:=x9
            cases hv with | cons h1 t1=>cases t1 with | cons h2 t2=>cases t2 with | nil =>
            rename_i d1 d2;generalize hy:ev y=vy at h2;simp only[aop,LOp.loud,if_true]at h;unfold lop at h;split at h<;>simp only[reduceCtorEq,List.cons.injEq,and_true,LOp.ustr.injEq]at *;rename_i e' p n heq1 heq2;subst heq1;obtain⟨rfl,rfl⟩:=heq2;cases h2;refine run_bi .unsafeString (Builtin.unsafeString_ #[t,t'] oty #[ev x,ev y]) (fun k=>by simp[builtin]) rfl ?_;rw[hy];exact ustr_ok hr hpt hc.2 h1 h
          simp at x9
        simp at x9
      simp at x9
    simp at x9
  case h_29 t x =>
    split at x9
    · rename_i xP;simp only[Oi,Pi_]at x9;obtain⟨rfl,rfl⟩:=x9
      cases hv with | cons h1 t1=>cases t1 with | nil =>
      rename_i d1;generalize hx:ev x=vx at h1;cases d1<;>simp only[aop,LOp.loud,lop,if_true,reduceCtorEq]at h;cases h1;simp only[Oi,Pi_]at h;obtain⟨rfl,rfl,rfl⟩:=h;refine Does.val (s:=Instr.range t (ev x)) rfl ?_;rw[hx];exact rngs_ok hr (strT_iff.1 xP)
    simp at x9
  case h_30 it isString =>
    split at x9
    · rename_i xP;subst xP;simp only[Oi,Pi_]at x9;obtain⟨rfl,rfl⟩:=x9
      cases hv with | cons h1 t1=>cases t1 with | nil =>
      rename_i d1;cases d1<;>simp only[aop,LOp.loud,lop,if_true,reduceCtorEq]at h;exact Does.val (s:=Instr.next (ev it) true oty) rfl (nexts_ok hr h1 h)
    simp at x9
  case h_31=>simp at x9
end
open Go.RowKit
section
variable {P:Program}
def Vx (P:Program) (G:Nat→Option (List D)) (call:Bq):Prop :=
 ∀f ds S r S' wr,call f ds S=some (r,S',wr)→∀w (ρ:Aaa) vs,ρ.X.G=G→Rel w ρ S.heap→VL w ρ S.heap ds vs →
  (callFunc f vs.toArray).run P w=.ok (.enter f vs.toArray) w∧Calls P f vs.toArray w fun e w'=>∃v,e=.returned v∧Aaf w ρ S r S' wr v w'
theorem lowOp_call{kd:Kd}{o:Oper}{f:FuncId}{xs:List Operand}(h:lowOp P kd o=some (.call f,xs)):∃args tys,o.op=.call ⟨.value (.func f),args,tys⟩∧xs=args.toList:=by
 have hx:∀{s:String} {b:Prop} [Decidable b] {l:LOp},(if b then Ol s else none)=some l→l≠.call f:=by
  intro s b _ l hl e;subst e;split at hl
  ·
   unfold Ol at hl
   repeat' (first | (split at hl;skip) | (simp at hl;done))
   all_goals simp at hl
  simp at hl
 unfold lowOp at h;split at h
 case h_28 c zU =>
  obtain⟨callee,args,tys⟩:=c;simp only at h;split at h
  ·
   simp at h
  ·
   rename_i f';split at h
   ·
    split at h
    ·
     split at h
     ·
      repeat' (first | (split at h;skip) | (simp at h;done))
      all_goals simp at h
     split at h
     ·
      rename_i l' hl';simp only[Oi,Pi_]at h;exact absurd h.1 (hx hl')
     simp at h
    simp only[Oi,Pi_,LOp.call.injEq]at h;obtain⟨rfl,rfl⟩:=h;exact⟨args,tys,zU,rfl⟩
   simp at h
  all_goals (repeat' (first | (split at h;skip) | (simp at h;done)))
  all_goals first
   | (simp at h;done)
   | (simp only[Om,Pi_,reduceCtorEq,false_and,and_false,exists_false]at h;done)
 all_goals (repeat' (first | (split at h;skip) | (simp at h;done)))
 all_goals first
  | (simp at h;done)
  | (simp only[Om,Pi_,reduceCtorEq,false_and,and_false,exists_false]at h;done)
theorem lowOp_callv{kd:Kd}{o:Oper}{xs:List Operand}(h:lowOp P kd o=some (.callv,xs)):∃t args tys,o.op=.call ⟨.value (.tmp t),args,tys⟩∧xs=.tmp t::args.toList:=by
 have hx:∀{s:String} {b:Prop} [Decidable b] {l:LOp},(if b then Ol s else none)=some l→l≠.callv:=by
  intro s b _ l hl e;subst e;split at hl
  ·
   unfold Ol at hl
   repeat' (first | (split at hl;skip) | (simp at hl;done))
   all_goals simp at hl
  simp at hl
 unfold lowOp at h;split at h
 case h_28 c zU =>
  obtain⟨callee,args,tys⟩:=c;simp only at h;split at h
  ·
   simp at h
  ·
   rename_i f';split at h
   ·
    split at h
    ·
     split at h
     ·
      repeat' (first | (split at h;skip) | (simp at h;done))
      all_goals simp at h
     split at h
     ·
      rename_i l' hl';simp only[Oi,Pi_]at h;exact absurd h.1 (hx hl')
     simp at h
    simp at h
   simp at h
  ·
   simp only[Oi,Pi_]at h;obtain⟨_,rfl⟩:=h;exact⟨_,args,tys,zU,rfl⟩
  all_goals (repeat' (first | (split at h;skip) | (simp at h;done)))
  all_goals first
   | (simp at h;done)
   | (simp only[Om,Pi_,reduceCtorEq,false_and,and_false,exists_false]at h;done)
 all_goals (repeat' (first | (split at h;skip) | (simp at h;done)))
 all_goals first
  | (simp at h;done)
  | (simp only[Om,Pi_,reduceCtorEq,false_and,and_false,exists_false]at h;done)
theorem lowOp_invoke{kd:Kd}{o:Oper}{tab:List (TypeId × FuncId)}{xs:List Operand}(h:lowOp P kd o=some (.invoke tab,xs)):∃recv name args tys,o.op=.call ⟨.invoke recv name,args,tys⟩∧xs=recv::args.toList∧tab=Ws P name:=by
 have hx:∀{s:String} {b:Prop} [Decidable b] {l:LOp},(if b then Ol s else none)=some l→l≠.invoke tab:=by
  intro s b _ l hl e;subst e;split at hl
  ·
   unfold Ol at hl
   repeat' (first | (split at hl;skip) | (simp at hl;done))
   all_goals simp at hl
  simp at hl
 unfold lowOp at h;split at h
 case h_28 c zU =>
  obtain⟨callee,args,tys⟩:=c;simp only at h;split at h
  ·
   simp only[Oi,Pi_,LOp.invoke.injEq]at h;obtain⟨rfl,rfl⟩:=h;exact⟨_,_,args,tys,zU,rfl,rfl⟩
  ·
   rename_i f';split at h
   ·
    split at h
    ·
     split at h
     ·
      repeat' (first | (split at h;skip) | (simp at h;done))
      all_goals simp at h
     split at h
     ·
      rename_i l' hl';simp only[Oi,Pi_]at h;exact absurd h.1 (hx hl')
     simp at h
    simp at h
   simp at h
  ·
   simp at h
  all_goals (repeat' (first | (split at h;skip) | (simp at h;done)))
  all_goals first
   | (simp at h;done)
   | (simp only[Om,Pi_,reduceCtorEq,false_and,and_false,exists_false]at h;done)
 all_goals (repeat' (first | (split at h;skip) | (simp at h;done)))
 all_goals first
  | (simp at h;done)
  | (simp only[Om,Pi_,reduceCtorEq,false_and,and_false,exists_false]at h;done)
theorem mem_lookup{α β:Type}[BEq α][LawfulBEq α]{l:List (α × β)}{a:α}{b:β}(h:l.lookup a=some b):(a,b)∈l:=by
 induction l with
 | nil=>simp at h
 | cons p l ih =>
  obtain⟨x,y⟩:=p;simp only[List.lookup_cons]at h;split at h
  ·
   rename_i he;simp only[Oi]at h;rw[eq_of_beq he,h];exact List.mem_cons_self
  exact List.mem_cons_of_mem _ (ih h)
theorem pointerT_iff{t:TypeId}:Rk P t=true↔∃e,P.underlying t=some (.pointer e):=by
 unfold Rk;split
 ·
  rename_i e hu;exact⟨fun _=>⟨e,hu⟩,fun _=>rfl⟩
 rename_i hn;exact⟨fun h=>by simp at h,fun ⟨e,he⟩=>absurd he (hn e)⟩
theorem run_method{w:World}{name:String}{tab:List (TypeId × FuncId)}{t:TypeId}{f:FuncId}{v:Value}(htab:tab=Ws P name)(h:tab.lookup t=some f):(method (P.types.size+Made.depth) t v name).run P w=.ok (f,v) w:=by
 subst htab;have hm:=mem_lookup h;unfold Ws at hm;simp only[List.mem_filterMap,List.mem_range]at hm;obtain⟨t',xO,hx⟩:=hm;split at hx
 ·
  rename_i i hi;split at hx
  ·
   rename_i m hfm;split at hx
   ·
    rename_i f' pr hmf;rw[Option.ite_none_right_eq_some]at hx;obtain⟨hc,hx⟩:=hx;simp only[Oi,Pi_]at hx;obtain⟨rfl,rfl⟩:=hx;rw[Bool.and_eq_true,Bool.and_eq_true,Bool.and_eq_true,beq_iff_eq,Array.isEmpty_iff]at hc;obtain⟨⟨⟨hp,vU⟩,hus⟩,hb⟩:=hc;obtain⟨td,hu⟩:=Option.isSome_iff_exists.1 hus;obtain⟨k,hk⟩:∃k,P.types.size+Made.depth=k+1:=⟨P.types.size+Made.depth-1,by omega⟩;rw[hk];have hti:(typeInfo t').run P w=.ok i w:=by simp[typeInfo,hi]
    unfold method;rw[Ah hti];simp only[hfm,hp];have hfo:(follow [] t' (.val v)).run P w=.ok (t',.val v) w:=rfl;rw[Ah hfo];simp only[hmf]
    have hre : (receiverAt t' (.val v) pr (if (#[] : Array FieldStep).isEmpty = true then some ((name.splitOn ".").getLastD name) else none)).run P w = .ok v w := by
     unfold receiverAt;rw[Ah (run_underlying hu w)]
     cases hpt:Rk P t' with
     | true =>
      rw[hpt]at vU;subst vU;obtain⟨e,he⟩:=pointerT_iff.1 hpt;rw[hu]at he;simp only[Oi]at he;subst he;rfl
     | false =>
      rw[hpt]at vU;subst vU
      cases td<;>first | rfl | (exfalso;have:Rk P t'=true:=pointerT_iff.2 ⟨_,hu⟩;rw[hpt]at this;simp at this)
    rw[Ah hre];rfl
   simp at hx
  simp at hx
 simp at hx
theorem exOp_ok{G:Nat→Option (List D)}{call:Bq}(y8:Vx P G call){kd:Kd}{o:Oper}{l:LOp}{xs:List Operand}{a:Act}{w:World}{ρ:Aaa}{S S':St}{ds:List D}{r:D}{wr:Bool}{K:Act→World→Prop}{Q:Exit→Act→World→Prop}
  (hG:ρ.X.G=G) (rJ:Ru P kd o=some (l,xs)) (hv:VL w ρ S.heap ds (xs.map a.eval)) (hr:Rel w ρ S.heap) (h:Ar call l ds S=some (r,S',wr)) (hK:∀v w',Aaf w ρ S r S' wr v w'→K (a.put o.dst v) w'):o.wp P a w K Q:=by
 have x9:lowOp P kd o=some (l,xs):=by
  unfold Ru at rJ;split at rJ
  ·
   rename_i x hx;rw[hx];exact rJ
  simp only[Oi,Pi_]at rJ;obtain⟨rfl,rfl⟩:=rJ;simp[Ar,aop,LOp.loud,pop]at h
 have plain:aop l ds S=some (r,S',wr)→o.wp P a w K Q:=by
  intro h;obtain⟨nx,v,w',h1,h2,h3⟩:=aop_ok (fun _=>rfl) x9 hv hr h;unfold Oper.wp;rw[h1];rcases h2 with rfl | ⟨rfl,rfl⟩
  ·
   exact hK v w' h3
  exact hK undef w' h3
 have fin:∀f vs,(execOp a.eval o).run P w=(callFunc f vs).run P w→(callFunc f vs).run P w=.ok (.enter f vs) w∧(Calls P f vs w fun e w'=>∃v,e=.returned v∧Aaf w ρ S r S' wr v w')→o.wp P a w K Q:=by
  rintro f vs he ⟨h1,h2⟩;unfold Oper.wp;rw[he,h1,Oper.upon_enter];refine h2.mono ?_;rintro e w' ⟨v,rfl,hp⟩;exact hK v w' hp
 unfold Ar at h;split at h
 ·
  rename_i f;obtain⟨args,tys,zU,rfl⟩:=lowOp_call x9;have hc:=y8 f ds S r S' wr h w ρ _ hG hr hv;have he:(args.toList.map a.eval).toArray=args.map a.eval:=by apply Array.ext';simp
  rw[he]at hc;refine fin f (args.map a.eval) ?_ hc;simp[execOp,zU,resolve,Deferred.ofValue,invoke,Act.eval]
 ·
  split at h
  ·
   rename_i f caps ys;obtain⟨t,args,tys,zU,rfl⟩:=lowOp_callv x9
   cases hv with
   | cons h1 t1 =>
    generalize hx:a.eval (.tmp t)=vx at h1
    cases h1 with
    | fn _ _ vs hl hh =>
     have hc:=y8 f _ S r S' wr h w ρ _ hG hr (t1.append (VL.of hl hh));have he:(args.toList.map a.eval++vs).toArray=args.map a.eval++vs.toArray:=by apply Array.ext';simp
     rw[he]at hc;refine fin f _ ?_ hc;simp only[Act.eval]at hx;simp[execOp,zU,resolve,Deferred.ofValue,invoke,Act.eval,hx]
  simp at h
 ·
  rename_i tab;obtain⟨recv,name,args,tys,zU,rfl,htab⟩:=lowOp_invoke x9
  have go:∀(t:TypeId) (d:D) (v:Value) (ys:List D) (f:FuncId),a.eval recv=.iface t v→VR w ρ S.heap d v→VL w ρ S.heap ys (args.toList.map a.eval)→tab.lookup t=some f→call f (d::ys) S=some (r,S',wr)→o.wp P a w K Q:=by
   intro t d v ys f he hd hys hlk yE;have hc:=y8 f _ S r S' wr yE w ρ _ hG hr (.cons hd hys);have he2:(v::args.toList.map a.eval).toArray=#[v]++args.map a.eval:=by apply Array.ext';simp
   rw[he2]at hc;refine fin f _ ?_ hc;have hm:=run_method (w:=w) (v:=v) htab hlk;have hp:Sem.run P program w=.ok P w:=rfl
   have h0:execOp a.eval o=invoke (.fn (.method name) #[]) (#[a.eval recv]++args.map a.eval):=by
    unfold execOp;rw[zU];rfl
   rw[h0,he]
   have e1:(#[Value.iface t v]++args.map a.eval)[0]?=some (.iface t v):=by
    rw[Array.getElem?_append_left (by simp)];rfl
   have e2:(#[Value.iface t v]++args.map a.eval).extract 1 (#[Value.iface t v]++args.map a.eval).size=args.map a.eval:=by
    apply Array.ext';simp only[Array.toList_extract,Array.toList_append,List.extract_eq_take_drop,Array.size_append];simp;rw[List.take_of_length_le (by simp)]
   simp only[invoke,e1,e2,callMethod];rw[Ah hp,Ah hm]
  split at h
  ·
   rename_i t d ys;split at h
   ·
    rename_i f hlk
    cases hv with
    | cons h1 t1 =>
    generalize hx:a.eval recv=vx at h1
    cases h1 with
    | ifc _ _ v hf hvv h1=>exact go t d v ys f hx h1 t1 hlk h
   simp at h
  ·
   rename_i t d ys;split at h
   ·
    rename_i f hlk
    cases hv with
    | cons h1 t1 =>
    generalize hx:a.eval recv=vx at h1
    cases h1 with
    | ifr _ _ v hvv h1=>exact go t d v ys f hx h1 t1 hlk h
   simp at h
  simp at h
 exact plain h
def sig (slots:List Nat) (prev:List (Option Tmp)) (vals env:List D) (t:Nat):D :=
 match Iq prev t with
 | some d=>vals.getD d .undef
 | none=>match idxOf slots t with
  | some j=>env.getD j .undef
  | none=>.undef
def FR (w:World) (ρ:Aaa) (H:List Z9) (nt:Nat) (σ:Nat→D) (a:Act):Prop :=
 a.tmps.size=nt∧∀t,t<nt→VR w ρ H (σ t) (a.tmps.getD t undef)
theorem V8(slots:List Nat)(o:Option Tmp)(prev:List (Option Tmp))(r:D)(vals env:List D)(t:Nat):sig slots (o::prev) (r::vals) env t=if o=some t then r else sig slots prev vals env t:=by
 have e:Iq (o::prev) t=if o=some t then some 0 else (Iq prev t).map (·+1):=rfl
 unfold sig;rw[e];by_cases h:o=some t
 ·
  simp[h]
 simp only[h,if_false]
 cases Iq prev t with
 | none=>simp
 | some d=>simp
theorem FR.put{w w':World}{ρ ρ':Aaa}{S S':St}{nt:Nat}{σ σ':Nat→D}{a:Act}{dst:Option Tmp}{r:D}{v:Value}(h:FR w ρ S.heap nt σ a)(hs:Stp w ρ S w' ρ' S')(hv:VR w' ρ' S'.heap r v)(hd:H7 nt dst=true)(hσ:∀t,σ' t=if dst=some t then r else σ t) :
  FR w' ρ' S'.heap nt σ' (a.put dst v):=by
 cases dst with
 | none=>exact⟨h.1,fun t ht=>by rw[hσ];simpa [Act.put] using (h.2 t ht).mono hs⟩
 | some d =>
  have hdl:d<a.tmps.size:=by rw[h.1];simpa [H7] using hd
  refine⟨by simpa [Act.put] using h.1,fun t ht=>?_⟩;rw[hσ];by_cases e:d=t
  ·
   subst e;simp[Act.put,hdl,hv]
  have e':¬some d=some t:=by simpa using e
  rw[if_neg e'];have:=(h.2 t ht).mono hs;simp only[Act.put,Array.getD_eq_getD_getElem?,Array.getElem?_setIfInBounds,if_neg e]at this ⊢;exact this
theorem Io{l:List Nat}{t j:Nat}(h:idxOf l t=some j):l[j]?=some t:=by
 induction l generalizing j with
 | nil=>simp[idxOf]at h
 | cons s l ih =>
  unfold idxOf at h;split at h
  ·
   rename_i e;simp at h;subst h e;rfl
  simp only[Om]at h;obtain⟨k,hk,rfl⟩:=h;simpa using ih hk
theorem Jl{l:List (Option Tmp)}{t d:Nat}(h:Iq l t=some d):l[d]?=some (some t):=by
 induction l generalizing d with
 | nil=>simp[Iq]at h
 | cons s l ih =>
  unfold Iq at h;split at h
  ·
   rename_i e;simp at h;subst h e;rfl
  simp only[Om]at h;obtain⟨k,hk,rfl⟩:=h;simpa using ih hk
theorem opd_ok{w:World}{ρ:Aaa}{H:List Z9}{nt:Nat}{slots:List Nat}{prev:List (Option Tmp)}{vals env:List D}{a:Act}{x:Operand}{y:LOpd}{gl:Nat→Option (List D)}(hgl:∀g row,gl g=some row→VR w ρ H (.cptr row 0) (.pointer (some ⟨g,0,none⟩)))(h:X6 gl slots prev x=some y)(hs:slots.all (·<nt)=true)(hp:∀d∈prev,H7 nt d=true)
    (hf:∀t,x=.tmp t→VR w ρ H (sig slots prev vals env t) (a.tmps.getD t undef)):VR w ρ H (opd vals env y) (a.eval x):=by
  unfold X6 at h;split at h
  · rename_i t;have h1:=hf t rfl;unfold sig at h1;split at h
    · rename_i d hd;simp only[Oi]at h;subst h;simp only[hd]at h1;exact h1
    rename_i hd;simp only[Om]at h;obtain⟨j,hj,rfl⟩:=h;simp only[hd,hj]at h1;exact h1
  · rename_i v;simp only[Oi]at h;subst h
    cases hc:Xj v with
    | none=>exact .undef _
    | some d=>exact Qm hc
  · simp only [Oi] at h;subst h;exact .fn _ [] [] rfl (fun j d v h=>by simp at h)
  rename_i g;simp only[Oi]at h;subst h
  cases hg:gl g with
  | none=>exact .undef _
  | some row=>exact hgl g row hg
theorem tmp_in{nt:Nat}{slots:List Nat}{prev:List (Option Tmp)}{t:Nat}{y:LOpd}{gl:Nat→Option (List D)}(h:X6 gl slots prev (.tmp t)=some y)(hs:slots.all (·<nt)=true)(hp:∀d∈prev,H7 nt d=true):t<nt:=by
 unfold X6 at h;simp only at h;split at h
 ·
  rename_i d hd;have:=hp _ (Lm (Jl hd));simpa [H7] using this
 simp only[Om]at h;obtain⟨j,hj,_⟩:=h;have:=List.all_eq_true.1 hs t (Lm (Io hj));simpa using this
theorem opds_ok{w:World}{ρ:Aaa}{H:List Z9}{nt:Nat}{slots:List Nat}{prev:List (Option Tmp)}{vals env:List D}{a:Act}{gl:Nat→Option (List D)}(hgl:∀g row,gl g=some row→VR w ρ H (.cptr row 0) (.pointer (some ⟨g,0,none⟩)))(hs:slots.all (·<nt)=true)(hp:∀d∈prev,H7 nt d=true):∀{xs:List Operand} {ys:List LOpd},Qe gl slots prev xs=some ys →
  (∀t,.tmp t∈xs→t<nt→VR w ρ H (sig slots prev vals env t) (a.tmps.getD t undef))→VL w ρ H (ys.map (opd vals env)) (xs.map a.eval)
 | [],ys,h,_=>by simp only[Qe,Oi]at h;subst h;exact .nil
 | x :: xs, ys, h, hf => by
  unfold Qe at h;split at h
  ·
   rename_i y m hy hm;simp only[Oi]at h;subst h;refine .cons (opd_ok hgl hy hs hp fun t ht=>?_) (opds_ok hgl hs hp hm fun t ht=>hf t (List.mem_cons_of_mem _ ht));subst ht;exact hf t (List.mem_cons_self ..) (tmp_in hy hs hp)
  simp at h
theorem S9 {dsts : List (Option Tmp)} {vals : List D} {slots0 : List Nat} : ∀ {slots : List Nat} {k : Nat} {env : List D} (j : Nat), (exports (J5 dsts slots k) vals env).getD j .undef = if k ≤ j ∧ j < k + slots.length ∧ j < env.length then (match Iq dsts (slots.getD (j - k) 0) with | some d => vals.getD d .undef | none => env.getD j .undef) else env.getD j .undef
  | [],k,env,j=>by simp only[J5,exports,List.length_nil];rw[if_neg (by omega)]
  | s :: l, k, env, j => by
    unfold J5;split
    · rename_i d hd;simp only[exports];rw[S9 (slots0:=slots0) (slots:=l) (k:=k+1) j];by_cases e:k=j
      · subst e;rw[if_neg (by omega)];by_cases hl:k<env.length
        · rw [if_pos ⟨Nat.le_refl _, by simp, hl⟩];simp[hd,hl]
        rw[if_neg (by omega)];simp[hl]
      have h1:(env.set k (vals.getD d .undef)).getD j .undef=env.getD j .undef:=by simp[List.getD,Ln_ e]
      rw[h1];by_cases h2:k+1≤j∧j<k+1+l.length∧j<env.length
      · rw [if_pos (by simpa using h2), if_pos (by simp; omega)];rw[show j-k=(j-(k+1))+1 by omega];simp
      rw[if_neg (by simpa using h2),if_neg (by simp;omega)]
    rename_i hd;rw[S9 (slots0:=slots0) (slots:=l) (k:=k+1) j];by_cases e:k=j
    · subst e;rw[if_neg (by omega)];by_cases hl:k<env.length
      · rw [if_pos ⟨Nat.le_refl _, by simp, hl⟩];simp[hd]
      rw[if_neg (by omega)]
    by_cases h2:k+1≤j∧j<k+1+l.length∧j<env.length
    · rw [if_pos h2, if_pos (by simp; omega)];rw[show j-k=(j-(k+1))+1 by omega];simp
    rw[if_neg h2,if_neg (by simp;omega)]
theorem Lu{vals:List D}:∀{es:List (Nat × Nat)} {env:List D},(exports es vals env).length=env.length
 | [],env=>rfl
 | (j,d)::es,env=>by simp only[exports];rw[Lu];simp
theorem Xh{vals:List D}{n:Nat}:∀{es:List (Nat × Nat)} {env:List D},(∀p∈es,p.1<n)→(exports es vals env).drop n=env.drop n
 | [],env,_=>rfl
 | (j,d)::es,env,h=>by
  simp only[exports];rw[Xh fun p hp=>h p (List.mem_cons_of_mem _ hp)];have:=h (j,d) List.mem_cons_self;rw[List.drop_set_of_lt this]
theorem Yi{dsts:List (Option Tmp)}:∀{slots:List Nat} {k:Nat},∀p∈J5 dsts slots k,p.1<k+slots.length
 | [],k,p,h=>by simp[J5]at h
 | s :: l, k, p, h => by
  unfold J5 at h;split at h
  ·
   rcases List.mem_cons.1 h with rfl | h
   ·
    simp
   have:=Yi (slots:=l) (k:=k+1) p h;simp;omega
  have:=Yi (slots:=l) (k:=k+1) p h;simp;omega
theorem sig_end{dsts:List (Option Tmp)}{slots:List Nat}{vals env:List D}(hl:slots.length≤env.length)(t:Nat):sig slots [] [] (exports (J5 dsts slots 0) vals env) t=(match idxOf slots t with | some _=>sig slots dsts vals env t | none=>.undef):=by
 unfold sig;simp only[Iq]
 cases hj:idxOf slots t with
 | none=>rfl
 | some j =>
  have hm:=Io hj;have yL:=lt_of_some hm;simp only;rw[S9 (slots0:=slots),if_pos (by omega)];have:slots.getD (j-0) 0=t:=by simp[List.getD,hm]
  rw[this]
theorem FR.end_{w:World}{ρ:Aaa}{H:List Z9}{nt:Nat}{dsts:List (Option Tmp)}{slots:List Nat}{vals env:List D}{a:Act}(hl:slots.length≤env.length)(h:FR w ρ H nt (sig slots dsts vals env) a):FR w ρ H nt (sig slots [] [] (exports (J5 dsts slots 0) vals env)) a:=by
 refine⟨h.1,fun t ht=>?_⟩;rw[sig_end hl]
 cases idxOf slots t with
 | none=>exact .undef _
 | some j=>exact h.2 t ht
theorem guard_ok{w:World}{ρ:Aaa}{H:List Z9}{nt:Nat}{slots:List Nat}{prev:List (Option Tmp)}{vals env:List D}{a:Act}{ops:Array Oper}{j d:Nat}{b b':Bool}{t:Tmp}(hjd:(ops[j]?).bind (·.dst)=some t)(zD:Iq prev t=some d)(hp:∀d∈prev,H7 nt d=true)
  (hf:VR w ρ H (sig slots prev vals env t) (a.tmps.getD t undef)) (xJ:a.tmps.size=nt) (hv:vals.getD d .undef=.bool b'):yielded ops a.tmps j=some b':=by
 unfold sig at hf;simp only[zD,hv]at hf
 have ht:t<a.tmps.size:=by
  have:=hp _ (Lm (Jl zD));rw[xJ];simpa [H7] using this
 unfold yielded;rw[hjd];simp only[Option.bind_some,Array.getElem?_eq_getElem ht];simp only[Array.getD,ht,dif_pos]at hf;generalize hx:a.tmps[t]=x at hf;have hx':a.tmps.getInternal t ht=x:=hx;rw[hx']at hf;cases hf;rfl
theorem guard_skip{w:World}{ρ:Aaa}{H:List Z9}{nt:Nat}{slots:List Nat}{prev:List (Option Tmp)}{vals env:List D}{a:Act}{ops:Array Oper}{j d:Nat}{t:Tmp}(hjd:(ops[j]?).bind (·.dst)=some t)(zD:Iq prev t=some d)(hp:∀d∈prev,H7 nt d=true)
  (hf:VR w ρ H (sig slots prev vals env t) (a.tmps.getD t undef)) (xJ:a.tmps.size=nt) (hv:vals.getD d .undef=.skip):yielded ops a.tmps j=none:=by
 unfold sig at hf;simp only[zD,hv]at hf
 have ht:t<a.tmps.size:=by
  have:=hp _ (Lm (Jl zD));rw[xJ];simpa [H7] using this
 unfold yielded;rw[hjd];simp only[Option.bind_some,Array.getElem?_eq_getElem ht];simp only[Array.getD,ht,dif_pos]at hf;generalize hx:a.tmps[t]=x at hf;have hx':a.tmps.getInternal t ht=x:=hx;rw[hx']at hf;cases hf;rfl
theorem kd_glob{kd:Kd}{g:Nat}{row:List D}(h:kd.glob g=some row):kd.glob g=some row:=h
theorem seq_part {G : Nat → Option (List D)} {call : Bq} (y8 : Vx P G call) {kd : Kd} {nt : Nat} {slots : List Nat} {ops : Array Oper} {env : List D} {Q : Exit → Act → World → Prop} (tl : List Oper) (kP : ∀ g row, kd.glob g = some row → G g = some row) (hs : slots.all (· < nt) = true) :
    ∀ (os : List Oper) (k : Nat) (prev : List (Option Tmp)) (vals : List D) (los : List LOper) (S : St) (vals' : List D) (S' : St) (a : Act) (w : World) (ρ : Aaa), ops.toList.drop k = os ++ tl → prev = ((ops.toList.take k).map (·.dst)).reverse → (∀ d ∈ prev, H7 nt d = true) →
      X5 P kd nt slots os prev=some los→Iu call los vals env S=some (vals',S')→Rel w ρ S.heap→ρ.X.G=G→FR w ρ S.heap nt (sig slots prev vals env) a →
      (∀a' w' ρ',Rel w' ρ' S'.heap→Stp w ρ S w' ρ' S'→FR w' ρ' S'.heap nt (sig slots (((ops.toList.take (k+os.length)).map (·.dst)).reverse) vals' env) a'→a'.defers=a.defers→wpOps P ops Q (List.range' (k+os.length) tl.length) a' w') →
      wpOps P ops Q (List.range' k (os.length+tl.length)) a w:=by
  intro os
  induction os with
  | nil =>
    intro k prev vals los S vals' S' a w ρ hk yZ hp x9 yx hr hG hf hQ;simp only[X5,Oi]at x9;subst x9;simp only[Iu,Oi,Pi_]at yx;obtain⟨rfl,rfl⟩:=yx;have:=hQ a w ρ hr (Stp.refl _ _ _) (by simpa [yZ] using hf) rfl;simpa using this
  | cons o os ih =>
    intro k prev vals los S vals' S' a w ρ hk yZ hp x9 yx hr hG hf hQ
    have hko:ops.toList[k]?=some o:=by
      have:(ops.toList.drop k)[0]?=some o:=by rw[hk];rfl
      simpa using this
    have hkl:k<ops.toList.length:=lt_of_some hko;have hko':ops[k]?=some o:=by simpa using hko
    have hdrop:ops.toList.drop (k+1)=os++tl:=by
      have:(ops.toList.drop k).drop 1=os++tl:=by rw[hk];rfl
      rwa [List.drop_drop]at this
    have kJ:o.dst::prev=((ops.toList.take (k+1)).map (·.dst)).reverse:=by
      rw[List.take_succ_eq_append_getElem hkl,List.map_append,List.reverse_append,←yZ];have:ops.toList[k]=o:=by rw[Lg hkl]at hko;injection hko
      simp[this]
    have rE:prev.length=k:=by rw[yZ,List.length_reverse,List.length_map,List.length_take];omega
    unfold X5 at x9;split at x9
    · simp at x9
    rename_i l xs hlop;split at x9
    · rename_i args g rest yt hg rD;split at x9
      · rename_i hd;simp only[Oi]at x9;subst x9
        have hp':∀d∈o.dst::prev,H7 nt d=true:=by
          intro d hd';rcases List.mem_cons.1 hd' with rfl | hd'
          · exact hd
          exact hp d hd'
        rw[show (o::os).length+tl.length=(os.length+tl.length)+1 by simp;omega,List.range'_succ];simp only[wpOps,hko']
        have go:Region.wanted o (yielded ops a.tmps)=true→(match Ar call l (args.map (opd vals env)) S with | none=>none | some (r,S1,wr)=>Iu call rest (r::vals) env S1)=some (vals',S') →
            (if Region.wanted o (yielded ops a.tmps)=true then o.wp P a w (wpOps P ops Q (List.range' (k+1) (os.length+tl.length))) Q∨o.asks P a w∧LetsOut Q else wpOps P ops Q (List.range' (k+1) (os.length+tl.length)) (a.put o.dst undef) w):=by
          intro hw hx;rw[if_pos hw];left;split at hx
          · simp at hx
          rename_i r S1 wr zU;refine exOp_ok y8 hG hlop (opds_ok (fun g row hg=>(hr.glob g row (by rw[hG];exact kP g row (kd_glob hg))).1) hs hp yt fun t _ ht=>hf.2 t ht) hr zU ?_;rintro v w1 ⟨ρ1,h1,h2,h3,_⟩;refine ih (k+1) (o.dst::prev) (r::vals) rest S1 vals' S' _ w1 ρ1 hdrop kJ hp' rD hx h1 (by rw[h2.hid];exact hG) (hf.put h2 h3 hd fun t=>V8 slots o.dst prev r vals env t) ?_;intro a' w' ρ' h4 h5 h6 h7;have:=hQ a' w' ρ' h4 (h2.trans h5) (by rw[show k+(o::os).length=k+1+os.length by simp;omega];exact h6) (h7.trans (by cases o.dst<;>rfl));rw[show k+1+os.length=k+(o::os).length by simp;omega];exact this
        unfold Iu at yx
        cases hgo:o.guard with
        | none =>
          rw[hgo]at hg;simp only[Lr,Oi]at hg;subst hg;simp only[onG]at yx;exact go (by simp[Region.wanted,hgo]) yx
        | some jb =>
          obtain⟨j,b⟩:=jb;rw[hgo]at hg;unfold Lr at hg;simp only at hg;split at hg
          · rename_i hj;split at hg
            · rename_i t ht;split at hg
              · rename_i zD;simp only[Oi]at hg;subst hg;simp only[onG]at yx
                have hjd:(ops[j]?).bind (·.dst)=some t:=by
                  rw[yZ]at ht;have yL:j<ops.toList.length:=by omega
                  have h1:((ops.toList.take k).map (·.dst)).length=k:=by rw[List.length_map,List.length_take];omega
                  simp only[List.getD,List.length_reverse,h1]at ht;rw[List.getElem?_reverse (by rw[h1];omega),h1,show k-1-(k-1-j)=j by omega]at ht;simp only[Lp_,List.getElem?_take]at ht;rw[if_pos (by omega)]at ht;have h2:ops[j]?=some ops.toList[j]:=by simp
                  rw[Lg yL]at ht;rw[h2];simpa using ht
                split at yx
                · simp at yx
                · -- the guard says no
                  rename_i hv;split at hv
                  · rename_i b' hb';simp only[Oi]at hv
                    have hy:=guard_ok (b:=b) hjd zD hp (hf.2 t (by
                      have:=hp _ (Lm (Jl zD))
                      simpa [H7] using this)) hf.1 hb'
                    have hw:Region.wanted o (yielded ops a.tmps)=false:=by
                      simp only[Region.wanted,hgo,hy];simpa using hv
                    rw[hw];simp only[Bool.false_eq_true,if_false];refine ih (k+1) (o.dst::prev) (.skip::vals) rest S vals' S' _ w ρ hdrop kJ hp' rD yx hr hG (hf.put (Stp.refl _ _ _) .skip hd fun t=>V8 slots o.dst prev .skip vals env t) ?_;intro a' w' ρ' h4 h5 h6 h7;have:=hQ a' w' ρ' h4 h5 (by rw[show k+(o::os).length=k+1+os.length by simp;omega];exact h6) (h7.trans (by cases o.dst<;>rfl));rw[show k+1+os.length=k+(o::os).length by simp;omega];exact this
                  · rename_i hb'
                    have hy:=guard_skip hjd zD hp (hf.2 t (by
                      have:=hp _ (Lm (Jl zD))
                      simpa [H7] using this)) hf.1 hb'
                    have hw:Region.wanted o (yielded ops a.tmps)=false:=by
                      simp only[Region.wanted,hgo,hy];rfl
                    rw[hw];simp only[Bool.false_eq_true,if_false];refine ih (k+1) (o.dst::prev) (.skip::vals) rest S vals' S' _ w ρ hdrop kJ hp' rD yx hr hG (hf.put (Stp.refl _ _ _) .skip hd fun t=>V8 slots o.dst prev .skip vals env t) ?_;intro a' w' ρ' h4 h5 h6 h7;have:=hQ a' w' ρ' h4 h5 (by rw[show k+(o::os).length=k+1+os.length by simp;omega];exact h6) (h7.trans (by cases o.dst<;>rfl));rw[show k+1+os.length=k+(o::os).length by simp;omega];exact this
                  simp at hv
                rename_i hv;split at hv
                · rename_i b' hb';simp only[Oi]at hv
                  have hy:=guard_ok (b:=b) hjd zD hp (hf.2 t (by
                    have:=hp _ (Lm (Jl zD))
                    simpa [H7] using this)) hf.1 hb'
                  refine go ?_ yx;simp only[Region.wanted,hgo,hy];simpa using hv
                · simp at hv
                simp at hv
              simp at hg
            simp at hg
          simp at hg
      simp at x9
    simp at x9
theorem seq_ok{G:Nat→Option (List D)}{call:Bq}(y8:Vx P G call){kd:Kd}{nt:Nat}{slots:List Nat}{ops:Array Oper}{env:List D}{Q:Exit→Act→World→Prop}(kP:∀g row,kd.glob g=some row→G g=some row)(hs:slots.all (·<nt)=true) :
  ∀(os:List Oper) (k:Nat) (prev:List (Option Tmp)) (vals:List D) (los:List LOper) (S:St) (vals':List D) (S':St) (a:Act) (w:World) (ρ:Aaa),ops.toList.drop k=os→prev=((ops.toList.take k).map (·.dst)).reverse→(∀d∈prev,H7 nt d=true) →
   X5 P kd nt slots os prev=some los→Iu call los vals env S=some (vals',S')→Rel w ρ S.heap→ρ.X.G=G→FR w ρ S.heap nt (sig slots prev vals env) a →
   (∀a' w' ρ',Rel w' ρ' S'.heap→Stp w ρ S w' ρ' S'→FR w' ρ' S'.heap nt (sig slots (dstsOf ops.toList) vals' env) a'→a'.defers=a.defers→Q .normal a' w') →
   wpOps P ops Q (List.range' k os.length) a w:=by
 intro os k prev vals los S vals' S' a w ρ hk yZ hp x9 yx hr hG hf hQ
 have hkl:k+os.length=max k ops.toList.length:=by
  have:=congrArg List.length hk;simp only[List.length_drop]at this;omega
 refine seq_part y8 [] kP hs os k prev vals los S vals' S' a w ρ (by simpa using hk) yZ hp x9 yx hr hG hf fun a' w' ρ' h1 h2 h3 h4=>?_;rw[List.take_of_length_le (by omega)]at h3;exact hQ a' w' ρ' h1 h2 h3 h4
end
open Go.RowKit
def Down (ops:Array Oper) (L:Nat→Prop):Prop:=∀i o,ops[i]?=some o→L i→∀e∈o.after,Region.binds .any e=true→L e.on
theorem one_bit (get : Nat → Nat) : ∀ (es : List Edge) (s i : Nat), (es.foldl (fun s e => if Region.binds .any e then s ||| 2 ^ e.on ||| get e.on else s) s).testBit i = true → s.testBit i = true ∨ ∃ e ∈ es, Region.binds .any e = true ∧ (i = e.on ∨ (get e.on).testBit i = true)
  | [],s,i,h=>.inl h
  | e :: es, s, i, h => by
    rw[List.foldl_cons]at h;rcases one_bit get es _ i h with h1 | ⟨e',he',h2⟩
    · by_cases hb : Region.binds .any e = true
      · rw [if_pos hb, Nat.testBit_or, Nat.testBit_or, Bool.or_eq_true, Bool.or_eq_true] at h1;rcases h1 with (h1 | h1) | h1
        · exact .inl h1
        · refine .inr ⟨e, by simp, hb, .inl ?_⟩;rw[Nat.testBit_two_pow]at h1;have:e.on=i:=by simpa using h1
          exact this.symm
        exact .inr ⟨e,by simp,hb,.inr h1⟩
      rw[if_neg hb]at h1;exact .inl h1
    exact .inr ⟨e',by simp[he'],h2⟩
theorem before_aux{ops:Array Oper}{L:Nat→Prop}(hL:Down ops L):∀(os:List Oper) (acc:Array Nat),ops.toList.drop acc.size=os→(∀j i,(acc.getD j 0).testBit i=true→L j→L i)→∀j i,((os.foldl (fun acc o=>acc.push (o.after.foldl (fun s e=>if Region.binds .any e then s ||| 2 ^ e.on ||| acc.getD e.on 0 else s) 0)) acc).getD j 0).testBit i=true→L j→L i
 | [],acc,hd,h=>h
 | o :: os, acc, hd, h => by
  rw[List.foldl_cons]
  have ho:ops[acc.size]?=some o:=by
   have:(ops.toList.drop acc.size)[0]?=some o:=by rw[hd];rfl
   simpa using this
  refine before_aux hL os _ ?_ ?_
  ·
   have:(ops.toList.drop acc.size).drop 1=os:=by rw[hd];rfl
   rw[List.drop_drop]at this;simpa using this
  intro j i hj hLj;by_cases xO:j<acc.size
  ·
   have e:(acc.push (o.after.foldl (fun s e=>if Region.binds .any e then s ||| 2 ^ e.on ||| acc.getD e.on 0 else s) 0)).getD j 0=acc.getD j 0:=by
    simp only[Array.getD_eq_getD_getElem?];rw[Array.getElem?_push_lt xO,Array.getElem?_eq_getElem xO]
   rw[e]at hj;exact h j i hj hLj
  by_cases vW:j=acc.size
  ·
   subst vW
   have e:(acc.push (o.after.foldl (fun s e=>if Region.binds .any e then s ||| 2 ^ e.on ||| acc.getD e.on 0 else s) 0)).getD acc.size 0=o.after.foldl (fun s e=>if Region.binds .any e then s ||| 2 ^ e.on ||| acc.getD e.on 0 else s) 0:=by
    simp[Array.getD_eq_getD_getElem?]
   rw[e,←Array.foldl_toList]at hj;rcases one_bit (fun k=>acc.getD k 0) _ _ _ hj with h1 | ⟨e',he',hb,h2⟩
   ·
    simp at h1
   have hLe:=hL _ o ho hLj e' (Array.mem_toList_iff.1 he') hb;rcases h2 with rfl | h2
   ·
    exact hLe
   exact h _ _ h2 hLe
  have e:(acc.push (o.after.foldl (fun s e=>if Region.binds .any e then s ||| 2 ^ e.on ||| acc.getD e.on 0 else s) 0)).getD j 0=0:=by
   simp only[Array.getD_eq_getD_getElem?];rw[Array.getElem?_eq_none (by simp;omega)];rfl
  rw[e]at hj;simp at hj
theorem Tn{ops:Array Oper}{L:Nat→Prop}(hL:Down ops L){j i:Nat}(h:((Region.before ops).toList.getD j 0).testBit i=true)(hj:L j):L i:=by
 have:=before_aux hL ops.toList #[] (by simp) (by simp) j i;refine this ?_ hj;unfold Region.before at h;rw[←Array.foldl_toList]at h;simpa using h
theorem Wp{ops:Array Oper}{L:Nat→Prop}(hL:Down ops L){i j:Nat}(h:ordered (Region.before ops).toList i j=true):(j<i→L i→L j)∧(i<j→L j→L i):=by
 unfold ordered at h;refine⟨fun xO hi=>?_,fun xO hj=>?_⟩
 ·
  rw[show Nat.max i j=i from Nat.max_eq_left (Nat.le_of_lt xO),show Nat.min i j=j from Nat.min_eq_right (Nat.le_of_lt xO)]at h;exact Tn hL h hi
 rw[show Nat.max i j=j from Nat.max_eq_right (Nat.le_of_lt xO),show Nat.min i j=i from Nat.min_eq_left (Nat.le_of_lt xO)]at h;exact Tn hL h hj
theorem countP_le'{p q:Nat→Bool}(h:∀x,q x=true→p x=true):∀l:List Nat,l.countP q≤l.countP p
 | []=>by simp
 | a::l=>by
  have ih:=countP_le' h l;simp only[List.countP_cons];have:=h a;cases hq:q a<;>cases hp:p a<;>simp_all<;>omega
theorem countP_lt'{p q:Nat→Bool}(h:∀x,q x=true→p x=true){i:Nat}(hp:p i=true)(hq:q i=false):∀l:List Nat,i∈l→l.countP q<l.countP p
 | [],hi=>by simp at hi
 | a :: l, hi => by
  simp only[List.countP_cons];rcases List.mem_cons.1 hi with rfl | hi
  ·
   have:=countP_le' h l;simp[hp,hq];omega
  have ih:=countP_lt' h hp hq l hi;have:=h a;cases hq':q a<;>cases hp':p a<;>simp_all<;>omega
section
variable {P:Program} {ops:Array Oper} {Q:Exit→Act→World→Prop}
theorem wp_region_inv {id : Nat} {a0 : Act} {w0 : World} (hm : P.follows .mixedOrders = true) (hB : ∀ i o, ops[i]? = some o → ∀ e ∈ o.after, Region.binds .any e = true → e.on < i) (Inv : (Nat → Prop) → Act → World → Prop)
    (h0:Inv (fun _=>False) a0 w0.drew)
    (hstep:∀L i o a w,ops[i]?=some o→¬L i→Down ops L→(∀e∈o.after,Region.binds .any e=true→L e.on)→Inv L a w→wpOp P ops Q i (fun a' w'=>Inv (fun k=>L k∨k=i) a' w') a w)
    (hend:∀L a w,(∀i,i<ops.size→L i)→Inv L a w→Q .normal a w):(Code.region id ops true).wp P Q a0 w0:=by
  refine wp_region_any hm ?_
  have key:∀(fuel:Nat) (listed:Array Bool) (a:Act) (w:World),listed.size=ops.size→(List.range ops.size).countP (fun i=>!listed.getD i false)≤fuel→Down ops (fun i=>listed.getD i false=true)→Inv (fun i=>listed.getD i false=true) a w→wpAny P .any ops Q fuel listed a w:=by
    intro fuel
    induction fuel with
    | zero =>
      intro listed a w hs hc hd h
      have xu:∀i,i<ops.size→listed.getD i false=true:=by
        intro i hi;have h0:(List.range ops.size).countP (fun i=>!listed.getD i false)=0:=by omega
        rw[List.countP_eq_zero]at h0;simpa using h0 i (List.mem_range.2 hi)
      refine⟨?_,hend _ a w xu h⟩;rw[List.eq_nil_iff_forall_not_mem];intro j hj;obtain⟨hu,o,ho,_⟩:=mem_ready.1 hj;have yL:=(Array.getElem?_eq_some_iff.1 ho).1;have:=xu j yL;rw[getD_both hu]at this;cases this
    | succ fuel ih =>
      intro listed a w hs hc hd h;refine⟨fun hnil=>hend _ a w ?_ h,fun i hi=>?_⟩
      · intro i
        induction i using Nat.strongRecOn with
        | _ i ihs =>
          intro yS
          cases hli:listed.getD i false with
          | true=>rfl
          | false =>
            exfalso;have ho:ops[i]?=some ops[i]:=Array.getElem?_eq_getElem yS;have hr:i∈Region.ready .any ops listed:=mem_ready.2 ⟨getD_in (by omega) hli,ops[i],ho,fun e he hb=>ihs e.on (hB i _ ho e he hb) (Nat.lt_trans (hB i _ ho e he hb) yS)⟩;rw[hnil]at hr;cases hr
      obtain⟨hu,o,ho,xu⟩:=mem_ready.1 hi;have yS:=(Array.getElem?_eq_some_iff.1 ho).1
      have xM:(fun k=>(listed.setIfInBounds i true).getD k false=true)=(fun k=>listed.getD k false=true∨k=i):=by
        funext k
        apply propext;by_cases hki:i=k
        · subst hki;simp[hs,yS]
        rw[getD_set_ne false hki];constructor
        · exact .inl
        rintro (h | h)
        · exact h
        exact absurd h.symm hki
      have hni:¬(listed.getD i false=true):=by rw[getD_both hu];simp
      refine wpOp_mono ?_ (hstep _ i o a w ho hni hd xu h);intro a' w' hinv;refine ih _ _ _ (by simp[hs]) ?_ ?_ (by rw[xM];exact hinv)
      · have := countP_lt' (p := fun k => !listed.getD k false) (q := fun k => !(listed.setIfInBounds i true).getD k false) (i := i) ?_ ?_ ?_ (List.range ops.size) (List.mem_range.2 yS)
        · omega
        · intro x hx';simp only[Bool.not_eq_true']at hx' ⊢;rw[Bool.eq_false_iff]at hx' ⊢;intro hc;apply hx';have:=congrFun xM x;rw[this];exact .inl hc
        · simp only[Bool.not_eq_true'];exact getD_both hu
        simp only[Bool.not_eq_false'];have:=congrFun xM i;rw[this];exact .inr rfl
      rw[xM];intro k ok hk hLk e he hb;rcases hLk with hLk | rfl
      · exact .inl (hd k ok hk hLk e he hb)
      rw[ho]at hk;injection hk with hk;subst hk;exact .inl (xu e he hb)
  refine key ops.size _ a0 _ (by simp) (Nat.le_trans (List.countP_le_length) (by simp)) ?_ ?_
  · intro i o ho hL;simp[Array.getD]at hL
  have:(fun i=>(Array.replicate ops.size false).getD i false=true)=(fun _=>False):=by
    funext i
    apply propext;simp[Array.getD]
  rw[this];exact h0
end
open Go.RowKit
def Kv (call:Bq):Prop:=∀f ds S r S',call f ds S=some (r,S',false)→S'=S
theorem lop_clean{l:LOp}{ds:List D}{S S':St}{r:D}(h:lop l ds S=some (r,S',false)):S'=S:=by
 unfold lop at h
 repeat' (first | (simp at h;done) | (split at h))
 all_goals first
  | (simp at h;done)
  | (simp only[Oi,Pi_]at h;exact h.2.1.symm)
  | (simp only[Om,Pi_]at h;obtain⟨_,_,h1,h2,h3⟩:=h;first | exact h2.symm | (cases h3;done))
  | skip
 all_goals
  first | unfold Dj at h | unfold Bo at h | unfold ustrD at h | unfold strshD at h | unfold nextsD at h | unfold Ih at h
  repeat' (first | (simp at h;done) | (split at h) | (unfold Bo at h;skip))
  all_goals first
   | (simp at h;done)
   | (simp only[Oi,Pi_]at h;exact h.2.1.symm)
theorem aop_clean{l:LOp}{ds:List D}{S S':St}{r:D}(h:aop l ds S=some (r,S',false)):S'=S:=by
 unfold aop at h;split at h
 ·
  exact lop_clean h
 simp only[Om,Pi_]at h;obtain⟨_,_,_,h2,_⟩:=h;exact h2.symm
theorem Qk{call:Bq}(hc:Kv call){l:LOp}{ds:List D}{S S':St}{r:D}(h:Ar call l ds S=some (r,S',false)):S'=S:=by
 unfold Ar at h;split at h
 ·
  exact hc _ _ _ _ _ h
 ·
  split at h
  ·
   exact hc _ _ _ _ _ h
  simp at h
 ·
  split at h
  ·
   split at h
   ·
    exact hc _ _ _ _ _ h
   simp at h
  ·
   split at h
   ·
    exact hc _ _ _ _ _ h
   simp at h
  simp at h
 exact aop_clean h
theorem Vo{call:Bq}{l:LOp}{ds:List D}{S S':St}{r:D}{wr:Bool}(hl:l.loud=false)(h:Ar call l ds S=some (r,S',wr)):S'=S∧wr=false∧∀S2,Ar call l ds S2=some (r,S2,false):=by
 have ha:Ar call l ds=aop l ds:=by cases l<;>first | rfl | (simp[LOp.loud]at hl;done)
 rw[ha]at h ⊢;unfold aop at h;simp only[hl,Bool.false_eq_true,if_false,Om,Pi_]at h;obtain⟨r',h1,rfl,rfl,rfl⟩:=h;exact⟨rfl,rfl,fun S2=>by simp[aop,hl,h1]⟩
inductive Eff where
 | none
 | set (g:Nat) (o:Z9)
 | new (o:Z9)
def Eff.app:Eff→St→St
 | .none,S=>S
 | .set g o,S=>setAt S g o
 | .new o,S=>newAt S o
def Eff.within (n:Nat) (W:List Nat) (c:Bool):Eff→Prop
 | .none=>True
 | .set g _=>g∈W
 | .new _=>c=true∧n∈W
def Framed (call:Bq) (l:LOp) (ds:List D) (S:St) (r:D) (S':St) (wr:Bool) (fp:FP):Prop :=
 ∃R W eff,fp.reads=some R∧fp.writes=some W∧S'=Eff.app eff S∧Eff.within S.heap.length W fp.creates eff ∧
  ∀T:St,(∀g∈R,T.heap[g]?=S.heap[g]?)→(fp.creates=true→T.heap.length=S.heap.length)→Ar call l ds T=some (r,eff.app T,wr)
theorem Ho{S T:St}{g v:Nat}(h:T.heap[g]?=S.heap[g]?):rowsOf T g v=rowsOf S g v:=by simp[rowsOf,h]
theorem snap_plain{m:Nat}{H:List Z9}{d:D}(h:Iy d=true):snap m H d=some d:=by
 cases d<;>first | rfl | (simp[Iy]at h;done)
theorem Yo{m:Nat}{H:List Z9}:∀{ds:List D},ds.all Iy=true→Bh m H ds=some ds
 | [],_=>rfl
 | d::ds,h=>by
  simp only[List.all_cons,Bool.and_eq_true]at h;simp[Bh,snap_plain h.1,Yo h.2]
theorem Yq{m:Nat}{H:List Z9}{d:D}(h:Aab d=true):Aac m H d=some d:=by
 unfold Aab at h;split at h
 ·
  simp[Aac,Yo h]
 rename_i hn;unfold Aac;split
 ·
  rename_i cs;exact absurd rfl (hn cs)
 exact snap_plain h
theorem fpApp_loud(s x r:D)(wr:Bool):(Ey s x r wr).loud=true:=by
 unfold Ey;cases wr
 ·
  rfl
 simp only[if_true];split
 ·
  split<;>rfl
 rfl
theorem fpMk_loud(r:D)(wr:Bool):(Qi r wr).loud=true:=by
 unfold Qi;split<;>cases wr<;>rfl
theorem fpOf_loud(l:LOp)(ds:List D)(r:D)(wr:Bool):(F5 l ds r wr).loud=l.loud:=by
 unfold F5
 repeat' split
 all_goals first
  | rfl
  | (cases wr<;>rfl)
  | exact fpApp_loud ..
  | exact fpMk_loud ..
  | (rename_i h;simp[h,Es];cases wr<;>rfl)
  | (rename_i h;simp at h;simp[h,fpQuiet])
theorem Gx{call:Bq}{l:LOp}{ds:List D}{S S':St}{r:D}{wr:Bool}(h:Ar call l ds S=some (r,S',wr)){f:St→Option D}(he:∀T:St,Ar call l ds T=(f T).map fun r=>(r,T,false))(R:List Nat)(hT:∀T:St,(∀g∈R,T.heap[g]?=S.heap[g]?)→f T=f S)(hf:F5 l ds r wr=Dv R):Framed call l ds S r S' wr (F5 l ds r wr):=by
 rw[he S,Om]at h;obtain⟨r',h1,h2⟩:=h;simp only[Pi_]at h2;obtain⟨rfl,rfl,rfl⟩:=h2;rw[hf];exact⟨R,[],.none,rfl,rfl,rfl,trivial,fun T hR _=>by rw[he T,hT T hR,h1];rfl⟩
theorem read_congr{S T:St}{sz:Nat}{x:D}(h:∀g∈Gz x,T.heap[g]?=S.heap[g]?):Dn T sz x=Dn S sz x∧Ik T sz x=Ik S sz x:=by
 cases x with
 | msl g v lo n c=>simp[Dn,Ik,Ho (h g (by simp[Gz]))]
 | _=>exact⟨rfl,rfl⟩
theorem rowsOf_lt{S:St}{g v:Nat}{o:Z9}(h:rowsOf S g v=some o):g<S.heap.length:=by
 unfold rowsOf at h;split at h
 ·
  rename_i h1;exact (List.getElem?_eq_some_iff.1 h1).1
 simp at h
theorem fp_app {e sz bytes kind : Nat} {s x r : D} {new : List (List D)} {S S' : St} {wr : Bool} {F : St → Option (D × St × Bool)}
    (hF:∀T:St,(∀g∈Gz s++Gz x,T.heap[g]?=S.heap[g]?)→F T=Bo e sz bytes kind s new T) (h:Bo e sz bytes kind s new S=some (r,S',wr)) :
    ∃ R W eff, (Ey s x r wr).reads = some R ∧ (Ey s x r wr).writes = some W ∧ S' = Eff.app eff S ∧ Eff.within S.heap.length W (Ey s x r wr).creates eff ∧
      ∀T:St,(∀g∈R,T.heap[g]?=S.heap[g]?)→((Ey s x r wr).creates=true→T.heap.length=S.heap.length)→F T=some (r,eff.app T,wr):=by
  have quiet:∀r,wr=false→S'=S→(∀T:St,(∀g∈Gz s++Gz x,T.heap[g]?=S.heap[g]?)→Bo e sz bytes kind s new T=some (r,T,false))→∃R W eff,(Ey s x r wr).reads=some R∧(Ey s x r wr).writes=some W∧S'=Eff.app eff S∧Eff.within S.heap.length W (Ey s x r wr).creates eff ∧
      ∀T:St,(∀g∈R,T.heap[g]?=S.heap[g]?)→((Ey s x r wr).creates=true→T.heap.length=S.heap.length)→F T=some (r,eff.app T,wr):=by
    intro r h1 h2 h3;subst h1 h2;exact⟨_,_,.none,rfl,rfl,rfl,trivial,fun T hR _=>by rw[hF T hR,h3 T hR];rfl⟩
  have fresh:∀v lo n c o,wr=true→S'=newAt S o→(Gz s≠[S.heap.length])→(∀T:St,(∀g∈Gz s++Gz x,T.heap[g]?=S.heap[g]?)→Bo e sz bytes kind s new T=some (.msl T.heap.length v lo n c,newAt T o,true))→∃R W eff,(Ey s x (.msl S.heap.length v lo n c) wr).reads=some R∧(Ey s x (.msl S.heap.length v lo n c) wr).writes=some W∧S'=Eff.app eff S∧Eff.within S.heap.length W (Ey s x (.msl S.heap.length v lo n c) wr).creates eff ∧
      ∀T:St,(∀g∈R,T.heap[g]?=S.heap[g]?)→((Ey s x (.msl S.heap.length v lo n c) wr).creates=true→T.heap.length=S.heap.length)→F T=some (.msl S.heap.length v lo n c,eff.app T,wr):=by
    intro v lo n c o h1 h2 xw h3;subst h1 h2;have hf:Ey s x (.msl S.heap.length v lo n c) true=⟨true,some (Gz s++Gz x),some [S.heap.length],true,none⟩:=by simp only[Ey,if_true,if_neg xw]
    rw[hf];exact⟨_,_,.new o,rfl,rfl,rfl,⟨rfl,by simp⟩,fun T hR hl=>by rw[hF T hR,h3 T hR,hl rfl];rfl⟩
  have inpl:∀g v lo n c o,wr=true→S'=setAt S g o→Gz s=[g]→(∀T:St,(∀g∈Gz s++Gz x,T.heap[g]?=S.heap[g]?)→Bo e sz bytes kind s new T=some (.msl g v lo n c,setAt T g o,true))→∃R W eff,(Ey s x (.msl g v lo n c) wr).reads=some R∧(Ey s x (.msl g v lo n c) wr).writes=some W∧S'=Eff.app eff S∧Eff.within S.heap.length W (Ey s x (.msl g v lo n c) wr).creates eff ∧
      ∀T:St,(∀g∈R,T.heap[g]?=S.heap[g]?)→((Ey s x (.msl g v lo n c) wr).creates=true→T.heap.length=S.heap.length)→F T=some (.msl g v lo n c,eff.app T,wr):=by
    intro g v lo n c o h1 h2 xw h3;subst h1 h2;have hf:Ey s x (.msl g v lo n c) true=⟨true,some (Gz s++Gz x),some [g],false,none⟩:=by simp only[Ey,if_true,if_pos xw]
    rw[hf];exact⟨_,_,.set g o,rfl,rfl,rfl,by simp[Eff.within],fun T hR _=>by rw[hF T hR,h3 T hR];rfl⟩
  cases s with
  | nils =>
    simp only[Bo]at h quiet fresh;split at h
    · rename_i hc;simp only[Oi,Pi_]at h;obtain⟨rfl,rfl,rfl⟩:=h;exact quiet _ rfl rfl fun T hT=>by rw[if_pos hc]
    rename_i hc;split at h
    · rename_i hb;simp only[Oi,Pi_]at h;obtain⟨rfl,rfl,rfl⟩:=h;exact fresh _ _ _ _ _ rfl rfl (by simp[Gz]) fun T hT=>by rw[if_neg hc,if_pos hb]
    simp at h
  | sl s' rows cap =>
    simp only[Bo]at h quiet fresh;split at h
    · rename_i hc;simp only[Oi,Pi_]at h;obtain⟨rfl,rfl,rfl⟩:=h;exact quiet _ rfl rfl fun T hT=>by rw[if_pos hc]
    rename_i hc;split at h
    · rename_i hb;simp only[Oi,Pi_]at h;obtain⟨rfl,rfl,rfl⟩:=h;exact fresh _ _ _ _ _ rfl rfl (by simp[Gz]) fun T hT=>by rw[if_neg hc,if_pos hb]
    simp at h
  | msl g v lo n cap =>
    simp only[Bo]at h quiet fresh inpl
    cases ho:rowsOf S g v with
    | none=>rw[ho]at h;simp at h
    | some o =>
      rw[ho]at h;have hg:=rowsOf_lt ho;have hT':∀T:St,(∀k∈Gz (D.msl g v lo n cap)++Gz x,T.heap[k]?=S.heap[k]?)→rowsOf T g v=some o:=fun T hT=>(Ho (hT g (by simp[Gz]))).trans ho;by_cases h1:o.sz=sz∧o.elem=e∧lo=0∧n=o.rows.length∧cap=none∧(if kind=0 then o.kind=0 else (o.kind=1∨o.kind=2))∧(n+new.length)*bytes≤140737488355328
      · replace h : some (D.msl g (v + 1) 0 (n + new.length) none, setAt S g { o with rows := o.rows ++ new, ver := v + 1, grow := true }, true) = some (r, S', wr) := by rw [← h]; exact (if_pos h1).symm
        simp only[Oi,Pi_]at h;obtain⟨rfl,rfl,rfl⟩:=h;exact inpl _ _ _ _ _ _ rfl rfl rfl fun T hT=>by rw[hT' T hT];exact if_pos h1
      by_cases h2:o.sz=sz∧o.elem=e∧lo=0∧cap=none∧(if kind=0 then o.kind=0 else o.kind=2)∧n+new.length≤o.rows.length
      · replace h : some (D.msl g v 0 (n + new.length) none, setAt S g { o with rows := o.rows.take n ++ new ++ o.rows.drop (n + new.length) }, true) = some (r, S', wr) := by rw [← h]; exact ((if_neg h1).trans (if_pos h2)).symm
        simp only[Oi,Pi_]at h;obtain⟨rfl,rfl,rfl⟩:=h;exact inpl _ _ _ _ _ _ rfl rfl rfl fun T hT=>by rw[hT' T hT];exact (if_neg h1).trans (if_pos h2)
      by_cases h3:o.sz=sz∧o.elem=e∧cap=some n∧(if kind=0 then o.kind=0 else (o.kind=1∨o.kind=2))∧(n+new.length)*bytes≤140737488355328
      · by_cases h4 : new.isEmpty = true
        · replace h : some (D.msl g v lo n cap, S, false) = some (r, S', wr) := by rw [← h]; exact ((if_neg h1).trans ((if_neg h2).trans ((if_pos h3).trans (if_pos h4)))).symm
          simp only[Oi,Pi_]at h;obtain⟨rfl,rfl,rfl⟩:=h;exact quiet _ rfl rfl fun T hT=>by rw[hT' T hT];exact (if_neg h1).trans ((if_neg h2).trans ((if_pos h3).trans (if_pos h4)))
        replace h:some (D.msl S.heap.length 0 0 (n+new.length) none,newAt S ⟨e,sz,(o.rows.drop lo).take n++new,0,kind,true⟩,true)=some (r,S',wr):=by rw[←h];exact ((if_neg h1).trans ((if_neg h2).trans ((if_pos h3).trans (if_neg h4)))).symm
        simp only[Oi,Pi_]at h;obtain⟨rfl,rfl,rfl⟩:=h;exact fresh _ _ _ _ _ rfl rfl (by simp only[Gz];intro hq;injection hq;omega) fun T hT=>by rw[hT' T hT];exact (if_neg h1).trans ((if_neg h2).trans ((if_pos h3).trans (if_neg h4)))
      replace h:none=some (r,S',wr):=by rw[←h];exact ((if_neg h1).trans ((if_neg h2).trans (if_neg h3))).symm
      simp at h
  | _=>simp[Bo]at h
theorem Na{m:Nat}{H:List Z9}:∀{ds:List D},ds.all Aab=true→snapVs m H ds=some ds
 | [],_=>rfl
 | d::ds,h=>by
  simp only[List.all_cons,Bool.and_eq_true]at h;simp[snapVs,Yq h.1,Na h.2]
theorem N7 {call : Bq} {l : LOp} {ds : List D} {S S' : St} {r : D} {wr : Bool} (h : Ar call l ds S = some (r, S', wr)) : Framed call l ds S r S' wr (F5 l ds r wr) ∨ F5 l ds r wr = Es wr := by
  cases hl:l.loud with
  | false =>
    left;obtain⟨rfl,rfl,h2⟩:=Vo hl h
    have e:F5 l ds r false=fpQuiet:=by
      cases l<;>first | rfl | (simp[LOp.loud]at hl;done) | skip
      rename_i st _ _ _ _;cases st
      · simp[LOp.loud]at hl
      rfl
    rw[e];exact⟨[],[],.none,rfl,rfl,rfl,trivial,fun T _ _=>h2 T⟩
  | true =>
    cases l with
    | load sz agg =>
      left
      match ds,h with
      | [a], h =>
        have he:∀T:St,Ar call (.load sz agg) [a] T=(Oj sz agg T a).map fun r=>(r,T,false):=fun T=>rfl
        cases a with
        | ptr g v i o =>
          refine Gx h he [g] (fun T hT=>?_) rfl;simp only[Oj,Ho (hT g (by simp))]
        | _=>refine Gx h he [] (fun T hT=>?_) rfl;rfl
      | [],h=>simp[Ar,aop,LOp.loud,lop]at h
      | _::_::_,h=>simp[Ar,aop,LOp.loud,lop]at h
    | iaddr sz =>
      left
      match ds,h with
      | [a, i], h =>
        have he:∀T:St,Ar call (.iaddr sz) [a,i] T=(Jf T sz a i).map fun r=>(r,T,false):=fun T=>rfl
        cases a with
        | msl g v lo n c =>
          refine Gx h he [g] (fun T hT=>?_) rfl;cases i<;>simp only[Jf,Ho (hT g (by simp))]
        | _=>refine Gx h he [] (fun T hT=>?_) rfl;cases i<;>rfl
      | [],h=>simp[Ar,aop,LOp.loud,lop]at h
      | [_],h=>simp[Ar,aop,LOp.loud,lop]at h
      | _::_::_::_,h=>simp[Ar,aop,LOp.loud,lop]at h
    | mapget kf z ok =>
      left
      match ds,h with
      | [a, i], h =>
        have he:∀T:St,Ar call (.mapget kf z ok) [a,i] T=(Ug T kf z ok a i).map fun r=>(r,T,false):=fun T=>rfl
        cases a with
        | mref g v =>
          refine Gx h he [g] (fun T hT=>?_) rfl;simp only[Ug,Uh,Ho (hT g (by simp))]
        | _=>refine Gx h he [] (fun T hT=>?_) rfl;rfl
      | [],h=>simp[Ar,aop,LOp.loud,lop]at h
      | [_],h=>simp[Ar,aop,LOp.loud,lop]at h
      | _::_::_::_,h=>simp[Ar,aop,LOp.loud,lop]at h
    | slice st sz lo hi mx =>
      cases st with
      | true=>simp[LOp.loud]at hl
      | false =>
        left
        match ds,h with
        | a :: xs, h =>
          have he:∀T:St,Ar call (.slice false sz lo hi mx) (a::xs) T=(match Ee lo hi mx xs with | some (p,q,m)=>Kt T sz a p q m | none=>none).map fun r=>(r,T,false):=by
            intro T;show lop (.slice false sz lo hi mx) (a::xs) T=_;simp only[lop];split<;>(rename_i hq;rw[hq];try rfl)
          cases a with
          | msl g v o n c =>
            refine Gx h he [g] (fun T hT=>?_) rfl;simp only[Kt,Xm,Ho (hT g (by simp))]
          | _=>refine Gx h he [] (fun T hT=>?_) rfl;rfl
        | [],h=>simp[Ar,aop,LOp.loud,lop]at h
    | strb =>
      left
      match ds,h with
      | [a], h =>
        cases a with
        | str s=>exact Gx h (f:=fun T=>some (.sl 1 (Ea s) none)) (fun T=>rfl) [] (fun T hT=>rfl) rfl
        | _=>simp[Ar,aop,LOp.loud,lop]at h
      | [],h=>simp[Ar,aop,LOp.loud,lop]at h
      | _::_::_,h=>simp[Ar,aop,LOp.loud,lop]at h
    | append e sz bytes kind =>
      left
      match ds,h with
      | [s, x], h =>
        have he:∀T:St,Ar call (.append e sz bytes kind) [s,x] T=Dj e sz bytes kind s x T:=fun T=>rfl;rw[he]at h;unfold Dj at h
        cases hn:(if kind=0 then Ik S sz x else Dn S sz x) with
        | none=>rw[hn]at h;simp at h
        | some new =>
          rw[hn]at h;refine fp_app (F:=fun T=>Ar call (.append e sz bytes kind) [s,x] T) (fun T hT=>?_) h;obtain⟨h1,h2⟩:=read_congr (sz:=sz) (x:=x) fun g hg=>hT g (List.mem_append.2 (.inr hg));rw[he];unfold Dj;rw[h1,h2,hn]
      | [],h=>simp[Ar,aop,LOp.loud,lop]at h
      | [_],h=>simp[Ar,aop,LOp.loud,lop]at h
      | _::_::_::_,h=>simp[Ar,aop,LOp.loud,lop]at h
    | bslice e sz len z ps kind =>
      by_cases hk:(decide (kind=0)||ds.all Aab)=true
      · have hf0 : F5 (.bslice e sz len z ps kind) ds r wr = Qi r wr := by simp only [F5]; rw [if_pos hk]
        have he:∀T:St,Ar call (.bslice e sz len z ps kind) ds T=lop (.bslice e sz len z ps kind) ds T:=fun T=>rfl;rw[he]at h;by_cases h0:kind=0
        · simp only [lop, if_pos h0] at h
          cases hf:Gn (List.replicate len z) sz ps ds with
          | none=>rw[hf]at h;simp at h
          | some rs =>
            rw[hf]at h;simp only[Oi,Pi_]at h;obtain⟨rfl,rfl,rfl⟩:=h;left;rw[hf0];exact⟨[],[S.heap.length],.new ⟨e,sz,rs,0,0,false⟩,rfl,rfl,rfl,⟨rfl,by simp⟩,fun T _ hT=>by rw[he];simp only[lop,if_pos h0,hf,hT rfl];rfl⟩
        have hp:ds.all Aab=true:=by simpa [h0] using hk
        simp only[lop,if_neg h0,Na hp]at h
        cases hf:C9 (List.replicate len z) sz ps ds with
        | none=>rw[hf]at h;simp at h
        | some rs =>
          rw[hf]at h;simp only at h;by_cases h2:kind=2
          · rw [if_pos h2] at h;simp only[Oi,Pi_]at h;obtain⟨rfl,rfl,rfl⟩:=h;left;rw[hf0];exact⟨[],[S.heap.length],.new ⟨e,sz,rs,0,2,false⟩,rfl,rfl,rfl,⟨rfl,by simp⟩,fun T _ hT=>by rw[he];simp only[lop,if_neg h0,Na hp,hf,if_pos h2,hT rfl];rfl⟩
          rw[if_neg h2]at h;simp only[Oi,Pi_]at h;obtain⟨rfl,rfl,rfl⟩:=h;left;rw[hf0];exact⟨[],[],.none,rfl,rfl,rfl,trivial,fun T _ _=>by rw[he];simp only[lop,if_neg h0,Na hp,hf,if_neg h2];rfl⟩
      right;simp only[F5];rw[if_neg hk]
    | boxc sz =>
      left
      match ds,h with
      | [x],h=>exact Gx h (f:=fun T=>if x.val&&x.cells.length==sz&&x.cells.all D.free then some (.cptr x.cells 0) else none) (fun T=>by simp only[Ar,aop,LOp.loud,if_true,lop];split<;>rfl) [] (fun T hT=>rfl) rfl
      | [],h=>simp[Ar,aop,LOp.loud,lop]at h
      | _::_::_,h=>simp[Ar,aop,LOp.loud,lop]at h
    | box e sz =>
      left
      match ds,h with
      | [x], h =>
        simp only[Ar,aop,LOp.loud,if_true,lop]at h;split at h
        · rename_i hx;simp only[Oi,Pi_]at h;obtain⟨rfl,rfl,rfl⟩:=h;exact⟨[],[S.heap.length],.new ⟨e,sz,[x.cells],0,0,false⟩,rfl,rfl,rfl,⟨rfl,by simp⟩,fun T _ hT=>by simp only[Ar,aop,LOp.loud,if_true,lop,if_pos hx,hT rfl];rfl⟩
        simp at h
      | [],h=>simp[Ar,aop,LOp.loud,lop]at h
      | _::_::_,h=>simp[Ar,aop,LOp.loud,lop]at h
    | mknz e =>
      left;rcases ds with _ | ⟨a,_ | ⟨b,ds⟩⟩
      · simp[Ar,aop,LOp.loud,lop]at h
      · have he : ∀ T : St, Ar call (.mknz e) [a] T = lop (.mknz e) [a] T := fun T => rfl;rw[he]at h
        cases a with
        | int k n =>
          cases k<;>first | (simp[lop]at h;done) | skip
          simp only[lop]at h;split at h
          · rename_i hx;simp only[Oi,Pi_]at h;obtain⟨rfl,rfl,rfl⟩:=h;exact⟨[],[S.heap.length],.new ⟨e,1,List.replicate n.toNat [.junk],0,2,true⟩,rfl,rfl,rfl,⟨rfl,by simp⟩,fun T _ hT=>by rw[he];simp only[lop,if_pos hx,hT rfl];rfl⟩
          simp at h
        | _=>simp[lop]at h
      simp[Ar,aop,LOp.loud,lop]at h
    | mkslice e sz bytes z kind =>
      left;rcases ds with _ | ⟨a,_ | ⟨b,_ | ⟨c,ds⟩⟩⟩
      · simp[Ar,aop,LOp.loud,lop]at h
      · simp[Ar,aop,LOp.loud,lop]at h
      · cases a <;> first | (simp [Ar, aop, LOp.loud, lop] at h; done) | skip
        cases b<;>first | (simp[Ar,aop,LOp.loud,lop]at h;done) | skip
        rename_i k1 l k2 c;simp only[Ar,aop,LOp.loud,if_true,lop]at h;split at h
        · rename_i hx;simp only[Oi,Pi_]at h;obtain⟨rfl,rfl,rfl⟩:=h;exact⟨[],[S.heap.length],.new ⟨e,sz,List.replicate l.toNat z,0,kind,decide (l≠c)⟩,rfl,rfl,rfl,⟨rfl,by simp⟩,fun T _ hT=>by simp only[Ar,aop,LOp.loud,if_true,lop,if_pos hx,hT rfl];rfl⟩
        simp at h
      simp[Ar,aop,LOp.loud,lop]at h
    | store sz =>
      match ds,h with
      | [a, x], h =>
        cases a with
        | ptr g v i o =>
          by_cases hp:Aab x=true
          · left;have hf:F5 (.store sz) [.ptr g v i o,x] r wr=⟨true,some [g],some [g],false,none⟩:=by simp[F5,hp]
            have hs:∀ob:Z9,∀T:St,(if ob.kind=0 then some x else Aac T.heap.length T.heap x)=some x:=fun ob T=>by rw[Yq hp];simp
            simp only[Ar,aop,LOp.loud,if_true,lop,Om,Pi_]at h;obtain⟨S1,h1,rfl,rfl,rfl⟩:=h;simp only[Bg,hs]at h1;split at h1
            · rename_i ob zu;split at h1
              · rename_i row xX;split at h1
                · rename_i hc;simp only[Oi]at h1;subst h1;rw[hf];refine⟨[g],[g],.set g { ob with rows:=ob.rows.set i (overlay row o x.cells) },rfl,rfl,rfl,by simp[Eff.within],fun T hT _=>?_⟩;have kL:rowsOf T g v=some ob:=(Ho (hT g (by simp))).trans zu;simp only[Ar,aop,LOp.loud,if_true,lop,Bg,hs,kL,xX,if_pos hc];rfl
                simp at h1
              simp at h1
            simp at h1
          right;simp[F5,hp]
        | _=>right;rfl
      | [],h=>simp[Ar,aop,LOp.loud,lop]at h
      | [_],h=>simp[Ar,aop,LOp.loud,lop]at h
      | _::_::_::_,h=>simp[Ar,aop,LOp.loud,lop]at h
    | _=>right;simp_all [F5,LOp.loud]
theorem app_get{e:Eff}{S:St}{W:List Nat}{c:Bool}(h:e.within S.heap.length W c){g:Nat}(hg:g∉W):(e.app S).heap[g]?=S.heap[g]?:=by
 cases e with
 | none=>rfl
 | set g' o =>
  have xw:g'≠g:=fun e=>hg (e▸h);simp[Eff.app,setAt,Ln_ xw]
 | new o =>
  have xw:g≠S.heap.length:=fun e=>hg (e▸h.2);simp only[Eff.app,newAt];rcases Nat.lt_or_ge g S.heap.length with h1 | h1
  ·
   rw[La_ h1]
  rw[Lr_ h1,List.getElem?_eq_none h1];simp only[List.getElem?_eq_none_iff,List.length_singleton];omega
theorem app_len{e:Eff}{S:St}{W:List Nat}{c:Bool}(h:e.within S.heap.length W c)(hc:c=false):(e.app S).heap.length=S.heap.length:=by
 cases e with
 | none=>rfl
 | set g' o=>simp[Eff.app,setAt]
 | new o=>rw[hc]at h;cases h.1
theorem app_comm{e f:Eff}{S:St}{W V:List Nat}{c d:Bool}(he:e.within S.heap.length W c)(hf:f.within S.heap.length V d)(hd:∀g∈W,g∉V)(hcd:¬(c=true∧d=true)):e.app (f.app S)=f.app (e.app S):=by
 cases e with
 | none=>rfl
 | set g o =>
  cases f with
  | none=>rfl
  | set g' o' =>
   have xw:g≠g':=fun e=>hd g he (e▸hf);simp only[Eff.app,setAt,St.mk.injEq];exact⟨List.set_comm _ _ (fun e=>xw e.symm),by omega⟩
  | new o' =>
   have xw:g≠S.heap.length:=fun e=>hd g he (e▸hf.2);simp only[Eff.app,setAt,newAt,St.mk.injEq,and_true];rw[List.set_append];split
   ·
    rfl
   rename_i h1;rw[List.set_eq_of_length_le (l:=S.heap) (by omega),List.set_eq_of_length_le (by simp;omega)]
 | new o =>
  cases f with
  | none=>rfl
  | set g' o' =>
   have xw:g'≠S.heap.length:=fun e=>hd _ he.2 (e▸hf);simp only[Eff.app,setAt,newAt,St.mk.injEq,and_true];rw[List.set_append];split
   ·
    rfl
   rename_i h1;rw[List.set_eq_of_length_le (l:=S.heap) (by omega),List.set_eq_of_length_le (by simp;omega)]
  | new o'=>exact absurd ⟨he.1,hf.1⟩ hcd
theorem dj_some{l m:List Nat}(h:dj (some l) (some m)=true):∀g∈l,g∉m:=by
 intro g hg hm
 cases l with
 | nil=>cases hg
 | cons a l =>
  cases m with
  | nil=>cases hm
  | cons b m =>
   have:=List.all_eq_true.1 h g hg;simp at this;simp at hm;rcases hm with hm | hm
   ·
    exact this.1 hm
   exact this.2 hm
theorem dj_some0{l:List Nat}(h:dj none (some l)=true):l=[]:=by
 cases l with
 | nil=>rfl
 | cons a l=>simp[dj]at h
theorem dj_none{l:List Nat}(h:dj (some l) none=true):l=[]:=by
 cases l with
 | nil=>rfl
 | cons a l=>simp[dj]at h
theorem swap {call : Bq} (hc : Kv call) {la lb : LOp} {da db : List D} {ra rb : D} {wa wb : Bool} {S S1 S2 : St} (h1 : Ar call la da S = some (ra, S1, wa)) (h2 : Ar call lb db S1 = some (rb, S2, wb)) (hi : Ir (F5 la da ra wa) (F5 lb db rb wb) = true) :
    ∃S3,Ar call lb db S=some (rb,S3,wb)∧Ar call la da S3=some (ra,S2,wa)∧((F5 la da ra wa).writes=none→S2=S1)∧((F5 lb db rb wb).writes=none→S3=S2):=by
  cases hla:la.loud with
  | false =>
    obtain⟨rfl,rfl,h3⟩:=Vo hla h1;refine⟨S2,h2,h3 S2,fun hw=>?_,fun _=>rfl⟩;rcases N7 h1 with⟨_,_,_,_,hw',_⟩ | hf
    · rw[hw]at hw';cases hw'
    rw[hf]at hw;cases hw
  | true =>
    cases hlb:lb.loud with
    | false =>
      obtain⟨rfl,rfl,h3⟩:=Vo hlb h2;refine⟨S,h3 S,h1,fun _=>rfl,fun hw=>?_⟩;rcases N7 h2 with⟨_,_,_,_,hw',_⟩ | hf
      · rw[hw]at hw';cases hw'
      rw[hf]at hw;cases hw
    | true =>
      simp only[Ir,fpOf_loud,hla,hlb,Bool.not_true,Bool.false_or,Bool.and_eq_true,Bool.not_eq_true']at hi;obtain⟨⟨⟨⟨⟨d1,d2⟩,d3⟩,d4⟩,d5⟩,d6⟩:=hi;rcases N7 h1 with⟨Ra,Wa,ea,hra,hwa,rfl,hia,hTa⟩ | zW
      · rcases N7 h2 with ⟨Rb, Wb, eb, hrb, wX, rfl, hib, hTb⟩ | hfb
        · rw [hra, wX] at d3;rw[hwa,hrb]at d1;rw[hwa,wX]at d2;have d1:=dj_some d1;have d2:=dj_some d2;have d3:=dj_some d3;have xg:∀(hcb:(F5 lb db rb wb).creates=true),(ea.app S).heap.length=S.heap.length:=fun hcb=>app_len hia (by rw[hcb]at d4;simpa using d4)
          have hib':eb.within S.heap.length Wb (F5 lb db rb wb).creates:=by
            cases eb with
            | none=>trivial
            | set g o=>exact hib
            | new o=>exact⟨hib.1,by rw[←xg hib.1];exact hib.2⟩
          have hb:Ar call lb db S=some (rb,eb.app S,wb):=hTb S (fun g hg=>(app_get hia fun hgw=>d1 g hgw hg).symm) (fun hcb=>(xg hcb).symm);have ha:Ar call la da (eb.app S)=some (ra,ea.app (eb.app S),wa):=hTa (eb.app S) (fun g hg=>app_get hib' fun hgw=>d3 g hgw hg) (fun hca=>app_len hib' (by rw[hca]at d4;simpa using d4));rw[app_comm hia hib' d2 (fun hcd=>by rw[hcd.1,hcd.2]at d4;cases d4)]at ha;exact⟨eb.app S,hb,ha,fun hw=>(by rw[hw]at hwa;cases hwa),fun hw=>(by rw[hw]at wX;cases wX)⟩
        cases wb with
        | true =>
          rw[hfb,hra]at d3;rw[hfb,hwa]at d2;rw[hfb]at d4;have hR:=dj_some0 (by simpa [Es] using d3);have hW:=dj_none (by simpa [Es] using d2);subst hR hW;have hca:(F5 la da ra wa).creates=false:=by simpa [Es] using d4
          have he:∀T:St,ea.app T=T:=fun T=>by
            cases ea with
            | none=>rfl
            | set g o=>cases hia
            | new o=>cases hia.2
          rw[he]at h1 h2;refine⟨S2,h2,?_,fun hw=>(by rw[hwa]at hw;cases hw),fun _=>rfl⟩;have:=hTa S2 (fun g hg=>(by cases hg)) (fun h=>by rw[hca]at h;cases h);rwa [he]at this
        | false =>
          have:=Qk hc h2;subst this;rw[hfb,hwa]at d1;have hW:=dj_none (by simpa [Es] using d1);subst hW;rw[hfb]at d5;have hca:(F5 la da ra wa).creates=false:=by simpa [Es] using d5
          have he:ea.app S=S:=by
            cases ea with
            | none=>rfl
            | set g o=>cases hia
            | new o=>cases hia.2
          rw[he]at h1 h2 ⊢;exact⟨S,h2,h1,fun _=>rfl,fun _=>rfl⟩
      cases wa with
      | true =>
        rcases N7 h2 with⟨Rb,Wb,eb,hrb,wX,rfl,hib,hTb⟩ | hfb
        · rw [zW, hrb] at d1;rw[zW,wX]at d2;rw[zW]at d4;have hR:=dj_some0 (by simpa [Es] using d1);have hW:=dj_some0 (by simpa [Es] using d2);subst hR hW;have hcb:(F5 lb db rb wb).creates=false:=by simpa [Es] using d4
          have he:∀T:St,eb.app T=T:=fun T=>by
            cases eb with
            | none=>rfl
            | set g o=>cases hib
            | new o=>cases hib.2
          rw[he]at h2 ⊢;refine⟨S,?_,h1,fun _=>rfl,fun hw=>(by rw[wX]at hw;cases hw)⟩;have:=hTb S (fun g hg=>(by cases hg)) (fun h=>by rw[hcb]at h;cases h);rwa [he]at this
        rw[hfb,zW]at d1;exact absurd (show dj none none=true by cases wb<;>exact d1) (by decide)
      | false =>
        have:=Qk hc h1;subst this;rcases N7 h2 with⟨Rb,Wb,eb,hrb,wX,rfl,hib,hTb⟩ | hfb
        · rw [zW, wX] at d3;have hW:=dj_none (by simpa [Es] using d3);subst hW
          have he:eb.app S1=S1:=by
            cases eb with
            | none=>rfl
            | set g o=>cases hib
            | new o=>cases hib.2
          rw[he]at h2 ⊢;exact⟨S1,h2,h1,fun _=>rfl,fun _=>rfl⟩
        cases wb with
        | true=>rw[hfb,zW]at d3;exact absurd (show dj none none=true from d3) (by decide)
        | false =>
          have:=Qk hc h2;subst this;exact⟨S2,h2,h1,fun _=>rfl,fun _=>rfl⟩
open Go.RowKit
def hist {α:Type} (V:Nat→α) (i:Nat):List α:=((List.range i).map V).reverse
theorem Ph{α:Type}(V:Nat→α)(i:Nat):hist V (i+1)=V i::hist V i:=by simp[hist,List.range_succ]
theorem Qg{α:Type}{V W:Nat→α}{i:Nat}(h:∀k,k<i→V k=W k):hist V i=hist W i:=by
 unfold hist;congr 1;exact List.map_congr_left fun k hk=>h k (List.mem_range.1 hk)
theorem Si{α:Type}(V:Nat→α)(i:Nat):(hist V i).length=i:=by simp[hist]
theorem Ny{α:Type}(V:Nat→α):∀(i d:Nat),d<i→(hist V i)[d]?=some (V (i-1-d))
 | 0,d,h=>by omega
 | i+1,0,h=>by rw[Ph];simp
 | i+1,d+1,h=>by
  rw[Ph,Ls_,Ny V i d (by omega)];congr 2;omega
theorem stp_drew(w:World)(ρ:Aaa)(S:St):Stp w ρ S w.drew ρ S :=
 ⟨rfl,rfl,rfl,rfl,Nat.le_refl _,Nat.le_refl _,fun b _ h=>⟨rfl,h⟩,fun b q h=>⟨rfl,h⟩,fun _ _ _ _ _ _=>rfl,fun g o h=>⟨o,h,⟨Nat.le_refl _,rfl⟩,fun _=>rfl,fun _=>⟨rfl,rfl,rfl,Nat.le_refl _,fun b cur _ h=>⟨cur,h,rfl⟩⟩⟩⟩
def Pn (ops:Array Oper) (i:Nat):List (Option Tmp):=((ops.toList.take i).map (·.dst)).reverse
theorem dstTo_succ{ops:Array Oper}{i:Nat}{o:Oper}(h:ops[i]?=some o):Pn ops (i+1)=o.dst::Pn ops i:=by
 have hl:ops.toList[i]?=some o:=by simpa using h
 have xO:=lt_of_some hl;unfold Pn;rw[List.take_succ_eq_append_getElem xO,List.map_append,List.reverse_append];have:ops.toList[i]=o:=by rw[Lg xO]at hl;injection hl
 simp[this]
theorem sig_to{ops:Array Oper}{slots:List Nat}{V:Nat→D}{env:List D}{t:Nat}(hu:∀(k k':Nat) (o o':Oper),ops[k]?=some o→ops[k']?=some o'→o.dst=some t→o'.dst=some t→k=k') :
    ∀i,i≤ops.size→((∃k o,k<i∧ops[k]?=some o∧o.dst=some t∧sig slots (Pn ops i) (hist V i) env t=V k)∨((∀k o,k<i→ops[k]?=some o→o.dst≠some t)∧sig slots (Pn ops i) (hist V i) env t=sig slots [] [] env t))
  | 0,_=>.inr ⟨fun k o hk=>by omega,by simp[Pn,hist]⟩
  | i + 1, hi => by
    have ho:ops[i]?=some ops[i]:=Array.getElem?_eq_getElem (by omega);rw[dstTo_succ ho,Ph,V8];by_cases e:ops[i].dst=some t
    · exact .inl ⟨i,ops[i],by omega,ho,e,by simp[e]⟩
    rw[if_neg e];rcases sig_to hu i (by omega) with⟨k,o,hk,hok,hd,hs⟩ | ⟨hn,hs⟩
    · exact .inl ⟨k,o,by omega,hok,hd,hs⟩
    refine .inr ⟨fun k o hk hok hd=>?_,hs⟩;by_cases hki:k=i
    · subst hki;rw[ho]at hok;injection hok with hok;subst hok;exact e hd
    exact hn k o (by omega) hok hd
inductive TStep (call:Bq) (n:Nat) (news:List (TypeId × List D)) (tl env:List D) (V:Nat→D) (ST:Nat→St) (W:Nat→Bool) (F:Nat→FP) (i:Nat) (lo:LOper):Prop
 | skip (hg:onG (hist V i++tl) lo.guard=some false) (h1:V i=.skip) (h2:ST (i+1)=ST i) (h3:F i=fpQuiet)
 | run (hg:onG (hist V i++tl) lo.guard=some true) (h:Ar call lo.op (lo.args.map (opd (hist V i++tl) env)) (ST i)=some (V i,ST (i+1),W i)) (hF:F i=fpHere n lo (lo.args.map (opd (hist V i++tl) env)) (V i) (W i)) (hs:okHere n news lo (hist F i) (F i) (ST (i+1))=true)
theorem trace_ex {call : Bq} {n : Nat} {news : List (TypeId × List D)} {tl env : List D} : ∀ (los : List LOper) (k : Nat) (V0 : Nat → D) (F0 : Nat → FP) (S : St) (valsF : List D) (SF : St), J6 call n news los (hist F0 k) (hist V0 k ++ tl) env S = some (valsF, SF) →
    ∃(V:Nat→D) (ST:Nat→St) (W:Nat→Bool) (F:Nat→FP),(∀j,j<k→V j=V0 j)∧(∀j,j<k→F j=F0 j)∧ST k=S∧ST (k+los.length)=SF∧valsF=hist V (k+los.length)++tl∧∀i lo,los[i]?=some lo→TStep call n news tl env V ST W F (k+i) lo
  | [], k, V0, F0, S, valsF, SF, h => by
    simp only[J6,Oi,Pi_]at h;obtain⟨rfl,rfl⟩:=h;exact⟨V0,fun _=>S,fun _=>false,F0,fun _ _=>rfl,fun _ _=>rfl,rfl,rfl,rfl,fun i lo hi=>by simp at hi⟩
  | lo :: los, k, V0, F0, S, valsF, SF, h => by
    have fin:∀(r:D) (S1:St) (wr:Bool) (fp:FP),J6 call n news los (fp::hist F0 k) (r::(hist V0 k++tl)) env S1=some (valsF,SF) →
        (∀V ST W F,hist V k=hist V0 k→hist F k=hist F0 k→V k=r→F k=fp→ST k=S→ST (k+1)=S1→W k=wr→TStep call n news tl env V ST W F k lo) →
        ∃(V:Nat→D) (ST:Nat→St) (W:Nat→Bool) (F:Nat→FP),(∀j,j<k→V j=V0 j)∧(∀j,j<k→F j=F0 j)∧ST k=S∧ST (k+(lo::los).length)=SF∧valsF=hist V (k+(lo::los).length)++tl∧∀i lo',(lo::los)[i]?=some lo'→TStep call n news tl env V ST W F (k+i) lo':=by
      intro r S1 wr fp hx ht
      have e1:r::(hist V0 k++tl)=hist (fun i=>if i=k then r else V0 i) (k+1)++tl:=by
        rw[Ph];simp only[if_true,List.cons_append,List.cons.injEq,true_and];rw[Qg (V:=fun i=>if i=k then r else V0 i) (W:=V0) (fun j hj=>by rw[if_neg (by omega)])]
      have e2:fp::hist F0 k=hist (fun i=>if i=k then fp else F0 i) (k+1):=by
        rw[Ph];simp only[if_true,List.cons.injEq,true_and];rw[Qg (V:=fun i=>if i=k then fp else F0 i) (W:=F0) (fun j hj=>by rw[if_neg (by omega)])]
      rw[e1,e2]at hx;obtain⟨V,ST,W,F,h1,h2,h3,h4,h5,h6⟩:=trace_ex los (k+1) _ _ S1 valsF SF hx;have hV:∀j,j<k→V j=V0 j:=fun j hj=>by rw[h1 j (by omega),if_neg (by omega)]
      have hF:∀j,j<k→F j=F0 j:=fun j hj=>by rw[h2 j (by omega),if_neg (by omega)]
      refine⟨V,fun i=>if i=k then S else ST i,fun i=>if i=k then wr else W i,F,hV,hF,by simp,?_,?_,?_⟩
      · simp only [List.length_cons];rw[if_neg (by omega),←h4];congr 1;omega
      · rw [h5, List.length_cons];congr 2;omega
      intro i lo' hi
      cases i with
      | zero =>
        simp at hi;subst hi;exact ht V _ _ F (Qg hV) (Qg hF) (by rw[h1 k (by omega)];simp) (by rw[h2 k (by omega)];simp) (by simp) (by simp[h3]) (by simp)
      | succ i =>
        simp at hi;have:=h6 i lo' hi;rw[show k+1+i=k+(i+1) by omega]at this
        cases this with
        | skip hg a1 a2 a3=>exact .skip hg a1 (by rw[if_neg (by omega),if_neg (by omega)];exact a2) a3
        | run hg hh hF hs=>exact .run hg (by rw[if_neg (by omega),if_neg (by omega),if_neg (by omega)];exact hh) (by rw[if_neg (by omega)];exact hF) (by rw[if_neg (by omega)];exact hs)
    unfold J6 at h;split at h
    · simp at h
    · rename_i hg;exact fin .skip S false fpQuiet h fun V ST W F a1 a2 a3 a4 a5 a6 a7=>.skip (by rw[a1];exact hg) a3 (by rw[a6,a5]) a4
    rename_i hg;split at h
    · simp at h
    rename_i r S' wr zU;split at h
    · rename_i hok;exact fin r S' wr _ h fun V ST W F a1 a2 a3 a4 a5 a6 a7=>.run (by rw[a1];exact hg) (by rw[a1,a3,a5,a6,a7];exact zU) (by rw[a1,a3,a4,a7]) (by rw[a2,a4,a6];exact hok)
    simp at h
theorem Va {P : Program} {kd : Kd} {nt : Nat} {slots bs : List Nat} {k : Nat} : ∀ {os : List Oper} {prev : List (Option Tmp)} {r0 : Nat} {los : List LOper}, Vb P kd nt slots bs k os prev r0 = some los →
    los.length=os.length∧(∀o∈os,H7 nt o.dst=true)∧∀i o,os[i]?=some o →
      (∃p,Oe P o=some p∧los[i]?=some ⟨.mv,[.loc (prev.length+i+(k-1-(r0+(Fp P (os.take i)).length)))],none,Uz bs (prev.length+i),some (r0+(Fp P (os.take i)).length)⟩) ∨
      (Oe P o=none∧∃l xs args g,(∃mt':Bool,Ru P (kd.lit mt') o=some (l,xs))∧Qe kd.glob slots (((os.take i).map (·.dst)).reverse++prev) xs=some args∧Lr (((os.take i).map (·.dst)).reverse++prev) o.guard=some g∧los[i]?=some ⟨l,args,g,Uz bs (prev.length+i),none⟩)
  | [], prev, r0, los, h => by
    simp only[Vb,Oi]at h;subst h;exact⟨rfl,by simp,fun i o hi=>by simp at hi⟩
  | o :: os, prev, r0, los, h => by
    unfold Vb at h;split at h
    · rename_i hd;split at h
      · rename_i p hp;split at h
        · rename_i rest hr;simp only[Oi]at h;subst h;obtain⟨h1,h2,h3⟩:=Va hr;refine⟨by simp[h1],fun o' ho'=>?_,fun i o' hi=>?_⟩
          · rcases List.mem_cons.1 ho' with rfl | ho'
            · exact hd
            exact h2 o' ho'
          cases i with
          | zero =>
            simp at hi;subst hi;exact .inl ⟨p,hp,by simp[Fp]⟩
          | succ i =>
            simp at hi;have e1:prev.length+(i+1)=(o.dst::prev).length+i:=by simp;omega
            have e2:r0+(Fp P ((o::os).take (i+1))).length=r0+1+(Fp P (os.take i)).length:=by
              simp only[Fp,List.take_succ_cons,List.filterMap_cons,hp,List.length_cons];omega
            rw[e1,e2];rcases h3 i o' hi with⟨p',q1,q2⟩ | ⟨q0,l',xs',args',g',q1,q2,q3,q4⟩
            · exact .inl ⟨p',q1,by simpa using q2⟩
            exact .inr ⟨q0,l',xs',args',g',q1,by simpa using q2,by simpa using q3,by simpa using q4⟩
        simp at h
      rename_i hp;split at h
      · simp at h
      rename_i l xs hl;split at h
      · rename_i args g rest ha hg hr;simp only[Oi]at h;subst h;obtain⟨h1,h2,h3⟩:=Va hr;refine⟨by simp[h1],fun o' ho'=>?_,fun i o' hi=>?_⟩
        · rcases List.mem_cons.1 ho' with rfl | ho'
          · exact hd
          exact h2 o' ho'
        cases i with
        | zero =>
          simp at hi;subst hi;exact .inr ⟨hp,l,xs,args,g,⟨_,hl⟩,by simpa using ha,by simpa using hg,by simp⟩
        | succ i =>
          simp at hi;have e1:prev.length+(i+1)=(o.dst::prev).length+i:=by simp;omega
          have e2:r0+(Fp P ((o::os).take (i+1))).length=r0+(Fp P (os.take i)).length:=by
            simp only[Fp,List.take_succ_cons,List.filterMap_cons,hp]
          rw[e1,e2];rcases h3 i o' hi with⟨p',q1,q2⟩ | ⟨q0,l',xs',args',g',q1,q2,q3,q4⟩
          · exact .inl ⟨p',q1,by simpa using q2⟩
          exact .inr ⟨q0,l',xs',args',g',q1,by simpa using q2,by simpa using q3,by simpa using q4⟩
      simp at h
    simp at h
structure Ev where
 op:LOp
 ds:List D
 r:D
 wr:Bool
def Ev.fp (e:Ev):FP:=F5 e.op e.ds e.r e.wr
def Runs (call:Bq) (E:Nat→Option Ev) (Z:Nat→List Z9→Prop):List Nat→St→St→Prop
 | [],S,S'=>S'=S
 | i::l,S,S'=>match E i with
  | none=>Runs call E Z l S S'
  | some e=>∃S1,Ar call e.op e.ds S=some (e.r,S1,e.wr)∧(e.fp.writes=none→Z i S1.heap)∧Runs call E Z l S1 S'
theorem Runs.drop{call:Bq}{E:Nat→Option Ev}{Z:Nat→List Z9→Prop}{i:Nat}(hi:E i=none){post:List Nat}:∀{pre:List Nat} {S S':St},Runs call E Z (pre++i::post) S S'→Runs call E Z (pre++post) S S'
 | [],S,S',h=>by simpa [Runs,hi] using h
 | j :: pre, S, S', h => by
  simp only[List.cons_append,Runs]at h ⊢;split at h
  ·
   rename_i hj;exact Runs.drop hi h
  rename_i e hj;obtain⟨S1,h1,h2,h3⟩:=h;exact⟨S1,h1,h2,Runs.drop hi h3⟩
theorem Runs.front{call:Bq}(hc:Kv call){E:Nat→Option Ev}{Z:Nat→List Z9→Prop}{i:Nat}{e:Ev}(hi:E i=some e){post:List Nat}:∀{pre:List Nat} {S S':St},Runs call E Z (pre++i::post) S S'→(∀j∈pre,∀e',E j=some e'→Ir e'.fp e.fp=true) →
  ∃S1,Ar call e.op e.ds S=some (e.r,S1,e.wr)∧(e.fp.writes=none→Z i S1.heap)∧Runs call E Z (pre++post) S1 S'
 | [],S,S',h,_=>by simpa [Runs,hi] using h
 | j :: pre, S, S', h, hd => by
  simp only[List.cons_append,Runs]at h ⊢;split at h
  ·
   rename_i hj;exact Runs.front hc hi h fun k hk=>hd k (List.mem_cons_of_mem _ hk)
  rename_i e' hj;obtain⟨S1,h1,h2,h3⟩:=h;obtain⟨S2,k1,k2,k3⟩:=Runs.front hc hi h3 fun k hk=>hd k (List.mem_cons_of_mem _ hk);obtain⟨S3,q1,q2,q3,q4⟩:=swap hc h1 k1 (hd j (by simp) e' hj);exact⟨S3,q1,fun hw=>by rw[q4 hw];exact k2 hw,S2,q2,fun hw=>by rw[q3 hw];exact h2 hw,k3⟩
open Go.RowKit
theorem okFP_get:∀{bs:List Bool} {fs:List FP} {x:FP},Je bs fs x=true→∀(d:Nat) (f:FP),fs[d]?=some f→∃b,bs[d]?=some b∧Ew b f x=true
 | [],[],x,h,d,f,hd=>by simp at hd
 | b::bs,[],x,h,d,f,hd=>by simp at hd
 | [],_::_,x,h,d,f,hd=>by simp[Je]at h
 | b::bs,f'::fs,x,h,0,f,hd=>by
  simp only[Je,Bool.and_eq_true]at h;simp at hd;subst hd;exact⟨b,rfl,h.1⟩
 | b::bs,f'::fs,x,h,d+1,f,hd=>by
  simp only[Je,Bool.and_eq_true]at h;exact okFP_get h.2 d f (by simpa using hd)
theorem Vr:∀{bs:List Bool} {fs:List FP} {g:Nat},g∈Oo bs fs→∃(d:Nat) (f:FP),bs[d]?=some true∧fs[d]?=some f∧f.hoist=some g
 | [],fs,g,h=>by simp[Oo]at h
 | b::bs,[],g,h=>by simp[Oo]at h
 | b :: bs, f :: fs, g, h => by
  unfold Oo at h;split at h
  ·
   rename_i g' hb hf;rcases List.mem_cons.1 h with rfl | h
   ·
    exact⟨0,f,rfl,rfl,hf⟩
   obtain⟨d,f',h1,h2,h3⟩:=Vr h;exact⟨d+1,f',h1,h2,h3⟩
  obtain⟨d,f',h1,h2,h3⟩:=Vr h;exact⟨d+1,f',h1,h2,h3⟩
theorem sameD_eq{a b:D}(h:sameD a b=true):a=b:=by
 unfold sameD at h;split at h
 all_goals first | rfl | (simp at h;done) | skip
 ·
  simp only[Bool.and_eq_true,decide_eq_true_eq]at h;rw[h.1,h.2]
 ·
  simp only[beq_iff_eq]at h;rw[h]
 simp only[decide_eq_true_eq]at h;rw[h]
theorem sameDs_eq:∀{l m:List D},Xy l m=true→l=m
 | [],[],_=>rfl
 | a::l,b::m,h=>by
  simp only[Xy,Bool.and_eq_true]at h;rw[sameD_eq h.1,sameDs_eq h.2]
 | [],_::_,h=>by simp[Xy]at h
 | _::_,[],h=>by simp[Xy]at h
theorem sameNew_eq{p:TypeId × List D}{x:Option Z9}(h:sameNew p x=true):x=some (newsObj p):=by
 unfold sameNew at h;split at h
 ·
  simp only[Bool.and_eq_true,decide_eq_true_eq]at h;obtain⟨⟨rfl,rfl⟩,h3⟩:=h;rw[sameDs_eq h3];rfl
 simp at h
theorem V5{n:Nat}{dn:List Nat}{H:List Z9}:∀{l:List (TypeId × List D)} {r0:Nat},Lj n dn H l r0=true→∀r p,l[r]?=some p→n+(r0+r)∉dn→H[n+(r0+r)]?=some (newsObj p)
  | [],r0,h,r,p,hr,_=>by simp at hr
  | q :: l, r0, h, 0, p, hr, hn => by
    simp only[Lj,Bool.and_eq_true,Bool.or_eq_true]at h;simp at hr;subst hr;rcases h.1 with h1 | h1
    · exact absurd (by simpa using h1) hn
    exact sameNew_eq h1
  | q :: l, r0, h, r + 1, p, hr, hn => by
    simp only[Lj,Bool.and_eq_true]at h;have e:r0+(r+1)=r0+1+r:=by omega
    rw[e]at hn ⊢;exact V5 h.2 r p (by simpa using hr) hn
theorem fpApp_hoist(s x r:D)(wr:Bool):(Ey s x r wr).hoist=none:=by
 unfold Ey;cases wr
 ·
  rfl
 simp only[if_true];split
 ·
  split<;>rfl
 rfl
theorem fpMk_hoist(r:D)(wr:Bool):(Qi r wr).hoist=none:=by
 unfold Qi;split<;>cases wr<;>rfl
theorem Vh(l:LOp)(ds:List D)(r:D)(wr:Bool):(F5 l ds r wr).hoist=none:=by
 unfold F5
 repeat' split
 all_goals first | rfl | (cases wr<;>rfl) | exact fpApp_hoist .. | exact fpMk_hoist ..
def rk (P:Program) (ops:Array Oper) (j:Nat):Nat:=(Fp P (ops.toList.take j)).length
theorem rk_get{P:Program}{ops:Array Oper}{j:Nat}{o:Oper}{p:TypeId × List D}(ho:ops[j]?=some o)(hp:Oe P o=some p):(Fp P ops.toList)[rk P ops j]?=some p:=by
 have hl:ops.toList[j]?=some o:=by simpa using ho
 have xO:=lt_of_some hl
 have e:ops.toList=ops.toList.take j++o::ops.toList.drop (j+1):=by
  conv=>lhs;rw[←List.take_append_drop j ops.toList]
  rw[List.drop_eq_getElem_cons xO];rw[Lg xO]at hl;injection hl with hl;rw[hl]
 unfold rk
 conv=>lhs;arg 1;rw[e]
 unfold Fp;rw[List.filterMap_append,Lr_ (Nat.le_refl _),Nat.sub_self,List.filterMap_cons_some hp];rfl
theorem rk_lt{P:Program}{ops:Array Oper}{i j:Nat}{o:Oper}{p:TypeId × List D}(ho:ops[i]?=some o)(hp:Oe P o=some p)(hij:i<j):rk P ops i<rk P ops j:=by
 have hl:ops.toList[i]?=some o:=by simpa using ho
 have xO:=lt_of_some hl
 have e:ops.toList.take j=ops.toList.take i++o::(ops.toList.take j).drop (i+1):=by
  conv=>lhs;rw[←List.take_append_drop i (ops.toList.take j)]
  have hlt':i<(ops.toList.take j).length:=by rw[List.length_take];omega
  rw[List.drop_eq_getElem_cons hlt',List.take_take,Nat.min_eq_left (Nat.le_of_lt hij)];rw[Lg xO]at hl;injection hl with hl;rw[List.getElem_take,hl]
 unfold rk
 conv=>rhs;rw[e]
 unfold Fp;rw[List.filterMap_append,Ll_,List.filterMap_cons_some hp,List.length_cons];omega
theorem rk_inj{P:Program}{ops:Array Oper}{i j:Nat}{o o':Oper}{p p':TypeId × List D}(ho:ops[i]?=some o)(hp:Oe P o=some p)(ho':ops[j]?=some o')(hp':Oe P o'=some p')(h:rk P ops i=rk P ops j):i=j:=by
 rcases Nat.lt_trichotomy i j with h1 | h1 | h1
 ·
  have:=rk_lt ho hp h1;omega
 ·
  exact h1
 have:=rk_lt ho' hp' h1;omega
theorem newOf_some{P:Program}{o:Oper}{p:TypeId × List D}(h:Oe P o=some p):∃n,o.op=.alloc p.1∧o.guard=none∧Ji P p.1=some p.2∧Dx P p.1=some n∧p.2.length=n:=by
 unfold Oe at h;split at h
 ·
  rename_i e ho hg;split at h
  ·
   rename_i z n hz hn;split at h
   ·
    rename_i hl;simp only[Oi]at h;subst h;exact⟨n,ho,hg,hz,hn,hl⟩
   simp at h
  simp at h
 simp at h
theorem dstTo_len{ops:Array Oper}{i:Nat}(h:i≤ops.size):(Pn ops i).length=i:=by
 unfold Pn;rw[List.length_reverse,List.length_map,List.length_take,Array.length_toList];omega
theorem sig_tl{slots:List Nat}{prev:List (Option Tmp)}{vals tl env:List D}{t i:Nat}(hp:prev.length=i)(hv:vals.length=i):sig slots prev (vals++tl) env t=sig slots prev vals env t:=by
  unfold sig;split
  · rename_i d hd;have:=lt_of_some (Jl hd);simp only[List.getD_eq_getElem?_getD];rw[La_ (by omega)]
  rfl
theorem newsVals_get{n k r:Nat}(h:r<k):(newsVals n k)[k-1-r]?=some (.ptr (n+r) 0 0 0):=by
 have:=Ny (fun r=>D.ptr (n+r) 0 0 0) k (k-1-r) (by omega);rw[show k-1-(k-1-r)=r by omega]at this;exact this
noncomputable def notB (p:Prop):Bool:=@decide (¬p) (Classical.propDecidable _)
theorem notB_iff{p:Prop}:notB p=true↔¬p:=by unfold notB;exact @decide_eq_true_iff _ (Classical.propDecidable _)
theorem notB_congr{p q:Prop}(h:p↔q):notB p=notB q:=by rw[propext h]
noncomputable def left (n:Nat) (L:Nat→Prop):List Nat:=(List.range n).filter (fun i=>notB (L i))
theorem left_split{n i:Nat}{L:Nat→Prop}(hi:i<n)(hL:¬L i):∃pre post,left n L=pre++i::post∧left n (fun k=>L k∨k=i)=pre++post∧∀j∈pre,j<i∧¬L j:=by
  have e:List.range n=List.range i++i::List.range' (i+1) (n-i-1):=by
    rw[List.range_eq_range',List.range_eq_range',←List.range'_succ,show n-i-1+1=n-i by omega];have:=List.range'_append (s:=0) (m:=i) (n:=n-i) (step:=1);simp only[Nat.one_mul,Nat.zero_add]at this;rw[this];congr 1;omega
  refine⟨(List.range i).filter (fun k=>notB (L k)),(List.range' (i+1) (n-i-1)).filter (fun k=>notB (L k)),?_,?_,?_⟩
  · unfold left;rw[e,List.filter_append,List.filter_cons_of_pos (by rw[notB_iff];exact hL)]
  · unfold left;rw[e,List.filter_append,List.filter_cons_of_neg (by rw[notB_iff];simp)];congr 1
    · apply List.filter_congr;intro k hk;have:k≠i:=by have:=List.mem_range.1 hk;omega
      exact notB_congr (by simp[this])
    apply List.filter_congr;intro k hk;have:k≠i:=by have:=List.mem_range'_1.1 hk;omega
    exact notB_congr (by simp[this])
  intro j hj;rw[List.mem_filter]at hj;exact⟨List.mem_range.1 hj.1,notB_iff.1 hj.2⟩
section
variable {P:Program} {call:Bq} {kd:Kd} {nt:Nat} {slots:List Nat} {ops:Array Oper} {env:List D} {Q:Exit→Act→World→Prop}
structure DInv (P:Program) (call:Bq) (ops:Array Oper) (slots:List Nat) (nt:Nat) (env:List D) (V:Nat→D) (E:Nat→Option Ev) (Z:Nat→List Z9→Prop) (S SF:St) (w0:World) (ρ0:Aaa) (df:List Deferred) (L:Nat→Prop) (a:Act) (w:World) (ρ:Aaa) (S1:St):Prop where
 rel:Rel w ρ S1.heap
 stp:Stp w0 ρ0 S w ρ S1
 size:a.tmps.size=nt
 defers:a.defers=df
 slot:∀t,t<nt→(∃k o,ops[k]?=some o∧L k∧o.dst=some t∧VR w ρ S1.heap (V k) (a.tmps.getD t undef))∨((∀k o,ops[k]?=some o→L k→o.dst≠some t)∧VR w ρ S1.heap (sig slots [] [] env t) (a.tmps.getD t undef))
 runs:Runs call E Z (left ops.size L) S1 SF
 pend:∀j o p,ops[j]?=some o→¬L j→Oe P o=some p→S1.heap[S.heap.length+rk P ops j]?=some (newsObj p)∧ρ (S.heap.length+rk P ops j)=none
theorem draw_ok {G : Nat → Option (List D)} (kP : ∀ g row, kd.glob g = some row → G g = some row) (hm : P.follows .mixedOrders = true) (y8 : Vx P G call) (zH : Kv call) {S S' : St} {vals' : List D} {los : List LOper} {w : World} {ρ : Aaa} {a : Act} {id : Nat} (hs : slots.all (· < nt) = true) (hdraw : drawOk P kd ops (Region.before ops).toList = true)
    (x9:Vb P kd nt slots (Region.before ops).toList (Fp P ops.toList).length ops.toList [] 0=some los) (yx:J6 call S.heap.length (Fp P ops.toList) los [] (newsVals S.heap.length (Fp P ops.toList).length) env ⟨S.heap++(Fp P ops.toList).map newsObj,S.low⟩=some (vals',S')) (hr:Rel w ρ S.heap) (hG:ρ.X.G=G) (hf:FR w ρ S.heap nt (sig slots [] [] env) a)
    (hQ:∀a' w' ρ',Rel w' ρ' S'.heap→Stp w ρ S w' ρ' S'→FR w' ρ' S'.heap nt (sig slots (dstsOf ops.toList) vals' env) a'→a'.defers=a.defers→Q .normal a' w'):(Code.region id ops true).wp P Q a w:=by
  obtain⟨hll,hdin,yj⟩:=Va x9;generalize qV:newsVals S.heap.length (Fp P ops.toList).length=tl at yx;obtain⟨V,ST,W,F,_,_,t2,t3,t4,t5⟩:=trace_ex los 0 (fun _=>.undef) (fun _=>fpQuiet) _ vals' S' yx;simp only[Nat.zero_add,List.length_nil]at t3 t4 t5 yj;have xJ:los.length=ops.size:=by rw[hll];simp
  rw[xJ]at t3 t4
  -- the checks
  have hdr:∀i o,ops[i]?=some o→(∀e∈o.after,Region.binds .any e=true→e.on<i)∧∀k o' d,ops[k]?=some o'→o'.dst=some d→k≠i→o.dst≠some d ∧
      (ordered (Region.before ops).toList i k=true∨((∀(mt:Bool) l xs,Ru P (kd.lit mt) o=some (l,xs)→.tmp d∉xs)∧∀j b oj,o.guard=some (j,b)→ops[j]?=some oj→oj.dst≠some d)):=by
    intro i o ho;have yS:=(Array.getElem?_eq_some_iff.1 ho).1;have h:=List.all_eq_true.1 hdraw i (List.mem_range.2 yS);rw[ho]at h;simp only[Bool.and_eq_true]at h;obtain⟨h1,h2⟩:=h;refine⟨fun e he hb=>?_,fun k o' d hk hd xw=>?_⟩
    · have := List.all_eq_true.1 h1 e (Array.mem_toList_iff.2 he);simpa [hb] using this
    have hkl:=(Array.getElem?_eq_some_iff.1 hk).1;have h3:=List.all_eq_true.1 h2 k (List.mem_range.2 hkl);rw[hk]at h3;simp only[hd,Bool.or_eq_true,beq_iff_eq,xw,false_or,Bool.and_eq_true,bne_iff_ne,ne_eq]at h3;refine⟨h3.1,?_⟩;rcases h3.2 with h4 | ⟨h4,h5⟩
    · exact .inl h4
    refine .inr ⟨fun mt l xs hl hmem=>?_,fun j b oj hg hj he=>?_⟩
    · cases mt with
      | true =>
        rw[hl]at h4;have:=List.all_eq_true.1 h4.1 _ hmem;simp at this
      | false =>
        have h4:=h4.2;rw[hl]at h4;have:=List.all_eq_true.1 h4 _ hmem;simp at this
    rw[hg]at h5;simp only[hj]at h5;simp[he]at h5
  have hu:∀(t k k':Nat) (o o':Oper),ops[k]?=some o→ops[k']?=some o'→o.dst=some t→o'.dst=some t→k=k':=by
    intro t k k' o o' hk hk' hd hd';by_cases e:k'=k
    · exact e.symm
    exact absurd hd ((hdr k o hk).2 k' o' t hk' hd' e).1
  have hT:∀i,i<ops.size→∃lo,los[i]?=some lo∧TStep call S.heap.length (Fp P ops.toList) tl env V ST W F i lo:=fun i hi=>⟨los[i]'(by omega),Lg (by omega),t5 i _ (Lg (by omega))⟩
  -- the operations as they were run
  let E:Nat→Option Ev:=fun i=>match los[i]? with
    | some lo=>if onG (hist V i++tl) lo.guard=some true∧lo.hoist=none then some ⟨lo.op,lo.args.map (opd (hist V i++tl) env),V i,W i⟩ else none
    | none=>none
  let Z:Nat→List Z9→Prop:=fun i H=>∀r p,(Fp P ops.toList)[r]?=some p→S.heap.length+r∉Oo (Uz (Region.before ops).toList i) (hist F i)→H[S.heap.length+r]?=some (newsObj p)
  have hordo:∀i lo,los[i]?=some lo→lo.ord=Uz (Region.before ops).toList i:=by
    intro i lo xU;have yS:i<ops.size:=by have:=lt_of_some xU;omega
    rcases yj i ops[i] (by simp[yS]) with⟨p,_,q2⟩ | ⟨_,l,xs,args,g,_,_,_,q4⟩
    · rw[xU]at q2;injection q2 with q2;rw[q2]
    rw[xU]at q4;injection q4 with q4;rw[q4]
  -- hoisted operations
  have kQ:∀i o p,ops[i]?=some o→Oe P o=some p→(∃lo,los[i]?=some lo∧lo.hoist=some (rk P ops i))∧E i=none∧V i=.ptr (S.heap.length+rk P ops i) 0 0 0∧(F i).hoist=some (S.heap.length+rk P ops i)∧Je (Uz (Region.before ops).toList i) (hist F i) (F i)=true:=by
    intro i o p ho hp;have yS:=(Array.getElem?_eq_some_iff.1 ho).1;rcases yj i o (by simpa using ho) with⟨p',q1,q2⟩ | ⟨q0,_⟩
    · obtain ⟨lo, xU, ht⟩ := hT i yS;rw[xU]at q2;injection q2 with q2;have hho:lo.hoist=some (rk P ops i):=by rw[q2];rfl
      have hE:E i=none:=by simp only[E,xU,hho];simp
      have yY:rk P ops i<(Fp P ops.toList).length:=lt_of_some (rk_get ho hp)
      cases ht with
      | skip hg=>rw[q2]at hg;simp[onG]at hg
      | run hg hh hF hok =>
        refine⟨⟨lo,xU,hho⟩,hE,?_,?_,?_⟩
        · rw [q2] at hh;simp only[Ar,aop,LOp.loud,pop,List.map_cons,List.map_nil,opd,Bool.false_eq_true,if_false,Option.map_some,Oi,Pi_]at hh;rw[←hh.1];have h1:=newsVals_get (n:=S.heap.length) yY;rw[qV]at h1;simp only[List.getD_eq_getElem?_getD];rw[Lr_ (by rw[Si];omega),Si,Nat.add_sub_cancel_left];show (tl[(Fp P ops.toList).length-1-rk P ops i]?).getD _=_;rw[h1];rfl
        · rw[hF];simp[fpHere,hho]
        have h1:=hok;simp only[okHere,Bool.and_eq_true]at h1;rw[←hordo i lo xU];exact h1.1
    rw[hp]at q0;cases q0
  -- the others
  have kK:∀i lo e,los[i]?=some lo→E i=some e→e=⟨lo.op,lo.args.map (opd (hist V i++tl) env),V i,W i⟩∧F i=e.fp∧Ar call e.op e.ds (ST i)=some (e.r,ST (i+1),e.wr)∧Je (Uz (Region.before ops).toList i) (hist F i) (F i)=true∧(e.fp.writes=none→Z i (ST (i+1)).heap):=by
    intro i lo e xU he;simp only[E,xU]at he;split at he
    · rename_i hc;simp only[Oi]at he;subst he;have yS:i<ops.size:=by have:=lt_of_some xU;omega
      obtain⟨lo',yU,ht⟩:=hT i yS;rw[xU]at yU;injection yU with yU;subst yU
      cases ht with
      | skip hg=>rw[hc.1]at hg;cases hg
      | run hg hh hF hok =>
        simp only[okHere,Bool.and_eq_true,Bool.or_eq_true]at hok;have hFe:F i=(⟨lo.op,lo.args.map (opd (hist V i++tl) env),V i,W i⟩:Ev).fp:=by rw[hF];simp[fpHere,hc.2,Ev.fp]
        refine⟨rfl,hFe,hh,by rw[←hordo i lo xU];exact hok.1,fun hw r p hr hn=>?_⟩;rcases hok.2 with h1 | h1
        · rw[hFe,hw]at h1;cases h1
        have:=V5 h1 r p hr (by rw[hordo i lo xU,Nat.zero_add];exact hn);rwa [Nat.zero_add]at this
    cases he
  have hruns0 : ∀ m k, k + m = ops.size → Runs call E Z (List.range' k m) (ST k) S' := by
    intro m
    induction m with
    | zero=>intro k hk;rw[show k=ops.size by omega,t3];rfl
    | succ m ih =>
      intro k hk;obtain⟨lo,xU,ht⟩:=hT k (by omega);rw[List.range'_succ];have ihk:=ih (k+1) (by omega);simp only[Runs]
      cases hE:E k with
      | none =>
        have xP:ST (k+1)=ST k:=by
          cases ht with
          | skip hg h1 h2 h3=>exact h2
          | run hg hh hF hok =>
            have hho:lo.hoist≠none:=by
              intro hn;simp[E,xU,hg,hn]at hE
            rcases yj k ops[k] (by simp) with⟨p,_,q2⟩ | ⟨_,l,xs,args,g,_,_,_,q4⟩
            · rw [xU] at q2;injection q2 with q2;rw[q2]at hh;simp only[Ar,aop,LOp.loud,pop,List.map_cons,List.map_nil,opd,Bool.false_eq_true,if_false,Option.map_some,Oi,Pi_]at hh;exact hh.2.1.symm
            rw[xU]at q4;injection q4 with q4;rw[q4]at hho;exact absurd rfl hho
        rw[xP]at ihk;exact ihk
      | some e =>
        obtain⟨_,_,h3,_,h5⟩:=kK k lo e xU hE;exact⟨ST (k+1),h3,h5,ihk⟩
  refine wp_region_inv hm (fun i o ho=>(hdr i o ho).1) (fun L a' w'=>∃ρ' S1,DInv P call ops slots nt env V E Z S S' w ρ a.defers L a' w' ρ' S1) ⟨ρ,ST 0,?_⟩ ?_ ?_
  · rw [t2];have xP:Stp w ρ S w.drew ρ ⟨S.heap++(Fp P ops.toList).map newsObj,S.low⟩:=(stp_news hr _).trans (stp_drew w ρ _);refine⟨?_,xP,hf.1,rfl,fun t ht=>.inr ⟨fun k o _ h=>h.elim,(hf.2 t ht).mono xP⟩,?_,fun j o p hj _ hp=>?_⟩
    · exact⟨hr.inj,fun g b hb=>by
        obtain⟨o,ho,hk⟩:=hr.obj g b hb
        exact⟨o,by rw[La_ (lt_of_some ho)];exact ho,hk.mono xP rfl⟩,hr.hids xP,hr.globs xP⟩
    · have h0 := hruns0 ops.size 0 (by omega);rw[t2]at h0
      have:left ops.size (fun _=>False)=List.range' 0 ops.size:=by
        unfold left;rw[List.filter_eq_self.2 (fun k _=>notB_iff.2 (fun h=>h)),List.range_eq_range']
      rw[this];exact h0
    have hg:=rk_get hj hp;refine⟨?_,?_⟩
    · show (S.heap ++ (Fp P ops.toList).map newsObj)[S.heap.length + rk P ops j]? = _;rw[Lr_ (by omega),Nat.add_sub_cancel_left,Lp_,hg];rfl
    cases hρ:ρ (S.heap.length+rk P ops j) with
    | none=>rfl
    | some b=>have:=hr.in hρ;omega
  · -- one operation
    rintro L i o a1 w1 ho hni hdown hdep ⟨ρ1,S1,hI⟩;have yS:=(Array.getElem?_eq_some_iff.1 ho).1;obtain⟨lo,xU,ht⟩:=hT i yS;have hdst:H7 nt o.dst=true:=hdin o (by rw[Array.mem_toList_iff];exact Array.mem_of_getElem? ho)
    have yZ:∀d∈Pn ops i,H7 nt d=true:=by
      intro d hd;unfold Pn at hd;rw[List.mem_reverse,List.mem_map]at hd;obtain⟨o',ho',rfl⟩:=hd;exact hdin o' (List.mem_of_mem_take ho')
    obtain⟨pre,post,hl1,zF,hpre⟩:=left_split yS hni;have hruns:=hI.runs;rw[hl1]at hruns
    -- what the operation sees
    have hdown':Down ops (fun k=>L k∨k=i):=by
      intro k ok hk hLk e he hb;rcases hLk with hLk | rfl
      · exact .inl (hdown k ok hk hLk e he hb)
      rw[ho]at hk;injection hk with hk;subst hk;exact .inl (hdep e he hb)
    have hanc:∀k,k<i→ordered (Region.before ops).toList i k=true→L k:=fun k hk h=>((Wp hdown' h).1 hk (.inr rfl)).resolve_right (by omega);have hdesc:∀k,i<k→ordered (Region.before ops).toList i k=true→¬L k:=fun k hk h hLk=>hni ((Wp hdown h).2 hk hLk);have kY:∀k,k<i→((Region.before ops).toList.getD i 0).testBit k=true→L k:=fun k hk h=>(Tn hdown' h (.inr rfl)).resolve_right (by omega)
    -- behind it
    have hput:∀(v:Value) (w2:World) (ρ2:Aaa) (S2:St),Rel w2 ρ2 S2.heap→Stp w ρ S w2 ρ2 S2→Fwd w1 ρ1 S1.heap w2 ρ2 S2.heap→VR w2 ρ2 S2.heap (V i) v→Runs call E Z (pre++post) S2 S' →
        (∀j o p,ops[j]?=some o→¬L j→j≠i→Oe P o=some p→S2.heap[S.heap.length+rk P ops j]?=some (newsObj p)∧ρ2 (S.heap.length+rk P ops j)=none) →
        ∃ρ' S2,DInv P call ops slots nt env V E Z S S' w ρ a.defers (fun k=>L k∨k=i) (a1.put o.dst v) w2 ρ' S2:=by
      intro v w2 ρ2 S2 qy xP hfw uH xA hpend;refine⟨ρ2,S2,⟨qy,xP,?_,?_,fun t ht=>?_,by rw[zF];exact xA,fun j oj p hj hLj hp=>hpend j oj p hj (fun h=>hLj (.inl h)) (fun h=>hLj (.inr h)) hp⟩⟩
      · cases o.dst with
        | none=>exact hI.size
        | some d=>simpa [Act.put] using hI.size
      · cases o.dst with
        | none=>exact hI.defers
        | some d=>exact hI.defers
      by_cases e:o.dst=some t
      · refine .inl ⟨i, o, ho, .inr rfl, e, ?_⟩;have qV:t<a1.tmps.size:=by rw[hI.size];exact ht
        rw[e];simpa [Act.put,qV] using uH
      have yQ:(a1.put o.dst v).tmps.getD t undef=a1.tmps.getD t undef:=by
        cases hd:o.dst with
        | none=>rfl
        | some d =>
          have xw:d≠t:=fun h=>e (by rw[hd,h]);simp only[Act.put,Array.getD_eq_getD_getElem?,Array.getElem?_setIfInBounds,if_neg xw]
      rw[yQ];rcases hI.slot t ht with⟨k',o',hk',hLk',hd',hvr'⟩ | ⟨rH,hvr'⟩
      · exact .inl ⟨k',o',hk',.inl hLk',hd',hvr'.fwd hfw⟩
      refine .inr ⟨fun k o' hk hLk=>?_,hvr'.fwd hfw⟩;rcases hLk with hLk | rfl
      · exact rH k o' hk hLk
      rw[ho]at hk;injection hk with hk;subst hk;exact e
    rcases yj i o (by simpa using ho) with⟨p,hp,k4⟩ | ⟨hnn,l,xs,args,g,k1,k2,k3,k4⟩
    · -- a new variable
      obtain⟨⟨lo',yU,_⟩,hE,hV,_,_⟩:=kQ i o p ho hp;obtain⟨n,zU,rU,hz,hn,xg⟩:=newOf_some hp;obtain⟨hobj,yJ⟩:=hI.pend i o p ho hni hp;obtain⟨v,w2,ob,xA,xB,qy,uH⟩:=alloc_fill (P:=P) (S:=S1) (g:=S.heap.length+rk P ops i) hI.rel hz hn xg hobj yJ;unfold wpOp;rw[ho];have hw:Region.wanted o (yielded ops a1.tmps)=true:=by simp[Region.wanted,rU]
      simp only[hw,if_true];left
      have hx:(execOp a1.eval o).run P w1=.ok (.value v) w2:=by
        have he:execOp a1.eval o=(do pure (.value (←Instr.alloc p.1 true (.tuple #[])))):=by simp[execOp,zU]
        rw[he,Ah xA];rfl
      unfold Oper.wp;rw[hx];refine hput v w2 _ S1 qy (stp_fill hI.stp hI.rel xB yJ (by omega)) (fwd_fill hI.rel xB yJ) (by rw[hV];exact uH) (Runs.drop hE hruns) fun j oj p' hj hLj xw hp'=>?_;obtain⟨q1,q2⟩:=hI.pend j oj p' hj hLj hp';refine⟨q1,?_⟩;simp only[upd];rw[if_neg (fun h=>xw (rk_inj hj hp' ho hp (by omega)))];exact q2
    rw[xU]at k4;injection k4 with k4;subst k4;simp only[List.append_nil]at k2 k3
    have hsee:∀t,t<nt→(∀k o',ops[k]?=some o'→o'.dst=some t→k≠i→ordered (Region.before ops).toList i k=true)→VR w1 ρ1 S1.heap (sig slots (Pn ops i) (hist V i++tl) env t) (a1.tmps.getD t undef):=by
      intro t ht hord;rw[sig_tl (dstTo_len (Nat.le_of_lt yS)) (Si V i)];rcases sig_to (slots:=slots) (V:=V) (env:=env) (hu t) i (Nat.le_of_lt yS) with⟨k,ok,hk,hok,hd,uq⟩ | ⟨hn,uq⟩
      · rw [uq];have hLk:=hanc k hk (hord k ok hok hd (by omega));rcases hI.slot t ht with⟨k',o',hk',hLk',hd',uH⟩ | ⟨rH,_⟩
        · have := hu t k k' ok o' hok hk' hd hd';subst this;exact uH
        exact absurd hd (rH k ok hok hLk)
      rw[uq];rcases hI.slot t ht with⟨k',o',hk',hLk',hd',uH⟩ | ⟨rH,uH⟩
      · exfalso;have hki:¬k'<i:=fun h=>hn k' o' h hk' hd';have xw:k'≠i:=fun e=>hni (e▸hLk');exact hdesc k' (by omega) (hord k' o' hk' hd' xw) hLk'
      exact uH
    have qE:VL w1 ρ1 S1.heap (args.map (opd (hist V i++tl) env)) (xs.map a1.eval):=by
      refine opds_ok (fun g row hg=>(hI.rel.glob g row (by rw[hI.stp.hid,hG];exact kP g row hg)).1) hs yZ k2 fun t hmem ht=>hsee t ht fun k o' hk hd xw=>?_;rcases ((hdr i o ho).2 k o' t hk hd xw).2 with h | ⟨h,_⟩
      · exact h
      obtain⟨mt',k1⟩:=k1;exact absurd hmem (h mt' l xs k1)
    have kR : ∀ j b d b0, o.guard = some (j, b) → g = some (d, b0) → (∀ b', (hist V i ++ tl).getD d .undef = .bool b' → yielded ops a1.tmps j = some b') ∧ ((hist V i ++ tl).getD d .undef = .skip → yielded ops a1.tmps j = none) ∧ b0 = b := by
      intro j b d b0 rU hg;rw[rU]at k3;unfold Lr at k3;simp only at k3;split at k3
      · rename_i hj;split at k3
        · rename_i t htt;split at k3
          · rename_i zD;simp only[Oi]at k3;subst k3;simp only[Oi,Pi_]at hg;obtain⟨rfl,rfl⟩:=hg
            have xg:((ops.toList.take i).map (·.dst)).reverse.length=i:=by
              rw[List.length_reverse,List.length_map,List.length_take,Array.length_toList];omega
            rw[xg]at hj htt zD;have yL:j<ops.toList.length:=by rw[Array.length_toList];omega
            have hjd:(ops[j]?).bind (·.dst)=some t:=by
              have h1:((ops.toList.take i).map (·.dst)).length=i:=by rw[List.length_map,List.length_take,Array.length_toList];omega
              rw[List.getD_eq_getElem?_getD,List.getElem?_reverse (by rw[h1];omega),h1,show i-1-(i-1-j)=j by omega]at htt;simp only[Lp_,List.getElem?_take]at htt;rw[if_pos hj,Lg yL]at htt;have h2:ops[j]?=some ops.toList[j]:=by simp
              rw[h2];simpa using htt
            have htn:t<nt:=by
              have:=yZ _ (Lm (Jl zD));simpa [H7] using this
            have hvis:=hsee t htn fun k o' hk hd xw=>by
              obtain⟨oj,hoj,hdj⟩:∃oj,ops[j]?=some oj∧oj.dst=some t:=by
                cases hx:ops[j]? with
                | none=>simp[hx]at hjd
                | some oj=>exact⟨oj,rfl,by simpa [hx] using hjd⟩
              rcases ((hdr i o ho).2 k o' t hk hd xw).2 with h | ⟨_,h⟩
              · exact h
              exact absurd hdj (h j _ oj rU hoj)
            refine⟨fun b' hb'=>?_,fun hb'=>?_,rfl⟩
            · rw [xg] at hb';exact guard_ok (b:=b) hjd zD yZ hvis hI.size hb'
            rw[xg]at hb';exact guard_skip hjd zD yZ hvis hI.size hb'
          simp at k3
        simp at k3
      simp at k3
    cases ht with
    | skip hg h1 h2 h3 =>
      have hE:E i=none:=by simp only[E,xU,hg];simp
      have hw : Region.wanted o (yielded ops a1.tmps) = false := by
        cases rU:o.guard with
        | none=>rw[rU]at k3;simp only[Lr,Oi]at k3;subst k3;simp[onG]at hg
        | some jb =>
          obtain⟨j,b2⟩:=jb
          cases kD:g with
          | none=>simp[kD,onG]at hg
          | some db =>
            obtain⟨d,b⟩:=db;simp only[kD,onG]at hg;split at hg
            · rename_i b' hb';simp only[Oi]at hg;obtain⟨hy,_,rfl⟩:=kR j b2 d b rU kD;have hy:=hy b' hb';simp only[Region.wanted,rU,hy];simpa using hg
            · rename_i hb';obtain⟨_,hy,rfl⟩:=kR j b2 d b rU kD;have hy:=hy hb';simp only[Region.wanted,rU,hy];rfl
            simp at hg
      unfold wpOp;rw[ho];simp only[hw,Bool.false_eq_true,if_false];exact hput undef w1 ρ1 S1 hI.rel hI.stp (Stp.refl w1 ρ1 S1).fwd (by rw[h1];exact .skip) (Runs.drop hE hruns) fun j oj p hj hLj _ hp=>hI.pend j oj p hj hLj hp
    | run hg hh hF hok =>
      have hw : Region.wanted o (yielded ops a1.tmps) = true := by
        cases rU:o.guard with
        | none=>simp[Region.wanted,rU]
        | some jb =>
          obtain⟨j,b2⟩:=jb
          cases kD:g with
          | none =>
            rw[rU,kD]at k3;unfold Lr at k3;simp only at k3;split at k3
            · split at k3
              · split at k3<;>simp at k3
              simp at k3
            simp at k3
          | some db =>
            obtain⟨d,b⟩:=db;simp only[kD,onG]at hg;split at hg
            · rename_i b' hb';simp only[Oi]at hg;obtain⟨hy,_,rfl⟩:=kR j b2 d b rU kD;have hy:=hy b' hb';simp only[Region.wanted,rU,hy];simpa using hg
            · simp at hg
            simp at hg
      have hE:E i=some ⟨l,args.map (opd (hist V i++tl) env),V i,W i⟩:=by simp only[E,xU];rw[if_pos ⟨hg,trivial⟩]
      obtain⟨_,hFe,_,hokF,_⟩:=kK i _ _ xU hE;have hFh:(F i).hoist=none:=by rw[hFe];exact Vh _ _ _ _
      have hpair:∀j,j<i→∃b,(b=true→L j)∧Ew b (F j) (F i)=true:=by
        intro j hj;obtain⟨b,h1,h2⟩:=okFP_get hokF (i-1-j) (F j) (by rw[Ny F i _ (by omega)];congr 2;omega);refine⟨b,fun hb=>kY j hj ?_,h2⟩;have h3:=Ny (fun k=>((Region.before ops).toList.getD i 0).testBit k) i (i-1-j) (by omega);have h4:(Uz (Region.before ops).toList i)[i-1-j]?=some (((Region.before ops).toList.getD i 0).testBit (i-1-(i-1-j))):=h3;rw[h4,show i-1-(i-1-j)=j by omega]at h1;injection h1 with h1;rw[h1];exact hb
      obtain⟨S2,r1,r2,r3⟩:=Runs.front zH hE hruns (fun j hj e' he'=>by
        obtain⟨hji,hnL⟩:=hpre j hj;obtain⟨lo',yU,_⟩:=hT j (by omega);obtain⟨_,hFj,_,_,_⟩:=kK j lo' e' yU he';obtain⟨b,h1,h2⟩:=hpair j hji;have hFjh:(F j).hoist=none:=by rw[hFj];exact Vh _ _ _ _
        simp only[Ew,hFh,hFjh,Bool.or_eq_true]at h2;rcases h2 with h2 | h2
        · exact absurd (h1 h2) hnL
        rw[hFj,hFe]at h2;exact h2)
      unfold wpOp;rw[ho];simp only[hw,if_true];left;refine exOp_ok y8 (by rw[hI.stp.hid];exact hG) k1.choose_spec qE hI.rel r1 ?_;rintro v w2 ⟨ρ2,q1,q2,q3,_⟩;refine hput v w2 ρ2 S2 q1 (hI.stp.trans q2) q2.fwd q3 r3 fun j oj p hj hLj xw hp=>?_;obtain⟨p1,p2⟩:=hI.pend j oj p hj hLj hp;obtain⟨_,_,_,hFjh,hokj⟩:=kQ j oj p hj hp
      have yQ:S2.heap[S.heap.length+rk P ops j]?=some (newsObj p):=by
        cases hwr:(F i).writes with
        | none =>
          rw[hFe]at hwr;refine r2 hwr _ p (rk_get hj hp) fun hd=>?_;obtain⟨d,f,d1,d2,d3⟩:=Vr hd;have hdl:d<i:=by have:=lt_of_some d2;rw[Si]at this;exact this
          rw[Ny F i d hdl]at d2;injection d2 with d2;subst d2;have d4:(Uz (Region.before ops).toList i)[d]?=some (((Region.before ops).toList.getD i 0).testBit (i-1-d)):=Ny (fun k=>((Region.before ops).toList.getD i 0).testBit k) i d hdl;rw[d4]at d1;injection d1 with d1;have hLd:=kY (i-1-d) (by omega) d1;obtain⟨lo',yU,ht'⟩:=hT (i-1-d) (by omega);have hod:ops[i-1-d]?=some ops[i-1-d]:=Array.getElem?_eq_getElem (by omega)
          cases hpd:Oe P ops[i-1-d] with
          | some p' =>
            obtain⟨_,_,_,hh',_⟩:=kQ (i-1-d) _ p' hod hpd;rw[hh']at d3;injection d3 with d3;have:=rk_inj hod hpd hj hp (by omega);exact hLj (this▸hLd)
          | none =>
            have hnh:(F (i-1-d)).hoist=none:=by
              rcases yj (i-1-d) ops[i-1-d] (by simp) with⟨p',q1',_⟩ | ⟨_,l',xs',args',g',_,_,_,q4'⟩
              · rw[hpd]at q1';cases q1'
              rw[yU]at q4';injection q4' with q4'
              cases ht' with
              | skip hg' h1' h2' h3'=>rw[h3'];rfl
              | run hg' hh' hF' hok'=>rw[hF',q4'];exact Vh _ _ _ _
            rw[hnh]at d3;cases d3
        | some Wr =>
          have hap:Jh (S.heap.length+rk P ops j) (F i).writes=true:=by
            rcases Nat.lt_trichotomy j i with h | h | h
            · obtain ⟨b, h1, h2⟩ := hpair j h;simp only[Ew,hFjh,hFh,Bool.or_eq_true]at h2;rcases h2 with h2 | h2
              · exact absurd (h1 h2) hLj
              exact h2
            · exact absurd h xw
            obtain⟨b,h1,h2⟩:=okFP_get hokj (j-1-i) (F i) (by rw[Ny F j _ (by omega)];congr 2;omega);simp only[Ew,hFjh,hFh]at h2;exact h2
          rw[hwr]at hap;have hap:S.heap.length+rk P ops j∉Wr:=by simpa [Jh] using hap
          rw[←p1];rcases N7 r1 with⟨R,W',eff,_,hw',rfl,yB,_⟩ | xu
          · have : W' = Wr := by
              rw[hFe]at hwr;have uG:(Ev.fp ⟨l,args.map (opd (hist V i++tl) env),V i,W i⟩).writes=some W':=hw';rw[uG]at hwr;injection hwr
            subst this;exact app_get yB hap
          rw[hFe]at hwr;have hall':Ev.fp ⟨l,args.map (opd (hist V i++tl) env),V i,W i⟩=Es (W i):=xu;rw[hall']at hwr
          cases hWi:W i with
          | true=>rw[hWi]at hwr;cases hwr
          | false =>
            simp only[hWi]at r1;rw[Qk zH r1]
      refine⟨yQ,?_⟩;obtain⟨o',ho',_,_,hv'⟩:=q2.obj _ _ p1;rw[yQ]at ho';injection ho' with ho';subst ho';rw[(hv' rfl).1];exact p2
  -- the end
  rintro L a1 w1 xu ⟨ρ1,S1,hI⟩
  have hSt:S'=S1:=by
    have h:=hI.runs
    have:left ops.size L=[]:=by
      unfold left;rw[List.filter_eq_nil_iff];intro k hk;rw[notB_iff];exact fun h=>h (xu k (List.mem_range.1 hk))
    rw[this]at h;exact h
  subst hSt;have hslot:=hI.slot;refine hQ a1 w1 ρ1 hI.rel hI.stp ⟨hI.size,fun t ht=>?_⟩ hI.defers;have hde:dstsOf ops.toList=Pn ops ops.size:=by unfold dstsOf Pn;rw[List.take_of_length_le (by simp)]
  rw[hde,t4,sig_tl (dstTo_len (Nat.le_refl _)) (Si V _)];rcases sig_to (slots:=slots) (V:=V) (env:=env) (hu t) ops.size (Nat.le_refl _) with⟨k,ok,hk,hok,hd,uq⟩ | ⟨hn,uq⟩
  · rw [uq];rcases hslot t ht with⟨k',o',hk',hLk',hd',uH⟩ | ⟨rH,_⟩
    · have := hu t k k' ok o' hok hk' hd hd';subst this;exact uH
    exact absurd hd (rH k ok hok (xu k hk))
  rw[uq];rcases hslot t ht with⟨k',o',hk',hLk',hd',uH⟩ | ⟨rH,uH⟩
  · exact absurd hd' (hn k' o' (Array.getElem?_eq_some_iff.1 hk').1 hk')
  exact uH
end
end Go.Proofs.YtbhnlppboegmjaaGreatDoor